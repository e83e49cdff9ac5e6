/- Shaken: what the claim's theorem needs of our texts, of the printed ones and of the print's words. -/
import Derived.Test.YtedfcjcnhgomoaaXMessageDecodesE
import Derived.Deep.QuietTactic
import Derived.BigQuiet
-- MERGED YtedfcjcnhgomoaaDecB
section
namespace Go.Proofs.Ytedfcjcnhgomoaa.DecB
open Go.RowKit Go.Proofs.Ytedfcjcnhgomoaa.P Go.Proofs.YtedfcjcnhgomoaaW.PrintWords Go.Proofs.YtedfcjcnhgomoaaW.PrintLast Go.Proofs.YtedfcjcnhgomoaaW.PrintMore Go.Proofs.Ytedfcjcnhgomoaa.Own Go.Proofs.Ytedfcjcnhgomoaa.Vy Go.Proofs.Ytedfcjcnhgomoaa.VaryR Go.Proofs.Ytedfcjcnhgomoaa.NoteN Go.Proofs.Ytedfcjcnhgomoaa.MsgA Go.Proofs.Ytedfcjcnhgomoaa.DecA Go.Proofs.Ytedfcjcnhgomoaa.RowRn
attribute [local go_sem] max2_int min2_int max_two min_two
set_option linter.unusedSimpArgs false
set_option linter.unusedVariables false
def runsR (l : List Int) : Nat → At → List EditL.Rn → List EditL.Rn × At
 | 0, s, acc => (acc, s)
 | n + 1, s, acc => if (s.run l).2.bad = true then ([], (s.run l).2) else runsR l n (s.run l).2 (acc ++ [(s.run l).1])
def many (l : List Int) (s : At) : Nat := (let c := (s.num l).1; let d := (1 : Int) + (leftL l (s.num l).2.a (s.num l).2.bad : Nat); if d < c then d else c).toNat
def runsP (l : List Int) (s : At) : List EditL.Rn × At := runsR l (many l s) (s.num l).2 []
theorem sl_far {w w' : World} {v : Value} {xs : List Int} (h : Sl w v xs) (hs : ∀ A n c, v = .slice A n c → ∀ ad, A = some ad → 0 < xs.length → w'.heap[ad.block]? = w.heap[ad.block]?) : Sl w' v xs := by
 obtain ⟨A, c, rfl, hc, h1, h2, h3⟩ := h
 refine ⟨A, c, rfl, hc, h1, h2, fun hp => ?_⟩
 obtain ⟨ad, e, hr⟩ := h3 hp
 refine ⟨ad, e, fun j p hj => ?_⟩
 obtain ⟨cs, k1, k2, k3⟩ := hr j p hj
 refine ⟨cs, k1, k2, fun i u hu => ?_⟩
 refine (World.cell?_of_block ?_).trans (k3 i u hu)
 have hb : ∀ m, (ad.add m).block = ad.block := fun m => by unfold Addr.add; split <;> rfl
 rw [hb]
 exact hs A _ c rfl ad e hp
theorem rd_far {g : Nat} {w w' : World} {v : Value} {l : List Int} {a : Nat} {bad : Bool} (h : Rd g w v l a bad) (hg : w'.heap[g]? = w.heap[g]?) (hs : ∀ A n c, v = .slice A n c → ∀ ad, A = some ad → 0 < l.length → w'.heap[ad.block]? = w.heap[ad.block]?) : Rd g w' v l a bad := by
 obtain ⟨a', h1, h2⟩ := h
 exact ⟨a', ⟨hg.trans h1.heap, sl_far h1.sl hs, h1.le, h1.len⟩, h2⟩
theorem rd_lt {g : Nat} {w : World} {v : Value} {l : List Int} {a : Nat} {bad : Bool} (h : Rd g w v l a bad) : ∀ A n c, v = .slice A n c → ∀ ad, A = some ad → 0 < l.length → ad.block < w.heap.size := by
 intro A n c hv ad hA hp
 obtain ⟨a', h1, _⟩ := h
 obtain ⟨A2, c2, e2, _, _, _, h3⟩ := h1.sl
 rw [hv] at e2
 injection e2 with e2 _ _
 obtain ⟨ad2, e3, hr⟩ := h3 hp
 rw [← e2, hA] at e3
 obtain rfl := Option.some.inj e3
 obtain ⟨cs, k1, ⟨rfl⟩, k3⟩ := hr 0 _ (List.getElem?_eq_getElem hp)
 have := World.block_lt_of_cell? w _ (k3 0 _ rfl)
 rwa [show (ad.add (0 * (Kd.int .u8).sz + 0)).block = ad.block by unfold Addr.add; split <;> rfl] at this
theorem but_grew {g : Nat} {w W W' : World} {u : Value} (hb : But g w W) (hg : W.grownBy W' u.ownBlock) (hu : ∀ k, u.ownBlock = some k → w.heap.size ≤ k) : But g w W' :=
 ⟨hg.os.trans hb.os, hg.tape.trans hb.tape, hg.output.trans hb.output, Nat.le_trans hb.size hg.size, fun k hk hn => (hg.block k (Nat.lt_of_lt_of_le hk hb.size) (fun e => by have := hu k e.symm; omega)).trans (hb.block k hk hn)⟩
theorem rd_grew {g : Nat} {w W W' : World} {u v : Value} {l : List Int} {a : Nat} {bad : Bool} (h : Rd g W v l a bad) (hgl : g < w.heap.size) (hs : w.heap.size ≤ W.heap.size) (hl : ∀ A n c, v = .slice A n c → ∀ ad, A = some ad → 0 < l.length → ad.block < w.heap.size) (hg : W.grownBy W' u.ownBlock) (hu : ∀ k, u.ownBlock = some k → w.heap.size ≤ k) : Rd g W' v l a bad :=
 rd_far h (hg.block g (by omega) (fun e => by have := hu g e.symm; omega)) (fun A n c hv ad hA hp => hg.block ad.block (by have := hl A n c hv ad hA hp; omega) (fun e => by have := hu _ e.symm; have := hl A n c hv ad hA hp; omega))
def RunsPost (g : Nat) (v : Value) (l : List Int) (s : At) (w : World) (e : Ending) (w' : World) : Prop :=
 ∃ u, e = .returned u ∧ RowRn.RO w' w.heap.size u (runsP l s).1 ∧ Rd g w' v l (runsP l s).2.a (runsP l s).2.bad ∧ But g w w'
set_option maxHeartbeats 16000000 in
set_option maxRecDepth 100000 in
theorem list_c (g X : Nat) (w : World) (v : Value) (l : List Int) (s : At) (h : Rd g w v l s.a s.bad) (hok : Byt.Ok l) (hl : l.length ≤ 1000000) (hX : w.heap[X]? = some (.cells #[.pointer (some ⟨g, 0, none⟩)] 73 (0, 0))) (hne : X ≠ g) :
  Calls Try.prog 100 #[.pointer (some ⟨g, 0, none⟩), .func (.func 101) #[] #[.pointer (some ⟨X, 0, none⟩)]] w (RunsPost g v l s w) := by
 have HX := Aside0.mk hX
 have HNE := Aside0.mk hne
 have HOK := Aside0.mk hok
 have HL := Aside0.mk hl
 have HN := Aside0.mk (num_a g v l hok s w h)
 have HGL := Aside0.mk (show g < w.heap.size by
  obtain ⟨a', h1, _⟩ := h
  exact (Array.getElem?_eq_some_iff.1 h1.heap).1)
 have HRL := Aside0.mk (rd_lt h)
 clear hX hne hok hl h
 go_enter Try.func100, Try.ntmps100
 go_wp2_with fail
 refine HN.out.mono ?_
 rintro e w1 ⟨rfl, hrd, hb⟩
 have HRD1 := Aside0.mk hrd
 have HB1 := Aside0.mk hb
 have HLF := Aside0.mk (VaryR.nLeft g w1 v l (s.num l).2.a (s.num l).2.bad hrd)
 clear hrd hb HN
 go_wp2_with fail
 refine HLF.out.mono ?_
 rintro e w2 ⟨rfl, d, rfl⟩
 have HB2 := Aside0.mk (HB1.out.trans (But.drewN g w1 d))
 have HRD2 := Aside0.mk (HRD1.out.below (pw_below_drewN (Below.refl _ _) d))
 obtain ⟨M, hM⟩ : ∃ M, M = (s.num l).1 := ⟨_, rfl⟩
 obtain ⟨K, hK⟩ : ∃ K, K = leftL l (s.num l).2.a (s.num l).2.bad := ⟨_, rfl⟩
 have hKl : K ≤ l.length := by rw [hK]; unfold leftL; split <;> omega
 have hM0 : 0 ≤ M := by
  rw [hM]
  show 0 ≤ stepV 0 s.bad _ _
  unfold stepV
  split
  ·omega
  ·exact (numL_nonneg (fun x hx => HOK.out x (List.mem_of_mem_drop hx))).1
 have HM1 := Aside0.mk (show many l s = (if (1 : Int) + (K : Int) < M then (1 : Int) + (K : Int) else M).toNat by unfold many; rw [← hM, ← hK])
 rw [← hM, ← hK]
 clear hM hK
 have HW := Aside0.mk (show wrap64 ((1 : Int) + (K : Int)) = (1 : Int) + (K : Int) by have := HL.out; unfold wrap64; omega)
 go_wp2_with fail
 case inr =>
  rw [HW.out] at h
  obtain ⟨c, hc⟩ : ∃ c : Nat, c = M.toNat := ⟨_, rfl⟩
  have HMANY := Aside0.mk (show many l s = c by rw [HM1.out]; split <;> omega)
  have HCL := Aside0.mk (show c ≤ 1000001 by have := HL.out; omega)
  have HCC := Aside0.mk (show M = (c : Int) by omega)
  clear hc
  rw [HCC.out]
  have HMC := Aside0.mk (show runsR l c (s.num l).2 [] = runsP l s by unfold runsP; rw [← HMANY.out])
  clear h
  go_loopw [4, 14] (fun tv iv wr => ∃ (j : Nat) (acc : List EditL.Rn) (s2 : At), j ≤ c ∧ iv = .int .i64 (j : Int) ∧ RowRn.RO wr w.heap.size tv acc ∧ Rd g wr v l s2.a s2.bad ∧ But g w wr ∧ runsR l (c - j) s2 acc = runsP l s ∧ acc.length = j) (fun _ iv _ => c - (intOf iv).toNat)
  case atStart => exact ⟨0, [], (s.num l).2, Nat.zero_le _, rfl, World.ownsRow_nil _ _ _ _, HRD2.out, HB2.out, HMC.out, rfl⟩
  case round =>
   obtain ⟨j, acc, s2, hj, rfl, hro, hrd, hbu, hrec, hacc⟩ := hrel
   have HRO := Aside0.mk hro
   have HRD := Aside0.mk hrd
   have HBU := Aside0.mk hbu
   have HREC := Aside0.mk hrec
   have HACC := Aside0.mk hacc
   clear hro hrd hbu hrec hacc
   by_cases hlt : j < c
   ·have hlt' : (j : Int) < (c : Int) := by omega
    have hj6 : j < 1000002 := by have := HCL.out; omega
    have HRC := Aside0.mk (run_c g X wr v l s2 HRD.out HOK.out ((HBU.out.block X (Array.getElem?_eq_some_iff.1 HX.out).1 (fun e => HNE.out (Option.some.inj e))).trans HX.out) HNE.out)
    have HST := Aside0.mk (show (if (s2.run l).2.bad = true then ([], (s2.run l).2) else runsR l (c - (j + 1)) (s2.run l).2 (acc ++ [(s2.run l).1])) = runsP l s by
     rw [← HREC.out, show c - j = (c - (j + 1)) + 1 by omega]; rfl)
    obtain ⟨r, hr⟩ : ∃ r, r = (s2.run l).1 := ⟨_, rfl⟩
    obtain ⟨s3, hs3⟩ : ∃ s3, s3 = (s2.run l).2 := ⟨_, rfl⟩
    unfold RunPost at HRC
    rw [← hr, ← hs3] at HRC HST
    clear hr hs3
    go_wp2_with fail
    refine HRC.out.mono ?_
    rintro e w3 ⟨rfl, hrd3, hb3⟩
    have HRO3 := Aside0.mk (show RowRn.RO w3 w.heap.size _ acc from own_move HRO.out (fun k hk => hb3.block k (own_lt HRO.out k hk) (fun e => by have h1 := own_base HRO.out k hk; have h2 := HGL.out; have := Option.some.inj e; omega)))
    obtain ⟨g2, hg2⟩ : ∃ g2, g2 = w3.heap.size := ⟨_, rfl⟩
    obtain ⟨w4, hw4⟩ : ∃ w4, w4 = w3.alloc (.cells #[.int .i64 0, .string ⟨#[]⟩, .int .i64 0] 85) := ⟨_, rfl⟩
    obtain ⟨w5, hw5⟩ : ∃ w5, w5 = ((w4.setCell ⟨g2, 0, none⟩ (.int .i64 r.f0)).setCell ⟨g2, 1, none⟩ (.string r.f1)).setCell ⟨g2, 2, none⟩ (.int .i64 r.f2) := ⟨_, rfl⟩
    have HT4 := Aside0.mk (show w4.heap[g2]? = some (.cells #[.int .i64 0, .string ⟨#[]⟩, .int .i64 0] 85 (0, 0)) by rw [hw4, hg2]; exact Own.heap_new _ _)
    have HB5 := Aside0.mk (show Below w3.heap.size w3 w5 by rw [hw5]; exact below_set3 (by rw [hw4]; exact below_alloc (Below.refl _ _) _) (by omega) _ _ _)
    have HT5 := Aside0.mk (show w5.heap[g2]? = some (.cells #[.int .i64 r.f0, .string r.f1, .int .i64 r.f2] 85 (0, 0)) by rw [hw5]; exact set3 HT4.out _ _ _)
    have HRD5 := Aside0.mk (hrd3.below HB5.out)
    have HRO5 := Aside0.mk (HRO3.out.below HB5.out)
    have HBU5 := Aside0.mk ((HBU.out.trans hb3).trans (grown_of_below HB5.out (some g)))
    have HW4 := Aside0.mk hw4
    have HW5 := Aside0.mk hw5
    have HG2 := Aside0.mk hg2
    have a0 : w4.cell? ⟨g2, 0, none⟩ = some (.int .i64 0) := by rw [cell_of_row _ _ 0 _ _ _ HT4.out]; rfl
    have a1 : w4.cell? ⟨g2, 1, none⟩ = some (.string ⟨#[]⟩) := by rw [cell_of_row _ _ 1 _ _ _ HT4.out]; rfl
    have a2 : w4.cell? ⟨g2, 2, none⟩ = some (.int .i64 0) := by rw [cell_of_row _ _ 2 _ _ _ HT4.out]; rfl
    have b0 := frozen_of_row _ _ 0 _ _ HT4.out
    have b1 := frozen_of_row _ _ 1 _ _ HT4.out
    have b2 := frozen_of_row _ _ 2 _ _ HT4.out
    have HBD := Aside0.mk (VaryR.nBad g w5 v l s3.a s3.bad HRD5.out)
    have HLT := Aside0.mk hlt
    clear hrd3 hb3 hw4 hw5 hg2 HRC hlt
    go_wp2_with (first | rw [← HG2.out, ← HW4.out] | rw [← HW5.out])
    refine HBD.out.mono ?_
    rintro e w6 ⟨rfl, rfl⟩
    cases hbad : s3.bad with
    | true =>
     rw [hbad] at HST
     have HE := Aside0.mk HST.out
     go_wp2_with fail
     go_ret
     refine ⟨_, rfl, ?_, ?_, HBU5.out⟩
     ·rw [← HE.out]; exact World.ownsRow_nil _ _ _ _
     ·rw [← HE.out]; exact HRD5.out
    | false =>
     rw [hbad] at HST
     have t0 : w6.cell? ⟨g2, 0, none⟩ = some (.int .i64 r.f0) := by rw [cell_of_row _ _ 0 _ _ _ HT5.out]; rfl
     have t1 : w6.cell? ⟨g2, 1, none⟩ = some (.string r.f1) := by rw [cell_of_row _ _ 1 _ _ _ HT5.out]; rfl
     have t2 : w6.cell? ⟨g2, 2, none⟩ = some (.int .i64 r.f2) := by rw [cell_of_row _ _ 2 _ _ _ HT5.out]; rfl
     have HWB := Aside0.mk HBU5.out.size
     clear a0 a1 a2 b0 b1 b2
     go_wp2_with (at_builtin; refine RowRn.wpList_run (by rfl) (by rfl) HWB.out (by rfl) HRO5.out r (by rfl) (by have := HACC.out; omega) ?_; intro v' w8 hg8)
     have HU := Aside0.mk (fun k e => own_base HRO5.out k e)
     refine ⟨⟨j + 1, acc ++ [r], s3, HLT.out, rfl, hg8.own, rd_grew HRD5.out HGL.out HWB.out HRL.out hg8.grown HU.out, but_grew HBU5.out hg8.grown HU.out, by simpa using HST.out, by simp [HACC.out]⟩, ?_⟩
     show c - ((j : Int) + 1).toNat < c - ((j : Int)).toNat
     have := HLT.out
     omega
   ·obtain rfl : j = c := by omega
    have hlt' : ¬ ((j : Int) < (j : Int)) := by omega
    have HE := Aside0.mk (show (acc, s2) = runsP l s by have h := HREC.out; rw [Nat.sub_self] at h; exact h)
    go_wp2_with fail
    go_ret
    refine ⟨_, rfl, ?_, ?_, HBU.out⟩
    ·rw [← HE.out]; exact HRO.out
    ·rw [← HE.out]; exact HRD.out
 case inl =>
  rw [HW.out] at h ⊢
  obtain ⟨c, hc⟩ : ∃ c : Nat, c = 1 + K := ⟨_, rfl⟩
  have HMANY := Aside0.mk (show many l s = c by rw [HM1.out]; split <;> omega)
  have HCL := Aside0.mk (show c ≤ 1000001 by have := HL.out; omega)
  have HCC := Aside0.mk (show (1 : Int) + (K : Int) = (c : Int) by omega)
  clear hc
  rw [HCC.out]
  have HMC := Aside0.mk (show runsR l c (s.num l).2 [] = runsP l s by unfold runsP; rw [← HMANY.out])
  clear h
  go_loopw [4, 14] (fun tv iv wr => ∃ (j : Nat) (acc : List EditL.Rn) (s2 : At), j ≤ c ∧ iv = .int .i64 (j : Int) ∧ RowRn.RO wr w.heap.size tv acc ∧ Rd g wr v l s2.a s2.bad ∧ But g w wr ∧ runsR l (c - j) s2 acc = runsP l s ∧ acc.length = j) (fun _ iv _ => c - (intOf iv).toNat)
  case atStart => exact ⟨0, [], (s.num l).2, Nat.zero_le _, rfl, World.ownsRow_nil _ _ _ _, HRD2.out, HB2.out, HMC.out, rfl⟩
  case round =>
   obtain ⟨j, acc, s2, hj, rfl, hro, hrd, hbu, hrec, hacc⟩ := hrel
   have HRO := Aside0.mk hro
   have HRD := Aside0.mk hrd
   have HBU := Aside0.mk hbu
   have HREC := Aside0.mk hrec
   have HACC := Aside0.mk hacc
   clear hro hrd hbu hrec hacc
   by_cases hlt : j < c
   ·have hlt' : (j : Int) < (c : Int) := by omega
    have hj6 : j < 1000002 := by have := HCL.out; omega
    have HRC := Aside0.mk (run_c g X wr v l s2 HRD.out HOK.out ((HBU.out.block X (Array.getElem?_eq_some_iff.1 HX.out).1 (fun e => HNE.out (Option.some.inj e))).trans HX.out) HNE.out)
    have HST := Aside0.mk (show (if (s2.run l).2.bad = true then ([], (s2.run l).2) else runsR l (c - (j + 1)) (s2.run l).2 (acc ++ [(s2.run l).1])) = runsP l s by
     rw [← HREC.out, show c - j = (c - (j + 1)) + 1 by omega]; rfl)
    obtain ⟨r, hr⟩ : ∃ r, r = (s2.run l).1 := ⟨_, rfl⟩
    obtain ⟨s3, hs3⟩ : ∃ s3, s3 = (s2.run l).2 := ⟨_, rfl⟩
    unfold RunPost at HRC
    rw [← hr, ← hs3] at HRC HST
    clear hr hs3
    go_wp2_with fail
    refine HRC.out.mono ?_
    rintro e w3 ⟨rfl, hrd3, hb3⟩
    have HRO3 := Aside0.mk (show RowRn.RO w3 w.heap.size _ acc from own_move HRO.out (fun k hk => hb3.block k (own_lt HRO.out k hk) (fun e => by have h1 := own_base HRO.out k hk; have h2 := HGL.out; have := Option.some.inj e; omega)))
    obtain ⟨g2, hg2⟩ : ∃ g2, g2 = w3.heap.size := ⟨_, rfl⟩
    obtain ⟨w4, hw4⟩ : ∃ w4, w4 = w3.alloc (.cells #[.int .i64 0, .string ⟨#[]⟩, .int .i64 0] 85) := ⟨_, rfl⟩
    obtain ⟨w5, hw5⟩ : ∃ w5, w5 = ((w4.setCell ⟨g2, 0, none⟩ (.int .i64 r.f0)).setCell ⟨g2, 1, none⟩ (.string r.f1)).setCell ⟨g2, 2, none⟩ (.int .i64 r.f2) := ⟨_, rfl⟩
    have HT4 := Aside0.mk (show w4.heap[g2]? = some (.cells #[.int .i64 0, .string ⟨#[]⟩, .int .i64 0] 85 (0, 0)) by rw [hw4, hg2]; exact Own.heap_new _ _)
    have HB5 := Aside0.mk (show Below w3.heap.size w3 w5 by rw [hw5]; exact below_set3 (by rw [hw4]; exact below_alloc (Below.refl _ _) _) (by omega) _ _ _)
    have HT5 := Aside0.mk (show w5.heap[g2]? = some (.cells #[.int .i64 r.f0, .string r.f1, .int .i64 r.f2] 85 (0, 0)) by rw [hw5]; exact set3 HT4.out _ _ _)
    have HRD5 := Aside0.mk (hrd3.below HB5.out)
    have HRO5 := Aside0.mk (HRO3.out.below HB5.out)
    have HBU5 := Aside0.mk ((HBU.out.trans hb3).trans (grown_of_below HB5.out (some g)))
    have HW4 := Aside0.mk hw4
    have HW5 := Aside0.mk hw5
    have HG2 := Aside0.mk hg2
    have a0 : w4.cell? ⟨g2, 0, none⟩ = some (.int .i64 0) := by rw [cell_of_row _ _ 0 _ _ _ HT4.out]; rfl
    have a1 : w4.cell? ⟨g2, 1, none⟩ = some (.string ⟨#[]⟩) := by rw [cell_of_row _ _ 1 _ _ _ HT4.out]; rfl
    have a2 : w4.cell? ⟨g2, 2, none⟩ = some (.int .i64 0) := by rw [cell_of_row _ _ 2 _ _ _ HT4.out]; rfl
    have b0 := frozen_of_row _ _ 0 _ _ HT4.out
    have b1 := frozen_of_row _ _ 1 _ _ HT4.out
    have b2 := frozen_of_row _ _ 2 _ _ HT4.out
    have HBD := Aside0.mk (VaryR.nBad g w5 v l s3.a s3.bad HRD5.out)
    have HLT := Aside0.mk hlt
    clear hrd3 hb3 hw4 hw5 hg2 HRC hlt
    go_wp2_with (first | rw [← HG2.out, ← HW4.out] | rw [← HW5.out])
    refine HBD.out.mono ?_
    rintro e w6 ⟨rfl, rfl⟩
    cases hbad : s3.bad with
    | true =>
     rw [hbad] at HST
     have HE := Aside0.mk HST.out
     go_wp2_with fail
     go_ret
     refine ⟨_, rfl, ?_, ?_, HBU5.out⟩
     ·rw [← HE.out]; exact World.ownsRow_nil _ _ _ _
     ·rw [← HE.out]; exact HRD5.out
    | false =>
     rw [hbad] at HST
     have t0 : w6.cell? ⟨g2, 0, none⟩ = some (.int .i64 r.f0) := by rw [cell_of_row _ _ 0 _ _ _ HT5.out]; rfl
     have t1 : w6.cell? ⟨g2, 1, none⟩ = some (.string r.f1) := by rw [cell_of_row _ _ 1 _ _ _ HT5.out]; rfl
     have t2 : w6.cell? ⟨g2, 2, none⟩ = some (.int .i64 r.f2) := by rw [cell_of_row _ _ 2 _ _ _ HT5.out]; rfl
     have HWB := Aside0.mk HBU5.out.size
     clear a0 a1 a2 b0 b1 b2
     go_wp2_with (at_builtin; refine RowRn.wpList_run (by rfl) (by rfl) HWB.out (by rfl) HRO5.out r (by rfl) (by have := HACC.out; omega) ?_; intro v' w8 hg8)
     have HU := Aside0.mk (fun k e => own_base HRO5.out k e)
     refine ⟨⟨j + 1, acc ++ [r], s3, HLT.out, rfl, hg8.own, rd_grew HRD5.out HGL.out HWB.out HRL.out hg8.grown HU.out, but_grew HBU5.out hg8.grown HU.out, by simpa using HST.out, by simp [HACC.out]⟩, ?_⟩
     show c - ((j : Int) + 1).toNat < c - ((j : Int)).toNat
     have := HLT.out
     omega
   ·obtain rfl : j = c := by omega
    have hlt' : ¬ ((j : Int) < (j : Int)) := by omega
    have HE := Aside0.mk (show (acc, s2) = runsP l s by have h := HREC.out; rw [Nat.sub_self] at h; exact h)
    go_wp2_with fail
    go_ret
    refine ⟨_, rfl, ?_, ?_, HBU.out⟩
    ·rw [← HE.out]; exact HRO.out
    ·rw [← HE.out]; exact HRD.out
end Go.Proofs.Ytedfcjcnhgomoaa.DecB
end
-- MERGED YtedfcjcnhgomoaaRowNt
section
namespace Go.Proofs.Ytedfcjcnhgomoaa.RowNt
open Go.RowKit Go.Proofs.Ytedfcjcnhgomoaa.P Go.Proofs.YtedfcjcnhgomoaaW.PrintWords Go.Proofs.YtedfcjcnhgomoaaW.PrintLast Go.Proofs.YtedfcjcnhgomoaaW.PrintMore Go.Proofs.Ytedfcjcnhgomoaa.Own Go.Proofs.Ytedfcjcnhgomoaa.NoteN
set_option linter.unusedSimpArgs false
set_option linter.unusedVariables false
abbrev NO (w : World) (B : Nat) (v : Value) (l : List Nt) : Prop := w.ownsRow B 104 3 v l.length (ncells l)
theorem ncells_snoc (l : List Nt) (r : Nt) : ncells (l ++ [r]) = ncells l ++ [.int .i64 r.f0.f0, .int .i64 r.f0.f1, .int .i64 r.f1] := by simp [ncells]
theorem NO.below {w w' : World} {B : Nat} {v : Value} {l : List Nt} (h : NO w B v l) (hb : Below w.heap.size w w') : NO w' B v l := own_move h fun k hk => hb.block k (own_lt h k hk)
theorem infoNt : (Try.prog.info? 104).map (fun i => (i.zero, i.size, i.bytes)) = some (some (.agg #[.int .i64 0, .int .i64 0, .int .i64 0]), 3, 24) := by kernel_rfl
structure Grew (W w' : World) (B : Nat) (v v' : Value) (xs : List Nt) (r : Nt) : Prop where
 own : NO w' B v' (xs ++ [r])
 grown : W.grownBy w' v.ownBlock
 at_ : v'.ownBlock = v.ownBlock ∨ ∃ b, v'.ownBlock = some b ∧ W.heap.size ≤ b
 form : ∃ g cap, v' = .slice (some ⟨g, 0, none⟩) (xs.length + 1) cap
theorem exec_note {P : Program} (hP : P = Try.prog) {W : World} {f : Operand → Value} {o : Oper} {s x : Operand} (hop : o.op = Op.call { callee := Callee.builtin Builtin.append, args := #[s, x], argTypes := #[42, 42] })
  {B : Nat} (hB : B ≤ W.heap.size) {v : Value} {xs : List Nt} (hs : f s = v) (hx : NO W B v xs) (r : Nt)
  (he : f x = .slice (some ⟨W.heap.size, 0, none⟩) 1 1) (hl : xs.length + 1 ≤ 4398046511104) :
  ∃ v' w', (execOp f o).run P (W.alloc (.cells #[.int .i64 r.f0.f0, .int .i64 r.f0.f1, .int .i64 r.f1] 104)) = .ok (.value v') w' ∧ Grew W w' B v v' xs r := by
 subst hP
 obtain ⟨i0, hi0, hz0, hz1, hz2⟩ := info_parts infoNt
 obtain ⟨tmp, ht⟩ : ∃ tmp : Obj, tmp = .cells #[.int .i64 r.f0.f0, .int .i64 r.f0.f1, .int .i64 r.f1] 104 := ⟨_, rfl⟩
 have hxa := hx.alloc tmp
 have hnew := RowRn.cells3_new W (.int .i64 r.f0.f0) (.int .i64 r.f0.f1) (.int .i64 r.f1) 104
 rw [← ht] at hnew ⊢
 obtain ⟨v', w', hrun, h1, h2, h3, h4⟩ := run_append_own_at (P := Try.prog) (w := W.alloc tmp) B 42 o.type 104 i0 _ 3 24 Try.underlying42 hi0 hz0 hz1 hz2 rfl (by decide) v xs.length (ncells xs) hxa ⟨W.heap.size, 0, none⟩ 1 1 [.int .i64 r.f0.f0, .int .i64 r.f0.f1, .int .i64 r.f1] rfl hnew (by simp [Value.oneCell']) (by unfold maxLen; omega) (by omega) (by simp; omega)
 refine ⟨v', w', ?_, ⟨?_, ?_, ?_, ?_⟩⟩
 ·simp [execOp, hop, resolve, invoke, builtin, hs, he, hrun, Result.andThen]
 ·show w'.ownsRow B _ 3 v' (xs ++ [r]).length (ncells (xs ++ [r]))
  rw [List.length_append, ncells_snoc]; exact h1
 ·exact ⟨h2.os, h2.tape, h2.output, by have := h2.size; simp at this; omega, fun k hk hn => (h2.block k (by simp; omega) hn).trans (Own.heap_old W tmp k hk)⟩
 ·rcases h4 with h4 | h4
  ·exact .inl h4
  ·exact .inr ⟨_, h4, by simp⟩
 ·exact ownsRow_succ h1
theorem wpList_note {ops : Array Oper} {rest : List Oper} {o : Oper} {a : Act} {W : World} {Q : Exit → Act → World → Prop} {s x : Operand} (hg : o.guard = none)
  (hop : o.op = Op.call { callee := Callee.builtin Builtin.append, args := #[s, x], argTypes := #[42, 42] })
  {B : Nat} (hB : B ≤ W.heap.size) {v : Value} {xs : List Nt} (hs : a.eval s = v) (hx : NO W B v xs) (r : Nt) (he : a.eval x = .slice (some ⟨W.heap.size, 0, none⟩) 1 1) (hl : xs.length + 1 ≤ 4398046511104)
  (hK : ∀ v' w', Grew W w' B v v' xs r → wpList Try.prog ops Q rest (a.put o.dst v') w') :
  wpList Try.prog ops Q (o :: rest) a (W.alloc (.cells #[.int .i64 r.f0.f0, .int .i64 r.f0.f1, .int .i64 r.f1] 104)) := by
 obtain ⟨v', w', hrun, h⟩ := exec_note rfl (o := o) (f := a.eval) hop hB hs hx r he hl
 refine wpList_plain hg fun K hK' => ?_
 unfold Oper.wp
 rw [hrun]
 exact hK' _ _ (hK v' w' h)
end Go.Proofs.Ytedfcjcnhgomoaa.RowNt
end
-- MERGED YtedfcjcnhgomoaaDecC
section
namespace Go.Proofs.Ytedfcjcnhgomoaa.DecC
open Go.RowKit Go.Proofs.Ytedfcjcnhgomoaa.P Go.Proofs.YtedfcjcnhgomoaaW.PrintWords Go.Proofs.YtedfcjcnhgomoaaW.PrintLast Go.Proofs.YtedfcjcnhgomoaaW.PrintMore Go.Proofs.Ytedfcjcnhgomoaa.Own Go.Proofs.Ytedfcjcnhgomoaa.Vy Go.Proofs.Ytedfcjcnhgomoaa.VaryR Go.Proofs.Ytedfcjcnhgomoaa.NoteN Go.Proofs.Ytedfcjcnhgomoaa.MsgA Go.Proofs.Ytedfcjcnhgomoaa.DecA Go.Proofs.Ytedfcjcnhgomoaa.RowRn Go.Proofs.Ytedfcjcnhgomoaa.RowNt Go.Proofs.Ytedfcjcnhgomoaa.DecB
attribute [local go_sem] max2_int min2_int max_two min_two
set_option linter.unusedSimpArgs false
set_option linter.unusedVariables false
def notesR (l : List Int) : Nat → Int → At → List Nt → List Nt × At
 | 0, _, s, acc => (acc, s)
 | n + 1, q, s, acc => if (s.note l q).2.2.bad = true then ([], (s.note l q).2.2) else notesR l n (s.note l q).2.1 (s.note l q).2.2 (acc ++ [(s.note l q).1])
def notesP (l : List Int) (s : At) : List Nt × At := notesR l (many l s) 0 (s.num l).2 []
theorem but2_grew {g Y : Nat} {w W W' : World} {u : Value} (hb : But2 g Y w W) (hg : W.grownBy W' u.ownBlock) (hu : ∀ k, u.ownBlock = some k → w.heap.size ≤ k) : But2 g Y w W' :=
 ⟨hg.os.trans hb.os, hg.tape.trans hb.tape, hg.output.trans hb.output, Nat.le_trans hb.size hg.size, fun k hk hn hy => (hg.block k (Nat.lt_of_lt_of_le hk hb.size) (fun e => by have := hu k e.symm; omega)).trans (hb.block k hk hn hy)⟩
def NotesPost (g Y : Nat) (v : Value) (l : List Int) (s : At) (w : World) (e : Ending) (w' : World) : Prop :=
 ∃ u, e = .returned u ∧ NO w' w.heap.size u (notesP l s).1 ∧ Rd g w' v l (notesP l s).2.a (notesP l s).2.bad ∧ But2 g Y w w'
set_option maxHeartbeats 16000000 in
set_option maxRecDepth 100000 in
theorem listn_c (g X Y : Nat) (w : World) (v : Value) (l : List Int) (s : At) (h : Rd g w v l s.a s.bad) (hok : Byt.Ok l) (hl : l.length ≤ 1000000) (hX : w.heap[X]? = some (.cells #[.pointer (some ⟨g, 0, none⟩)] 73 (0, 0))) (hY : w.heap[Y]? = some (.cells #[.int .i64 0] 3 (0, 0))) (hne : X ≠ g) (hyg : Y ≠ g) (hxy : X ≠ Y) :
  Calls Try.prog 103 #[.pointer (some ⟨g, 0, none⟩), .func (.func 104) #[] #[.pointer (some ⟨X, 0, none⟩), .pointer (some ⟨Y, 0, none⟩)]] w (NotesPost g Y v l s w) := by
 have HX := Aside0.mk hX
 have HNE := Aside0.mk (And.intro hne (And.intro hyg hxy))
 have HY := Aside0.mk hY
 have HOK := Aside0.mk hok
 have HL := Aside0.mk hl
 have HN := Aside0.mk (num_a g v l hok s w h)
 have HGL := Aside0.mk (show g < w.heap.size by
  obtain ⟨a', h1, _⟩ := h
  exact (Array.getElem?_eq_some_iff.1 h1.heap).1)
 have HRL := Aside0.mk (rd_lt h)
 clear hX hY hne hyg hxy hok hl h
 go_enter Try.func103, Try.ntmps103
 go_wp2_with fail
 refine HN.out.mono ?_
 rintro e w1 ⟨rfl, hrd, hb⟩
 have HRD1 := Aside0.mk hrd
 have HB1 := Aside0.mk hb
 have HLF := Aside0.mk (VaryR.nLeft g w1 v l (s.num l).2.a (s.num l).2.bad hrd)
 clear hrd hb HN
 go_wp2_with fail
 refine HLF.out.mono ?_
 rintro e w2 ⟨rfl, d, rfl⟩
 have HB2 := Aside0.mk (But2.of (Y := Y) (HB1.out.trans (But.drewN g w1 d)))
 have HY2 := Aside0.mk (show (w1.drewN d).heap[Y]? = some (.cells #[.int .i64 0] 3 (0, 0)) from ((HB1.out.trans (But.drewN g w1 d)).block Y (Array.getElem?_eq_some_iff.1 HY.out).1 (fun e => HNE.out.2.1 (Option.some.inj e))).trans HY.out)
 have HRD2 := Aside0.mk (HRD1.out.below (pw_below_drewN (Below.refl _ _) d))
 obtain ⟨M, hM⟩ : ∃ M, M = (s.num l).1 := ⟨_, rfl⟩
 obtain ⟨K, hK⟩ : ∃ K, K = leftL l (s.num l).2.a (s.num l).2.bad := ⟨_, rfl⟩
 have hKl : K ≤ l.length := by rw [hK]; unfold leftL; split <;> omega
 have hM0 : 0 ≤ M := by
  rw [hM]
  show 0 ≤ stepV 0 s.bad _ _
  unfold stepV
  split
  ·omega
  ·exact (numL_nonneg (fun x hx => HOK.out x (List.mem_of_mem_drop hx))).1
 have HM1 := Aside0.mk (show many l s = (if (1 : Int) + (K : Int) < M then (1 : Int) + (K : Int) else M).toNat by unfold many; rw [← hM, ← hK])
 rw [← hM, ← hK]
 clear hM hK
 have HW := Aside0.mk (show wrap64 ((1 : Int) + (K : Int)) = (1 : Int) + (K : Int) by have := HL.out; unfold wrap64; omega)
 go_wp2_with fail
 case inr =>
  rw [HW.out] at h
  obtain ⟨c, hc⟩ : ∃ c : Nat, c = M.toNat := ⟨_, rfl⟩
  have HMANY := Aside0.mk (show many l s = c by rw [HM1.out]; split <;> omega)
  have HCL := Aside0.mk (show c ≤ 1000001 by have := HL.out; omega)
  have HCC := Aside0.mk (show M = (c : Int) by omega)
  clear hc
  rw [HCC.out]
  have HMC := Aside0.mk (show notesR l c 0 (s.num l).2 [] = notesP l s by unfold notesP; rw [← HMANY.out])
  clear h
  go_loopw [4, 14] (fun tv iv wr => ∃ (j : Nat) (acc : List Nt) (s2 : At) (q : Int), j ≤ c ∧ iv = .int .i64 (j : Int) ∧ NO wr w.heap.size tv acc ∧ Rd g wr v l s2.a s2.bad ∧ But2 g Y w wr ∧ wr.heap[Y]? = some (.cells #[.int .i64 q] 3 (0, 0)) ∧ notesR l (c - j) q s2 acc = notesP l s ∧ acc.length = j) (fun _ iv _ => c - (intOf iv).toNat)
  case atStart => exact ⟨0, [], (s.num l).2, 0, Nat.zero_le _, rfl, World.ownsRow_nil _ _ _ _, HRD2.out, HB2.out, HY2.out, HMC.out, rfl⟩
  case round =>
   obtain ⟨j, acc, s2, q, hj, rfl, hro, hrd, hbu, hyj, hrec, hacc⟩ := hrel
   have HYJ := Aside0.mk hyj
   have HRO := Aside0.mk hro
   have HRD := Aside0.mk hrd
   have HBU := Aside0.mk hbu
   have HREC := Aside0.mk hrec
   have HACC := Aside0.mk hacc
   clear hro hrd hbu hyj hrec hacc
   by_cases hlt : j < c
   ·have hlt' : (j : Int) < (c : Int) := by omega
    have hj6 : j < 1000002 := by have := HCL.out; omega
    have HRC := Aside0.mk (note_c g X Y wr v l q s2 HRD.out HOK.out ((HBU.out.block X (Array.getElem?_eq_some_iff.1 HX.out).1 HNE.out.1 HNE.out.2.2).trans HX.out) HYJ.out HNE.out.1 HNE.out.2.1 HNE.out.2.2)
    have HST := Aside0.mk (show (if (s2.note l q).2.2.bad = true then ([], (s2.note l q).2.2) else notesR l (c - (j + 1)) (s2.note l q).2.1 (s2.note l q).2.2 (acc ++ [(s2.note l q).1])) = notesP l s by
     rw [← HREC.out, show c - j = (c - (j + 1)) + 1 by omega]; rfl)
    obtain ⟨r, hr⟩ : ∃ r, r = (s2.note l q).1 := ⟨_, rfl⟩
    obtain ⟨s3, hs3⟩ : ∃ s3, s3 = (s2.note l q).2.2 := ⟨_, rfl⟩
    obtain ⟨q3, hq3⟩ : ∃ q3, q3 = (s2.note l q).2.1 := ⟨_, rfl⟩
    unfold NotePost at HRC
    rw [← hr, ← hs3, ← hq3] at HRC HST
    clear hr hs3 hq3
    go_wp2_with fail
    refine HRC.out.mono ?_
    rintro e w3 ⟨rfl, hrd3, hy3, hb3⟩
    have HYL := Aside0.mk (Array.getElem?_eq_some_iff.1 HY.out).1
    have HRO3 := Aside0.mk (show NO w3 w.heap.size _ acc from own_move HRO.out (fun k hk => hb3.block k (own_lt HRO.out k hk) (fun e => by have h1 := own_base HRO.out k hk; have h2 := HGL.out; omega) (fun e => by have h1 := own_base HRO.out k hk; have h2 := HYL.out; omega)))
    obtain ⟨g2, hg2⟩ : ∃ g2, g2 = w3.heap.size := ⟨_, rfl⟩
    obtain ⟨w4, hw4⟩ : ∃ w4, w4 = w3.alloc (.cells #[.int .i64 0, .int .i64 0, .int .i64 0] 104) := ⟨_, rfl⟩
    obtain ⟨w5, hw5⟩ : ∃ w5, w5 = ((w4.setCell ⟨g2, 0, none⟩ (.int .i64 r.f0.f0)).setCell ⟨g2, 1, none⟩ (.int .i64 r.f0.f1)).setCell ⟨g2, 2, none⟩ (.int .i64 r.f1) := ⟨_, rfl⟩
    have HT4 := Aside0.mk (show w4.heap[g2]? = some (.cells #[.int .i64 0, .int .i64 0, .int .i64 0] 104 (0, 0)) by rw [hw4, hg2]; exact Own.heap_new _ _)
    have HB5 := Aside0.mk (show Below w3.heap.size w3 w5 by rw [hw5]; exact below_set3 (by rw [hw4]; exact below_alloc (Below.refl _ _) _) (by omega) _ _ _)
    have HT5 := Aside0.mk (show w5.heap[g2]? = some (.cells #[.int .i64 r.f0.f0, .int .i64 r.f0.f1, .int .i64 r.f1] 104 (0, 0)) by rw [hw5]; exact set3 HT4.out _ _ _)
    have HRD5 := Aside0.mk (hrd3.below HB5.out)
    have HRO5 := Aside0.mk (HRO3.out.below HB5.out)
    have HBU5 := Aside0.mk ((HBU.out.trans hb3).trans (But2.of (grown_of_below HB5.out (some g))))
    have HY5 := Aside0.mk ((HB5.out.block Y (Array.getElem?_eq_some_iff.1 hy3).1).trans hy3)
    have HW4 := Aside0.mk hw4
    have HW5 := Aside0.mk hw5
    have HG2 := Aside0.mk hg2
    have a0 : w4.cell? ⟨g2, 0, none⟩ = some (.int .i64 0) := by rw [cell_of_row _ _ 0 _ _ _ HT4.out]; rfl
    have a1 : w4.cell? ⟨g2, 1, none⟩ = some (.int .i64 0) := by rw [cell_of_row _ _ 1 _ _ _ HT4.out]; rfl
    have a2 : w4.cell? ⟨g2, 2, none⟩ = some (.int .i64 0) := by rw [cell_of_row _ _ 2 _ _ _ HT4.out]; rfl
    have b0 := frozen_of_row _ _ 0 _ _ HT4.out
    have b1 := frozen_of_row _ _ 1 _ _ HT4.out
    have b2 := frozen_of_row _ _ 2 _ _ HT4.out
    have HBD := Aside0.mk (VaryR.nBad g w5 v l s3.a s3.bad HRD5.out)
    have HLT := Aside0.mk hlt
    clear hrd3 hb3 hy3 hw4 hw5 hg2 HRC hlt
    go_wp2_with (first | rw [← HG2.out, ← HW4.out] | rw [← HW5.out])
    refine HBD.out.mono ?_
    rintro e w6 ⟨rfl, rfl⟩
    cases hbad : s3.bad with
    | true =>
     rw [hbad] at HST
     have HE := Aside0.mk HST.out
     go_wp2_with fail
     go_ret
     refine ⟨_, rfl, ?_, ?_, HBU5.out⟩
     ·rw [← HE.out]; exact World.ownsRow_nil _ _ _ _
     ·rw [← HE.out]; exact HRD5.out
    | false =>
     rw [hbad] at HST
     have t0 : w6.cell? ⟨g2, 0, none⟩ = some (.int .i64 r.f0.f0) := by rw [cell_of_row _ _ 0 _ _ _ HT5.out]; rfl
     have t1 : w6.cell? ⟨g2, 1, none⟩ = some (.int .i64 r.f0.f1) := by rw [cell_of_row _ _ 1 _ _ _ HT5.out]; rfl
     have t2 : w6.cell? ⟨g2, 2, none⟩ = some (.int .i64 r.f1) := by rw [cell_of_row _ _ 2 _ _ _ HT5.out]; rfl
     have HWB := Aside0.mk HBU5.out.size
     clear a0 a1 a2 b0 b1 b2
     go_wp2_with (at_builtin; refine RowNt.wpList_note (by rfl) (by rfl) HWB.out (by rfl) HRO5.out r (by rfl) (by have := HACC.out; omega) ?_; intro v' w8 hg8)
     have HU := Aside0.mk (fun k e => own_base HRO5.out k e)
     refine ⟨⟨j + 1, acc ++ [r], s3, q3, HLT.out, rfl, hg8.own, rd_grew HRD5.out HGL.out HWB.out HRL.out hg8.grown HU.out, but2_grew HBU5.out hg8.grown HU.out, (hg8.grown.block Y (Array.getElem?_eq_some_iff.1 HY5.out).1 (fun e => by have h1 := HU.out Y e.symm; have h2 := HYL.out; omega)).trans HY5.out, by simpa using HST.out, by simp [HACC.out]⟩, ?_⟩
     show c - ((j : Int) + 1).toNat < c - ((j : Int)).toNat
     have := HLT.out
     omega
   ·obtain rfl : j = c := by omega
    have hlt' : ¬ ((j : Int) < (j : Int)) := by omega
    have HE := Aside0.mk (show (acc, s2) = notesP l s by have h := HREC.out; rw [Nat.sub_self] at h; exact h)
    go_wp2_with fail
    go_ret
    refine ⟨_, rfl, ?_, ?_, HBU.out⟩
    ·rw [← HE.out]; exact HRO.out
    ·rw [← HE.out]; exact HRD.out
 case inl =>
  rw [HW.out] at h ⊢
  obtain ⟨c, hc⟩ : ∃ c : Nat, c = 1 + K := ⟨_, rfl⟩
  have HMANY := Aside0.mk (show many l s = c by rw [HM1.out]; split <;> omega)
  have HCL := Aside0.mk (show c ≤ 1000001 by have := HL.out; omega)
  have HCC := Aside0.mk (show (1 : Int) + (K : Int) = (c : Int) by omega)
  clear hc
  rw [HCC.out]
  have HMC := Aside0.mk (show notesR l c 0 (s.num l).2 [] = notesP l s by unfold notesP; rw [← HMANY.out])
  clear h
  go_loopw [4, 14] (fun tv iv wr => ∃ (j : Nat) (acc : List Nt) (s2 : At) (q : Int), j ≤ c ∧ iv = .int .i64 (j : Int) ∧ NO wr w.heap.size tv acc ∧ Rd g wr v l s2.a s2.bad ∧ But2 g Y w wr ∧ wr.heap[Y]? = some (.cells #[.int .i64 q] 3 (0, 0)) ∧ notesR l (c - j) q s2 acc = notesP l s ∧ acc.length = j) (fun _ iv _ => c - (intOf iv).toNat)
  case atStart => exact ⟨0, [], (s.num l).2, 0, Nat.zero_le _, rfl, World.ownsRow_nil _ _ _ _, HRD2.out, HB2.out, HY2.out, HMC.out, rfl⟩
  case round =>
   obtain ⟨j, acc, s2, q, hj, rfl, hro, hrd, hbu, hyj, hrec, hacc⟩ := hrel
   have HYJ := Aside0.mk hyj
   have HRO := Aside0.mk hro
   have HRD := Aside0.mk hrd
   have HBU := Aside0.mk hbu
   have HREC := Aside0.mk hrec
   have HACC := Aside0.mk hacc
   clear hro hrd hbu hyj hrec hacc
   by_cases hlt : j < c
   ·have hlt' : (j : Int) < (c : Int) := by omega
    have hj6 : j < 1000002 := by have := HCL.out; omega
    have HRC := Aside0.mk (note_c g X Y wr v l q s2 HRD.out HOK.out ((HBU.out.block X (Array.getElem?_eq_some_iff.1 HX.out).1 HNE.out.1 HNE.out.2.2).trans HX.out) HYJ.out HNE.out.1 HNE.out.2.1 HNE.out.2.2)
    have HST := Aside0.mk (show (if (s2.note l q).2.2.bad = true then ([], (s2.note l q).2.2) else notesR l (c - (j + 1)) (s2.note l q).2.1 (s2.note l q).2.2 (acc ++ [(s2.note l q).1])) = notesP l s by
     rw [← HREC.out, show c - j = (c - (j + 1)) + 1 by omega]; rfl)
    obtain ⟨r, hr⟩ : ∃ r, r = (s2.note l q).1 := ⟨_, rfl⟩
    obtain ⟨s3, hs3⟩ : ∃ s3, s3 = (s2.note l q).2.2 := ⟨_, rfl⟩
    obtain ⟨q3, hq3⟩ : ∃ q3, q3 = (s2.note l q).2.1 := ⟨_, rfl⟩
    unfold NotePost at HRC
    rw [← hr, ← hs3, ← hq3] at HRC HST
    clear hr hs3 hq3
    go_wp2_with fail
    refine HRC.out.mono ?_
    rintro e w3 ⟨rfl, hrd3, hy3, hb3⟩
    have HYL := Aside0.mk (Array.getElem?_eq_some_iff.1 HY.out).1
    have HRO3 := Aside0.mk (show NO w3 w.heap.size _ acc from own_move HRO.out (fun k hk => hb3.block k (own_lt HRO.out k hk) (fun e => by have h1 := own_base HRO.out k hk; have h2 := HGL.out; omega) (fun e => by have h1 := own_base HRO.out k hk; have h2 := HYL.out; omega)))
    obtain ⟨g2, hg2⟩ : ∃ g2, g2 = w3.heap.size := ⟨_, rfl⟩
    obtain ⟨w4, hw4⟩ : ∃ w4, w4 = w3.alloc (.cells #[.int .i64 0, .int .i64 0, .int .i64 0] 104) := ⟨_, rfl⟩
    obtain ⟨w5, hw5⟩ : ∃ w5, w5 = ((w4.setCell ⟨g2, 0, none⟩ (.int .i64 r.f0.f0)).setCell ⟨g2, 1, none⟩ (.int .i64 r.f0.f1)).setCell ⟨g2, 2, none⟩ (.int .i64 r.f1) := ⟨_, rfl⟩
    have HT4 := Aside0.mk (show w4.heap[g2]? = some (.cells #[.int .i64 0, .int .i64 0, .int .i64 0] 104 (0, 0)) by rw [hw4, hg2]; exact Own.heap_new _ _)
    have HB5 := Aside0.mk (show Below w3.heap.size w3 w5 by rw [hw5]; exact below_set3 (by rw [hw4]; exact below_alloc (Below.refl _ _) _) (by omega) _ _ _)
    have HT5 := Aside0.mk (show w5.heap[g2]? = some (.cells #[.int .i64 r.f0.f0, .int .i64 r.f0.f1, .int .i64 r.f1] 104 (0, 0)) by rw [hw5]; exact set3 HT4.out _ _ _)
    have HRD5 := Aside0.mk (hrd3.below HB5.out)
    have HRO5 := Aside0.mk (HRO3.out.below HB5.out)
    have HBU5 := Aside0.mk ((HBU.out.trans hb3).trans (But2.of (grown_of_below HB5.out (some g))))
    have HY5 := Aside0.mk ((HB5.out.block Y (Array.getElem?_eq_some_iff.1 hy3).1).trans hy3)
    have HW4 := Aside0.mk hw4
    have HW5 := Aside0.mk hw5
    have HG2 := Aside0.mk hg2
    have a0 : w4.cell? ⟨g2, 0, none⟩ = some (.int .i64 0) := by rw [cell_of_row _ _ 0 _ _ _ HT4.out]; rfl
    have a1 : w4.cell? ⟨g2, 1, none⟩ = some (.int .i64 0) := by rw [cell_of_row _ _ 1 _ _ _ HT4.out]; rfl
    have a2 : w4.cell? ⟨g2, 2, none⟩ = some (.int .i64 0) := by rw [cell_of_row _ _ 2 _ _ _ HT4.out]; rfl
    have b0 := frozen_of_row _ _ 0 _ _ HT4.out
    have b1 := frozen_of_row _ _ 1 _ _ HT4.out
    have b2 := frozen_of_row _ _ 2 _ _ HT4.out
    have HBD := Aside0.mk (VaryR.nBad g w5 v l s3.a s3.bad HRD5.out)
    have HLT := Aside0.mk hlt
    clear hrd3 hb3 hy3 hw4 hw5 hg2 HRC hlt
    go_wp2_with (first | rw [← HG2.out, ← HW4.out] | rw [← HW5.out])
    refine HBD.out.mono ?_
    rintro e w6 ⟨rfl, rfl⟩
    cases hbad : s3.bad with
    | true =>
     rw [hbad] at HST
     have HE := Aside0.mk HST.out
     go_wp2_with fail
     go_ret
     refine ⟨_, rfl, ?_, ?_, HBU5.out⟩
     ·rw [← HE.out]; exact World.ownsRow_nil _ _ _ _
     ·rw [← HE.out]; exact HRD5.out
    | false =>
     rw [hbad] at HST
     have t0 : w6.cell? ⟨g2, 0, none⟩ = some (.int .i64 r.f0.f0) := by rw [cell_of_row _ _ 0 _ _ _ HT5.out]; rfl
     have t1 : w6.cell? ⟨g2, 1, none⟩ = some (.int .i64 r.f0.f1) := by rw [cell_of_row _ _ 1 _ _ _ HT5.out]; rfl
     have t2 : w6.cell? ⟨g2, 2, none⟩ = some (.int .i64 r.f1) := by rw [cell_of_row _ _ 2 _ _ _ HT5.out]; rfl
     have HWB := Aside0.mk HBU5.out.size
     clear a0 a1 a2 b0 b1 b2
     go_wp2_with (at_builtin; refine RowNt.wpList_note (by rfl) (by rfl) HWB.out (by rfl) HRO5.out r (by rfl) (by have := HACC.out; omega) ?_; intro v' w8 hg8)
     have HU := Aside0.mk (fun k e => own_base HRO5.out k e)
     refine ⟨⟨j + 1, acc ++ [r], s3, q3, HLT.out, rfl, hg8.own, rd_grew HRD5.out HGL.out HWB.out HRL.out hg8.grown HU.out, but2_grew HBU5.out hg8.grown HU.out, (hg8.grown.block Y (Array.getElem?_eq_some_iff.1 HY5.out).1 (fun e => by have h1 := HU.out Y e.symm; have h2 := HYL.out; omega)).trans HY5.out, by simpa using HST.out, by simp [HACC.out]⟩, ?_⟩
     show c - ((j : Int) + 1).toNat < c - ((j : Int)).toNat
     have := HLT.out
     omega
   ·obtain rfl : j = c := by omega
    have hlt' : ¬ ((j : Int) < (j : Int)) := by omega
    have HE := Aside0.mk (show (acc, s2) = notesP l s by have h := HREC.out; rw [Nat.sub_self] at h; exact h)
    go_wp2_with fail
    go_ret
    refine ⟨_, rfl, ?_, ?_, HBU.out⟩
    ·rw [← HE.out]; exact HRO.out
    ·rw [← HE.out]; exact HRD.out
theorem runs_c (g : Nat) (w : World) (v : Value) (l : List Int) (s : At) (h : Rd g w v l s.a s.bad) (hok : Byt.Ok l) (hl : l.length ≤ 1000000) :
  Calls Try.prog 77 #[.pointer (some ⟨g, 0, none⟩)] w (RunsPost g v l s w) := by
 obtain ⟨X, hX⟩ : ∃ X, X = w.heap.size := ⟨_, rfl⟩
 obtain ⟨w1, hw1⟩ : ∃ w1, w1 = w.alloc (.cells #[.pointer (some ⟨g, 0, none⟩)] 73) := ⟨_, rfl⟩
 have hb1 : Below w.heap.size w w1 := by rw [hw1]; exact below_alloc (Below.refl _ _) _
 have HXX := Aside0.mk (show w1.heap[X]? = some (.cells #[.pointer (some ⟨g, 0, none⟩)] 73 (0, 0)) by rw [hw1, hX]; exact Own.heap_new _ _)
 have HGX := Aside0.mk (show X ≠ g by
  obtain ⟨a', h1, _⟩ := h
  have := (Array.getElem?_eq_some_iff.1 h1.heap).1
  omega)
 have HC := Aside0.mk (list_c g X w1 v l s (h.below hb1) hok hl HXX.out HGX.out)
 have HB := Aside0.mk hb1
 have HW := Aside0.mk hw1
 have HE := Aside0.mk hX
 have x0 : w1.cell? ⟨X, 0, none⟩ = some (.pointer (some ⟨g, 0, none⟩)) := by rw [cell_of_row _ _ 0 _ _ _ HXX.out]; rfl
 clear h hok hl hb1 hw1 hX
 go_enter Try.func77, Try.ntmps77
 go_wp2_with (first | rw [← HE.out, ← HW.out])
 refine HC.out.mono ?_
 rintro e w2 ⟨u, rfl, hro, hrd, hbu⟩
 have HRO := Aside0.mk hro
 have HRD := Aside0.mk hrd
 have HBU := Aside0.mk hbu
 clear hro hrd hbu x0 HC
 go_wp2_with fail
 go_ret
 exact ⟨_, rfl, World.ownsRow.mono HRO.out HB.out.size, HRD.out, (grown_of_below HB.out (some g)).trans HBU.out⟩
def SpotsPost (g : Nat) (v : Value) (l : List Int) (s : At) (w : World) (e : Ending) (w' : World) : Prop :=
 ∃ u, e = .returned u ∧ NO w' w.heap.size u (notesP l s).1 ∧ Rd g w' v l (notesP l s).2.a (notesP l s).2.bad ∧ But g w w'
theorem spots_c (g : Nat) (w : World) (v : Value) (l : List Int) (s : At) (h : Rd g w v l s.a s.bad) (hok : Byt.Ok l) (hl : l.length ≤ 1000000) :
  Calls Try.prog 78 #[.pointer (some ⟨g, 0, none⟩)] w (SpotsPost g v l s w) := by
 obtain ⟨X, hX⟩ : ∃ X, X = w.heap.size := ⟨_, rfl⟩
 obtain ⟨w1, hw1⟩ : ∃ w1, w1 = w.alloc (.cells #[.pointer (some ⟨g, 0, none⟩)] 73) := ⟨_, rfl⟩
 obtain ⟨Y, hY⟩ : ∃ Y, Y = w1.heap.size := ⟨_, rfl⟩
 obtain ⟨w2, hw2⟩ : ∃ w2, w2 = w1.alloc (.cells #[.int .i64 0] 3) := ⟨_, rfl⟩
 obtain ⟨w3, hw3⟩ : ∃ w3, w3 = w2.setCell ⟨Y, 0, none⟩ (.int .i64 0) := ⟨_, rfl⟩
 have hb1 : Below w.heap.size w w1 := by rw [hw1]; exact below_alloc (Below.refl _ _) _
 have hY2 : w2.heap[Y]? = some (.cells #[.int .i64 0] 3 (0, 0)) := by rw [hw2, hY]; exact Own.heap_new _ _
 have hb3 : Below w1.heap.size w1 w3 := by
  rw [hw3, hw2]
  exact (below_alloc (Below.refl _ _) _).setCell (by rw [hY]; exact Nat.le_refl _) _
 have hXX : w1.heap[X]? = some (.cells #[.pointer (some ⟨g, 0, none⟩)] 73 (0, 0)) := by rw [hw1, hX]; exact Own.heap_new _ _
 have hXl := (Array.getElem?_eq_some_iff.1 hXX).1
 have HXX := Aside0.mk ((hb3.block X hXl).trans hXX)
 have HY3 := Aside0.mk (show w3.heap[Y]? = some (.cells #[.int .i64 0] 3 (0, 0)) by rw [hw3]; exact heap_setCell_same w2 Y 0 _ _ _ hY2)
 have hgl : g < w.heap.size := by
  obtain ⟨a', h1, _⟩ := h
  exact (Array.getElem?_eq_some_iff.1 h1.heap).1
 have HB := Aside0.mk (below_step hb1 hb3)
 have HC := Aside0.mk (listn_c g X Y w3 v l s (h.below HB.out) hok hl HXX.out HY3.out (by omega) (by have := hb1.size; omega) (by omega))
 have HW := Aside0.mk hw1
 have HE := Aside0.mk hX
 have HW2 := Aside0.mk hw2
 have HE2 := Aside0.mk hY
 have HW3 := Aside0.mk hw3
 have HYL := Aside0.mk (show w.heap.size ≤ Y by have := hb1.size; omega)
 have x0 : w1.cell? ⟨X, 0, none⟩ = some (.pointer (some ⟨g, 0, none⟩)) := by rw [cell_of_row _ _ 0 _ _ _ hXX]; rfl
 have x3 : w3.cell? ⟨X, 0, none⟩ = some (.pointer (some ⟨g, 0, none⟩)) := by rw [cell_of_row _ _ 0 _ _ _ HXX.out]; rfl
 have y2 : w2.cell? ⟨Y, 0, none⟩ = some (.int .i64 0) := by rw [cell_of_row _ _ 0 _ _ _ hY2]; rfl
 have f2 := frozen_of_row _ _ 0 _ _ hY2
 clear h hok hl hb1 hw1 hX hb3 hw2 hw3 hY hXX hXl hY2 hgl
 go_enter Try.func78, Try.ntmps78
 go_wp2_with (first | rw [← HE.out, ← HW.out] | rw [← HE2.out, ← HW2.out] | rw [← HW3.out])
 refine HC.out.mono ?_
 rintro e w4 ⟨u, rfl, hro, hrd, hbu⟩
 have HRO := Aside0.mk hro
 have HRD := Aside0.mk hrd
 have HBU := Aside0.mk hbu
 clear hro hrd hbu x0 x3 y2 f2 HC
 go_wp2_with fail
 go_ret
 exact ⟨_, rfl, World.ownsRow.mono HRO.out HB.out.size, HRD.out, HBU.out.os.trans HB.out.os, HBU.out.tape.trans HB.out.tape, HBU.out.output.trans HB.out.output, Nat.le_trans HB.out.size HBU.out.size, fun k hk hn => (HBU.out.block k (Nat.lt_of_lt_of_le hk HB.out.size) (fun e => hn (by rw [e])) (fun e => by have := HYL.out; omega)).trans (HB.out.block k hk)⟩
end Go.Proofs.Ytedfcjcnhgomoaa.DecC
end
-- MERGED YtedfcjcnhgomoaaDecM
section
namespace Go.Proofs.Ytedfcjcnhgomoaa.DecM
open Go.RowKit Go.Proofs.Ytedfcjcnhgomoaa.P Go.Proofs.Ytedfcjcnhgomoaa.Own Go.Proofs.Ytedfcjcnhgomoaa.Vy Go.Proofs.Ytedfcjcnhgomoaa.VaryR Go.Proofs.Ytedfcjcnhgomoaa.NoteN Go.Proofs.Ytedfcjcnhgomoaa.MsgA Go.Proofs.Ytedfcjcnhgomoaa.MsgD Go.Proofs.Ytedfcjcnhgomoaa.MsgE Go.Proofs.Ytedfcjcnhgomoaa.MsgW Go.Proofs.Ytedfcjcnhgomoaa.DecA Go.Proofs.Ytedfcjcnhgomoaa.DecB Go.Proofs.Ytedfcjcnhgomoaa.DecC
set_option linter.unusedSimpArgs false
set_option linter.unusedVariables false
def Ms.setN (m : Ms) (f : Int) (x : Int) : Ms := if f = 0 then { m with c := x } else if f = 1 then { m with e := x } else if f = 2 then { m with r := x } else if f = 3 then { m with s := x } else { m with d := x }
def putF (l : List Int) (f : Int) (p : Ms × At) : Ms × At :=
 if f = 5 then ({ p.1 with o := (runsP l p.2).1 }, (runsP l p.2).2)
 else if f = 6 then ({ p.1 with t := (p.2.text l).1 }, (p.2.text l).2)
 else if f = 7 then ({ p.1 with n := (notesP l p.2).1 }, (notesP l p.2).2)
 else (Ms.setN p.1 f (p.2.num l).1, (p.2.num l).2)
def putAll (l : List Int) : List Int → Ms × At → Ms × At
 | [], p => p
 | f :: fs, p => putAll l fs (putF l f p)
def readM (l : List Int) : Ms × At := putAll l (fieldsL (At.num l ⟨0, false⟩).1) (⟨(At.num l ⟨0, false⟩).1, 0, 0, 0, 0, 0, [], ⟨#[]⟩, []⟩, (At.num l ⟨0, false⟩).2)
def decOk (l : List Int) : Bool := (readM l).1.good && ((!(readM l).2.bad && decide (l.length - (readM l).2.a = 0)) && decide ((readM l).1.encL = l))
def noMs : Ms := ⟨0, 0, 0, 0, 0, 0, [], ⟨#[]⟩, []⟩
def decR (l : List Int) : Ms × Int := if decOk l then ((readM l).1, 0) else (noMs, 10)
theorem text_size (l : List Int) (s : At) : (s.text l).1.size ≤ l.length := by
 unfold At.text
 show (strOfNums (stepV [] s.bad _ _)).size ≤ _
 rw [strOfNums_size]
 unfold stepV
 split
 ·exact Nat.zero_le _
 ·unfold textL
  split
  ·exact Nat.zero_le _
  ·show (List.take _ (List.drop _ (l.drop s.a))).length ≤ _
   simp only [List.length_take, List.length_drop]
   omega
theorem run_size (l : List Int) (s : At) : (s.run l).1.f1.size ≤ l.length := by
 unfold At.run
 split
 ·exact text_size l _
 ·exact Nat.zero_le _
theorem runsR_small (l : List Int) : ∀ (n : Nat) (s : At) (acc : List EditL.Rn), (runsR l n s acc).1.length ≤ acc.length + n ∧ wgt (runsR l n s acc).1 ≤ wgt acc + n * (18 + l.length) := by
 have wa : ∀ (a b : List EditL.Rn), wgt (a ++ b) = wgt a + wgt b := by
  intro a b
  induction a with
  | nil => simp [wgt]
  | cons r a ih => rw [List.cons_append]; simp only [wgt]; rw [ih]; omega
 intro n
 induction n with
 | zero => intro s acc; exact ⟨Nat.le_refl _, by show wgt acc ≤ _; omega⟩
 | succ n ih =>
  intro s acc
  simp only [runsR]
  split
  ·exact ⟨Nat.zero_le _, Nat.zero_le _⟩
  ·have h := ih (s.run l).2 (acc ++ [(s.run l).1])
   have h2 := run_size l s
   rw [List.length_append, wa] at h
   simp only [List.length_singleton, wgt] at h
   rw [Nat.add_mul]
   omega
theorem notesR_small (l : List Int) : ∀ (n : Nat) (q : Int) (s : At) (acc : List Nt), (notesR l n q s acc).1.length ≤ acc.length + n := by
 intro n
 induction n with
 | zero => intro q s acc; exact Nat.le_refl _
 | succ n ih =>
  intro q s acc
  simp only [notesR]
  split
  ·exact Nat.zero_le _
  ·have h := ih (s.note l q).2.1 (s.note l q).2.2 (acc ++ [(s.note l q).1])
   rw [List.length_append] at h
   simp only [List.length_singleton] at h
   omega
theorem many_le (l : List Int) (s : At) : many l s ≤ 1 + l.length := by
 unfold many leftL
 simp only
 split <;> split <;> omega
theorem putF_small (l : List Int) (hl : l.length ≤ 500000) (f : Int) (p : Ms × At) (h : Small p.1) : Small (putF l f p).1 := by
 have h1 := runsR_small l (many l p.2) (p.2.num l).2 []
 have h2 := notesR_small l (many l p.2) 0 (p.2.num l).2 []
 have h3 := text_size l p.2
 have hm := many_le l p.2
 simp only [List.length_nil, wgt] at h1 h2
 have hw : many l p.2 * (18 + l.length) ≤ 500001 * 500018 := Nat.mul_le_mul (by omega) (by omega)
 unfold putF
 split
 ·exact ⟨by show (runsP l p.2).1.length ≤ _; unfold runsP; omega, by show wgt (runsP l p.2).1 ≤ _; unfold runsP; omega, h.t, h.n⟩
 split
 ·exact ⟨h.o, h.w, by show (p.2.text l).1.size ≤ _; omega, h.n⟩
 split
 ·exact ⟨h.o, h.w, h.t, by show (notesP l p.2).1.length ≤ _; unfold notesP; omega⟩
 ·show Small (Ms.setN p.1 f (p.2.num l).1)
  unfold Ms.setN
  repeat' split
  all_goals exact ⟨h.o, h.w, h.t, h.n⟩
theorem putAll_small (l : List Int) (hl : l.length ≤ 500000) : ∀ (fs : List Int) (p : Ms × At), Small p.1 → Small (putAll l fs p).1 := by
 intro fs
 induction fs with
 | nil => intro p h; exact h
 | cons f fs ih => intro p h; exact ih _ (putF_small l hl f p h)
theorem readM_small (l : List Int) (hl : l.length ≤ 500000) : Small (readM l).1 := putAll_small l hl _ _ ⟨Nat.zero_le _, Nat.zero_le _, Nat.zero_le _, Nat.zero_le _⟩
end Go.Proofs.Ytedfcjcnhgomoaa.DecM
end
-- MERGED YtedfcjcnhgomoaaDecL
section
namespace Go.Proofs.Ytedfcjcnhgomoaa.DecL
open Go.RowKit Go.Proofs.Ytedfcjcnhgomoaa.P Go.Proofs.Ytedfcjcnhgomoaa.Own Go.Proofs.Ytedfcjcnhgomoaa.Vy Go.Proofs.Ytedfcjcnhgomoaa.VaryR Go.Proofs.Ytedfcjcnhgomoaa.NoteN Go.Proofs.Ytedfcjcnhgomoaa.MsgA Go.Proofs.Ytedfcjcnhgomoaa.MsgD Go.Proofs.Ytedfcjcnhgomoaa.MsgE Go.Proofs.Ytedfcjcnhgomoaa.MsgW Go.Proofs.Ytedfcjcnhgomoaa.MsgR Go.Proofs.Ytedfcjcnhgomoaa.DecA Go.Proofs.Ytedfcjcnhgomoaa.DecB Go.Proofs.Ytedfcjcnhgomoaa.DecC Go.Proofs.Ytedfcjcnhgomoaa.DecM
set_option linter.unusedSimpArgs false
set_option linter.unusedVariables false
theorem putL_app (b : List Int) (n : Int) : putL b n = b ++ putL [] n := by
 unfold putL
 split
 ·simp
 ·simp
theorem putSL_app (b : List Int) (n : Int) : putSL b n = b ++ putSL [] n := by
 unfold putSL
 split
 ·simp
 ·exact putL_app _ _
theorem putTL_app (b s : List Int) : putTL b s = b ++ putTL [] s := by
 unfold putTL
 rw [putL_app, List.append_assoc]
theorem opStep_app (b : List Int) (r : EditL.Rn) : opStep b r = b ++ opStep [] r := by
 unfold opStep
 split
 ·exact putSL_app _ _
 ·rw [putTL_app, putSL_app, putTL_app (putSL [] _), List.append_assoc]
theorem opR_app : ∀ (l : List EditL.Rn) (b : List Int), opR l b = b ++ opR l [] := by
 intro l
 induction l with
 | nil => intro b; simp [opR]
 | cons r l ih => intro b; simp only [opR]; rw [ih (opStep b r), ih (opStep [] r), opStep_app b, List.append_assoc]
theorem noteStep_app (b : List Int) (q : Int) (x : Nt) : noteStep b q x = b ++ noteStep [] q x := by
 unfold noteStep
 rw [putL_app (putL (putL b _) _), putL_app (putL b _), putL_app b, putL_app (putL (putL [] _) _), putL_app (putL [] _) (wrap64 (x.f0.f1 - x.f0.f0)), List.append_assoc, List.append_assoc, List.append_assoc]
theorem noteR_app : ∀ (l : List Nt) (q : Int) (b : List Int), noteR l q b = b ++ noteR l q [] := by
 intro l
 induction l with
 | nil => intro q b; simp [noteR]
 | cons x l ih => intro q b; simp only [noteR]; rw [ih _ (noteStep b q x), ih _ (noteStep [] q x), noteStep_app b, List.append_assoc]
theorem fieldB_app (m : Ms) (f : Int) (b : List Int) : m.fieldB f b = b ++ m.fieldB f [] := by
 unfold Ms.fieldB
 repeat' split
 ·rw [opR_app, opR_app _ (putL [] _), putL_app b, List.append_assoc]
 ·exact putTL_app _ _
 ·rw [noteR_app, noteR_app _ _ (putL [] _), putL_app b, List.append_assoc]
 ·exact putL_app _ _
theorem encR_app (m : Ms) : ∀ (fs : List Int) (b : List Int), m.encR fs b = b ++ m.encR fs [] := by
 intro fs
 induction fs with
 | nil => intro b; simp [Ms.encR]
 | cons f fs ih => intro b; simp only [Ms.encR]; rw [ih (m.fieldB f b), ih (m.fieldB f []), fieldB_app m f b, List.append_assoc]
theorem ok_opStep {b : List Int} (h : Byt.Ok b) (r : EditL.Rn) : Byt.Ok (opStep b r) := by
 unfold opStep
 split
 ·exact ok_putSL h _
 ·exact ok_putTL (ok_putSL h _) (ok_numsOf _)
theorem ok_opR : ∀ {l : List EditL.Rn} {b : List Int}, Byt.Ok b → Byt.Ok (opR l b) := by
 intro l
 induction l with
 | nil => intro b h; exact h
 | cons r l ih => intro b h; exact ih (ok_opStep h r)
theorem ok_noteR : ∀ {l : List Nt} {q : Int} {b : List Int}, Byt.Ok b → Byt.Ok (noteR l q b) := by
 intro l
 induction l with
 | nil => intro q b h; exact h
 | cons x l ih => intro q b h; exact ih (ok_putL (ok_putL (ok_putL h _) _) _)
theorem ok_fieldB (m : Ms) (f : Int) {b : List Int} (h : Byt.Ok b) : Byt.Ok (m.fieldB f b) := by
 unfold Ms.fieldB
 repeat' split
 ·exact ok_opR (ok_putL h _)
 ·exact ok_putTL h (ok_numsOf _)
 ·exact ok_noteR (ok_putL h _)
 ·exact ok_putL h _
theorem ok_encR (m : Ms) : ∀ {fs : List Int} {b : List Int}, Byt.Ok b → Byt.Ok (m.encR fs b) := by
 intro fs
 induction fs with
 | nil => intro b h; exact h
 | cons f fs ih => intro b h; exact ih (ok_fieldB m f h)
theorem ok_encL (m : Ms) : Byt.Ok m.encL := ok_encR m (ok_putL Byt.ok_nil _)
structure On (l : List Int) (s : At) (xs : List Int) : Prop where
 ok : s.bad = false
 at_ : l.drop s.a = xs
 le : s.a ≤ l.length
theorem On.left {l xs : List Int} {s : At} (h : On l s xs) : l.length - s.a = xs.length := by
 have := congrArg List.length h.at_
 rwa [List.length_drop] at this
theorem On.step {l xs rest : List Int} {s : At} {k : Nat} (h : On l s (xs ++ rest)) (hk : k = xs.length) (h0 : k ≠ 0) : On l ⟨stepA s.bad s.a k, stepB s.bad k⟩ rest := by
 have hl := h.left
 rw [List.length_append] at hl
 have hle := h.le
 refine ⟨?_, ?_, ?_⟩
 ·show stepB s.bad k = false
  rw [h.ok]; unfold stepB; simpa using h0
 ·show l.drop (stepA s.bad s.a k) = rest
  rw [h.ok]
  show l.drop (s.a + k) = rest
  rw [← List.drop_drop, h.at_, hk, List.drop_left]
 ·show stepA s.bad s.a k ≤ _
  rw [h.ok]
  show s.a + k ≤ _
  omega
theorem stepV_on {α : Type} {l xs : List Int} {s : At} (h : On l s xs) (z : α) {k : Nat} (h0 : k ≠ 0) (x : α) : stepV z s.bad k x = x := by
 unfold stepV stepB
 rw [h.ok]
 simp [h0]
theorem enc_ne (n : Nat) : (enc n).length ≠ 0 := by have := enc_pos n; omega
theorem num_on {l rest : List Int} {s : At} {n : Int} (h0 : 0 ≤ n) (h1 : n ≤ M) (h : On l s (putL [] n ++ rest)) : (s.num l).1 = n ∧ On l (s.num l).2 rest := by
 obtain ⟨m, rfl⟩ : ∃ m : Nat, n = (m : Int) := ⟨n.toNat, by omega⟩
 rw [putL_good h1, List.nil_append] at h
 have he : numL (l.drop s.a) = ((m : Int), (enc m).length) := by rw [h.at_]; exact numL_enc m h1 rest
 unfold At.num
 rw [he]
 exact ⟨stepV_on h 0 (enc_ne m) _, h.step rfl (enc_ne m)⟩
theorem signed_on {l rest : List Int} {s : At} {n : Int} (h0 : -2305843009213693952 ≤ n) (h1 : n ≤ 2305843009213693952) (h : On l s (putSL [] n ++ rest)) : (s.signed l).1 = n ∧ On l (s.signed l).2 rest := by
 have hM : M = 4611686018427387904 := rfl
 have hz : 0 ≤ zig n ∧ zig n ≤ M := by rw [hM]; unfold zig; split <;> omega
 unfold putSL at h
 rw [if_neg (by omega)] at h
 obtain ⟨m, hm⟩ : ∃ m : Nat, zig n = (m : Int) := ⟨(zig n).toNat, by omega⟩
 rw [hm, putL_good (by omega), List.nil_append] at h
 have he : sgnL (l.drop s.a) = (n, (enc m).length) := by
  unfold sgnL
  rw [h.at_, numL_enc m (by omega) rest, ← hm, zag_zig]
 unfold At.signed
 rw [he]
 exact ⟨stepV_on h 0 (enc_ne m) _, h.step rfl (enc_ne m)⟩
theorem text_on {l rest : List Int} {s : At} {t : ByteArray} (h1 : (t.size : Int) ≤ M) (h : On l s (putTL [] (numsOf t) ++ rest)) : (s.text l).1 = t ∧ On l (s.text l).2 rest := by
 have hl : ((numsOf t).length : Int) ≤ M := by rw [numsOf_length]; exact h1
 have he : textL (l.drop s.a) = (numsOf t, (enc (numsOf t).length).length + (numsOf t).length) := by rw [h.at_]; exact textL_put _ _ hl
 have h0 : (enc (numsOf t).length).length + (numsOf t).length ≠ 0 := by have := enc_pos (numsOf t).length; omega
 unfold At.text
 rw [he]
 refine ⟨?_, h.step ?_ h0⟩
 ·show strOfNums (stepV [] s.bad _ _) = t
  rw [stepV_on h _ h0]
  exact strOf_numsOf t
 ·unfold putTL
  rw [putL_good hl, List.nil_append, List.length_append]
def okR (r : EditL.Rn) : Prop := EditL.knd r ≠ 0 ∧ r.f0 ≤ 16777216 ∧ r.f2 ≤ 16777216 ∧ r.f1.size ≤ 16777216
theorem fits_each : ∀ {l : List EditL.Rn} {i o : Int}, 0 ≤ i → 0 ≤ o → (∀ r ∈ l, EditL.knd r ≠ 0) → EditL.fits l i o = true → ∀ r ∈ l, okR r := by
 intro l
 induction l with
 | nil => intro i o _ _ _ _ r hr; cases hr
 | cons x l ih =>
  intro i o hi ho hk h r hr
  have h0 := EditL.knd_pos (hk x List.mem_cons_self)
  simp only [EditL.fits, Bool.and_eq_true, decide_eq_true_eq] at h
  obtain ⟨⟨⟨⟨a1, a2⟩, a3⟩, a4⟩, h5⟩ := h
  rcases List.mem_cons.1 hr with rfl | hr
  ·exact ⟨hk _ List.mem_cons_self, by omega, by omega, by omega⟩
  ·exact ih (by omega) (by omega) (fun y hy => hk y (List.mem_cons_of_mem _ hy)) h5 r hr
theorem good_each {l : List EditL.Rn} (h : EditL.good l = true) : (∀ r ∈ l, okR r) ∧ l.length ≤ 65536 := by
 obtain ⟨_, h2, h3, h4⟩ := EditL.good_ok h
 exact ⟨fits_each (Int.le_refl 0) (Int.le_refl 0) h4 h3, h2⟩
theorem opStep_ne {r : EditL.Rn} (hr : okR r) : 0 < (opStep [] r).length := by
 have h1 := EditL.knd_pos hr.1
 obtain ⟨_, h2, h3, h4⟩ := hr
 have hw : wrap64 (r.f0 - r.f2) = r.f0 - r.f2 := Byt.wrap_in _ (by omega)
 have hp : 0 < (putSL [] (r.f0 - r.f2)).length := by
  unfold putSL putL
  rw [if_neg (by omega), if_neg (by unfold zig; split <;> (have : M = 4611686018427387904 := rfl; omega)), List.nil_append]
  exact enc_pos _
 unfold opStep
 rw [hw]
 split
 ·exact hp
 ·rw [putTL_app, List.length_append]; omega
theorem opR_ne : ∀ {l : List EditL.Rn}, (∀ r ∈ l, okR r) → l.length ≤ (opR l []).length := by
 intro l
 induction l with
 | nil => intro _; exact Nat.zero_le _
 | cons r l ih =>
  intro h
  have h1 := opStep_ne (h r List.mem_cons_self)
  have h2 := ih fun x hx => h x (List.mem_cons_of_mem _ hx)
  simp only [opR]
  rw [opR_app, List.length_append, List.length_cons]
  omega
theorem run_on {l rest : List Int} {s : At} {r : EditL.Rn} (hr : okR r) (h : On l s (opStep [] r ++ rest)) : (s.run l).1 = r ∧ On l (s.run l).2 rest := by
 obtain ⟨k, x, y, z⟩ : True ∧ True ∧ True ∧ True := ⟨trivial, trivial, trivial, trivial⟩
 have h1 := EditL.knd_pos hr.1
 obtain ⟨h0, h2, h3, h4⟩ := hr
 have hw : wrap64 (r.f0 - r.f2) = r.f0 - r.f2 := Byt.wrap_in _ (by omega)
 unfold opStep at h
 rw [hw] at h
 obtain ⟨r0, r1, r2⟩ := r
 dsimp only at *
 rcases EditL.knd_cases ⟨r0, r1, r2⟩ with hk | hk | hk | hk
 ·obtain ⟨k0, k1, k2, _⟩ := hk
  dsimp only at k0 k1 k2
  subst k2
  obtain rfl := EditL.eq_E k1
  rw [if_pos k1, Int.sub_zero] at h
  obtain ⟨e1, e2⟩ := signed_on (by omega) (by omega) h
  unfold At.run
  rw [e1, if_neg (by omega)]
  refine ⟨?_, e2⟩
  rw [Byt.wrap_in (-r0) (by omega), if_neg (by omega), if_pos (by omega)]
  rfl
 ·obtain ⟨k0, k1, k2, _⟩ := hk
  dsimp only at k0 k1 k2
  subst k0 k2
  rw [if_neg (by omega), putTL_app, List.append_assoc, Int.sub_self] at h
  obtain ⟨e1, e2⟩ := signed_on (by omega) (by omega) h
  have hM : M = 4611686018427387904 := rfl
  obtain ⟨e3, e4⟩ := text_on (by omega) e2
  unfold At.run
  rw [if_pos e1]
  exact ⟨by rw [e3], e4⟩
 ·obtain ⟨k0, k1, k2, _⟩ := hk
  dsimp only at k0 k1 k2
  subst k0
  obtain rfl := EditL.eq_E k1
  rw [if_pos k1, Int.zero_sub] at h
  obtain ⟨e1, e2⟩ := signed_on (by omega) (by omega) h
  unfold At.run
  rw [e1, if_neg (by omega)]
  refine ⟨?_, e2⟩
  rw [Int.neg_neg, Byt.wrap_in r2 (by omega), if_pos (by omega), if_neg (by omega)]
  rfl
 ·exact absurd hk.1 h0
theorem runsR_on {l : List Int} : ∀ {rs : List EditL.Rn} {rest : List Int} {s : At} (acc : List EditL.Rn), (∀ r ∈ rs, okR r) → On l s (opR rs [] ++ rest) → (runsR l rs.length s acc).1 = acc ++ rs ∧ On l (runsR l rs.length s acc).2 rest := by
 intro rs
 induction rs with
 | nil => intro rest s acc _ h; exact ⟨by simp [runsR], h⟩
 | cons r rs ih =>
  intro rest s acc hr h
  simp only [opR] at h
  rw [opR_app, List.append_assoc] at h
  obtain ⟨e1, e2⟩ := run_on (hr r List.mem_cons_self) h
  rw [List.length_cons]
  simp only [runsR]
  rw [e2.ok, if_neg Bool.false_ne_true, e1]
  have h3 := ih (acc ++ [r]) (fun x hx => hr x (List.mem_cons_of_mem _ hx)) e2
  rw [List.append_assoc] at h3
  exact h3
theorem many_on {l rest : List Int} {s : At} {n : Nat} (hn : (n : Int) ≤ M) (h : On l s (putL [] (n : Int) ++ rest)) (hr : n ≤ rest.length) : many l s = n := by
 obtain ⟨e1, e2⟩ := num_on (by omega) hn h
 have hl := e2.left
 unfold many leftL
 rw [e1, e2.ok]
 simp only [Bool.false_eq_true, if_false]
 rw [if_neg (by omega), Int.toNat_natCast]
theorem runsP_on {l rest : List Int} {s : At} {rs : List EditL.Rn} (hr : ∀ r ∈ rs, okR r) (hn : rs.length ≤ 65536) (h : On l s (opR rs (putL [] (rs.length : Int)) ++ rest)) : (runsP l s).1 = rs ∧ On l (runsP l s).2 rest := by
 have hM : M = 4611686018427387904 := rfl
 rw [opR_app, List.append_assoc] at h
 have hlen := opR_ne hr
 have hm := many_on (by omega) h (by rw [List.length_append]; omega)
 obtain ⟨e1, e2⟩ := num_on (by omega) (by omega) h
 unfold runsP
 rw [hm]
 have := runsR_on [] hr e2
 rwa [List.nil_append] at this
theorem okX_iff {x : Nt} (h : okX x = true) : 0 ≤ x.f0.f0 ∧ x.f0.f0 ≤ x.f0.f1 ∧ x.f0.f1 ≤ 16777216 ∧ 0 ≤ x.f1 ∧ x.f1 ≤ 65536 := by
 unfold okX at h
 simp only [Bool.and_eq_true, decide_eq_true_eq] at h
 omega
theorem less_from {a b : Nt} (h : lessN a b = true) : a.f0.f0 ≤ b.f0.f0 := by
 unfold lessN at h
 split at h
 ·omega
 ·have := of_decide_eq_true h; omega
theorem noteStep_ne {q : Int} {x : Nt} (h : okX x = true) (h0 : 0 ≤ q) (h1 : q ≤ x.f0.f0) : 0 < (noteStep [] q x).length := by
 have hM : M = 4611686018427387904 := rfl
 have hx := okX_iff h
 unfold noteStep
 rw [putL_app, List.length_append]
 have hp : 0 < (putL [] x.f1).length := by
  unfold putL
  rw [if_neg (by omega), List.nil_append]
  exact enc_pos _
 omega
theorem noteR_ne : ∀ {ns : List Nt} {p : Option Nt} {q : Int}, fineR p ns = true → 0 ≤ q → (∀ x, p = some x → q = x.f0.f0) → (p = none → q = 0) → ns.length ≤ (noteR ns q []).length := by
 intro ns
 induction ns with
 | nil => intro p q _ _ _ _; exact Nat.zero_le _
 | cons x ns ih =>
  intro p q h h0 hp hp2
  simp only [fineR, Bool.and_eq_true] at h
  have hx := okX_iff h.1.1
  have hq : q ≤ x.f0.f0 := by
   cases p with
   | none => rw [hp2 rfl]; exact hx.1
   | some y => rw [hp y rfl]; exact less_from h.1.2
  have h1 := noteStep_ne h.1.1 h0 hq
  have h2 := ih (p := some x) (q := x.f0.f0) h.2 hx.1 (fun y e => by rw [Option.some.inj e]) (fun e => by cases e)
  simp only [noteR]
  rw [noteR_app, List.length_append, List.length_cons]
  omega
theorem note_on {l rest : List Int} {s : At} {q : Int} {x : Nt} (hx : okX x = true) (h0 : 0 ≤ q) (h1 : q ≤ x.f0.f0) (h : On l s (noteStep [] q x ++ rest)) : (s.note l q).1 = x ∧ (s.note l q).2.1 = x.f0.f0 ∧ On l (s.note l q).2.2 rest := by
 have hM : M = 4611686018427387904 := rfl
 obtain ⟨⟨a, b⟩, c⟩ := x
 have hx := okX_iff hx
 dsimp only at *
 unfold noteStep at h
 dsimp only at h
 rw [Byt.wrap_in (a - q) (by omega), Byt.wrap_in (b - a) (by omega), putL_app, putL_app (putL [] _), List.append_assoc, List.append_assoc] at h
 obtain ⟨e1, f1⟩ := num_on (by omega) (by omega) h
 obtain ⟨e2, f2⟩ := num_on (by omega) (by omega) f1
 obtain ⟨e3, f3⟩ := num_on (by omega) (by omega) f2
 have q1 : far (a - q) = a - q := by unfold far; rw [if_neg (by omega)]
 have q2 : far (b - a) = b - a := by unfold far; rw [if_neg (by omega)]
 have q3 : far a = a := by unfold far; rw [if_neg (by omega)]
 have q4 : wrap64 (q + (a - q)) = a := by rw [Byt.wrap_in _ (by omega)]; omega
 have q5 : wrap64 (a + (b - a)) = b := by rw [Byt.wrap_in _ (by omega)]; omega
 unfold At.note
 dsimp only
 rw [e1, e2, e3, q1, q2, q4, q3, q5]
 exact ⟨rfl, rfl, f3⟩
theorem notesR_on {l : List Int} : ∀ {ns : List Nt} {p : Option Nt} {q : Int} {rest : List Int} {s : At} (acc : List Nt), fineR p ns = true → 0 ≤ q → (∀ x, p = some x → q = x.f0.f0) → (p = none → q = 0) → On l s (noteR ns q [] ++ rest) → (notesR l ns.length q s acc).1 = acc ++ ns ∧ On l (notesR l ns.length q s acc).2 rest := by
 intro ns
 induction ns with
 | nil => intro p q rest s acc _ _ _ _ h; exact ⟨by simp [notesR], h⟩
 | cons x ns ih =>
  intro p q rest s acc h h0 hp hp2 ho
  simp only [fineR, Bool.and_eq_true] at h
  have hx := okX_iff h.1.1
  have hq : q ≤ x.f0.f0 := by
   cases p with
   | none => rw [hp2 rfl]; exact hx.1
   | some y => rw [hp y rfl]; exact less_from h.1.2
  simp only [noteR] at ho
  rw [noteR_app, List.append_assoc] at ho
  obtain ⟨e1, e2, e3⟩ := note_on h.1.1 h0 hq ho
  rw [List.length_cons]
  simp only [notesR]
  rw [e3.ok, if_neg Bool.false_ne_true, e1, e2]
  have h3 := ih (p := some x) (q := x.f0.f0) (acc ++ [x]) h.2 hx.1 (fun y e => by rw [Option.some.inj e]) (fun e => by cases e) e3
  rw [List.append_assoc] at h3
  exact h3
theorem notesP_on {l rest : List Int} {s : At} {ns : List Nt} (hf : fineL ns = true) (h : On l s (noteR ns 0 (putL [] (ns.length : Int)) ++ rest)) : (notesP l s).1 = ns ∧ On l (notesP l s).2 rest := by
 have hM : M = 4611686018427387904 := rfl
 unfold fineL at hf
 simp only [Bool.and_eq_true, decide_eq_true_eq] at hf
 rw [noteR_app, List.append_assoc] at h
 have hlen := noteR_ne (p := none) hf.1 (Int.le_refl 0) (fun x e => by cases e) (fun _ => rfl)
 have hm := many_on (by omega) h (by rw [List.length_append]; omega)
 obtain ⟨e1, e2⟩ := num_on (by omega) (by omega) h
 unfold notesP
 rw [hm]
 have := notesR_on [] hf.1 (Int.le_refl 0) (fun x e => by cases e) (fun _ => rfl) e2
 rwa [List.nil_append] at this
def cp (m : Ms) (f : Int) (x : Ms) : Ms := if f = 5 then { x with o := m.o } else if f = 6 then { x with t := m.t } else if f = 7 then { x with n := m.n } else Ms.setN x f (m.get f)
def cpAll (m : Ms) : List Int → Ms → Ms
 | [], x => x
 | f :: fs, x => cpAll m fs (cp m f x)
structure Fine (m : Ms) : Prop where
 num : ∀ f, 0 ≤ m.get f ∧ m.get f ≤ M
 o : EditL.good m.o = true
 t : (m.t.size : Int) ≤ 16777216
 n : fineL m.n = true
theorem putF_on {l rest : List Int} {s : At} {m x : Ms} (h : Fine m) (f : Int) (ho : On l s (m.fieldB f [] ++ rest)) : (putF l f (x, s)).1 = cp m f x ∧ On l (putF l f (x, s)).2 rest := by
 have hM : M = 4611686018427387904 := rfl
 unfold Ms.fieldB at ho
 unfold putF cp
 by_cases h5 : f = 5
 ·rw [if_pos h5] at ho
  rw [if_pos h5, if_pos h5]
  obtain ⟨g1, g2⟩ := good_each h.o
  obtain ⟨e1, e2⟩ := runsP_on g1 g2 ho
  exact ⟨by dsimp only; rw [e1], e2⟩
 rw [if_neg h5] at ho
 rw [if_neg h5, if_neg h5]
 by_cases h6 : f = 6
 ·rw [if_pos h6] at ho
  rw [if_pos h6, if_pos h6]
  have ht := h.t
  obtain ⟨e1, e2⟩ := text_on (by omega) ho
  exact ⟨by dsimp only; rw [e1], e2⟩
 rw [if_neg h6] at ho
 rw [if_neg h6, if_neg h6]
 by_cases h7 : f = 7
 ·rw [if_pos h7] at ho
  rw [if_pos h7, if_pos h7]
  obtain ⟨e1, e2⟩ := notesP_on h.n ho
  exact ⟨by dsimp only; rw [e1], e2⟩
 rw [if_neg h7] at ho
 rw [if_neg h7, if_neg h7]
 obtain ⟨e1, e2⟩ := num_on (h.num f).1 (h.num f).2 ho
 exact ⟨by dsimp only; rw [e1], e2⟩
theorem putAll_on {l : List Int} {m : Ms} (h : Fine m) : ∀ {fs : List Int} {x : Ms} {s : At}, On l s (m.encR fs []) → (putAll l fs (x, s)).1 = cpAll m fs x ∧ On l (putAll l fs (x, s)).2 [] := by
 intro fs
 induction fs with
 | nil => intro x s ho; exact ⟨rfl, ho⟩
 | cons f fs ih =>
  intro x s ho
  simp only [Ms.encR] at ho
  rw [encR_app] at ho
  obtain ⟨e1, e2⟩ := putF_on h (x := x) f ho
  have h3 := ih (x := cp m f x) e2
  rw [← e1] at h3
  simp only [putAll, cpAll]
  rw [← e1]
  exact h3
theorem fine_of {m : Ms} (h : m.good = true) : Fine m ∧ 1 ≤ m.k ∧ m.k ≤ 7 ∧ cpAll m (fieldsL m.k) ⟨m.k, 0, 0, 0, 0, 0, [], ⟨#[]⟩, []⟩ = m := by
 have hM : M = 4611686018427387904 := rfl
 rw [good_ref] at h
 unfold refGood restB numsB tailB numOk hasF at h
 simp only [Bool.and_eq_true, Bool.or_eq_true, decide_eq_true_eq] at h
 obtain ⟨h0, ⟨h5, h6, h7⟩, ⟨hc, he, hr, hs, hd⟩, hgo, hgt, hgn⟩ := h
 have hle : ∀ {a q : Int} {b : Prop} [Decidable b], a ≤ (if b then q else 0) → 0 ≤ q → a ≤ q := by
  intro a q b _ h hq
  split at h <;> omega
 refine ⟨⟨fun f => ?_, hgo, hgt, hgn⟩, ?_⟩
 ·unfold Ms.get
  have c2 := hle hc.2 (by decide)
  have e2 := hle he.2 (by decide)
  have r2 := hle hr.2 (by decide)
  have s2 := hle hs.2 (by decide)
  have d2 := hle hd.2 (by decide)
  repeat' split
  all_goals omega
 ·obtain ⟨k, c, e, r, s, d, o, t, n⟩ := m
  dsimp only at *
  have ho : o.length = 0 → o = [] := List.eq_nil_of_length_eq_zero
  have hn : n.length = 0 → n = [] := List.eq_nil_of_length_eq_zero
  have ht : t.size = 0 → t = EditL.E := EditL.eq_E
  have hk : k = 1 ∨ k = 2 ∨ k = 3 ∨ k = 4 ∨ k = 5 ∨ k = 6 ∨ k = 7 := by
   unfold fieldsL at h0
   repeat' split at h0
   all_goals first | omega | (simp at h0)
  rcases hk with rfl | rfl | rfl | rfl | rfl | rfl | rfl <;>
  ·simp [fieldsL] at h5 h6 h7 hc he hr hs hd
   refine ⟨by omega, by omega, ?_⟩
   simp [fieldsL, cpAll, cp, DecM.Ms.setN, Ms.get]
   repeat' apply And.intro
   all_goals first | omega | exact h5 | exact h7 | exact h6.symm
theorem read_enc {m : Ms} (h : m.good = true) : (readM m.encL).1 = m ∧ (readM m.encL).2.bad = false ∧ m.encL.length - (readM m.encL).2.a = 0 := by
 have hM : M = 4611686018427387904 := rfl
 obtain ⟨hf, k1, k7, hcp⟩ := fine_of h
 have he : m.encL = putL [] m.k ++ m.encR (fieldsL m.k) [] := by unfold Ms.encL; exact encR_app _ _ _
 have ho : On m.encL ⟨0, false⟩ (putL [] m.k ++ m.encR (fieldsL m.k) []) := ⟨rfl, by rw [← he]; rfl, Nat.zero_le _⟩
 obtain ⟨e1, e2⟩ := num_on (by omega) (by omega) ho
 unfold readM
 rw [e1]
 obtain ⟨e3, e4⟩ := putAll_on hf (x := ⟨m.k, 0, 0, 0, 0, 0, [], ⟨#[]⟩, []⟩) e2
 exact ⟨e3.trans hcp, e4.ok, e4.left⟩
theorem dec_enc {m : Ms} (h : m.good = true) : decR m.encL = (m, 0) := by
 obtain ⟨e1, e2, e3⟩ := read_enc h
 unfold decR decOk
 rw [e1, e2, e3, h]
 simp
theorem dec_no {l : List Int} (h : ∀ m : Ms, m.good = true → m.encL ≠ l) : decR l = (noMs, 10) := by
 unfold decR
 rw [if_neg]
 intro hd
 unfold decOk at hd
 simp only [Bool.and_eq_true, decide_eq_true_eq] at hd
 exact h _ hd.1 hd.2.2
end Go.Proofs.Ytedfcjcnhgomoaa.DecL
end
-- MERGED YtedfcjcnhgomoaaDecRp
section
namespace Go.Proofs.Ytedfcjcnhgomoaa.DecRp
open Go.RowKit Go.Proofs.Ytedfcjcnhgomoaa.P Go.Proofs.YtedfcjcnhgomoaaW.PrintWords Go.Proofs.YtedfcjcnhgomoaaW.PrintLast Go.Proofs.YtedfcjcnhgomoaaW.PrintMore Go.Proofs.Ytedfcjcnhgomoaa.EditK Go.Proofs.Ytedfcjcnhgomoaa.Own Go.Proofs.Ytedfcjcnhgomoaa.Vy Go.Proofs.Ytedfcjcnhgomoaa.NoteN Go.Proofs.Ytedfcjcnhgomoaa.MsgA Go.Proofs.Ytedfcjcnhgomoaa.MsgD Go.Proofs.Ytedfcjcnhgomoaa.MsgE Go.Proofs.Ytedfcjcnhgomoaa.MsgW Go.Proofs.Ytedfcjcnhgomoaa.MsgR Go.Proofs.Ytedfcjcnhgomoaa.DecM Go.Proofs.Ytedfcjcnhgomoaa.DecL
set_option linter.unusedSimpArgs false
set_option linter.unusedVariables false
theorem text_le (xs : List Int) : (strOfNums (textL xs).1).size ≤ xs.length := by
 rw [strOfNums_size]
 unfold textL
 split
 ·exact Nat.zero_le _
 ·simp only [List.length_take, List.length_drop]; omega
def opS (xs : List Int) : EditL.Rn × List Int × Bool :=
 if (sgnL xs).1 = 0 then (⟨mx (sgnL xs).1 0, strOfNums (textL (xs.drop (sgnL xs).2)).1, mx (wrap64 (-(sgnL xs).1)) 0⟩, (xs.drop (sgnL xs).2).drop (textL (xs.drop (sgnL xs).2)).2, decide ((sgnL xs).2 = 0) || decide ((textL (xs.drop (sgnL xs).2)).2 = 0))
 else (⟨mx (sgnL xs).1 0, ⟨#[]⟩, mx (wrap64 (-(sgnL xs).1)) 0⟩, xs.drop (sgnL xs).2, decide ((sgnL xs).2 = 0))
theorem opS_short {xs : List Int} (hok : Byt.Ok xs) : Byt.Ok (opS xs).2.1 ∧ (opS xs).2.1.length ≤ xs.length ∧ ((opS xs).2.2 = false → (opS xs).2.1.length < xs.length) ∧ (opS xs).1.f1.size ≤ xs.length := by
 have h1 : (sgnL xs).2 ≤ xs.length := numL_le hok
 have hok2 := Byt.ok_drop hok (sgnL xs).2
 have h2 := text_le (xs.drop (sgnL xs).2)
 rw [List.length_drop] at h2
 unfold opS
 split
 ·refine ⟨Byt.ok_drop hok2 _, ?_, ?_, ?_⟩
  ·simp only [List.length_drop]; omega
  ·simp only [List.length_drop, Bool.or_eq_false_iff, decide_eq_false_iff_not]; omega
  ·show (strOfNums _).size ≤ _; omega
 ·refine ⟨hok2, ?_, ?_, ?_⟩
  ·simp only [List.length_drop]; omega
  ·simp only [List.length_drop, decide_eq_false_iff_not]; omega
  ·exact Nat.zero_le _
def opLoop : Nat → List EditL.Rn → Int → Int → List Int → Bool → List EditL.Rn × List Int × Bool
 | 0, acc, _, _, xs, b => (acc, xs, b)
 | n + 1, acc, many, i, xs, b => if i < many ∧ b = false then opLoop n (acc ++ [(opS xs).1]) many (i + 1) (opS xs).2.1 (opS xs).2.2 else (acc, xs, b)
def dr (xs : List Int) : List Int := xs.drop (numL xs).2
def bd (xs : List Int) : Bool := decide ((numL xs).2 = 0)
def rOp (xs : List Int) (b : Bool) : List EditL.Rn × List Int × Bool := opLoop (xs.length + 1) [] (numL xs).1 0 (dr xs) (b || bd xs)
theorem wgt_app : ∀ (a b : List EditL.Rn), wgt (a ++ b) = wgt a + wgt b := by
 intro a b
 induction a with
 | nil => simp [wgt]
 | cons r a ih => rw [List.cons_append]; simp only [wgt]; rw [ih]; omega
theorem op_any (L : Nat) (many : Int) : ∀ (n : Nat) (xs : List Int) (acc : List EditL.Rn) (i : Int) (b : Bool), Byt.Ok xs → xs.length ≤ L →
  Byt.Ok (opLoop n acc many i xs b).2.1 ∧ (opLoop n acc many i xs b).2.1.length ≤ xs.length ∧ (opLoop n acc many i xs b).1.length ≤ acc.length + n ∧ wgt (opLoop n acc many i xs b).1 ≤ wgt acc + n * (18 + L) := by
 intro n
 induction n with
 | zero => intro xs acc i b hok hl; exact ⟨hok, Nat.le_refl _, Nat.le_refl _, by show wgt acc ≤ _; omega⟩
 | succ n ih =>
  intro xs acc i b hok hl
  simp only [opLoop]
  split
  ·obtain ⟨s1, s2, s3, s4⟩ := opS_short hok
   have hw : wgt (acc ++ [(opS xs).1]) ≤ wgt acc + (18 + L) := by rw [wgt_app]; simp only [wgt]; omega
   have hal : (acc ++ [(opS xs).1]).length = acc.length + 1 := by rw [List.length_append]; rfl
   have hmul : (n + 1) * (18 + L) = n * (18 + L) + (18 + L) := Nat.succ_mul _ _
   obtain ⟨e2, e3, e4, e5⟩ := ih (opS xs).2.1 (acc ++ [(opS xs).1]) (i + 1) (opS xs).2.2 s1 (by omega)
   exact ⟨e2, by omega, by omega, by omega⟩
  ·have hmul : (n + 1) * (18 + L) = n * (18 + L) + (18 + L) := Nat.succ_mul _ _
   exact ⟨hok, Nat.le_refl _, by dsimp only; omega, by dsimp only; omega⟩
theorem mx_pos {n : Int} (h : 0 < n) : mx n 0 = n := by unfold mx; rw [if_neg (by omega)]
theorem mx_neg {n : Int} (h : n ≤ 0) : mx n 0 = 0 := by unfold mx; split <;> omega
theorem numL_put {n : Int} (h0 : 0 ≤ n) (h1 : n ≤ M) (rest : List Int) : (numL (putL [] n ++ rest)).1 = n ∧ (putL [] n ++ rest).drop (numL (putL [] n ++ rest)).2 = rest ∧ (numL (putL [] n ++ rest)).2 ≠ 0 := by
 obtain ⟨m, rfl⟩ : ∃ m : Nat, n = (m : Int) := ⟨n.toNat, by omega⟩
 rw [putL_good h1, List.nil_append, numL_enc m h1 rest]
 exact ⟨rfl, List.drop_left, enc_ne m⟩
theorem sgnL_put {n : Int} (h0 : -2305843009213693952 ≤ n) (h1 : n ≤ 2305843009213693952) (rest : List Int) : (sgnL (putSL [] n ++ rest)).1 = n ∧ (putSL [] n ++ rest).drop (sgnL (putSL [] n ++ rest)).2 = rest ∧ (sgnL (putSL [] n ++ rest)).2 ≠ 0 := by
 have hM : M = 4611686018427387904 := rfl
 have hz : 0 ≤ zig n ∧ zig n ≤ M := by rw [hM]; unfold zig; split <;> omega
 have hp : putSL [] n = putL [] (zig n) := by unfold putSL; rw [if_neg (by omega)]
 obtain ⟨e1, e2, e3⟩ := numL_put hz.1 hz.2 rest
 rw [hp]
 exact ⟨by show zag (numL _).1 = n; rw [e1, zag_zig], e2, e3⟩
theorem textL_put2 {t : ByteArray} (h1 : (t.size : Int) ≤ M) (rest : List Int) : strOfNums (textL (putTL [] (numsOf t) ++ rest)).1 = t ∧ (putTL [] (numsOf t) ++ rest).drop (textL (putTL [] (numsOf t) ++ rest)).2 = rest ∧ (textL (putTL [] (numsOf t) ++ rest)).2 ≠ 0 := by
 have hl : ((numsOf t).length : Int) ≤ M := by rw [numsOf_length]; exact h1
 rw [textL_put _ _ hl]
 refine ⟨strOf_numsOf t, ?_, ?_⟩
 ·show (putTL [] (numsOf t) ++ rest).drop ((enc (numsOf t).length).length + (numsOf t).length) = rest
  rw [show (enc (numsOf t).length).length + (numsOf t).length = (putTL [] (numsOf t)).length by unfold putTL; rw [putL_good hl, List.nil_append, List.length_append]]
  exact List.drop_left
 ·show (enc (numsOf t).length).length + (numsOf t).length ≠ 0
  have := enc_pos (numsOf t).length; omega
theorem opS_put {r : EditL.Rn} (hr : okR r) (rest : List Int) : opS (opStep [] r ++ rest) = (r, rest, false) := by
 have hM : M = 4611686018427387904 := rfl
 have h1 := EditL.knd_pos hr.1
 obtain ⟨h0, h2, h3, h4⟩ := hr
 have hw : wrap64 (r.f0 - r.f2) = r.f0 - r.f2 := Byt.wrap_in _ (by omega)
 unfold opStep
 rw [hw]
 obtain ⟨r0, r1, r2⟩ := r
 dsimp only at *
 rcases EditL.knd_cases ⟨r0, r1, r2⟩ with hk | hk | hk | hk
 ·obtain ⟨k0, k1, k2, _⟩ := hk
  dsimp only at k0 k1 k2
  subst k2
  obtain rfl := EditL.eq_E k1
  rw [if_pos k1, Int.sub_zero]
  obtain ⟨e1, e2, e3⟩ := sgnL_put (n := r0) (by omega) (by omega) rest
  unfold opS
  rw [e1, e2, if_neg (by omega), decide_eq_false e3, mx_pos k0, Byt.wrap_in (-r0) (by omega), mx_neg (by omega)]
  rfl
 ·obtain ⟨k0, k1, k2, _⟩ := hk
  dsimp only at k0 k1 k2
  subst k0 k2
  rw [if_neg (by omega), putTL_app, List.append_assoc, Int.sub_self]
  obtain ⟨e1, e2, e3⟩ := sgnL_put (n := 0) (by omega) (by omega) (putTL [] (numsOf r1) ++ rest)
  obtain ⟨f1, f2, f3⟩ := textL_put2 (t := r1) (by omega) rest
  unfold opS
  rw [e1, e2, if_pos rfl, decide_eq_false e3, f1, f2, decide_eq_false f3, show wrap64 (-(0 : Int)) = 0 by unfold wrap64; omega, mx_neg (Int.le_refl 0)]
  rfl
 ·obtain ⟨k0, k1, k2, _⟩ := hk
  dsimp only at k0 k1 k2
  subst k0
  obtain rfl := EditL.eq_E k1
  rw [if_pos k1, Int.zero_sub]
  obtain ⟨e1, e2, e3⟩ := sgnL_put (n := -r2) (by omega) (by omega) rest
  unfold opS
  rw [e1, e2, if_neg (by omega), decide_eq_false e3, mx_neg (by omega), Int.neg_neg, Byt.wrap_in r2 (by omega), mx_pos k2]
  rfl
 ·exact absurd hk.1 h0
theorem op_on (rest : List Int) : ∀ (rs : List EditL.Rn) (n : Nat) (acc : List EditL.Rn) (i many : Int), (∀ r ∈ rs, okR r) → rs.length ≤ n → many = i + rs.length → opLoop n acc many i (opR rs [] ++ rest) false = (acc ++ rs, rest, false) := by
 intro rs
 induction rs with
 | nil =>
  intro n acc i many _ _ hmi
  rw [List.append_nil]
  cases n with
  | zero => rfl
  | succ n =>
   simp only [opLoop]
   rw [if_neg (fun h => by simp only [List.length_nil] at hmi; omega)]
   rfl
 | cons r rs ih =>
  intro n acc i many hr hn hmi
  simp only [List.length_cons] at hmi hn
  obtain ⟨n, rfl⟩ : ∃ m, n = m + 1 := ⟨n - 1, by omega⟩
  have hr1 := hr r List.mem_cons_self
  have he : opR (r :: rs) [] ++ rest = opStep [] r ++ (opR rs [] ++ rest) := by
   simp only [opR]
   rw [opR_app, List.append_assoc]
  have h3 := ih n (acc ++ [r]) (i + 1) many (fun x hx => hr x (List.mem_cons_of_mem _ hx)) (by omega) (by omega)
  rw [he]
  simp only [opLoop]
  rw [if_pos ⟨by omega, trivial⟩, opS_put hr1]
  rw [List.append_assoc] at h3
  exact h3
theorem dr_len {xs : List Int} : (dr xs).length ≤ xs.length := by unfold dr; rw [List.length_drop]; omega
theorem rop_any {L : Nat} {xs : List Int} (hok : Byt.Ok xs) (hl : xs.length ≤ L) (b : Bool) : Byt.Ok (rOp xs b).2.1 ∧ (rOp xs b).2.1.length ≤ xs.length ∧ (rOp xs b).1.length ≤ L + 1 ∧ wgt (rOp xs b).1 ≤ (L + 1) * (18 + L) := by
 have hd := dr_len (xs := xs)
 obtain ⟨e2, e3, e4, e5⟩ := op_any L (numL xs).1 (xs.length + 1) (dr xs) [] 0 (b || bd xs) (Byt.ok_drop hok _) (by omega)
 have hm : (xs.length + 1) * (18 + L) ≤ (L + 1) * (18 + L) := Nat.mul_le_mul_right _ (by omega)
 simp only [List.length_nil, wgt] at e4 e5
 unfold rOp
 exact ⟨e2, by omega, by omega, by omega⟩
theorem rop_on {rs : List EditL.Rn} {rest : List Int} (hr : ∀ r ∈ rs, okR r) (hn : rs.length ≤ 65536) : rOp (opR rs (putL [] (rs.length : Int)) ++ rest) false = (rs, rest, false) := by
 have hM : M = 4611686018427387904 := rfl
 have hlen := opR_ne hr
 rw [opR_app, List.append_assoc]
 obtain ⟨e1, e2, e3⟩ := numL_put (n := (rs.length : Int)) (by omega) (by omega) (opR rs [] ++ rest)
 unfold rOp bd dr
 rw [e1, e2, decide_eq_false e3]
 have := op_on rest rs ((putL [] (rs.length : Int) ++ (opR rs [] ++ rest)).length + 1) [] 0 (rs.length : Int) hr (by simp only [List.length_append]; omega) (by omega)
 rw [List.nil_append] at this
 exact this
def noteLoop : Nat → List Nt → Int → Int → Int → List Int → Bool → List Nt × List Int × Bool
 | 0, acc, _, _, _, xs, b => (acc, xs, b)
 | n + 1, acc, many, q, i, xs, b => if i < many ∧ b = false then (if 16777216 < (numL xs).1 ∨ 16777216 < (numL (dr xs)).1 then ([], [], true) else noteLoop n (acc ++ [⟨⟨wrap64 (q + (numL xs).1), wrap64 (wrap64 (q + (numL xs).1) + (numL (dr xs)).1)⟩, (numL (dr (dr xs))).1⟩]) many (wrap64 (q + (numL xs).1)) (i + 1) (dr (dr (dr xs))) ((bd xs || bd (dr xs)) || bd (dr (dr xs)))) else (acc, xs, b)
def rNotes (xs : List Int) (b : Bool) : List Nt × List Int × Bool := noteLoop (xs.length + 1) [] (numL xs).1 0 0 (dr xs) (b || bd xs)
theorem dr_short {xs : List Int} (hok : Byt.Ok xs) : Byt.Ok (dr xs) ∧ (dr xs).length ≤ xs.length ∧ (bd xs = false → (dr xs).length < xs.length) := by
 have h1 := numL_le hok
 unfold dr bd
 refine ⟨Byt.ok_drop hok _, by rw [List.length_drop]; omega, fun h => ?_⟩
 rw [List.length_drop]
 have := of_decide_eq_false h
 omega
theorem note_any (many : Int) : ∀ (n : Nat) (xs : List Int) (acc : List Nt) (q i : Int) (b : Bool), Byt.Ok xs →
  Byt.Ok (noteLoop n acc many q i xs b).2.1 ∧ (noteLoop n acc many q i xs b).2.1.length ≤ xs.length ∧ (noteLoop n acc many q i xs b).1.length ≤ acc.length + n := by
 intro n
 induction n with
 | zero => intro xs acc q i b hok; exact ⟨hok, Nat.le_refl _, Nat.le_refl _⟩
 | succ n ih =>
  intro xs acc q i b hok
  obtain ⟨s1, s2, s3⟩ := dr_short hok
  obtain ⟨t1, t2, t3⟩ := dr_short s1
  obtain ⟨u1, u2, u3⟩ := dr_short t1
  simp only [noteLoop]
  split
  ·split
   ·exact ⟨Byt.ok_nil, Nat.zero_le _, Nat.zero_le _⟩
   ·obtain ⟨e2, e3, e4⟩ := ih (dr (dr (dr xs))) (acc ++ [⟨⟨wrap64 (q + (numL xs).1), wrap64 (wrap64 (q + (numL xs).1) + (numL (dr xs)).1)⟩, (numL (dr (dr xs))).1⟩]) (wrap64 (q + (numL xs).1)) (i + 1) ((bd xs || bd (dr xs)) || bd (dr (dr xs))) u1
    rw [List.length_append] at e4
    simp only [List.length_singleton] at e4
    exact ⟨e2, by omega, by omega⟩
  ·exact ⟨hok, Nat.le_refl _, by dsimp only; omega⟩
theorem note_put {q : Int} {x : Nt} (hx : okX x = true) (h0 : 0 ≤ q) (h1 : q ≤ x.f0.f0) (rest : List Int) {xs : List Int} (he : xs = noteStep [] q x ++ rest) : (numL xs).1 = x.f0.f0 - q ∧ (numL (dr xs)).1 = x.f0.f1 - x.f0.f0 ∧ (numL (dr (dr xs))).1 = x.f1 ∧ dr (dr (dr xs)) = rest ∧ ((bd xs || bd (dr xs)) || bd (dr (dr xs))) = false := by
 have hM : M = 4611686018427387904 := rfl
 have hx := okX_iff hx
 unfold noteStep at he
 rw [Byt.wrap_in (x.f0.f0 - q) (by omega), Byt.wrap_in (x.f0.f1 - x.f0.f0) (by omega), putL_app, putL_app (putL [] _), List.append_assoc, List.append_assoc] at he
 obtain ⟨a1, a2, a3⟩ := numL_put (n := x.f0.f0 - q) (by omega) (by omega) (putL [] (x.f0.f1 - x.f0.f0) ++ (putL [] x.f1 ++ rest))
 obtain ⟨b1, b2, b3⟩ := numL_put (n := x.f0.f1 - x.f0.f0) (by omega) (by omega) (putL [] x.f1 ++ rest)
 obtain ⟨c1, c2, c3⟩ := numL_put (n := x.f1) (by omega) (by omega) rest
 rw [← he] at a1 a2 a3
 have d1 : dr xs = putL [] (x.f0.f1 - x.f0.f0) ++ (putL [] x.f1 ++ rest) := a2
 rw [← d1] at b1 b2 b3
 have d2 : dr (dr xs) = putL [] x.f1 ++ rest := b2
 rw [← d2] at c1 c2 c3
 refine ⟨a1, b1, c1, c2, ?_⟩
 unfold bd
 rw [decide_eq_false a3, decide_eq_false b3, decide_eq_false c3]
 rfl
theorem note_on2 (rest : List Int) : ∀ (ns : List Nt) (n : Nat) (p : Option Nt) (acc : List Nt) (q i many : Int), fineR p ns = true → 0 ≤ q → (∀ x, p = some x → q = x.f0.f0) → (p = none → q = 0) → ns.length ≤ n → many = i + ns.length →
  noteLoop n acc many q i (noteR ns q [] ++ rest) false = (acc ++ ns, rest, false) := by
 intro ns
 induction ns with
 | nil =>
  intro n p acc q i many _ _ _ _ _ hmi
  rw [List.append_nil]
  cases n with
  | zero => rfl
  | succ n =>
   simp only [noteLoop]
   rw [if_neg (fun h => by simp only [List.length_nil] at hmi; omega)]
   rfl
 | cons x ns ih =>
  intro n p acc q i many h hq0 hp hp2 hn hmi
  simp only [List.length_cons] at hmi hn
  obtain ⟨n, rfl⟩ : ∃ m, n = m + 1 := ⟨n - 1, by omega⟩
  simp only [fineR, Bool.and_eq_true] at h
  have hx := okX_iff h.1.1
  have hq : q ≤ x.f0.f0 := by
   cases p with
   | none => rw [hp2 rfl]; exact hx.1
   | some y => rw [hp y rfl]; exact less_from h.1.2
  have he : noteR (x :: ns) q [] ++ rest = noteStep [] q x ++ (noteR ns x.f0.f0 [] ++ rest) := by
   simp only [noteR]
   rw [noteR_app, List.append_assoc]
  rw [he]
  obtain ⟨xs, hxs⟩ : ∃ xs, xs = noteStep [] q x ++ (noteR ns x.f0.f0 [] ++ rest) := ⟨_, rfl⟩
  obtain ⟨a1, a2, a3, a4, a5⟩ := note_put h.1.1 hq0 hq (noteR ns x.f0.f0 [] ++ rest) hxs
  have h3 := ih n (some x) (acc ++ [x]) x.f0.f0 (i + 1) many h.2 hx.1 (fun y e => by rw [Option.some.inj e]) (fun e => by cases e) (by omega) (by omega)
  rw [← hxs]
  simp only [noteLoop]
  rw [if_pos ⟨by omega, trivial⟩, a1, a2, a3, a4, a5, if_neg (by omega)]
  have q4 : wrap64 (q + (x.f0.f0 - q)) = x.f0.f0 := by rw [Byt.wrap_in _ (by omega)]; omega
  have q5 : wrap64 (x.f0.f0 + (x.f0.f1 - x.f0.f0)) = x.f0.f1 := by rw [Byt.wrap_in _ (by omega)]; omega
  rw [q4, q5]
  rw [List.append_assoc] at h3
  exact h3
theorem rnotes_any {xs : List Int} (hok : Byt.Ok xs) (b : Bool) : Byt.Ok (rNotes xs b).2.1 ∧ (rNotes xs b).2.1.length ≤ xs.length ∧ (rNotes xs b).1.length ≤ xs.length + 1 := by
 have hd := dr_len (xs := xs)
 obtain ⟨e2, e3, e4⟩ := note_any (numL xs).1 (xs.length + 1) (dr xs) [] 0 0 (b || bd xs) (Byt.ok_drop hok _)
 simp only [List.length_nil] at e4
 unfold rNotes
 exact ⟨e2, by omega, by omega⟩
theorem rnotes_on {ns : List Nt} {rest : List Int} (hf : fineL ns = true) : rNotes (noteR ns 0 (putL [] (ns.length : Int)) ++ rest) false = (ns, rest, false) := by
 have hM : M = 4611686018427387904 := rfl
 unfold fineL at hf
 simp only [Bool.and_eq_true, decide_eq_true_eq] at hf
 have hlen := noteR_ne (p := none) hf.1 (Int.le_refl 0) (fun x e => by cases e) (fun _ => rfl)
 rw [noteR_app, List.append_assoc]
 obtain ⟨e1, e2, e3⟩ := numL_put (n := (ns.length : Int)) (by omega) (by omega) (noteR ns 0 [] ++ rest)
 unfold rNotes bd dr
 rw [e1, e2, decide_eq_false e3]
 have := note_on2 rest ns ((putL [] (ns.length : Int) ++ (noteR ns 0 [] ++ rest)).length + 1) none [] 0 0 (ns.length : Int) hf.1 (Int.le_refl _) (fun x e => by cases e) (fun _ => rfl) (by simp only [List.length_append]; omega) (by omega)
 rw [List.nil_append] at this
 exact this
structure St where
 m : Ms
 xs : List Int
 b : Bool
def St.put (f : Int) (s : St) : St :=
 if f = 5 then ⟨{ s.m with o := (rOp s.xs s.b).1 }, (rOp s.xs s.b).2.1, (rOp s.xs s.b).2.2⟩
 else if f = 6 then ⟨{ s.m with t := strOfNums (textL s.xs).1 }, s.xs.drop (textL s.xs).2, s.b || decide ((textL s.xs).2 = 0)⟩
 else if f = 7 then ⟨{ s.m with n := (rNotes s.xs s.b).1 }, (rNotes s.xs s.b).2.1, (rNotes s.xs s.b).2.2⟩
 else ⟨DecM.Ms.setN s.m f (numL s.xs).1, dr s.xs, s.b || bd s.xs⟩
def St.all : List Int → St → St
 | [], s => s
 | f :: fs, s => St.all fs (s.put f)
def rRead (l : List Int) : St := St.all (fieldsL (numL l).1) ⟨⟨(numL l).1, 0, 0, 0, 0, 0, [], ⟨#[]⟩, []⟩, dr l, bd l⟩
structure St.Small (s : St) : Prop where
 m : MsgE.Small s.m
 ok : Byt.Ok s.xs
 le : s.xs.length ≤ 500000
theorem put_small {s : St} (h : s.Small) (f : Int) : (s.put f).Small := by
 obtain ⟨hs, hok, hl⟩ := h
 have h3 := text_le s.xs
 obtain ⟨a1, a2, a3, a4⟩ := rop_any (L := 500000) hok hl s.b
 obtain ⟨b1, b2, b3⟩ := rnotes_any hok s.b
 unfold St.put
 split
 ·exact ⟨⟨by show (rOp s.xs s.b).1.length ≤ _; omega, by show wgt (rOp s.xs s.b).1 ≤ _; omega, hs.t, hs.n⟩, a1, by show (rOp s.xs s.b).2.1.length ≤ _; omega⟩
 split
 ·exact ⟨⟨hs.o, hs.w, by show (strOfNums _).size ≤ _; omega, hs.n⟩, Byt.ok_drop hok _, by show (s.xs.drop _).length ≤ _; rw [List.length_drop]; omega⟩
 split
 ·exact ⟨⟨hs.o, hs.w, hs.t, by show (rNotes s.xs s.b).1.length ≤ _; omega⟩, b1, by show (rNotes s.xs s.b).2.1.length ≤ _; omega⟩
 ·refine ⟨?_, Byt.ok_drop hok _, by show (dr s.xs).length ≤ _; have := dr_len (xs := s.xs); omega⟩
  show MsgE.Small (DecM.Ms.setN s.m f _)
  unfold DecM.Ms.setN
  repeat' split
  all_goals exact ⟨hs.o, hs.w, hs.t, hs.n⟩
theorem start_small {l : List Int} (hok : Byt.Ok l) (hl : l.length ≤ 500000) : (St.mk ⟨(numL l).1, 0, 0, 0, 0, 0, [], ⟨#[]⟩, []⟩ (dr l) (bd l)).Small :=
 ⟨⟨Nat.zero_le _, Nat.zero_le _, Nat.zero_le _, Nat.zero_le _⟩, Byt.ok_drop hok _, by show (dr l).length ≤ _; have := dr_len (xs := l); omega⟩
theorem put_on {m : Ms} (hm : Fine m) (f : Int) (x : Ms) (rest : List Int) : St.put f ⟨x, m.fieldB f [] ++ rest, false⟩ = ⟨cp m f x, rest, false⟩ := by
 have hM : M = 4611686018427387904 := rfl
 unfold St.put cp Ms.fieldB
 by_cases h5 : f = 5
 ·rw [if_pos h5, if_pos h5, if_pos h5]
  obtain ⟨g1, g2⟩ := good_each hm.o
  rw [rop_on g1 g2]
 rw [if_neg h5, if_neg h5, if_neg h5]
 by_cases h6 : f = 6
 ·rw [if_pos h6, if_pos h6, if_pos h6]
  have ht := hm.t
  obtain ⟨e1, e2, e3⟩ := textL_put2 (t := m.t) (by omega) rest
  dsimp only
  rw [e1, e2, decide_eq_false e3]
  rfl
 rw [if_neg h6, if_neg h6, if_neg h6]
 by_cases h7 : f = 7
 ·rw [if_pos h7, if_pos h7, if_pos h7, rnotes_on hm.n]
 rw [if_neg h7, if_neg h7, if_neg h7]
 obtain ⟨n1, n2⟩ := hm.num f
 obtain ⟨e1, e2, e3⟩ := numL_put n1 n2 rest
 unfold dr bd
 dsimp only
 rw [e1, e2, decide_eq_false e3]
 rfl
theorem all_on {m : Ms} (hm : Fine m) : ∀ (fs : List Int) (x : Ms), St.all fs ⟨x, m.encR fs [], false⟩ = ⟨cpAll m fs x, [], false⟩ := by
 intro fs
 induction fs with
 | nil => intro x; rfl
 | cons f fs ih =>
  intro x
  have he : m.encR (f :: fs) [] = m.fieldB f [] ++ m.encR fs [] := by
   simp only [Ms.encR]
   exact encR_app _ _ _
  rw [he]
  simp only [St.all, cpAll]
  rw [put_on hm]
  exact ih (cp m f x)
theorem rread_enc {m : Ms} (h : m.good = true) : (rRead m.encL).m = m ∧ (rRead m.encL).b = false := by
 have hM : M = 4611686018427387904 := rfl
 obtain ⟨hf, k1, k7, hcp⟩ := fine_of h
 have he : m.encL = putL [] m.k ++ m.encR (fieldsL m.k) [] := by unfold Ms.encL; exact encR_app _ _ _
 obtain ⟨e1, e2, e3⟩ := numL_put (n := m.k) (by omega) (by omega) (m.encR (fieldsL m.k) [])
 rw [← he] at e1 e2 e3
 unfold rRead dr bd
 rw [e1, e2, decide_eq_false e3, all_on hf, hcp]
 exact ⟨rfl, rfl⟩
theorem rdec_eq (l : List Int) : decR l = if (rRead l).b = false ∧ (rRead l).m.good = true ∧ (rRead l).m.encL = l then ((rRead l).m, 0) else (noMs, 10) := by
 by_cases hex : ∃ m : Ms, m.good = true ∧ m.encL = l
 ·obtain ⟨m, hg, rfl⟩ := hex
  obtain ⟨e1, e2⟩ := rread_enc hg
  rw [e1, e2, if_pos ⟨rfl, hg, rfl⟩, dec_enc hg]
 ·rw [if_neg (fun h => hex ⟨_, h.2⟩), dec_no (fun m hg he => hex ⟨m, hg, he⟩)]
end Go.Proofs.Ytedfcjcnhgomoaa.DecRp
end
-- MERGED YtedfcjcnhgomoaaPvariorumref11Readnum
section
namespace Go.Proofs.Ytedfcjcnhgomoaa.P
open Go.RowKit Go.Proofs.YtedfcjcnhgomoaaW.PrintWords Go.Proofs.YtedfcjcnhgomoaaW.PrintLast Go.Proofs.YtedfcjcnhgomoaaW.PrintMore
attribute [local go_sem] max2_int min2_int max_two min_two max_three min_three max_four min_four   -- for this text's walks alone
open Go.Proofs.Ytedfcjcnhgomoaa.Press
set_option linter.unusedVariables false
set_option linter.unusedSimpArgs false
abbrev dnumB0 : Array Bool := #[true, false, false, false, false, false, false, false, false, false, false, false, false, false]
abbrev dnumB1 : Array Bool := #[true, true, false, false, false, false, false, false, false, false, false, false, false, false]
abbrev dnumB2 : Array Bool := #[true, true, false, true, false, false, false, false, false, false, false, false, false, false]
abbrev dnumB3 : Array Bool := #[true, true, false, true, false, true, false, false, false, false, false, false, false, false]
abbrev dnumB4 : Array Bool := #[true, true, true, true, true, true, false, false, false, false, false, false, false, false]
abbrev dnumB5 : Array Bool := #[true, true, true, true, true, true, true, true, false, false, false, false, false, false]
abbrev dnumB6 : Array Bool := #[true, true, true, true, true, true, true, true, true, true, true, false, false, false]
abbrev dnumB7 : Array Bool := #[true, true, true, true, true, true, true, true, true, true, true, true, false, false]
abbrev dnumB8 : Array Bool := #[true, true, true, true, true, true, true, true, true, true, true, true, true, false]
abbrev dnumB9 : Array Bool := #[true, true, true, true, true, true, true, true, true, false, false, false, false, false]
abbrev dnumB10 : Array Bool := #[true, true, true, true, true, true, true, true, true, true, false, false, false, false]
abbrev dnumB11 : Array Bool := #[true, true, true, true, false, true, false, false, false, false, false, false, false, false]
abbrev dnumB12 : Array Bool := #[true, true, true, true, true, true, true, false, false, false, false, false, false, false]
abbrev dnumB13 : Array Bool := #[false, false, false, false, false, false, false, false, false, false, false, false, false, false]
abbrev dnumB14 : Array Bool := #[true, true, true, true, true, true, true, true, true, true, true, true, true, true]
def variorumref11_Read_num.f (k : Nat) (l0_0 : List Int) (a0_1 : Bool) : Option (Int × List Int × Bool) := (variorumref01_Num.f k l0_0).bind fun bt407 => (if 0 ≤ bt407.2 then (if bt407.2 ≤ (l0_0.length : Int) then ((some (l0_0.drop (bt407.2 : Int).toNat : List Int)).bind fun y409 => (if a0_1 = true then (some (bt407.1, y409, true)) else (some (bt407.1, y409, (bt407.2 == 0))))) else (none)) else (none))
def variorumref11_Read_num.T2 : Bool × List (List Nat × List Nat) := (true, [([], []), ([], []), ([1], [1]), ([], []), ([2, 3], [2, 3]), ([], []), ([5], [5]), ([6], [6]), ([7], [7]), ([8, 7], [7, 8]), ([7, 9], [7, 9]), ([4, 10], [4, 10]), ([0, 7, 0], [0]), ([11, 12, 0, 1, 2, 3, 4, 5, 6, 7, 8, 9, 10, 11, 12], [11])])
def variorumref11_Read_num.B2 : List Nat := [0, 0, 2, 0, 14, 0, 32, 96, 224, 480, 992, 2046, 225, 8191]
theorem variorumref11_Read_num.tab2 : rtab .any (opsOf Try.f79 2) = variorumref11_Read_num.T2 := by kernel_rfl
theorem variorumref11_Read_num.bits2 : waitsOk variorumref11_Read_num.T2.2 variorumref11_Read_num.B2 = true := by kernel_rfl
set_option maxHeartbeats 8000000 in
set_option maxRecDepth 100000 in
theorem variorumref11_Read_num.calls (k : Nat) (P0_0_ : Nat → Prop) (A0_0 : Option Addr) (c0_0 : Nat) (l0_0 : List Int) (a0_1 : Bool) (r1 : Int) (r2 : List Int) (r3 : Bool) (w : World) (hs0_0 : Kd.V (Kd.int .u8) 5 w w.heap.size (fun k_ => P0_0_ k_) (.slice A0_0 l0_0.length c0_0) l0_0) (h : variorumref11_Read_num.f k l0_0 a0_1 = some (r1, r2, r3)) :
  Calls Try.prog 79 #[.agg #[.slice A0_0 l0_0.length c0_0, .bool a0_1]] w fun e w' => ∃ v1_ : Value, e = .returned (.tuple #[.int .i64 r1, .agg #[v1_, .bool r3]]) ∧ Kd.V (Kd.int .u8) 5 w' w.heap.size (fun k_ => (P0_0_ k_ ∨ w.heap.size ≤ k_)) v1_ r2 ∧ Below w.heap.size w w' := by
 have hu119 := Try.underlying119
 have HO0_0 := Aside0.mk (show Kd.V (Kd.int .u8) 5 w w.heap.size (fun k_ => (P0_0_ k_ ∨ w.heap.size ≤ k_)) (.slice A0_0 l0_0.length c0_0) l0_0 from Kd.V_mono hs0_0 (fun k_ hk => .inl hk))
 have HB := Aside0.mk (Below.refl w.heap.size w)
 have H : ((variorumref01_Num.f k l0_0).bind fun bt407 => (if 0 ≤ bt407.2 then (if bt407.2 ≤ (l0_0.length : Int) then ((some (l0_0.drop (bt407.2 : Int).toNat : List Int)).bind fun y409 => (if a0_1 = true then (some (bt407.1, y409, true)) else (some (bt407.1, y409, (bt407.2 == 0))))) else (none)) else (none))) = some (r1, r2, r3) := h
 clear h
 replace H := Option.bind_eq_some_iff.mp H
 obtain ⟨⟨t407, t408⟩, A20, H⟩ := H
 replace H : (if 0 ≤ t408 then (if t408 ≤ (l0_0.length : Int) then ((some (l0_0.drop (t408 : Int).toNat : List Int)).bind fun y409 => (if a0_1 = true then (some (t407, y409, true)) else (some (t407, y409, (t408 == 0))))) else (none)) else (none)) = some (r1, r2, r3) := H
 have A2 := Aside0.mk A20
 clear A20
 by_cases c3 : 0 ≤ t408
 ·rw [if_pos c3] at H
  have c3b0 := eq_true c3
  have c3b1 : decide (0 ≤ t408) = true := decide_eq_true c3
  clear c3
  by_cases c4 : t408 ≤ (l0_0.length : Int)
  ·rw [if_pos c4] at H
   have c4b0 := eq_true c4
   have c4b1 : decide (t408 ≤ (l0_0.length : Int)) = true := decide_eq_true c4
   clear c4
   obtain ⟨y409, hy409⟩ : ∃ y_ : List Int, y_ = (l0_0.drop (t408 : Int).toNat) := ⟨_, rfl⟩
   replace H : (if a0_1 = true then (some (t407, y409, true)) else (some (t407, y409, (t408 == 0)))) = some (r1, r2, r3) := by (have H2_ := (Option.bind_some _ _).symm.trans H; rw [hy409]; with_reducible exact H2_)
   have Ny409 := Aside0.mk hy409
   clear hy409
   by_cases c5 : a0_1 = true
   ·subst c5
    have H1 : (some (t407, y409, true)) = some (r1, r2, r3) := by rw [if_pos rfl] at H; exact H
    clear H
    have H := H1
    clear H1
    simp only [Option.some.injEq, Prod.mk.injEq] at H
    obtain ⟨rfl, rfl, rfl⟩ := H
    go_enter Try.func79, Try.ntmps79
    try go_wp2_with (first | ((with_reducible refine gate_dst (N := 1) rfl ?_); refine box_event ?hg (N := 1) ?hd (cs := #[.slice A0_0 l0_0.length c0_0, .bool true]) (t := 119) ?hr ?_; (case hd => rfl); (case hg => rfl); (case hr => (go_simp; done)); intro gb405 hg w6 hbox hb; have n0_ := Aside0.mk (Kd.V_below (Kd.V_elderB (by (with_reducible repeat ((apply Kd.V_drew))); exact HO0_0.out) gb405 (Nat.le_of_eq hg.symm)) hb); have n1_ := Aside0.mk (below_step (by repeat ((with_reducible (exact HB.out)))) hb); have n2_ := Aside0.mk (hbox); have n3_ := Aside0.mk ((by rw [hg]; exact (below_size (by repeat ((with_reducible (exact HB.out))))) : w.heap.size ≤ gb405)); have n4_ := Aside0.mk ((by rw [hg]; exact (below_size (by repeat ((with_reducible (exact HB.out))))) : w.heap.size ≤ gb405)); clear HO0_0; clear HB; have HO0_0 := n0_; have HB := n1_; have BK405 := n2_; have GW405 := n3_; have GE405 := n4_; clear n0_ n1_ n2_ n3_ n4_; clear hb hbox hg) | ((with_reducible refine gate_dst (N := 3) rfl ?_); refine box_event ?hg (N := 3) ?hd (cs := #[.slice none 0 0, .bool false]) (t := 119) ?hr ?_; (case hd => rfl); (case hg => rfl); (case hr => (go_simp; done)); intro gb406 hg w7 hbox hb; have n0_ := Aside0.mk (Kd.V_below (Kd.V_elderB (by (with_reducible repeat ((apply Kd.V_drew))); exact HO0_0.out) gb406 (Nat.le_of_eq hg.symm)) hb); have n1_ := Aside0.mk (blk_below (g := gb405) (o := .cells #[.slice A0_0 l0_0.length c0_0, .bool true] 119 (0, 0)) (by (with_reducible repeat ((refine blk_drew ?_))); exact BK405.out) hb); have n2_ := Aside0.mk (below_step (by repeat ((with_reducible (exact HB.out)))) hb); have n3_ := Aside0.mk (hbox); have n4_ := Aside0.mk ((by rw [hg]; exact (below_size (by repeat ((with_reducible (exact HB.out))))) : w.heap.size ≤ gb406)); have n5_ := Aside0.mk ((by rw [hg]; exact (below_size (by repeat ((with_reducible (exact HB.out))))) : w.heap.size ≤ gb406)); have n6_ := Aside0.mk ((by rw [hg]; exact Nat.ne_of_lt (blk_lt (g := gb405) (o := .cells #[.slice A0_0 l0_0.length c0_0, .bool true] 119 (0, 0)) (by (with_reducible repeat ((refine blk_drew ?_))); exact BK405.out)) : gb405 ≠ gb406)); have n7_ := Aside0.mk ((by rw [hg]; exact Nat.ne_of_gt (blk_lt (g := gb405) (o := .cells #[.slice A0_0 l0_0.length c0_0, .bool true] 119 (0, 0)) (by (with_reducible repeat ((refine blk_drew ?_))); exact BK405.out)) : gb406 ≠ gb405)); clear HO0_0; clear BK405; clear HB; have HO0_0 := n0_; have BK405 := n1_; have HB := n2_; have BK406 := n3_; have GW406 := n4_; have GE406 := n5_; have NB405_406 := n6_; have NB406_405 := n7_; clear n0_ n1_ n2_ n3_ n4_ n5_ n6_ n7_; clear hb hbox hg; have hnb8 := NB405_406.out; have hnc8 := NB406_405.out; have hcz9_0 : w7.cell? ⟨gb405, 0, none⟩ = some (.slice A0_0 l0_0.length c0_0) := (blk_cell BK405.out 0).trans rfl; have hcz9_1 : w7.cell? ⟨gb405, 1, none⟩ = some (.bool true) := (blk_cell BK405.out 1).trans rfl; have hfz9_0 := blk_frozen BK405.out 0; have hfz9_1 := blk_frozen BK405.out 1) | ((with_reducible refine gate_callee (f := 53) rfl ?_); refine goesL_ (some 9) rfl rfl Try.func53 (by kernel_rfl) rfl #[.slice A0_0 l0_0.length c0_0] rfl (by (try simp only [List.map_toArray, List.map_cons, List.map_nil]); (rfl)) ?_; (with_reducible refine (variorumref01_Num.calls k _ _ l0_0 t407 t408 _ ?side1 ?side2 A2.out).mono ?_); (case side1 => repeat ((exact (Kd.V_reads' HO0_0.out).2.2))); (case side2 => exact (Kd.V_reads' HO0_0.out).2.1); rintro e w' ⟨rfl, ⟨nd, rfl⟩⟩; refine ⟨_, rfl, ?_⟩; (try (rw [drewN_self w7]; generalize hq_ : World.drewN w7 _ = w7; have n0_ : Aside0 (Kd.V (Kd.int .u8) 5 w7 w.heap.size (fun k_ => (P0_0_ k_ ∨ w.heap.size ≤ k_) ∧ k_ ≠ gb405 ∧ k_ ≠ gb406) (.slice A0_0 l0_0.length c0_0) l0_0) := ⟨by rw [← hq_]; exact (by (with_reducible repeat ((apply Kd.V_drewN))); exact Kd.V_mono HO0_0.out (fun _ hk => ⟨hk.1.1, ⟨hk.1.2, hk.2⟩⟩))⟩; have n1_ : Aside0 (w7.heap[gb405]? = some (.cells #[.slice A0_0 l0_0.length c0_0, .bool true] 119 (0, 0))) := ⟨by rw [← hq_]; exact (by (with_reducible repeat ((refine blk_drewN ?_ _))); exact BK405.out)⟩; have n2_ : Aside0 (w7.heap[gb406]? = some (.cells #[.slice none 0 0, .bool false] 119 (0, 0))) := ⟨by rw [← hq_]; exact (by (with_reducible repeat ((refine blk_drewN ?_ _))); exact BK406.out)⟩; have n3_ : Aside0 (Below w.heap.size w w7) := ⟨by rw [← hq_]; exact (by repeat ((with_reducible first | exact HB.out | apply pw_below_drewN)))⟩; clear HO0_0 BK405 BK406 HB hq_; have HO0_0 := n0_; have BK405 := n1_; have BK406 := n2_; have HB := n3_; clear n0_ n1_ n2_ n3_))))
    have n0_ := Aside0.mk (Kd.V_drew HO0_0.out)
    have n1_ := Aside0.mk (blk_drew BK405.out)
    have n2_ := Aside0.mk (blk_drew BK406.out)
    have n3_ := Aside0.mk (below_drew1 HB.out)
    clear HO0_0
    clear BK405
    clear BK406
    clear HB
    have HO0_0 := n0_
    have BK405 := n1_
    have BK406 := n2_
    have HB := n3_
    clear n0_ n1_ n2_ n3_
    have q11 : (t408 : Int) ≤ ((l0_0.length : Int) : Int) := of_decide_eq_true (by (with_reducible assumption))
    obtain ⟨i011, hi011, _, hsz11, _⟩ := info_parts info5
    have hroom11 : l0_0.length ≤ c0_0 := (Kd.V_reads' HO0_0.out).2.1
    have hC11 : Kd.F (Kd.int .u8) _ _ A0_0 l0_0.length l0_0 := (Kd.V_at (base := w.heap.size) HO0_0.out).2.2
    have q011 : (0 : Int) ≤ (t408 : Int) := of_decide_eq_true (by (with_reducible assumption))
    have hcut11 := cut_from (P := Try.prog) 25 5 .i64 Try.underlying25 hi011 1 hsz11 A0_0 l0_0.length c0_0 t408 q011 q11
    have hr11 := Kd.F_cut (m := (t408 : Int).toNat) (c := c0_0) hC11 (by omega) hroom11
    obtain ⟨A11, hA11⟩ : ∃ A1, A1 = (if c0_0 = (t408 : Int).toNat then A0_0 else (A0_0 : Option Addr).map (·.add ((t408 : Int).toNat * 1))) := ⟨_, rfl⟩
    obtain ⟨c11, hc11⟩ : ∃ c1, c1 = c0_0 - (t408 : Int).toNat := ⟨_, rfl⟩
    have hy11 : y409.length = l0_0.length - (t408 : Int).toNat := (by rw [Ny409.out, List.length_drop] <;> omega)
    rw [show (l0_0).drop (t408 : Int).toNat = y409 from Ny409.out.symm] at hr11
    replace hr11 : Kd.F (Kd.int .u8) _ _ A11 y409.length y409 := (by rw [hA11]; exact hr11)
    rw [← hy11, ← hA11, ← hc11] at hcut11
    have HO413 := Aside0.mk (show Kd.V (Kd.int .u8) 5 _ w.heap.size _ (.slice A11 y409.length c11) y409 from Kd.V_mk (by rw [hy11, hc11]; exact Nat.sub_le_sub_right hroom11 _) hr11)
    have HC413 := Aside0.mk (show y409.length ≤ c11 from by rw [hy11, hc11]; exact Nat.sub_le_sub_right hroom11 _)
    clear hr11 hC11 hroom11 hi011 hsz11 hc11
    have KY11 := Aside0.mk hy11
    have KA11 := Aside0.mk hA11
    clear hy11 hA11
    replace q11 := eq_true q11
    refine start_ (n := 14) (S := fun w' => w'.cell? ⟨gb405, 0, none⟩ = some (.slice A0_0 l0_0.length c0_0) ∧ w'.cell? ⟨gb405, 1, none⟩ = some (.bool true)) (ds := []) dnumB13 (by kernel_rfl) rfl rfl ⟨(blk_cell BK405.out 0).trans rfl, (blk_cell BK405.out 1).trans rfl⟩ (fun hHeld => ?_); refine with_tabW variorumref11_Read_num.tab2 variorumref11_Read_num.bits2 (fun HT_ HW_ => ?_)
    generalize w7.drew = w10 at HO0_0 BK405 BK406 HB HO413 hHeld ⊢
    refine pu_ 0 12 dnumB0 HT_ ?_
    refine pu_ 1 13 dnumB1 HT_ ?_
    refine pu_ 3 15 dnumB2 HT_ ?_
    refine pu_ 5 17 dnumB3 HT_ ?_
    refine pt_ 2 14 dnumB11 HT_ HW_ rfl hHeld (by rintro w' ⟨s0, s1⟩; go_simp; with_reducible rfl) ?_
    refine pu_ 4 16 dnumB4 HT_ ?_
    refine pt_ 6 18 dnumB12 HT_ HW_ rfl hHeld (by rintro w' ⟨s0, s1⟩; go_simp; with_reducible rfl) ?_
    refine pu_ 7 19 dnumB5 HT_ ?_
    refine pn_ 8 20 dnumB9 HT_ ?_
    refine pn_ 9 21 dnumB10 HT_ ?_
    refine pu_ 10 22 dnumB6 HT_ ?_
    refine pu_ 11 23 dnumB7 HT_ ?_
    refine pu_ 12 2 dnumB8 HT_ ?_
    refine one_ (i := 13) (N := none) dnumB14 rfl rfl (one_of HT_.out (by kernel_rfl)) (by decide) (fun K hK => ?_)
    have hs12 : w10.cell? ⟨gb406, 0, none⟩ = some (.slice none 0 0) := (blk_cell BK406.out 0).trans rfl
    have hfs12 := blk_frozen BK406.out 0
    have hns12_0 := NB405_406.out
    have hms12_0 := NB406_405.out
    have hs13 : w10.cell? ⟨gb406, 1, none⟩ = some (.bool false) := (blk_cell BK406.out 1).trans rfl
    have hfs13 := blk_frozen BK406.out 1
    have hns13_0 := NB405_406.out
    have hms13_0 := NB406_405.out
    refine skip_ (w1 := ?_) (by rfl) rfl ?_ ?_
    rotate_left
    ·go_simp
     rfl
    refine hK.out _ _ ⟨((cell_far (p := ⟨gb406, _, none⟩) NB405_406.out _).trans (((cell_far (p := ⟨gb406, _, none⟩) NB405_406.out _).trans (hHeld.1)))), ((cell_far (p := ⟨gb406, _, none⟩) NB405_406.out _).trans (((cell_far (p := ⟨gb406, _, none⟩) NB405_406.out _).trans (hHeld.2))))⟩ (fun hHeld => ?_)
    clear hK K
    refine done_ (done_of HT_.out (by kernel_rfl)) ?_
    try go_wp2
    refine bodyPost_ret (results_tc rfl _ _ gb406 119 #[.slice A11 y409.length c11, .bool true] (0, 0) _ rfl (by (with_reducible repeat ((refine blk_drew ?_))); refine blk_put (cs := #[.slice A11 y409.length c11, .bool false]) ?_ 1 _ rfl; (with_reducible repeat ((refine blk_drew ?_))); refine blk_put (cs := #[.slice none 0 0, .bool false]) ?_ 0 _ rfl; (with_reducible repeat ((refine blk_drew ?_))); exact BK406.out) Try.underlying119 rfl (by kernel_rfl)) rfl ?_
    exact ⟨_, by (rfl), by (with_reducible repeat ((apply Kd.V_drew))); exact Kd.V_mono (Kd.V_far (p := ⟨gb406, 1, none⟩) (Kd.V_far (p := ⟨gb406, 0, none⟩) (Kd.V_mono HO413.out (fun k_ hk => (⟨hk, hk.2.2⟩ : _ ∧ k_ ≠ gb406))) (fun _ hk => hk.2) (.slice A11 y409.length c11)) (fun _ hk => hk.2) (.bool true)) (fun _ hk => hk.1.1), by repeat ((with_reducible first | exact HB.out | refine below_set ?_ GE406.out))⟩
   ·replace c5 := Bool.eq_false_iff.mpr c5
    subst c5
    have H1 : (some (t407, y409, (t408 == 0))) = some (r1, r2, r3) := by rw [if_neg (show ¬ (false = true) by decide)] at H; exact H
    clear H
    have H := H1
    clear H1
    simp only [Option.some.injEq, Prod.mk.injEq] at H
    obtain ⟨rfl, rfl, rfl⟩ := H
    go_enter Try.func79, Try.ntmps79
    try go_wp2_with (first | ((with_reducible refine gate_dst (N := 1) rfl ?_); refine box_event ?hg (N := 1) ?hd (cs := #[.slice A0_0 l0_0.length c0_0, .bool false]) (t := 119) ?hr ?_; (case hd => rfl); (case hg => rfl); (case hr => (go_simp; done)); intro gb405 hg w14 hbox hb; have n0_ := Aside0.mk (Kd.V_below (Kd.V_elderB (by (with_reducible repeat ((apply Kd.V_drew))); exact HO0_0.out) gb405 (Nat.le_of_eq hg.symm)) hb); have n1_ := Aside0.mk (below_step (by repeat ((with_reducible (exact HB.out)))) hb); have n2_ := Aside0.mk (hbox); have n3_ := Aside0.mk ((by rw [hg]; exact (below_size (by repeat ((with_reducible (exact HB.out))))) : w.heap.size ≤ gb405)); have n4_ := Aside0.mk ((by rw [hg]; exact (below_size (by repeat ((with_reducible (exact HB.out))))) : w.heap.size ≤ gb405)); clear HO0_0; clear HB; have HO0_0 := n0_; have HB := n1_; have BK405 := n2_; have GW405 := n3_; have GE405 := n4_; clear n0_ n1_ n2_ n3_ n4_; clear hb hbox hg) | ((with_reducible refine gate_dst (N := 3) rfl ?_); refine box_event ?hg (N := 3) ?hd (cs := #[.slice none 0 0, .bool false]) (t := 119) ?hr ?_; (case hd => rfl); (case hg => rfl); (case hr => (go_simp; done)); intro gb406 hg w15 hbox hb; have n0_ := Aside0.mk (Kd.V_below (Kd.V_elderB (by (with_reducible repeat ((apply Kd.V_drew))); exact HO0_0.out) gb406 (Nat.le_of_eq hg.symm)) hb); have n1_ := Aside0.mk (blk_below (g := gb405) (o := .cells #[.slice A0_0 l0_0.length c0_0, .bool false] 119 (0, 0)) (by (with_reducible repeat ((refine blk_drew ?_))); exact BK405.out) hb); have n2_ := Aside0.mk (below_step (by repeat ((with_reducible (exact HB.out)))) hb); have n3_ := Aside0.mk (hbox); have n4_ := Aside0.mk ((by rw [hg]; exact (below_size (by repeat ((with_reducible (exact HB.out))))) : w.heap.size ≤ gb406)); have n5_ := Aside0.mk ((by rw [hg]; exact (below_size (by repeat ((with_reducible (exact HB.out))))) : w.heap.size ≤ gb406)); have n6_ := Aside0.mk ((by rw [hg]; exact Nat.ne_of_lt (blk_lt (g := gb405) (o := .cells #[.slice A0_0 l0_0.length c0_0, .bool false] 119 (0, 0)) (by (with_reducible repeat ((refine blk_drew ?_))); exact BK405.out)) : gb405 ≠ gb406)); have n7_ := Aside0.mk ((by rw [hg]; exact Nat.ne_of_gt (blk_lt (g := gb405) (o := .cells #[.slice A0_0 l0_0.length c0_0, .bool false] 119 (0, 0)) (by (with_reducible repeat ((refine blk_drew ?_))); exact BK405.out)) : gb406 ≠ gb405)); clear HO0_0; clear BK405; clear HB; have HO0_0 := n0_; have BK405 := n1_; have HB := n2_; have BK406 := n3_; have GW406 := n4_; have GE406 := n5_; have NB405_406 := n6_; have NB406_405 := n7_; clear n0_ n1_ n2_ n3_ n4_ n5_ n6_ n7_; clear hb hbox hg; have hnb16 := NB405_406.out; have hnc16 := NB406_405.out; have hcz17_0 : w15.cell? ⟨gb405, 0, none⟩ = some (.slice A0_0 l0_0.length c0_0) := (blk_cell BK405.out 0).trans rfl; have hcz17_1 : w15.cell? ⟨gb405, 1, none⟩ = some (.bool false) := (blk_cell BK405.out 1).trans rfl; have hfz17_0 := blk_frozen BK405.out 0; have hfz17_1 := blk_frozen BK405.out 1) | ((with_reducible refine gate_callee (f := 53) rfl ?_); refine goesL_ (some 9) rfl rfl Try.func53 (by kernel_rfl) rfl #[.slice A0_0 l0_0.length c0_0] rfl (by (try simp only [List.map_toArray, List.map_cons, List.map_nil]); (rfl)) ?_; (with_reducible refine (variorumref01_Num.calls k _ _ l0_0 t407 t408 _ ?side1 ?side2 A2.out).mono ?_); (case side1 => repeat ((exact (Kd.V_reads' HO0_0.out).2.2))); (case side2 => exact (Kd.V_reads' HO0_0.out).2.1); rintro e w' ⟨rfl, ⟨nd, rfl⟩⟩; refine ⟨_, rfl, ?_⟩; (try (rw [drewN_self w15]; generalize hq_ : World.drewN w15 _ = w15; have n0_ : Aside0 (Kd.V (Kd.int .u8) 5 w15 w.heap.size (fun k_ => (P0_0_ k_ ∨ w.heap.size ≤ k_) ∧ k_ ≠ gb405 ∧ k_ ≠ gb406) (.slice A0_0 l0_0.length c0_0) l0_0) := ⟨by rw [← hq_]; exact (by (with_reducible repeat ((apply Kd.V_drewN))); exact Kd.V_mono HO0_0.out (fun _ hk => ⟨hk.1.1, ⟨hk.1.2, hk.2⟩⟩))⟩; have n1_ : Aside0 (w15.heap[gb405]? = some (.cells #[.slice A0_0 l0_0.length c0_0, .bool false] 119 (0, 0))) := ⟨by rw [← hq_]; exact (by (with_reducible repeat ((refine blk_drewN ?_ _))); exact BK405.out)⟩; have n2_ : Aside0 (w15.heap[gb406]? = some (.cells #[.slice none 0 0, .bool false] 119 (0, 0))) := ⟨by rw [← hq_]; exact (by (with_reducible repeat ((refine blk_drewN ?_ _))); exact BK406.out)⟩; have n3_ : Aside0 (Below w.heap.size w w15) := ⟨by rw [← hq_]; exact (by repeat ((with_reducible first | exact HB.out | apply pw_below_drewN)))⟩; clear HO0_0 BK405 BK406 HB hq_; have HO0_0 := n0_; have BK405 := n1_; have BK406 := n2_; have HB := n3_; clear n0_ n1_ n2_ n3_))))
    have n0_ := Aside0.mk (Kd.V_drew HO0_0.out)
    have n1_ := Aside0.mk (blk_drew BK405.out)
    have n2_ := Aside0.mk (blk_drew BK406.out)
    have n3_ := Aside0.mk (below_drew1 HB.out)
    clear HO0_0
    clear BK405
    clear BK406
    clear HB
    have HO0_0 := n0_
    have BK405 := n1_
    have BK406 := n2_
    have HB := n3_
    clear n0_ n1_ n2_ n3_
    have q19 : (t408 : Int) ≤ ((l0_0.length : Int) : Int) := of_decide_eq_true (by (with_reducible assumption))
    obtain ⟨i019, hi019, _, hsz19, _⟩ := info_parts info5
    have hroom19 : l0_0.length ≤ c0_0 := (Kd.V_reads' HO0_0.out).2.1
    have hC19 : Kd.F (Kd.int .u8) _ _ A0_0 l0_0.length l0_0 := (Kd.V_at (base := w.heap.size) HO0_0.out).2.2
    have q019 : (0 : Int) ≤ (t408 : Int) := of_decide_eq_true (by (with_reducible assumption))
    have hcut19 := cut_from (P := Try.prog) 25 5 .i64 Try.underlying25 hi019 1 hsz19 A0_0 l0_0.length c0_0 t408 q019 q19
    have hr19 := Kd.F_cut (m := (t408 : Int).toNat) (c := c0_0) hC19 (by omega) hroom19
    obtain ⟨A19, hA19⟩ : ∃ A1, A1 = (if c0_0 = (t408 : Int).toNat then A0_0 else (A0_0 : Option Addr).map (·.add ((t408 : Int).toNat * 1))) := ⟨_, rfl⟩
    obtain ⟨c19, hc19⟩ : ∃ c1, c1 = c0_0 - (t408 : Int).toNat := ⟨_, rfl⟩
    have hy19 : y409.length = l0_0.length - (t408 : Int).toNat := (by rw [Ny409.out, List.length_drop] <;> omega)
    rw [show (l0_0).drop (t408 : Int).toNat = y409 from Ny409.out.symm] at hr19
    replace hr19 : Kd.F (Kd.int .u8) _ _ A19 y409.length y409 := (by rw [hA19]; exact hr19)
    rw [← hy19, ← hA19, ← hc19] at hcut19
    have HO413 := Aside0.mk (show Kd.V (Kd.int .u8) 5 _ w.heap.size _ (.slice A19 y409.length c19) y409 from Kd.V_mk (by rw [hy19, hc19]; exact Nat.sub_le_sub_right hroom19 _) hr19)
    have HC413 := Aside0.mk (show y409.length ≤ c19 from by rw [hy19, hc19]; exact Nat.sub_le_sub_right hroom19 _)
    clear hr19 hC19 hroom19 hi019 hsz19 hc19
    have KY19 := Aside0.mk hy19
    have KA19 := Aside0.mk hA19
    clear hy19 hA19
    replace q19 := eq_true q19
    refine start_ (n := 14) (S := fun w' => w'.cell? ⟨gb405, 0, none⟩ = some (.slice A0_0 l0_0.length c0_0) ∧ w'.cell? ⟨gb405, 1, none⟩ = some (.bool false)) (ds := []) dnumB13 (by kernel_rfl) rfl rfl ⟨(blk_cell BK405.out 0).trans rfl, (blk_cell BK405.out 1).trans rfl⟩ (fun hHeld => ?_); refine with_tabW variorumref11_Read_num.tab2 variorumref11_Read_num.bits2 (fun HT_ HW_ => ?_)
    generalize w15.drew = w18 at HO0_0 BK405 BK406 HB HO413 hHeld ⊢
    refine pu_ 0 12 dnumB0 HT_ ?_
    refine pu_ 1 13 dnumB1 HT_ ?_
    refine pu_ 3 15 dnumB2 HT_ ?_
    refine pu_ 5 17 dnumB3 HT_ ?_
    refine pt_ 2 14 dnumB11 HT_ HW_ rfl hHeld (by rintro w' ⟨s0, s1⟩; go_simp; with_reducible rfl) ?_
    refine pu_ 4 16 dnumB4 HT_ ?_
    refine pt_ 6 18 dnumB12 HT_ HW_ rfl hHeld (by rintro w' ⟨s0, s1⟩; go_simp; with_reducible rfl) ?_
    refine pu_ 7 19 dnumB5 HT_ ?_
    refine pu_ 8 20 dnumB9 HT_ ?_
    refine pu_ 9 21 dnumB10 HT_ ?_
    refine pu_ 10 22 dnumB6 HT_ ?_
    refine pu_ 11 23 dnumB7 HT_ ?_
    refine pu_ 12 2 dnumB8 HT_ ?_
    refine one_ (i := 13) (N := none) dnumB14 rfl rfl (one_of HT_.out (by kernel_rfl)) (by decide) (fun K hK => ?_)
    have hs20 : w18.cell? ⟨gb406, 0, none⟩ = some (.slice none 0 0) := (blk_cell BK406.out 0).trans rfl
    have hfs20 := blk_frozen BK406.out 0
    have hns20_0 := NB405_406.out
    have hms20_0 := NB406_405.out
    have hs21 : w18.cell? ⟨gb406, 1, none⟩ = some (.bool false) := (blk_cell BK406.out 1).trans rfl
    have hfs21 := blk_frozen BK406.out 1
    have hns21_0 := NB405_406.out
    have hms21_0 := NB406_405.out
    refine skip_ (w1 := ?_) (by rfl) rfl ?_ ?_
    rotate_left
    ·go_simp
     rfl
    refine hK.out _ _ ⟨((cell_far (p := ⟨gb406, _, none⟩) NB405_406.out _).trans (((cell_far (p := ⟨gb406, _, none⟩) NB405_406.out _).trans (hHeld.1)))), ((cell_far (p := ⟨gb406, _, none⟩) NB405_406.out _).trans (((cell_far (p := ⟨gb406, _, none⟩) NB405_406.out _).trans (hHeld.2))))⟩ (fun hHeld => ?_)
    clear hK K
    refine done_ (done_of HT_.out (by kernel_rfl)) ?_
    try go_wp2
    refine bodyPost_ret (results_tc rfl _ _ gb406 119 #[.slice A19 y409.length c19, .bool (t408 == 0)] (0, 0) _ rfl (by (with_reducible repeat ((refine blk_drew ?_))); refine blk_put (cs := #[.slice A19 y409.length c19, .bool false]) ?_ 1 _ rfl; (with_reducible repeat ((refine blk_drew ?_))); refine blk_put (cs := #[.slice none 0 0, .bool false]) ?_ 0 _ rfl; (with_reducible repeat ((refine blk_drew ?_))); exact BK406.out) Try.underlying119 rfl (by kernel_rfl)) rfl ?_
    exact ⟨_, by (rfl), by (with_reducible repeat ((apply Kd.V_drew))); exact Kd.V_mono (Kd.V_far (p := ⟨gb406, 1, none⟩) (Kd.V_far (p := ⟨gb406, 0, none⟩) (Kd.V_mono HO413.out (fun k_ hk => (⟨hk, hk.2.2⟩ : _ ∧ k_ ≠ gb406))) (fun _ hk => hk.2) (.slice A19 y409.length c19)) (fun _ hk => hk.2) (.bool (t408 == 0))) (fun _ hk => hk.1.1), by repeat ((with_reducible first | exact HB.out | refine below_set ?_ GE406.out))⟩
  ·rw [if_neg c4] at H
   exact absurd H (by simp)
 ·rw [if_neg c3] at H
  exact absurd H (by simp)
end Go.Proofs.Ytedfcjcnhgomoaa.P
end
-- MERGED YtedfcjcnhgomoaaPvariorumref11Readsigned
section
namespace Go.Proofs.Ytedfcjcnhgomoaa.P
open Go.RowKit Go.Proofs.YtedfcjcnhgomoaaW.PrintWords Go.Proofs.YtedfcjcnhgomoaaW.PrintLast Go.Proofs.YtedfcjcnhgomoaaW.PrintMore
attribute [local go_sem] max2_int min2_int max_two min_two max_three min_three max_four min_four   -- for this text's walks alone
open Go.Proofs.Ytedfcjcnhgomoaa.Press
set_option linter.unusedVariables false
set_option linter.unusedSimpArgs false
abbrev gnedB0 : Array Bool := #[true, false, false, false, false, false, false, false, false, false, false, false, false, false]
abbrev gnedB1 : Array Bool := #[true, true, false, false, false, false, false, false, false, false, false, false, false, false]
abbrev gnedB2 : Array Bool := #[true, true, false, true, false, false, false, false, false, false, false, false, false, false]
abbrev gnedB3 : Array Bool := #[true, true, false, true, false, true, false, false, false, false, false, false, false, false]
abbrev gnedB4 : Array Bool := #[true, true, true, true, true, true, false, false, false, false, false, false, false, false]
abbrev gnedB5 : Array Bool := #[true, true, true, true, true, true, true, true, false, false, false, false, false, false]
abbrev gnedB6 : Array Bool := #[true, true, true, true, true, true, true, true, true, true, true, false, false, false]
abbrev gnedB7 : Array Bool := #[true, true, true, true, true, true, true, true, true, true, true, true, false, false]
abbrev gnedB8 : Array Bool := #[true, true, true, true, true, true, true, true, true, true, true, true, true, false]
abbrev gnedB9 : Array Bool := #[true, true, true, true, true, true, true, true, true, false, false, false, false, false]
abbrev gnedB10 : Array Bool := #[true, true, true, true, true, true, true, true, true, true, false, false, false, false]
abbrev gnedB11 : Array Bool := #[true, true, true, true, false, true, false, false, false, false, false, false, false, false]
abbrev gnedB12 : Array Bool := #[true, true, true, true, true, true, true, false, false, false, false, false, false, false]
abbrev gnedB13 : Array Bool := #[false, false, false, false, false, false, false, false, false, false, false, false, false, false]
abbrev gnedB14 : Array Bool := #[true, true, true, true, true, true, true, true, true, true, true, true, true, true]
def variorumref11_Read_signed.f (k : Nat) (l0_0 : List Int) (a0_1 : Bool) : Option (Int × List Int × Bool) := (variorumref01_Signed.f k l0_0).bind fun bt427 => (if 0 ≤ bt427.2 then (if bt427.2 ≤ (l0_0.length : Int) then ((some (l0_0.drop (bt427.2 : Int).toNat : List Int)).bind fun y429 => (if a0_1 = true then (some (bt427.1, y429, true)) else (some (bt427.1, y429, (bt427.2 == 0))))) else (none)) else (none))
def variorumref11_Read_signed.T2 : Bool × List (List Nat × List Nat) := (true, [([], []), ([], []), ([1], [1]), ([], []), ([2, 3], [2, 3]), ([], []), ([5], [5]), ([6], [6]), ([7], [7]), ([8, 7], [7, 8]), ([7, 9], [7, 9]), ([4, 10], [4, 10]), ([0, 7, 0], [0]), ([11, 12, 0, 1, 2, 3, 4, 5, 6, 7, 8, 9, 10, 11, 12], [11])])
def variorumref11_Read_signed.B2 : List Nat := [0, 0, 2, 0, 14, 0, 32, 96, 224, 480, 992, 2046, 225, 8191]
theorem variorumref11_Read_signed.tab2 : rtab .any (opsOf Try.f105 2) = variorumref11_Read_signed.T2 := by kernel_rfl
theorem variorumref11_Read_signed.bits2 : waitsOk variorumref11_Read_signed.T2.2 variorumref11_Read_signed.B2 = true := by kernel_rfl
set_option maxHeartbeats 8000000 in
set_option maxRecDepth 100000 in
theorem variorumref11_Read_signed.calls (k : Nat) (P0_0_ : Nat → Prop) (A0_0 : Option Addr) (c0_0 : Nat) (l0_0 : List Int) (a0_1 : Bool) (r1 : Int) (r2 : List Int) (r3 : Bool) (w : World) (hs0_0 : Kd.V (Kd.int .u8) 5 w w.heap.size (fun k_ => P0_0_ k_) (.slice A0_0 l0_0.length c0_0) l0_0) (h : variorumref11_Read_signed.f k l0_0 a0_1 = some (r1, r2, r3)) :
  Calls Try.prog 105 #[.agg #[.slice A0_0 l0_0.length c0_0, .bool a0_1]] w fun e w' => ∃ v1_ : Value, e = .returned (.tuple #[.int .i64 r1, .agg #[v1_, .bool r3]]) ∧ Kd.V (Kd.int .u8) 5 w' w.heap.size (fun k_ => (P0_0_ k_ ∨ w.heap.size ≤ k_)) v1_ r2 ∧ Below w.heap.size w w' := by
 have hu119 := Try.underlying119
 have HO0_0 := Aside0.mk (show Kd.V (Kd.int .u8) 5 w w.heap.size (fun k_ => (P0_0_ k_ ∨ w.heap.size ≤ k_)) (.slice A0_0 l0_0.length c0_0) l0_0 from Kd.V_mono hs0_0 (fun k_ hk => .inl hk))
 have HB := Aside0.mk (Below.refl w.heap.size w)
 have H : ((variorumref01_Signed.f k l0_0).bind fun bt427 => (if 0 ≤ bt427.2 then (if bt427.2 ≤ (l0_0.length : Int) then ((some (l0_0.drop (bt427.2 : Int).toNat : List Int)).bind fun y429 => (if a0_1 = true then (some (bt427.1, y429, true)) else (some (bt427.1, y429, (bt427.2 == 0))))) else (none)) else (none))) = some (r1, r2, r3) := h
 clear h
 replace H := Option.bind_eq_some_iff.mp H
 obtain ⟨⟨t427, t428⟩, A20, H⟩ := H
 replace H : (if 0 ≤ t428 then (if t428 ≤ (l0_0.length : Int) then ((some (l0_0.drop (t428 : Int).toNat : List Int)).bind fun y429 => (if a0_1 = true then (some (t427, y429, true)) else (some (t427, y429, (t428 == 0))))) else (none)) else (none)) = some (r1, r2, r3) := H
 have A2 := Aside0.mk A20
 clear A20
 by_cases c3 : 0 ≤ t428
 ·rw [if_pos c3] at H
  have c3b0 := eq_true c3
  have c3b1 : decide (0 ≤ t428) = true := decide_eq_true c3
  clear c3
  by_cases c4 : t428 ≤ (l0_0.length : Int)
  ·rw [if_pos c4] at H
   have c4b0 := eq_true c4
   have c4b1 : decide (t428 ≤ (l0_0.length : Int)) = true := decide_eq_true c4
   clear c4
   obtain ⟨y429, hy429⟩ : ∃ y_ : List Int, y_ = (l0_0.drop (t428 : Int).toNat) := ⟨_, rfl⟩
   replace H : (if a0_1 = true then (some (t427, y429, true)) else (some (t427, y429, (t428 == 0)))) = some (r1, r2, r3) := by (have H2_ := (Option.bind_some _ _).symm.trans H; rw [hy429]; with_reducible exact H2_)
   have Ny429 := Aside0.mk hy429
   clear hy429
   by_cases c5 : a0_1 = true
   ·subst c5
    have H1 : (some (t427, y429, true)) = some (r1, r2, r3) := by rw [if_pos rfl] at H; exact H
    clear H
    have H := H1
    clear H1
    simp only [Option.some.injEq, Prod.mk.injEq] at H
    obtain ⟨rfl, rfl, rfl⟩ := H
    go_enter Try.func105, Try.ntmps105
    try go_wp2_with (first | ((with_reducible refine gate_dst (N := 1) rfl ?_); refine box_event ?hg (N := 1) ?hd (cs := #[.slice A0_0 l0_0.length c0_0, .bool true]) (t := 119) ?hr ?_; (case hd => rfl); (case hg => rfl); (case hr => (go_simp; done)); intro gb425 hg w6 hbox hb; have n0_ := Aside0.mk (Kd.V_below (Kd.V_elderB (by (with_reducible repeat ((apply Kd.V_drew))); exact HO0_0.out) gb425 (Nat.le_of_eq hg.symm)) hb); have n1_ := Aside0.mk (below_step (by repeat ((with_reducible (exact HB.out)))) hb); have n2_ := Aside0.mk (hbox); have n3_ := Aside0.mk ((by rw [hg]; exact (below_size (by repeat ((with_reducible (exact HB.out))))) : w.heap.size ≤ gb425)); have n4_ := Aside0.mk ((by rw [hg]; exact (below_size (by repeat ((with_reducible (exact HB.out))))) : w.heap.size ≤ gb425)); clear HO0_0; clear HB; have HO0_0 := n0_; have HB := n1_; have BK425 := n2_; have GW425 := n3_; have GE425 := n4_; clear n0_ n1_ n2_ n3_ n4_; clear hb hbox hg) | ((with_reducible refine gate_dst (N := 3) rfl ?_); refine box_event ?hg (N := 3) ?hd (cs := #[.slice none 0 0, .bool false]) (t := 119) ?hr ?_; (case hd => rfl); (case hg => rfl); (case hr => (go_simp; done)); intro gb426 hg w7 hbox hb; have n0_ := Aside0.mk (Kd.V_below (Kd.V_elderB (by (with_reducible repeat ((apply Kd.V_drew))); exact HO0_0.out) gb426 (Nat.le_of_eq hg.symm)) hb); have n1_ := Aside0.mk (blk_below (g := gb425) (o := .cells #[.slice A0_0 l0_0.length c0_0, .bool true] 119 (0, 0)) (by (with_reducible repeat ((refine blk_drew ?_))); exact BK425.out) hb); have n2_ := Aside0.mk (below_step (by repeat ((with_reducible (exact HB.out)))) hb); have n3_ := Aside0.mk (hbox); have n4_ := Aside0.mk ((by rw [hg]; exact (below_size (by repeat ((with_reducible (exact HB.out))))) : w.heap.size ≤ gb426)); have n5_ := Aside0.mk ((by rw [hg]; exact (below_size (by repeat ((with_reducible (exact HB.out))))) : w.heap.size ≤ gb426)); have n6_ := Aside0.mk ((by rw [hg]; exact Nat.ne_of_lt (blk_lt (g := gb425) (o := .cells #[.slice A0_0 l0_0.length c0_0, .bool true] 119 (0, 0)) (by (with_reducible repeat ((refine blk_drew ?_))); exact BK425.out)) : gb425 ≠ gb426)); have n7_ := Aside0.mk ((by rw [hg]; exact Nat.ne_of_gt (blk_lt (g := gb425) (o := .cells #[.slice A0_0 l0_0.length c0_0, .bool true] 119 (0, 0)) (by (with_reducible repeat ((refine blk_drew ?_))); exact BK425.out)) : gb426 ≠ gb425)); clear HO0_0; clear BK425; clear HB; have HO0_0 := n0_; have BK425 := n1_; have HB := n2_; have BK426 := n3_; have GW426 := n4_; have GE426 := n5_; have NB425_426 := n6_; have NB426_425 := n7_; clear n0_ n1_ n2_ n3_ n4_ n5_ n6_ n7_; clear hb hbox hg; have hnb8 := NB425_426.out; have hnc8 := NB426_425.out; have hcz9_0 : w7.cell? ⟨gb425, 0, none⟩ = some (.slice A0_0 l0_0.length c0_0) := (blk_cell BK425.out 0).trans rfl; have hcz9_1 : w7.cell? ⟨gb425, 1, none⟩ = some (.bool true) := (blk_cell BK425.out 1).trans rfl; have hfz9_0 := blk_frozen BK425.out 0; have hfz9_1 := blk_frozen BK425.out 1) | ((with_reducible refine gate_callee (f := 113) rfl ?_); refine goesL_ (some 9) rfl rfl Try.func113 (by kernel_rfl) rfl #[.slice A0_0 l0_0.length c0_0] rfl (by (try simp only [List.map_toArray, List.map_cons, List.map_nil]); (rfl)) ?_; (with_reducible refine (variorumref01_Signed.calls k _ _ l0_0 t427 t428 _ ?side1 ?side2 A2.out).mono ?_); (case side1 => repeat ((exact (Kd.V_reads' HO0_0.out).2.2))); (case side2 => exact (Kd.V_reads' HO0_0.out).2.1); rintro e w' ⟨rfl, ⟨nd, rfl⟩⟩; refine ⟨_, rfl, ?_⟩; (try (rw [drewN_self w7]; generalize hq_ : World.drewN w7 _ = w7; have n0_ : Aside0 (Kd.V (Kd.int .u8) 5 w7 w.heap.size (fun k_ => (P0_0_ k_ ∨ w.heap.size ≤ k_) ∧ k_ ≠ gb425 ∧ k_ ≠ gb426) (.slice A0_0 l0_0.length c0_0) l0_0) := ⟨by rw [← hq_]; exact (by (with_reducible repeat ((apply Kd.V_drewN))); exact Kd.V_mono HO0_0.out (fun _ hk => ⟨hk.1.1, ⟨hk.1.2, hk.2⟩⟩))⟩; have n1_ : Aside0 (w7.heap[gb425]? = some (.cells #[.slice A0_0 l0_0.length c0_0, .bool true] 119 (0, 0))) := ⟨by rw [← hq_]; exact (by (with_reducible repeat ((refine blk_drewN ?_ _))); exact BK425.out)⟩; have n2_ : Aside0 (w7.heap[gb426]? = some (.cells #[.slice none 0 0, .bool false] 119 (0, 0))) := ⟨by rw [← hq_]; exact (by (with_reducible repeat ((refine blk_drewN ?_ _))); exact BK426.out)⟩; have n3_ : Aside0 (Below w.heap.size w w7) := ⟨by rw [← hq_]; exact (by repeat ((with_reducible first | exact HB.out | apply pw_below_drewN)))⟩; clear HO0_0 BK425 BK426 HB hq_; have HO0_0 := n0_; have BK425 := n1_; have BK426 := n2_; have HB := n3_; clear n0_ n1_ n2_ n3_))))
    have n0_ := Aside0.mk (Kd.V_drew HO0_0.out)
    have n1_ := Aside0.mk (blk_drew BK425.out)
    have n2_ := Aside0.mk (blk_drew BK426.out)
    have n3_ := Aside0.mk (below_drew1 HB.out)
    clear HO0_0
    clear BK425
    clear BK426
    clear HB
    have HO0_0 := n0_
    have BK425 := n1_
    have BK426 := n2_
    have HB := n3_
    clear n0_ n1_ n2_ n3_
    have q11 : (t428 : Int) ≤ ((l0_0.length : Int) : Int) := of_decide_eq_true (by (with_reducible assumption))
    obtain ⟨i011, hi011, _, hsz11, _⟩ := info_parts info5
    have hroom11 : l0_0.length ≤ c0_0 := (Kd.V_reads' HO0_0.out).2.1
    have hC11 : Kd.F (Kd.int .u8) _ _ A0_0 l0_0.length l0_0 := (Kd.V_at (base := w.heap.size) HO0_0.out).2.2
    have q011 : (0 : Int) ≤ (t428 : Int) := of_decide_eq_true (by (with_reducible assumption))
    have hcut11 := cut_from (P := Try.prog) 25 5 .i64 Try.underlying25 hi011 1 hsz11 A0_0 l0_0.length c0_0 t428 q011 q11
    have hr11 := Kd.F_cut (m := (t428 : Int).toNat) (c := c0_0) hC11 (by omega) hroom11
    obtain ⟨A11, hA11⟩ : ∃ A1, A1 = (if c0_0 = (t428 : Int).toNat then A0_0 else (A0_0 : Option Addr).map (·.add ((t428 : Int).toNat * 1))) := ⟨_, rfl⟩
    obtain ⟨c11, hc11⟩ : ∃ c1, c1 = c0_0 - (t428 : Int).toNat := ⟨_, rfl⟩
    have hy11 : y429.length = l0_0.length - (t428 : Int).toNat := (by rw [Ny429.out, List.length_drop] <;> omega)
    rw [show (l0_0).drop (t428 : Int).toNat = y429 from Ny429.out.symm] at hr11
    replace hr11 : Kd.F (Kd.int .u8) _ _ A11 y429.length y429 := (by rw [hA11]; exact hr11)
    rw [← hy11, ← hA11, ← hc11] at hcut11
    have HO433 := Aside0.mk (show Kd.V (Kd.int .u8) 5 _ w.heap.size _ (.slice A11 y429.length c11) y429 from Kd.V_mk (by rw [hy11, hc11]; exact Nat.sub_le_sub_right hroom11 _) hr11)
    have HC433 := Aside0.mk (show y429.length ≤ c11 from by rw [hy11, hc11]; exact Nat.sub_le_sub_right hroom11 _)
    clear hr11 hC11 hroom11 hi011 hsz11 hc11
    have KY11 := Aside0.mk hy11
    have KA11 := Aside0.mk hA11
    clear hy11 hA11
    replace q11 := eq_true q11
    refine start_ (n := 14) (S := fun w' => w'.cell? ⟨gb425, 0, none⟩ = some (.slice A0_0 l0_0.length c0_0) ∧ w'.cell? ⟨gb425, 1, none⟩ = some (.bool true)) (ds := []) gnedB13 (by kernel_rfl) rfl rfl ⟨(blk_cell BK425.out 0).trans rfl, (blk_cell BK425.out 1).trans rfl⟩ (fun hHeld => ?_); refine with_tabW variorumref11_Read_signed.tab2 variorumref11_Read_signed.bits2 (fun HT_ HW_ => ?_)
    generalize w7.drew = w10 at HO0_0 BK425 BK426 HB HO433 hHeld ⊢
    refine pu_ 0 12 gnedB0 HT_ ?_
    refine pu_ 1 13 gnedB1 HT_ ?_
    refine pu_ 3 15 gnedB2 HT_ ?_
    refine pu_ 5 17 gnedB3 HT_ ?_
    refine pt_ 2 14 gnedB11 HT_ HW_ rfl hHeld (by rintro w' ⟨s0, s1⟩; go_simp; with_reducible rfl) ?_
    refine pu_ 4 16 gnedB4 HT_ ?_
    refine pt_ 6 18 gnedB12 HT_ HW_ rfl hHeld (by rintro w' ⟨s0, s1⟩; go_simp; with_reducible rfl) ?_
    refine pu_ 7 19 gnedB5 HT_ ?_
    refine pn_ 8 20 gnedB9 HT_ ?_
    refine pn_ 9 21 gnedB10 HT_ ?_
    refine pu_ 10 22 gnedB6 HT_ ?_
    refine pu_ 11 23 gnedB7 HT_ ?_
    refine pu_ 12 2 gnedB8 HT_ ?_
    refine one_ (i := 13) (N := none) gnedB14 rfl rfl (one_of HT_.out (by kernel_rfl)) (by decide) (fun K hK => ?_)
    have hs12 : w10.cell? ⟨gb426, 0, none⟩ = some (.slice none 0 0) := (blk_cell BK426.out 0).trans rfl
    have hfs12 := blk_frozen BK426.out 0
    have hns12_0 := NB425_426.out
    have hms12_0 := NB426_425.out
    have hs13 : w10.cell? ⟨gb426, 1, none⟩ = some (.bool false) := (blk_cell BK426.out 1).trans rfl
    have hfs13 := blk_frozen BK426.out 1
    have hns13_0 := NB425_426.out
    have hms13_0 := NB426_425.out
    refine skip_ (w1 := ?_) (by rfl) rfl ?_ ?_
    rotate_left
    ·go_simp
     rfl
    refine hK.out _ _ ⟨((cell_far (p := ⟨gb426, _, none⟩) NB425_426.out _).trans (((cell_far (p := ⟨gb426, _, none⟩) NB425_426.out _).trans (hHeld.1)))), ((cell_far (p := ⟨gb426, _, none⟩) NB425_426.out _).trans (((cell_far (p := ⟨gb426, _, none⟩) NB425_426.out _).trans (hHeld.2))))⟩ (fun hHeld => ?_)
    clear hK K
    refine done_ (done_of HT_.out (by kernel_rfl)) ?_
    try go_wp2
    refine bodyPost_ret (results_tc rfl _ _ gb426 119 #[.slice A11 y429.length c11, .bool true] (0, 0) _ rfl (by (with_reducible repeat ((refine blk_drew ?_))); refine blk_put (cs := #[.slice A11 y429.length c11, .bool false]) ?_ 1 _ rfl; (with_reducible repeat ((refine blk_drew ?_))); refine blk_put (cs := #[.slice none 0 0, .bool false]) ?_ 0 _ rfl; (with_reducible repeat ((refine blk_drew ?_))); exact BK426.out) Try.underlying119 rfl (by kernel_rfl)) rfl ?_
    exact ⟨_, by (rfl), by (with_reducible repeat ((apply Kd.V_drew))); exact Kd.V_mono (Kd.V_far (p := ⟨gb426, 1, none⟩) (Kd.V_far (p := ⟨gb426, 0, none⟩) (Kd.V_mono HO433.out (fun k_ hk => (⟨hk, hk.2.2⟩ : _ ∧ k_ ≠ gb426))) (fun _ hk => hk.2) (.slice A11 y429.length c11)) (fun _ hk => hk.2) (.bool true)) (fun _ hk => hk.1.1), by repeat ((with_reducible first | exact HB.out | refine below_set ?_ GE426.out))⟩
   ·replace c5 := Bool.eq_false_iff.mpr c5
    subst c5
    have H1 : (some (t427, y429, (t428 == 0))) = some (r1, r2, r3) := by rw [if_neg (show ¬ (false = true) by decide)] at H; exact H
    clear H
    have H := H1
    clear H1
    simp only [Option.some.injEq, Prod.mk.injEq] at H
    obtain ⟨rfl, rfl, rfl⟩ := H
    go_enter Try.func105, Try.ntmps105
    try go_wp2_with (first | ((with_reducible refine gate_dst (N := 1) rfl ?_); refine box_event ?hg (N := 1) ?hd (cs := #[.slice A0_0 l0_0.length c0_0, .bool false]) (t := 119) ?hr ?_; (case hd => rfl); (case hg => rfl); (case hr => (go_simp; done)); intro gb425 hg w14 hbox hb; have n0_ := Aside0.mk (Kd.V_below (Kd.V_elderB (by (with_reducible repeat ((apply Kd.V_drew))); exact HO0_0.out) gb425 (Nat.le_of_eq hg.symm)) hb); have n1_ := Aside0.mk (below_step (by repeat ((with_reducible (exact HB.out)))) hb); have n2_ := Aside0.mk (hbox); have n3_ := Aside0.mk ((by rw [hg]; exact (below_size (by repeat ((with_reducible (exact HB.out))))) : w.heap.size ≤ gb425)); have n4_ := Aside0.mk ((by rw [hg]; exact (below_size (by repeat ((with_reducible (exact HB.out))))) : w.heap.size ≤ gb425)); clear HO0_0; clear HB; have HO0_0 := n0_; have HB := n1_; have BK425 := n2_; have GW425 := n3_; have GE425 := n4_; clear n0_ n1_ n2_ n3_ n4_; clear hb hbox hg) | ((with_reducible refine gate_dst (N := 3) rfl ?_); refine box_event ?hg (N := 3) ?hd (cs := #[.slice none 0 0, .bool false]) (t := 119) ?hr ?_; (case hd => rfl); (case hg => rfl); (case hr => (go_simp; done)); intro gb426 hg w15 hbox hb; have n0_ := Aside0.mk (Kd.V_below (Kd.V_elderB (by (with_reducible repeat ((apply Kd.V_drew))); exact HO0_0.out) gb426 (Nat.le_of_eq hg.symm)) hb); have n1_ := Aside0.mk (blk_below (g := gb425) (o := .cells #[.slice A0_0 l0_0.length c0_0, .bool false] 119 (0, 0)) (by (with_reducible repeat ((refine blk_drew ?_))); exact BK425.out) hb); have n2_ := Aside0.mk (below_step (by repeat ((with_reducible (exact HB.out)))) hb); have n3_ := Aside0.mk (hbox); have n4_ := Aside0.mk ((by rw [hg]; exact (below_size (by repeat ((with_reducible (exact HB.out))))) : w.heap.size ≤ gb426)); have n5_ := Aside0.mk ((by rw [hg]; exact (below_size (by repeat ((with_reducible (exact HB.out))))) : w.heap.size ≤ gb426)); have n6_ := Aside0.mk ((by rw [hg]; exact Nat.ne_of_lt (blk_lt (g := gb425) (o := .cells #[.slice A0_0 l0_0.length c0_0, .bool false] 119 (0, 0)) (by (with_reducible repeat ((refine blk_drew ?_))); exact BK425.out)) : gb425 ≠ gb426)); have n7_ := Aside0.mk ((by rw [hg]; exact Nat.ne_of_gt (blk_lt (g := gb425) (o := .cells #[.slice A0_0 l0_0.length c0_0, .bool false] 119 (0, 0)) (by (with_reducible repeat ((refine blk_drew ?_))); exact BK425.out)) : gb426 ≠ gb425)); clear HO0_0; clear BK425; clear HB; have HO0_0 := n0_; have BK425 := n1_; have HB := n2_; have BK426 := n3_; have GW426 := n4_; have GE426 := n5_; have NB425_426 := n6_; have NB426_425 := n7_; clear n0_ n1_ n2_ n3_ n4_ n5_ n6_ n7_; clear hb hbox hg; have hnb16 := NB425_426.out; have hnc16 := NB426_425.out; have hcz17_0 : w15.cell? ⟨gb425, 0, none⟩ = some (.slice A0_0 l0_0.length c0_0) := (blk_cell BK425.out 0).trans rfl; have hcz17_1 : w15.cell? ⟨gb425, 1, none⟩ = some (.bool false) := (blk_cell BK425.out 1).trans rfl; have hfz17_0 := blk_frozen BK425.out 0; have hfz17_1 := blk_frozen BK425.out 1) | ((with_reducible refine gate_callee (f := 113) rfl ?_); refine goesL_ (some 9) rfl rfl Try.func113 (by kernel_rfl) rfl #[.slice A0_0 l0_0.length c0_0] rfl (by (try simp only [List.map_toArray, List.map_cons, List.map_nil]); (rfl)) ?_; (with_reducible refine (variorumref01_Signed.calls k _ _ l0_0 t427 t428 _ ?side1 ?side2 A2.out).mono ?_); (case side1 => repeat ((exact (Kd.V_reads' HO0_0.out).2.2))); (case side2 => exact (Kd.V_reads' HO0_0.out).2.1); rintro e w' ⟨rfl, ⟨nd, rfl⟩⟩; refine ⟨_, rfl, ?_⟩; (try (rw [drewN_self w15]; generalize hq_ : World.drewN w15 _ = w15; have n0_ : Aside0 (Kd.V (Kd.int .u8) 5 w15 w.heap.size (fun k_ => (P0_0_ k_ ∨ w.heap.size ≤ k_) ∧ k_ ≠ gb425 ∧ k_ ≠ gb426) (.slice A0_0 l0_0.length c0_0) l0_0) := ⟨by rw [← hq_]; exact (by (with_reducible repeat ((apply Kd.V_drewN))); exact Kd.V_mono HO0_0.out (fun _ hk => ⟨hk.1.1, ⟨hk.1.2, hk.2⟩⟩))⟩; have n1_ : Aside0 (w15.heap[gb425]? = some (.cells #[.slice A0_0 l0_0.length c0_0, .bool false] 119 (0, 0))) := ⟨by rw [← hq_]; exact (by (with_reducible repeat ((refine blk_drewN ?_ _))); exact BK425.out)⟩; have n2_ : Aside0 (w15.heap[gb426]? = some (.cells #[.slice none 0 0, .bool false] 119 (0, 0))) := ⟨by rw [← hq_]; exact (by (with_reducible repeat ((refine blk_drewN ?_ _))); exact BK426.out)⟩; have n3_ : Aside0 (Below w.heap.size w w15) := ⟨by rw [← hq_]; exact (by repeat ((with_reducible first | exact HB.out | apply pw_below_drewN)))⟩; clear HO0_0 BK425 BK426 HB hq_; have HO0_0 := n0_; have BK425 := n1_; have BK426 := n2_; have HB := n3_; clear n0_ n1_ n2_ n3_))))
    have n0_ := Aside0.mk (Kd.V_drew HO0_0.out)
    have n1_ := Aside0.mk (blk_drew BK425.out)
    have n2_ := Aside0.mk (blk_drew BK426.out)
    have n3_ := Aside0.mk (below_drew1 HB.out)
    clear HO0_0
    clear BK425
    clear BK426
    clear HB
    have HO0_0 := n0_
    have BK425 := n1_
    have BK426 := n2_
    have HB := n3_
    clear n0_ n1_ n2_ n3_
    have q19 : (t428 : Int) ≤ ((l0_0.length : Int) : Int) := of_decide_eq_true (by (with_reducible assumption))
    obtain ⟨i019, hi019, _, hsz19, _⟩ := info_parts info5
    have hroom19 : l0_0.length ≤ c0_0 := (Kd.V_reads' HO0_0.out).2.1
    have hC19 : Kd.F (Kd.int .u8) _ _ A0_0 l0_0.length l0_0 := (Kd.V_at (base := w.heap.size) HO0_0.out).2.2
    have q019 : (0 : Int) ≤ (t428 : Int) := of_decide_eq_true (by (with_reducible assumption))
    have hcut19 := cut_from (P := Try.prog) 25 5 .i64 Try.underlying25 hi019 1 hsz19 A0_0 l0_0.length c0_0 t428 q019 q19
    have hr19 := Kd.F_cut (m := (t428 : Int).toNat) (c := c0_0) hC19 (by omega) hroom19
    obtain ⟨A19, hA19⟩ : ∃ A1, A1 = (if c0_0 = (t428 : Int).toNat then A0_0 else (A0_0 : Option Addr).map (·.add ((t428 : Int).toNat * 1))) := ⟨_, rfl⟩
    obtain ⟨c19, hc19⟩ : ∃ c1, c1 = c0_0 - (t428 : Int).toNat := ⟨_, rfl⟩
    have hy19 : y429.length = l0_0.length - (t428 : Int).toNat := (by rw [Ny429.out, List.length_drop] <;> omega)
    rw [show (l0_0).drop (t428 : Int).toNat = y429 from Ny429.out.symm] at hr19
    replace hr19 : Kd.F (Kd.int .u8) _ _ A19 y429.length y429 := (by rw [hA19]; exact hr19)
    rw [← hy19, ← hA19, ← hc19] at hcut19
    have HO433 := Aside0.mk (show Kd.V (Kd.int .u8) 5 _ w.heap.size _ (.slice A19 y429.length c19) y429 from Kd.V_mk (by rw [hy19, hc19]; exact Nat.sub_le_sub_right hroom19 _) hr19)
    have HC433 := Aside0.mk (show y429.length ≤ c19 from by rw [hy19, hc19]; exact Nat.sub_le_sub_right hroom19 _)
    clear hr19 hC19 hroom19 hi019 hsz19 hc19
    have KY19 := Aside0.mk hy19
    have KA19 := Aside0.mk hA19
    clear hy19 hA19
    replace q19 := eq_true q19
    refine start_ (n := 14) (S := fun w' => w'.cell? ⟨gb425, 0, none⟩ = some (.slice A0_0 l0_0.length c0_0) ∧ w'.cell? ⟨gb425, 1, none⟩ = some (.bool false)) (ds := []) gnedB13 (by kernel_rfl) rfl rfl ⟨(blk_cell BK425.out 0).trans rfl, (blk_cell BK425.out 1).trans rfl⟩ (fun hHeld => ?_); refine with_tabW variorumref11_Read_signed.tab2 variorumref11_Read_signed.bits2 (fun HT_ HW_ => ?_)
    generalize w15.drew = w18 at HO0_0 BK425 BK426 HB HO433 hHeld ⊢
    refine pu_ 0 12 gnedB0 HT_ ?_
    refine pu_ 1 13 gnedB1 HT_ ?_
    refine pu_ 3 15 gnedB2 HT_ ?_
    refine pu_ 5 17 gnedB3 HT_ ?_
    refine pt_ 2 14 gnedB11 HT_ HW_ rfl hHeld (by rintro w' ⟨s0, s1⟩; go_simp; with_reducible rfl) ?_
    refine pu_ 4 16 gnedB4 HT_ ?_
    refine pt_ 6 18 gnedB12 HT_ HW_ rfl hHeld (by rintro w' ⟨s0, s1⟩; go_simp; with_reducible rfl) ?_
    refine pu_ 7 19 gnedB5 HT_ ?_
    refine pu_ 8 20 gnedB9 HT_ ?_
    refine pu_ 9 21 gnedB10 HT_ ?_
    refine pu_ 10 22 gnedB6 HT_ ?_
    refine pu_ 11 23 gnedB7 HT_ ?_
    refine pu_ 12 2 gnedB8 HT_ ?_
    refine one_ (i := 13) (N := none) gnedB14 rfl rfl (one_of HT_.out (by kernel_rfl)) (by decide) (fun K hK => ?_)
    have hs20 : w18.cell? ⟨gb426, 0, none⟩ = some (.slice none 0 0) := (blk_cell BK426.out 0).trans rfl
    have hfs20 := blk_frozen BK426.out 0
    have hns20_0 := NB425_426.out
    have hms20_0 := NB426_425.out
    have hs21 : w18.cell? ⟨gb426, 1, none⟩ = some (.bool false) := (blk_cell BK426.out 1).trans rfl
    have hfs21 := blk_frozen BK426.out 1
    have hns21_0 := NB425_426.out
    have hms21_0 := NB426_425.out
    refine skip_ (w1 := ?_) (by rfl) rfl ?_ ?_
    rotate_left
    ·go_simp
     rfl
    refine hK.out _ _ ⟨((cell_far (p := ⟨gb426, _, none⟩) NB425_426.out _).trans (((cell_far (p := ⟨gb426, _, none⟩) NB425_426.out _).trans (hHeld.1)))), ((cell_far (p := ⟨gb426, _, none⟩) NB425_426.out _).trans (((cell_far (p := ⟨gb426, _, none⟩) NB425_426.out _).trans (hHeld.2))))⟩ (fun hHeld => ?_)
    clear hK K
    refine done_ (done_of HT_.out (by kernel_rfl)) ?_
    try go_wp2
    refine bodyPost_ret (results_tc rfl _ _ gb426 119 #[.slice A19 y429.length c19, .bool (t428 == 0)] (0, 0) _ rfl (by (with_reducible repeat ((refine blk_drew ?_))); refine blk_put (cs := #[.slice A19 y429.length c19, .bool false]) ?_ 1 _ rfl; (with_reducible repeat ((refine blk_drew ?_))); refine blk_put (cs := #[.slice none 0 0, .bool false]) ?_ 0 _ rfl; (with_reducible repeat ((refine blk_drew ?_))); exact BK426.out) Try.underlying119 rfl (by kernel_rfl)) rfl ?_
    exact ⟨_, by (rfl), by (with_reducible repeat ((apply Kd.V_drew))); exact Kd.V_mono (Kd.V_far (p := ⟨gb426, 1, none⟩) (Kd.V_far (p := ⟨gb426, 0, none⟩) (Kd.V_mono HO433.out (fun k_ hk => (⟨hk, hk.2.2⟩ : _ ∧ k_ ≠ gb426))) (fun _ hk => hk.2) (.slice A19 y429.length c19)) (fun _ hk => hk.2) (.bool (t428 == 0))) (fun _ hk => hk.1.1), by repeat ((with_reducible first | exact HB.out | refine below_set ?_ GE426.out))⟩
  ·rw [if_neg c4] at H
   exact absurd H (by simp)
 ·rw [if_neg c3] at H
  exact absurd H (by simp)
end Go.Proofs.Ytedfcjcnhgomoaa.P
end
-- MERGED YtedfcjcnhgomoaaPvariorumref01Text
section
namespace Go.Proofs.Ytedfcjcnhgomoaa.P
open Go.RowKit Go.Proofs.YtedfcjcnhgomoaaW.PrintWords Go.Proofs.YtedfcjcnhgomoaaW.PrintLast Go.Proofs.YtedfcjcnhgomoaaW.PrintMore
attribute [local go_sem] max2_int min2_int max_two min_two max_three min_three max_four min_four   -- for this text's walks alone
set_option linter.unusedVariables false
set_option linter.unusedSimpArgs false
def variorumref01_Text.f (k : Nat) (l0 : List Int) : Option (ByteArray × Int) := (variorumref01_Num.f k l0).bind fun bt180 => (if bt180.2 = 0 then (some ((⟨#[]⟩ : ByteArray), 0)) else (if bt180.1 > (wrap64 ((l0.length : Int) - bt180.2)) then (some ((⟨#[]⟩ : ByteArray), 0)) else (if 0 ≤ bt180.2 then (if bt180.2 ≤ (wrap64 (bt180.2 + bt180.1)) then (if (wrap64 (bt180.2 + bt180.1)) ≤ (l0.length : Int) then (some (strOfNums ((l0.take ((wrap64 (bt180.2 + bt180.1)) : Int).toNat).drop (bt180.2 : Int).toNat), wrap64 (bt180.2 + bt180.1))) else (none)) else (none)) else (none))))
set_option maxHeartbeats 8000000 in
set_option maxRecDepth 100000 in
theorem variorumref01_Text.calls (k : Nat) (A0 : Option Addr) (c0 : Nat) (l0 : List Int) (r1 : ByteArray) (r2 : Int) (w : World) (hr0 : Kd.C (Kd.int .u8) w A0 l0.length l0) (hc0 : l0.length ≤ c0) (h : variorumref01_Text.f k l0 = some (r1, r2)) :
  Calls Try.prog 91 #[.slice A0 l0.length c0] w fun e w' => e = .returned (.tuple #[.string r1, .int .i64 r2]) ∧ Drawn0 w w' := by
 have HR0 := Aside0.mk hr0
 have HC0 := Aside0.mk hc0
 clear hr0 hc0
 have H : ((variorumref01_Num.f k l0).bind fun bt180 => (if bt180.2 = 0 then (some ((⟨#[]⟩ : ByteArray), 0)) else (if bt180.1 > (wrap64 ((l0.length : Int) - bt180.2)) then (some ((⟨#[]⟩ : ByteArray), 0)) else (if 0 ≤ bt180.2 then (if bt180.2 ≤ (wrap64 (bt180.2 + bt180.1)) then (if (wrap64 (bt180.2 + bt180.1)) ≤ (l0.length : Int) then (some (strOfNums ((l0.take ((wrap64 (bt180.2 + bt180.1)) : Int).toNat).drop (bt180.2 : Int).toNat), wrap64 (bt180.2 + bt180.1))) else (none)) else (none)) else (none))))) = some (r1, r2) := h
 clear h
 replace H := Option.bind_eq_some_iff.mp H
 obtain ⟨⟨t180, t181⟩, A20, H⟩ := H
 replace H : (if t181 = 0 then (some ((⟨#[]⟩ : ByteArray), 0)) else (if t180 > (wrap64 ((l0.length : Int) - t181)) then (some ((⟨#[]⟩ : ByteArray), 0)) else (if 0 ≤ t181 then (if t181 ≤ (wrap64 (t181 + t180)) then (if (wrap64 (t181 + t180)) ≤ (l0.length : Int) then (some (strOfNums ((l0.take ((wrap64 (t181 + t180)) : Int).toNat).drop (t181 : Int).toNat), wrap64 (t181 + t180))) else (none)) else (none)) else (none)))) = some (r1, r2) := H
 have A2 := Aside0.mk A20
 clear A20
 by_cases c3 : t181 = 0
 ·rw [if_pos c3] at H
  have c3b0 : (t181 == 0) = true := beq_iff_eq.mpr c3
  have c3b1 : (t181 != 0) = false := bne_eq_false_iff_eq.mpr c3
  clear c3
  simp only [Option.some.injEq, Prod.mk.injEq] at H
  obtain ⟨rfl, rfl⟩ := H
  go_enter Try.func91, Try.ntmps91
  go_wp2_with (first | ((with_reducible refine gate_callee (f := 53) rfl ?_); refine goesL_ (some 8) rfl rfl Try.func53 (by kernel_rfl) rfl #[.slice A0 l0.length c0] rfl (by (try simp only [List.map_toArray, List.map_cons, List.map_nil]); (rfl)) ?_; (with_reducible refine (variorumref01_Num.calls k _ _ l0 t180 t181 _ ?side1 ?side2 A2.out).mono ?_); (case side1 => repeat ((exact HR0.out))); (case side2 => exact HC0.out); rintro e w' ⟨rfl, ⟨nd, rfl⟩⟩; refine ⟨_, rfl, ?_⟩))
  go_ret2
  exact ⟨by (rfl), by repeat (first | exact Drawn0.refl _ | apply Drawn0.step)⟩
 ·rw [if_neg c3] at H
  have c3b0 : (t181 == 0) = false := beq_eq_false_iff_ne.mpr c3
  have c3b1 : (t181 != 0) = true := bne_iff_ne.mpr c3
  by_cases c4 : t180 > (wrap64 ((l0.length : Int) - t181))
  ·rw [if_pos c4] at H
   have c4b0 : decide ((wrap64 ((l0.length : Int) - t181)) < t180) = true := decide_eq_true c4
   clear c4
   simp only [Option.some.injEq, Prod.mk.injEq] at H
   obtain ⟨rfl, rfl⟩ := H
   go_enter Try.func91, Try.ntmps91
   go_wp2_with (first | ((with_reducible refine gate_callee (f := 53) rfl ?_); refine goesL_ (some 8) rfl rfl Try.func53 (by kernel_rfl) rfl #[.slice A0 l0.length c0] rfl (by (try simp only [List.map_toArray, List.map_cons, List.map_nil]); (rfl)) ?_; (with_reducible refine (variorumref01_Num.calls k _ _ l0 t180 t181 _ ?side1 ?side2 A2.out).mono ?_); (case side1 => repeat ((exact HR0.out))); (case side2 => exact HC0.out); rintro e w' ⟨rfl, ⟨nd, rfl⟩⟩; refine ⟨_, rfl, ?_⟩))
   go_ret2
   exact ⟨by (rfl), by repeat (first | exact Drawn0.refl _ | apply Drawn0.step)⟩
  ·rw [if_neg c4] at H
   have c4b0 : decide ((wrap64 ((l0.length : Int) - t181)) < t180) = false := decide_eq_false c4
   clear c4
   by_cases c5 : 0 ≤ t181
   ·rw [if_pos c5] at H
    have c5b0 := eq_true c5
    have c5b1 : decide (0 ≤ t181) = true := decide_eq_true c5
    clear c5
    by_cases c6 : t181 ≤ (wrap64 (t181 + t180))
    ·rw [if_pos c6] at H
     have c6b0 := eq_true c6
     have c6b1 : decide (t181 ≤ (wrap64 (t181 + t180))) = true := decide_eq_true c6
     by_cases c7 : (wrap64 (t181 + t180)) ≤ (l0.length : Int)
     ·rw [if_pos c7] at H
      have c7b0 := eq_true c7
      have c7b1 : decide ((wrap64 (t181 + t180)) ≤ (l0.length : Int)) = true := decide_eq_true c7
      simp only [Option.some.injEq, Prod.mk.injEq] at H
      obtain ⟨rfl, rfl⟩ := H
      go_enter Try.func91, Try.ntmps91
      go_wp2_with (first | ((with_reducible refine gate_callee (f := 53) rfl ?_); refine goesL_ (some 8) rfl rfl Try.func53 (by kernel_rfl) rfl #[.slice A0 l0.length c0] rfl (by (try simp only [List.map_toArray, List.map_cons, List.map_nil]); (rfl)) ?_; (with_reducible refine (variorumref01_Num.calls k _ _ l0 t180 t181 _ ?side1 ?side2 A2.out).mono ?_); (case side1 => repeat ((exact HR0.out))); (case side2 => exact HC0.out); rintro e w' ⟨rfl, ⟨nd, rfl⟩⟩; refine ⟨_, rfl, ?_⟩; obtain ⟨i08, hi08, _, hsz8, _⟩ := info_parts info5; obtain ⟨A8, hcut8, hA8, hC8⟩ := print_mid_of (P := Try.prog) (Value.int .u8) 0 25 5 .i64 .i64 Try.underlying25 hi08 hsz8 A0 c0 l0 t181 (wrap64 (t181 + t180)) (of_decide_eq_true (by (with_reducible assumption))) (by (omega)) (of_decide_eq_true (by (with_reducible assumption))) HC0.out; have HR182 := Aside0.mk (Kd.C_of_reads (h1 := fun _ => rfl) (hA8 _ (Kd.reads_of_C HR0.out))); have HC182 := Aside0.mk hC8; clear hA8 hC8 hi08 hsz8; have hcv9 := Kd.C_string (P := Try.prog) (A := A8) (c := (c0 - t181.toNat)) Try.underlying25 Try.underlying5 Try.underlying9 (Kd.C_drewN HR182.out nd); rw [show (List.drop t181.toNat (List.take (wrap64 (t181 + t180)).toNat l0)).length = (wrap64 (t181 + t180)).toNat - t181.toNat by rw [List.length_drop, List.length_take]; omega] at hcv9))
      go_ret2
      exact ⟨by (rfl), by repeat (first | exact Drawn0.refl _ | apply Drawn0.step)⟩
     ·rw [if_neg c7] at H
      exact absurd H (by simp)
    ·rw [if_neg c6] at H
     exact absurd H (by simp)
   ·rw [if_neg c5] at H
    exact absurd H (by simp)
end Go.Proofs.Ytedfcjcnhgomoaa.P
end
-- MERGED YtedfcjcnhgomoaaPvariorumref11Readtext
section
namespace Go.Proofs.Ytedfcjcnhgomoaa.P
open Go.RowKit Go.Proofs.YtedfcjcnhgomoaaW.PrintWords Go.Proofs.YtedfcjcnhgomoaaW.PrintLast Go.Proofs.YtedfcjcnhgomoaaW.PrintMore
attribute [local go_sem] max2_int min2_int max_two min_two max_three min_three max_four min_four   -- for this text's walks alone
open Go.Proofs.Ytedfcjcnhgomoaa.Press
set_option linter.unusedVariables false
set_option linter.unusedSimpArgs false
abbrev textB0 : Array Bool := #[true, false, false, false, false, false, false, false, false, false, false, false, false, false]
abbrev textB1 : Array Bool := #[true, true, false, false, false, false, false, false, false, false, false, false, false, false]
abbrev textB2 : Array Bool := #[true, true, false, true, false, false, false, false, false, false, false, false, false, false]
abbrev textB3 : Array Bool := #[true, true, false, true, false, true, false, false, false, false, false, false, false, false]
abbrev textB4 : Array Bool := #[true, true, true, true, true, true, false, false, false, false, false, false, false, false]
abbrev textB5 : Array Bool := #[true, true, true, true, true, true, true, true, false, false, false, false, false, false]
abbrev textB6 : Array Bool := #[true, true, true, true, true, true, true, true, true, true, true, false, false, false]
abbrev textB7 : Array Bool := #[true, true, true, true, true, true, true, true, true, true, true, true, false, false]
abbrev textB8 : Array Bool := #[true, true, true, true, true, true, true, true, true, true, true, true, true, false]
abbrev textB9 : Array Bool := #[true, true, true, true, true, true, true, true, true, false, false, false, false, false]
abbrev textB10 : Array Bool := #[true, true, true, true, true, true, true, true, true, true, false, false, false, false]
abbrev textB11 : Array Bool := #[true, true, true, true, false, true, false, false, false, false, false, false, false, false]
abbrev textB12 : Array Bool := #[true, true, true, true, true, true, true, false, false, false, false, false, false, false]
abbrev textB13 : Array Bool := #[false, false, false, false, false, false, false, false, false, false, false, false, false, false]
abbrev textB14 : Array Bool := #[true, true, true, true, true, true, true, true, true, true, true, true, true, true]
def variorumref11_Read_text.f (k : Nat) (l0_0 : List Int) (a0_1 : Bool) : Option (ByteArray × List Int × Bool) := (variorumref01_Text.f k l0_0).bind fun bt416 => (if 0 ≤ bt416.2 then (if bt416.2 ≤ (l0_0.length : Int) then ((some (l0_0.drop (bt416.2 : Int).toNat : List Int)).bind fun y418 => (if a0_1 = true then (some (bt416.1, y418, true)) else (some (bt416.1, y418, (bt416.2 == 0))))) else (none)) else (none))
def variorumref11_Read_text.T2 : Bool × List (List Nat × List Nat) := (true, [([], []), ([], []), ([1], [1]), ([], []), ([2, 3], [2, 3]), ([], []), ([5], [5]), ([6], [6]), ([7], [7]), ([8, 7], [7, 8]), ([7, 9], [7, 9]), ([4, 10], [4, 10]), ([0, 7, 0], [0]), ([11, 12, 0, 1, 2, 3, 4, 5, 6, 7, 8, 9, 10, 11, 12], [11])])
def variorumref11_Read_text.B2 : List Nat := [0, 0, 2, 0, 14, 0, 32, 96, 224, 480, 992, 2046, 225, 8191]
theorem variorumref11_Read_text.tab2 : rtab .any (opsOf Try.f81 2) = variorumref11_Read_text.T2 := by kernel_rfl
theorem variorumref11_Read_text.bits2 : waitsOk variorumref11_Read_text.T2.2 variorumref11_Read_text.B2 = true := by kernel_rfl
set_option maxHeartbeats 8000000 in
set_option maxRecDepth 100000 in
theorem variorumref11_Read_text.calls (k : Nat) (P0_0_ : Nat → Prop) (A0_0 : Option Addr) (c0_0 : Nat) (l0_0 : List Int) (a0_1 : Bool) (r1 : ByteArray) (r2 : List Int) (r3 : Bool) (w : World) (hs0_0 : Kd.V (Kd.int .u8) 5 w w.heap.size (fun k_ => P0_0_ k_) (.slice A0_0 l0_0.length c0_0) l0_0) (h : variorumref11_Read_text.f k l0_0 a0_1 = some (r1, r2, r3)) :
  Calls Try.prog 81 #[.agg #[.slice A0_0 l0_0.length c0_0, .bool a0_1]] w fun e w' => ∃ v1_ : Value, e = .returned (.tuple #[.string r1, .agg #[v1_, .bool r3]]) ∧ Kd.V (Kd.int .u8) 5 w' w.heap.size (fun k_ => (P0_0_ k_ ∨ w.heap.size ≤ k_)) v1_ r2 ∧ Below w.heap.size w w' := by
 have hu119 := Try.underlying119
 have HO0_0 := Aside0.mk (show Kd.V (Kd.int .u8) 5 w w.heap.size (fun k_ => (P0_0_ k_ ∨ w.heap.size ≤ k_)) (.slice A0_0 l0_0.length c0_0) l0_0 from Kd.V_mono hs0_0 (fun k_ hk => .inl hk))
 have HB := Aside0.mk (Below.refl w.heap.size w)
 have H : ((variorumref01_Text.f k l0_0).bind fun bt416 => (if 0 ≤ bt416.2 then (if bt416.2 ≤ (l0_0.length : Int) then ((some (l0_0.drop (bt416.2 : Int).toNat : List Int)).bind fun y418 => (if a0_1 = true then (some (bt416.1, y418, true)) else (some (bt416.1, y418, (bt416.2 == 0))))) else (none)) else (none))) = some (r1, r2, r3) := h
 clear h
 replace H := Option.bind_eq_some_iff.mp H
 obtain ⟨⟨t416, t417⟩, A20, H⟩ := H
 replace H : (if 0 ≤ t417 then (if t417 ≤ (l0_0.length : Int) then ((some (l0_0.drop (t417 : Int).toNat : List Int)).bind fun y418 => (if a0_1 = true then (some (t416, y418, true)) else (some (t416, y418, (t417 == 0))))) else (none)) else (none)) = some (r1, r2, r3) := H
 have A2 := Aside0.mk A20
 clear A20
 by_cases c3 : 0 ≤ t417
 ·rw [if_pos c3] at H
  have c3b0 := eq_true c3
  have c3b1 : decide (0 ≤ t417) = true := decide_eq_true c3
  clear c3
  by_cases c4 : t417 ≤ (l0_0.length : Int)
  ·rw [if_pos c4] at H
   have c4b0 := eq_true c4
   have c4b1 : decide (t417 ≤ (l0_0.length : Int)) = true := decide_eq_true c4
   clear c4
   obtain ⟨y418, hy418⟩ : ∃ y_ : List Int, y_ = (l0_0.drop (t417 : Int).toNat) := ⟨_, rfl⟩
   replace H : (if a0_1 = true then (some (t416, y418, true)) else (some (t416, y418, (t417 == 0)))) = some (r1, r2, r3) := by (have H2_ := (Option.bind_some _ _).symm.trans H; rw [hy418]; with_reducible exact H2_)
   have Ny418 := Aside0.mk hy418
   clear hy418
   by_cases c5 : a0_1 = true
   ·subst c5
    have H1 : (some (t416, y418, true)) = some (r1, r2, r3) := by rw [if_pos rfl] at H; exact H
    clear H
    have H := H1
    clear H1
    simp only [Option.some.injEq, Prod.mk.injEq] at H
    obtain ⟨rfl, rfl, rfl⟩ := H
    go_enter Try.func81, Try.ntmps81
    try go_wp2_with (first | ((with_reducible refine gate_dst (N := 1) rfl ?_); refine box_event ?hg (N := 1) ?hd (cs := #[.slice A0_0 l0_0.length c0_0, .bool true]) (t := 119) ?hr ?_; (case hd => rfl); (case hg => rfl); (case hr => (go_simp; done)); intro gb414 hg w6 hbox hb; have n0_ := Aside0.mk (Kd.V_below (Kd.V_elderB (by (with_reducible repeat ((apply Kd.V_drew))); exact HO0_0.out) gb414 (Nat.le_of_eq hg.symm)) hb); have n1_ := Aside0.mk (below_step (by repeat ((with_reducible (exact HB.out)))) hb); have n2_ := Aside0.mk (hbox); have n3_ := Aside0.mk ((by rw [hg]; exact (below_size (by repeat ((with_reducible (exact HB.out))))) : w.heap.size ≤ gb414)); have n4_ := Aside0.mk ((by rw [hg]; exact (below_size (by repeat ((with_reducible (exact HB.out))))) : w.heap.size ≤ gb414)); clear HO0_0; clear HB; have HO0_0 := n0_; have HB := n1_; have BK414 := n2_; have GW414 := n3_; have GE414 := n4_; clear n0_ n1_ n2_ n3_ n4_; clear hb hbox hg) | ((with_reducible refine gate_dst (N := 3) rfl ?_); refine box_event ?hg (N := 3) ?hd (cs := #[.slice none 0 0, .bool false]) (t := 119) ?hr ?_; (case hd => rfl); (case hg => rfl); (case hr => (go_simp; done)); intro gb415 hg w7 hbox hb; have n0_ := Aside0.mk (Kd.V_below (Kd.V_elderB (by (with_reducible repeat ((apply Kd.V_drew))); exact HO0_0.out) gb415 (Nat.le_of_eq hg.symm)) hb); have n1_ := Aside0.mk (blk_below (g := gb414) (o := .cells #[.slice A0_0 l0_0.length c0_0, .bool true] 119 (0, 0)) (by (with_reducible repeat ((refine blk_drew ?_))); exact BK414.out) hb); have n2_ := Aside0.mk (below_step (by repeat ((with_reducible (exact HB.out)))) hb); have n3_ := Aside0.mk (hbox); have n4_ := Aside0.mk ((by rw [hg]; exact (below_size (by repeat ((with_reducible (exact HB.out))))) : w.heap.size ≤ gb415)); have n5_ := Aside0.mk ((by rw [hg]; exact (below_size (by repeat ((with_reducible (exact HB.out))))) : w.heap.size ≤ gb415)); have n6_ := Aside0.mk ((by rw [hg]; exact Nat.ne_of_lt (blk_lt (g := gb414) (o := .cells #[.slice A0_0 l0_0.length c0_0, .bool true] 119 (0, 0)) (by (with_reducible repeat ((refine blk_drew ?_))); exact BK414.out)) : gb414 ≠ gb415)); have n7_ := Aside0.mk ((by rw [hg]; exact Nat.ne_of_gt (blk_lt (g := gb414) (o := .cells #[.slice A0_0 l0_0.length c0_0, .bool true] 119 (0, 0)) (by (with_reducible repeat ((refine blk_drew ?_))); exact BK414.out)) : gb415 ≠ gb414)); clear HO0_0; clear BK414; clear HB; have HO0_0 := n0_; have BK414 := n1_; have HB := n2_; have BK415 := n3_; have GW415 := n4_; have GE415 := n5_; have NB414_415 := n6_; have NB415_414 := n7_; clear n0_ n1_ n2_ n3_ n4_ n5_ n6_ n7_; clear hb hbox hg; have hnb8 := NB414_415.out; have hnc8 := NB415_414.out; have hcz9_0 : w7.cell? ⟨gb414, 0, none⟩ = some (.slice A0_0 l0_0.length c0_0) := (blk_cell BK414.out 0).trans rfl; have hcz9_1 : w7.cell? ⟨gb414, 1, none⟩ = some (.bool true) := (blk_cell BK414.out 1).trans rfl; have hfz9_0 := blk_frozen BK414.out 0; have hfz9_1 := blk_frozen BK414.out 1) | ((with_reducible refine gate_callee (f := 91) rfl ?_); refine goesL_ (some 9) rfl rfl Try.func91 (by kernel_rfl) rfl #[.slice A0_0 l0_0.length c0_0] rfl (by (try simp only [List.map_toArray, List.map_cons, List.map_nil]); (rfl)) ?_; (with_reducible refine (variorumref01_Text.calls k _ _ l0_0 t416 t417 _ ?side1 ?side2 A2.out).mono ?_); (case side1 => repeat ((exact (Kd.V_reads' HO0_0.out).2.2))); (case side2 => exact (Kd.V_reads' HO0_0.out).2.1); rintro e w' ⟨rfl, ⟨nd, rfl⟩⟩; refine ⟨_, rfl, ?_⟩; (try (rw [drewN_self w7]; generalize hq_ : World.drewN w7 _ = w7; have n0_ : Aside0 (Kd.V (Kd.int .u8) 5 w7 w.heap.size (fun k_ => (P0_0_ k_ ∨ w.heap.size ≤ k_) ∧ k_ ≠ gb414 ∧ k_ ≠ gb415) (.slice A0_0 l0_0.length c0_0) l0_0) := ⟨by rw [← hq_]; exact (by (with_reducible repeat ((apply Kd.V_drewN))); exact Kd.V_mono HO0_0.out (fun _ hk => ⟨hk.1.1, ⟨hk.1.2, hk.2⟩⟩))⟩; have n1_ : Aside0 (w7.heap[gb414]? = some (.cells #[.slice A0_0 l0_0.length c0_0, .bool true] 119 (0, 0))) := ⟨by rw [← hq_]; exact (by (with_reducible repeat ((refine blk_drewN ?_ _))); exact BK414.out)⟩; have n2_ : Aside0 (w7.heap[gb415]? = some (.cells #[.slice none 0 0, .bool false] 119 (0, 0))) := ⟨by rw [← hq_]; exact (by (with_reducible repeat ((refine blk_drewN ?_ _))); exact BK415.out)⟩; have n3_ : Aside0 (Below w.heap.size w w7) := ⟨by rw [← hq_]; exact (by repeat ((with_reducible first | exact HB.out | apply pw_below_drewN)))⟩; clear HO0_0 BK414 BK415 HB hq_; have HO0_0 := n0_; have BK414 := n1_; have BK415 := n2_; have HB := n3_; clear n0_ n1_ n2_ n3_))))
    have n0_ := Aside0.mk (Kd.V_drew HO0_0.out)
    have n1_ := Aside0.mk (blk_drew BK414.out)
    have n2_ := Aside0.mk (blk_drew BK415.out)
    have n3_ := Aside0.mk (below_drew1 HB.out)
    clear HO0_0
    clear BK414
    clear BK415
    clear HB
    have HO0_0 := n0_
    have BK414 := n1_
    have BK415 := n2_
    have HB := n3_
    clear n0_ n1_ n2_ n3_
    have q11 : (t417 : Int) ≤ ((l0_0.length : Int) : Int) := of_decide_eq_true (by (with_reducible assumption))
    obtain ⟨i011, hi011, _, hsz11, _⟩ := info_parts info5
    have hroom11 : l0_0.length ≤ c0_0 := (Kd.V_reads' HO0_0.out).2.1
    have hC11 : Kd.F (Kd.int .u8) _ _ A0_0 l0_0.length l0_0 := (Kd.V_at (base := w.heap.size) HO0_0.out).2.2
    have q011 : (0 : Int) ≤ (t417 : Int) := of_decide_eq_true (by (with_reducible assumption))
    have hcut11 := cut_from (P := Try.prog) 25 5 .i64 Try.underlying25 hi011 1 hsz11 A0_0 l0_0.length c0_0 t417 q011 q11
    have hr11 := Kd.F_cut (m := (t417 : Int).toNat) (c := c0_0) hC11 (by omega) hroom11
    obtain ⟨A11, hA11⟩ : ∃ A1, A1 = (if c0_0 = (t417 : Int).toNat then A0_0 else (A0_0 : Option Addr).map (·.add ((t417 : Int).toNat * 1))) := ⟨_, rfl⟩
    obtain ⟨c11, hc11⟩ : ∃ c1, c1 = c0_0 - (t417 : Int).toNat := ⟨_, rfl⟩
    have hy11 : y418.length = l0_0.length - (t417 : Int).toNat := (by rw [Ny418.out, List.length_drop] <;> omega)
    rw [show (l0_0).drop (t417 : Int).toNat = y418 from Ny418.out.symm] at hr11
    replace hr11 : Kd.F (Kd.int .u8) _ _ A11 y418.length y418 := (by rw [hA11]; exact hr11)
    rw [← hy11, ← hA11, ← hc11] at hcut11
    have HO422 := Aside0.mk (show Kd.V (Kd.int .u8) 5 _ w.heap.size _ (.slice A11 y418.length c11) y418 from Kd.V_mk (by rw [hy11, hc11]; exact Nat.sub_le_sub_right hroom11 _) hr11)
    have HC422 := Aside0.mk (show y418.length ≤ c11 from by rw [hy11, hc11]; exact Nat.sub_le_sub_right hroom11 _)
    clear hr11 hC11 hroom11 hi011 hsz11 hc11
    have KY11 := Aside0.mk hy11
    have KA11 := Aside0.mk hA11
    clear hy11 hA11
    replace q11 := eq_true q11
    refine start_ (n := 14) (S := fun w' => w'.cell? ⟨gb414, 0, none⟩ = some (.slice A0_0 l0_0.length c0_0) ∧ w'.cell? ⟨gb414, 1, none⟩ = some (.bool true)) (ds := []) textB13 (by kernel_rfl) rfl rfl ⟨(blk_cell BK414.out 0).trans rfl, (blk_cell BK414.out 1).trans rfl⟩ (fun hHeld => ?_); refine with_tabW variorumref11_Read_text.tab2 variorumref11_Read_text.bits2 (fun HT_ HW_ => ?_)
    generalize w7.drew = w10 at HO0_0 BK414 BK415 HB HO422 hHeld ⊢
    refine pu_ 0 12 textB0 HT_ ?_
    refine pu_ 1 13 textB1 HT_ ?_
    refine pu_ 3 15 textB2 HT_ ?_
    refine pu_ 5 17 textB3 HT_ ?_
    refine pt_ 2 14 textB11 HT_ HW_ rfl hHeld (by rintro w' ⟨s0, s1⟩; go_simp; with_reducible rfl) ?_
    refine pu_ 4 16 textB4 HT_ ?_
    refine pt_ 6 18 textB12 HT_ HW_ rfl hHeld (by rintro w' ⟨s0, s1⟩; go_simp; with_reducible rfl) ?_
    refine pu_ 7 19 textB5 HT_ ?_
    refine pn_ 8 20 textB9 HT_ ?_
    refine pn_ 9 21 textB10 HT_ ?_
    refine pu_ 10 22 textB6 HT_ ?_
    refine pu_ 11 23 textB7 HT_ ?_
    refine pu_ 12 2 textB8 HT_ ?_
    refine one_ (i := 13) (N := none) textB14 rfl rfl (one_of HT_.out (by kernel_rfl)) (by decide) (fun K hK => ?_)
    have hs12 : w10.cell? ⟨gb415, 0, none⟩ = some (.slice none 0 0) := (blk_cell BK415.out 0).trans rfl
    have hfs12 := blk_frozen BK415.out 0
    have hns12_0 := NB414_415.out
    have hms12_0 := NB415_414.out
    have hs13 : w10.cell? ⟨gb415, 1, none⟩ = some (.bool false) := (blk_cell BK415.out 1).trans rfl
    have hfs13 := blk_frozen BK415.out 1
    have hns13_0 := NB414_415.out
    have hms13_0 := NB415_414.out
    refine skip_ (w1 := ?_) (by rfl) rfl ?_ ?_
    rotate_left
    ·go_simp
     rfl
    refine hK.out _ _ ⟨((cell_far (p := ⟨gb415, _, none⟩) NB414_415.out _).trans (((cell_far (p := ⟨gb415, _, none⟩) NB414_415.out _).trans (hHeld.1)))), ((cell_far (p := ⟨gb415, _, none⟩) NB414_415.out _).trans (((cell_far (p := ⟨gb415, _, none⟩) NB414_415.out _).trans (hHeld.2))))⟩ (fun hHeld => ?_)
    clear hK K
    refine done_ (done_of HT_.out (by kernel_rfl)) ?_
    try go_wp2
    refine bodyPost_ret (results_tc rfl _ _ gb415 119 #[.slice A11 y418.length c11, .bool true] (0, 0) _ rfl (by (with_reducible repeat ((refine blk_drew ?_))); refine blk_put (cs := #[.slice A11 y418.length c11, .bool false]) ?_ 1 _ rfl; (with_reducible repeat ((refine blk_drew ?_))); refine blk_put (cs := #[.slice none 0 0, .bool false]) ?_ 0 _ rfl; (with_reducible repeat ((refine blk_drew ?_))); exact BK415.out) Try.underlying119 rfl (by kernel_rfl)) rfl ?_
    exact ⟨_, by (rfl), by (with_reducible repeat ((apply Kd.V_drew))); exact Kd.V_mono (Kd.V_far (p := ⟨gb415, 1, none⟩) (Kd.V_far (p := ⟨gb415, 0, none⟩) (Kd.V_mono HO422.out (fun k_ hk => (⟨hk, hk.2.2⟩ : _ ∧ k_ ≠ gb415))) (fun _ hk => hk.2) (.slice A11 y418.length c11)) (fun _ hk => hk.2) (.bool true)) (fun _ hk => hk.1.1), by repeat ((with_reducible first | exact HB.out | refine below_set ?_ GE415.out))⟩
   ·replace c5 := Bool.eq_false_iff.mpr c5
    subst c5
    have H1 : (some (t416, y418, (t417 == 0))) = some (r1, r2, r3) := by rw [if_neg (show ¬ (false = true) by decide)] at H; exact H
    clear H
    have H := H1
    clear H1
    simp only [Option.some.injEq, Prod.mk.injEq] at H
    obtain ⟨rfl, rfl, rfl⟩ := H
    go_enter Try.func81, Try.ntmps81
    try go_wp2_with (first | ((with_reducible refine gate_dst (N := 1) rfl ?_); refine box_event ?hg (N := 1) ?hd (cs := #[.slice A0_0 l0_0.length c0_0, .bool false]) (t := 119) ?hr ?_; (case hd => rfl); (case hg => rfl); (case hr => (go_simp; done)); intro gb414 hg w14 hbox hb; have n0_ := Aside0.mk (Kd.V_below (Kd.V_elderB (by (with_reducible repeat ((apply Kd.V_drew))); exact HO0_0.out) gb414 (Nat.le_of_eq hg.symm)) hb); have n1_ := Aside0.mk (below_step (by repeat ((with_reducible (exact HB.out)))) hb); have n2_ := Aside0.mk (hbox); have n3_ := Aside0.mk ((by rw [hg]; exact (below_size (by repeat ((with_reducible (exact HB.out))))) : w.heap.size ≤ gb414)); have n4_ := Aside0.mk ((by rw [hg]; exact (below_size (by repeat ((with_reducible (exact HB.out))))) : w.heap.size ≤ gb414)); clear HO0_0; clear HB; have HO0_0 := n0_; have HB := n1_; have BK414 := n2_; have GW414 := n3_; have GE414 := n4_; clear n0_ n1_ n2_ n3_ n4_; clear hb hbox hg) | ((with_reducible refine gate_dst (N := 3) rfl ?_); refine box_event ?hg (N := 3) ?hd (cs := #[.slice none 0 0, .bool false]) (t := 119) ?hr ?_; (case hd => rfl); (case hg => rfl); (case hr => (go_simp; done)); intro gb415 hg w15 hbox hb; have n0_ := Aside0.mk (Kd.V_below (Kd.V_elderB (by (with_reducible repeat ((apply Kd.V_drew))); exact HO0_0.out) gb415 (Nat.le_of_eq hg.symm)) hb); have n1_ := Aside0.mk (blk_below (g := gb414) (o := .cells #[.slice A0_0 l0_0.length c0_0, .bool false] 119 (0, 0)) (by (with_reducible repeat ((refine blk_drew ?_))); exact BK414.out) hb); have n2_ := Aside0.mk (below_step (by repeat ((with_reducible (exact HB.out)))) hb); have n3_ := Aside0.mk (hbox); have n4_ := Aside0.mk ((by rw [hg]; exact (below_size (by repeat ((with_reducible (exact HB.out))))) : w.heap.size ≤ gb415)); have n5_ := Aside0.mk ((by rw [hg]; exact (below_size (by repeat ((with_reducible (exact HB.out))))) : w.heap.size ≤ gb415)); have n6_ := Aside0.mk ((by rw [hg]; exact Nat.ne_of_lt (blk_lt (g := gb414) (o := .cells #[.slice A0_0 l0_0.length c0_0, .bool false] 119 (0, 0)) (by (with_reducible repeat ((refine blk_drew ?_))); exact BK414.out)) : gb414 ≠ gb415)); have n7_ := Aside0.mk ((by rw [hg]; exact Nat.ne_of_gt (blk_lt (g := gb414) (o := .cells #[.slice A0_0 l0_0.length c0_0, .bool false] 119 (0, 0)) (by (with_reducible repeat ((refine blk_drew ?_))); exact BK414.out)) : gb415 ≠ gb414)); clear HO0_0; clear BK414; clear HB; have HO0_0 := n0_; have BK414 := n1_; have HB := n2_; have BK415 := n3_; have GW415 := n4_; have GE415 := n5_; have NB414_415 := n6_; have NB415_414 := n7_; clear n0_ n1_ n2_ n3_ n4_ n5_ n6_ n7_; clear hb hbox hg; have hnb16 := NB414_415.out; have hnc16 := NB415_414.out; have hcz17_0 : w15.cell? ⟨gb414, 0, none⟩ = some (.slice A0_0 l0_0.length c0_0) := (blk_cell BK414.out 0).trans rfl; have hcz17_1 : w15.cell? ⟨gb414, 1, none⟩ = some (.bool false) := (blk_cell BK414.out 1).trans rfl; have hfz17_0 := blk_frozen BK414.out 0; have hfz17_1 := blk_frozen BK414.out 1) | ((with_reducible refine gate_callee (f := 91) rfl ?_); refine goesL_ (some 9) rfl rfl Try.func91 (by kernel_rfl) rfl #[.slice A0_0 l0_0.length c0_0] rfl (by (try simp only [List.map_toArray, List.map_cons, List.map_nil]); (rfl)) ?_; (with_reducible refine (variorumref01_Text.calls k _ _ l0_0 t416 t417 _ ?side1 ?side2 A2.out).mono ?_); (case side1 => repeat ((exact (Kd.V_reads' HO0_0.out).2.2))); (case side2 => exact (Kd.V_reads' HO0_0.out).2.1); rintro e w' ⟨rfl, ⟨nd, rfl⟩⟩; refine ⟨_, rfl, ?_⟩; (try (rw [drewN_self w15]; generalize hq_ : World.drewN w15 _ = w15; have n0_ : Aside0 (Kd.V (Kd.int .u8) 5 w15 w.heap.size (fun k_ => (P0_0_ k_ ∨ w.heap.size ≤ k_) ∧ k_ ≠ gb414 ∧ k_ ≠ gb415) (.slice A0_0 l0_0.length c0_0) l0_0) := ⟨by rw [← hq_]; exact (by (with_reducible repeat ((apply Kd.V_drewN))); exact Kd.V_mono HO0_0.out (fun _ hk => ⟨hk.1.1, ⟨hk.1.2, hk.2⟩⟩))⟩; have n1_ : Aside0 (w15.heap[gb414]? = some (.cells #[.slice A0_0 l0_0.length c0_0, .bool false] 119 (0, 0))) := ⟨by rw [← hq_]; exact (by (with_reducible repeat ((refine blk_drewN ?_ _))); exact BK414.out)⟩; have n2_ : Aside0 (w15.heap[gb415]? = some (.cells #[.slice none 0 0, .bool false] 119 (0, 0))) := ⟨by rw [← hq_]; exact (by (with_reducible repeat ((refine blk_drewN ?_ _))); exact BK415.out)⟩; have n3_ : Aside0 (Below w.heap.size w w15) := ⟨by rw [← hq_]; exact (by repeat ((with_reducible first | exact HB.out | apply pw_below_drewN)))⟩; clear HO0_0 BK414 BK415 HB hq_; have HO0_0 := n0_; have BK414 := n1_; have BK415 := n2_; have HB := n3_; clear n0_ n1_ n2_ n3_))))
    have n0_ := Aside0.mk (Kd.V_drew HO0_0.out)
    have n1_ := Aside0.mk (blk_drew BK414.out)
    have n2_ := Aside0.mk (blk_drew BK415.out)
    have n3_ := Aside0.mk (below_drew1 HB.out)
    clear HO0_0
    clear BK414
    clear BK415
    clear HB
    have HO0_0 := n0_
    have BK414 := n1_
    have BK415 := n2_
    have HB := n3_
    clear n0_ n1_ n2_ n3_
    have q19 : (t417 : Int) ≤ ((l0_0.length : Int) : Int) := of_decide_eq_true (by (with_reducible assumption))
    obtain ⟨i019, hi019, _, hsz19, _⟩ := info_parts info5
    have hroom19 : l0_0.length ≤ c0_0 := (Kd.V_reads' HO0_0.out).2.1
    have hC19 : Kd.F (Kd.int .u8) _ _ A0_0 l0_0.length l0_0 := (Kd.V_at (base := w.heap.size) HO0_0.out).2.2
    have q019 : (0 : Int) ≤ (t417 : Int) := of_decide_eq_true (by (with_reducible assumption))
    have hcut19 := cut_from (P := Try.prog) 25 5 .i64 Try.underlying25 hi019 1 hsz19 A0_0 l0_0.length c0_0 t417 q019 q19
    have hr19 := Kd.F_cut (m := (t417 : Int).toNat) (c := c0_0) hC19 (by omega) hroom19
    obtain ⟨A19, hA19⟩ : ∃ A1, A1 = (if c0_0 = (t417 : Int).toNat then A0_0 else (A0_0 : Option Addr).map (·.add ((t417 : Int).toNat * 1))) := ⟨_, rfl⟩
    obtain ⟨c19, hc19⟩ : ∃ c1, c1 = c0_0 - (t417 : Int).toNat := ⟨_, rfl⟩
    have hy19 : y418.length = l0_0.length - (t417 : Int).toNat := (by rw [Ny418.out, List.length_drop] <;> omega)
    rw [show (l0_0).drop (t417 : Int).toNat = y418 from Ny418.out.symm] at hr19
    replace hr19 : Kd.F (Kd.int .u8) _ _ A19 y418.length y418 := (by rw [hA19]; exact hr19)
    rw [← hy19, ← hA19, ← hc19] at hcut19
    have HO422 := Aside0.mk (show Kd.V (Kd.int .u8) 5 _ w.heap.size _ (.slice A19 y418.length c19) y418 from Kd.V_mk (by rw [hy19, hc19]; exact Nat.sub_le_sub_right hroom19 _) hr19)
    have HC422 := Aside0.mk (show y418.length ≤ c19 from by rw [hy19, hc19]; exact Nat.sub_le_sub_right hroom19 _)
    clear hr19 hC19 hroom19 hi019 hsz19 hc19
    have KY19 := Aside0.mk hy19
    have KA19 := Aside0.mk hA19
    clear hy19 hA19
    replace q19 := eq_true q19
    refine start_ (n := 14) (S := fun w' => w'.cell? ⟨gb414, 0, none⟩ = some (.slice A0_0 l0_0.length c0_0) ∧ w'.cell? ⟨gb414, 1, none⟩ = some (.bool false)) (ds := []) textB13 (by kernel_rfl) rfl rfl ⟨(blk_cell BK414.out 0).trans rfl, (blk_cell BK414.out 1).trans rfl⟩ (fun hHeld => ?_); refine with_tabW variorumref11_Read_text.tab2 variorumref11_Read_text.bits2 (fun HT_ HW_ => ?_)
    generalize w15.drew = w18 at HO0_0 BK414 BK415 HB HO422 hHeld ⊢
    refine pu_ 0 12 textB0 HT_ ?_
    refine pu_ 1 13 textB1 HT_ ?_
    refine pu_ 3 15 textB2 HT_ ?_
    refine pu_ 5 17 textB3 HT_ ?_
    refine pt_ 2 14 textB11 HT_ HW_ rfl hHeld (by rintro w' ⟨s0, s1⟩; go_simp; with_reducible rfl) ?_
    refine pu_ 4 16 textB4 HT_ ?_
    refine pt_ 6 18 textB12 HT_ HW_ rfl hHeld (by rintro w' ⟨s0, s1⟩; go_simp; with_reducible rfl) ?_
    refine pu_ 7 19 textB5 HT_ ?_
    refine pu_ 8 20 textB9 HT_ ?_
    refine pu_ 9 21 textB10 HT_ ?_
    refine pu_ 10 22 textB6 HT_ ?_
    refine pu_ 11 23 textB7 HT_ ?_
    refine pu_ 12 2 textB8 HT_ ?_
    refine one_ (i := 13) (N := none) textB14 rfl rfl (one_of HT_.out (by kernel_rfl)) (by decide) (fun K hK => ?_)
    have hs20 : w18.cell? ⟨gb415, 0, none⟩ = some (.slice none 0 0) := (blk_cell BK415.out 0).trans rfl
    have hfs20 := blk_frozen BK415.out 0
    have hns20_0 := NB414_415.out
    have hms20_0 := NB415_414.out
    have hs21 : w18.cell? ⟨gb415, 1, none⟩ = some (.bool false) := (blk_cell BK415.out 1).trans rfl
    have hfs21 := blk_frozen BK415.out 1
    have hns21_0 := NB414_415.out
    have hms21_0 := NB415_414.out
    refine skip_ (w1 := ?_) (by rfl) rfl ?_ ?_
    rotate_left
    ·go_simp
     rfl
    refine hK.out _ _ ⟨((cell_far (p := ⟨gb415, _, none⟩) NB414_415.out _).trans (((cell_far (p := ⟨gb415, _, none⟩) NB414_415.out _).trans (hHeld.1)))), ((cell_far (p := ⟨gb415, _, none⟩) NB414_415.out _).trans (((cell_far (p := ⟨gb415, _, none⟩) NB414_415.out _).trans (hHeld.2))))⟩ (fun hHeld => ?_)
    clear hK K
    refine done_ (done_of HT_.out (by kernel_rfl)) ?_
    try go_wp2
    refine bodyPost_ret (results_tc rfl _ _ gb415 119 #[.slice A19 y418.length c19, .bool (t417 == 0)] (0, 0) _ rfl (by (with_reducible repeat ((refine blk_drew ?_))); refine blk_put (cs := #[.slice A19 y418.length c19, .bool false]) ?_ 1 _ rfl; (with_reducible repeat ((refine blk_drew ?_))); refine blk_put (cs := #[.slice none 0 0, .bool false]) ?_ 0 _ rfl; (with_reducible repeat ((refine blk_drew ?_))); exact BK415.out) Try.underlying119 rfl (by kernel_rfl)) rfl ?_
    exact ⟨_, by (rfl), by (with_reducible repeat ((apply Kd.V_drew))); exact Kd.V_mono (Kd.V_far (p := ⟨gb415, 1, none⟩) (Kd.V_far (p := ⟨gb415, 0, none⟩) (Kd.V_mono HO422.out (fun k_ hk => (⟨hk, hk.2.2⟩ : _ ∧ k_ ≠ gb415))) (fun _ hk => hk.2) (.slice A19 y418.length c19)) (fun _ hk => hk.2) (.bool (t417 == 0))) (fun _ hk => hk.1.1), by repeat ((with_reducible first | exact HB.out | refine below_set ?_ GE415.out))⟩
  ·rw [if_neg c4] at H
   exact absurd H (by simp)
 ·rw [if_neg c3] at H
  exact absurd H (by simp)
end Go.Proofs.Ytedfcjcnhgomoaa.P
end
-- MERGED YtedfcjcnhgomoaaRefList
section
namespace Go.Proofs.Ytedfcjcnhgomoaa.RefList
open Go.RowKit Go.Proofs.Ytedfcjcnhgomoaa.P Go.Proofs.YtedfcjcnhgomoaaW.PrintWords Go.Proofs.YtedfcjcnhgomoaaW.PrintLast Go.Proofs.YtedfcjcnhgomoaaW.PrintMore Go.Proofs.Ytedfcjcnhgomoaa.Own Go.Proofs.Ytedfcjcnhgomoaa.Vy Go.Proofs.Ytedfcjcnhgomoaa.VaryR Go.Proofs.Ytedfcjcnhgomoaa.NoteN Go.Proofs.Ytedfcjcnhgomoaa.RowNt Go.Proofs.Ytedfcjcnhgomoaa.DecRp
attribute [local go_sem] max2_int min2_int max_two min_two
set_option linter.unusedSimpArgs false
set_option linter.unusedVariables false
theorem num_k {k : Nat} (hk : 29 ≤ k) {l : List Int} (hok : Byt.Ok l) : variorumref01_Num.f k l = some ((numL l).1, ((numL l).2 : Int)) :=
 at_rounds (g := fun k => variorumref01_Num.f k l) (fun k => variorumref01_Num.mono l k) hk (VaryRef.num_f l hok)
theorem sgn_k {k : Nat} (hk : 29 ≤ k) {l : List Int} (hok : Byt.Ok l) : variorumref01_Signed.f k l = some ((sgnL l).1, ((sgnL l).2 : Int)) :=
 at_rounds (g := fun k => variorumref01_Signed.f k l) (fun k => variorumref01_Signed.mono l k) hk (VaryRef.signed_f l hok)
theorem text_k {k : Nat} (hk : 29 ≤ k) {l : List Int} (hok : Byt.Ok l) (hl : l.length ≤ 1000000) : variorumref01_Text.f k l = some (strOfNums (textL l).1, ((textL l).2 : Int)) := by
 have h1 := numL_le hok
 obtain ⟨h2, h3⟩ := numL_nonneg hok
 have hM : M = 4611686018427387904 := rfl
 unfold variorumref01_Text.f textL
 rw [num_k hk hok, Option.bind_some]
 dsimp only
 by_cases hz : (numL l).2 = 0
 ·rw [if_pos (by omega), if_pos (.inl hz)]; rfl
 ·rw [if_neg (by omega), Byt.wrap_in ((l.length : Int) - ((numL l).2 : Int)) (by omega)]
  by_cases hlt : (l.length : Int) - ((numL l).2 : Int) < (numL l).1
  ·rw [if_pos hlt, if_pos (.inr hlt)]; rfl
  ·rw [if_neg hlt, Byt.wrap_in (((numL l).2 : Int) + (numL l).1) (by omega), if_pos (by omega), if_pos (by omega), if_pos (by omega), if_neg (by omega)]
   have e : (((numL l).2 : Int) + (numL l).1).toNat = (numL l).2 + (numL l).1.toNat := by omega
   rw [e, Int.toNat_natCast, List.drop_take, Nat.add_sub_cancel_left]
   dsimp only
   congr 2
   omega
theorem rnum_k {k : Nat} (hk : 29 ≤ k) {xs : List Int} (hok : Byt.Ok xs) (b : Bool) : variorumref11_Read_num.f k xs b = some ((numL xs).1, dr xs, b || bd xs) := by
 have h1 := numL_le hok
 unfold variorumref11_Read_num.f dr bd
 rw [num_k hk hok, Option.bind_some]
 dsimp only
 rw [if_pos (by omega), if_pos (by omega), Option.bind_some, Int.toNat_natCast]
 cases b with
 | true => rw [if_pos rfl]; rfl
 | false =>
  rw [if_neg Bool.false_ne_true, Bool.false_or]
  by_cases hz : (numL xs).2 = 0
  ·rw [hz]; rfl
  ·rw [decide_eq_false hz, show (((numL xs).2 : Int) == 0) = false by simp; omega]
theorem rsgn_k {k : Nat} (hk : 29 ≤ k) {xs : List Int} (hok : Byt.Ok xs) (b : Bool) : variorumref11_Read_signed.f k xs b = some ((sgnL xs).1, xs.drop (sgnL xs).2, b || decide ((sgnL xs).2 = 0)) := by
 have h1 : (sgnL xs).2 ≤ xs.length := numL_le hok
 unfold variorumref11_Read_signed.f
 rw [sgn_k hk hok, Option.bind_some]
 dsimp only
 rw [if_pos (by omega), if_pos (by omega), Option.bind_some, Int.toNat_natCast]
 cases b with
 | true => rw [if_pos rfl]; rfl
 | false =>
  rw [if_neg Bool.false_ne_true, Bool.false_or]
  by_cases hz : (sgnL xs).2 = 0
  ·rw [hz]; rfl
  ·rw [decide_eq_false hz, show (((sgnL xs).2 : Int) == 0) = false by simp; omega]
theorem rtext_k {k : Nat} (hk : 29 ≤ k) {xs : List Int} (hok : Byt.Ok xs) (hl : xs.length ≤ 1000000) (b : Bool) : variorumref11_Read_text.f k xs b = some (strOfNums (textL xs).1, xs.drop (textL xs).2, b || decide ((textL xs).2 = 0)) := by
 have h1 := textL_le hok
 unfold variorumref11_Read_text.f
 rw [text_k hk hok hl, Option.bind_some]
 dsimp only
 rw [if_pos (by omega), if_pos (by omega), Option.bind_some, Int.toNat_natCast]
 cases b with
 | true => rw [if_pos rfl]; rfl
 | false =>
  rw [if_neg Bool.false_ne_true, Bool.false_or]
  by_cases hz : (textL xs).2 = 0
  ·rw [hz]; rfl
  ·rw [decide_eq_false hz, show (((textL xs).2 : Int) == 0) = false by simp; omega]
abbrev Bt (ok : Nat → Prop) (w : World) (A : Option Addr) (c : Nat) (xs : List Int) : Prop := Kd.V (Kd.int .u8) 5 w 0 ok (.slice A xs.length c) xs
abbrev TR : TypeId := 119
def RdR (ok : Nat → Prop) (val : Value) (xs : List Int) (b : Bool) (w : World) (e : Ending) (w' : World) : Prop :=
 ∃ A c, e = .returned (.tuple #[val, .agg #[.slice A xs.length c, .bool b]]) ∧ Bt (fun k => ok k ∨ w.heap.size ≤ k) w' A c xs ∧ Below w.heap.size w w'
theorem num_c (ok : Nat → Prop) (w : World) (A : Option Addr) (c : Nat) (xs : List Int) (b : Bool) (h : Bt ok w A c xs) (hok : Byt.Ok xs) :
  Calls Try.prog 79 #[.agg #[.slice A xs.length c, .bool b]] w (RdR ok (.int .i64 (numL xs).1) (dr xs) (b || bd xs) w) := by
 refine (variorumref11_Read_num.calls 29 ok A c xs b _ _ _ w h (rnum_k (Nat.le_refl _) hok b)).mono ?_
 rintro e w' ⟨v1, rfl, hv, hb⟩
 obtain ⟨A', c', rfl⟩ := Kd.V_slice hv
 exact ⟨A', c', rfl, hv, hb⟩
theorem sgn_c (ok : Nat → Prop) (w : World) (A : Option Addr) (c : Nat) (xs : List Int) (b : Bool) (h : Bt ok w A c xs) (hok : Byt.Ok xs) :
  Calls Try.prog 105 #[.agg #[.slice A xs.length c, .bool b]] w (RdR ok (.int .i64 (sgnL xs).1) (xs.drop (sgnL xs).2) (b || decide ((sgnL xs).2 = 0)) w) := by
 refine (variorumref11_Read_signed.calls 29 ok A c xs b _ _ _ w h (rsgn_k (Nat.le_refl _) hok b)).mono ?_
 rintro e w' ⟨v1, rfl, hv, hb⟩
 obtain ⟨A', c', rfl⟩ := Kd.V_slice hv
 exact ⟨A', c', rfl, hv, hb⟩
theorem text_c (ok : Nat → Prop) (w : World) (A : Option Addr) (c : Nat) (xs : List Int) (b : Bool) (h : Bt ok w A c xs) (hok : Byt.Ok xs) (hl : xs.length ≤ 1000000) :
  Calls Try.prog 81 #[.agg #[.slice A xs.length c, .bool b]] w (RdR ok (.string (strOfNums (textL xs).1)) (xs.drop (textL xs).2) (b || decide ((textL xs).2 = 0)) w) := by
 refine (variorumref11_Read_text.calls 29 ok A c xs b _ _ _ w h (rtext_k (Nat.le_refl _) hok hl b)).mono ?_
 rintro e w' ⟨v1, rfl, hv, hb⟩
 obtain ⟨A', c', rfl⟩ := Kd.V_slice hv
 exact ⟨A', c', rfl, hv, hb⟩
theorem set2 {B : Nat} {w : World} {T : TypeId} {a0 a1 : Value} (h : w.heap[B]? = some (.cells #[a0, a1] T (0, 0))) (y0 y1 : Value) : ((w.setCell ⟨B, 0, none⟩ y0).setCell ⟨B, 1, none⟩ y1).heap[B]? = some (.cells #[y0, y1] T (0, 0)) := by
 have h0 : (w.setCell ⟨B, 0, none⟩ y0).heap[B]? = some (.cells #[y0, a1] T (0, 0)) := heap_setCell_same w B 0 _ _ y0 h
 exact heap_setCell_same (w.setCell ⟨B, 0, none⟩ y0) B 1 _ _ y1 h0
theorem but2c (Z : Nat) (w : World) (y0 y1 : Value) : But Z w ((w.setCell ⟨Z, 0, none⟩ y0).setCell ⟨Z, 1, none⟩ y1) := (But.setCell Z 0 _ _).trans (But.setCell Z 1 _ _)
abbrev okB (X : Nat) (u : Value) (k : Nat) : Prop := (k ≠ X ∧ k ≠ X + 1) ∧ some k ≠ u.ownBlock
structure Lp (X : Nat) (u : Value) (xs : List Int) (b : Bool) (A : Option Addr) (c : Nat) (w0 w : World) : Prop where
 bx : w.heap[X]? = some (.cells #[.slice A xs.length c, .bool b] TR (0, 0))
 z : w.heap[X + 1]? = some (.cells #[.slice none 0 0, .bool false] TR (0, 0))
 bt : Bt (okB X u) w A c xs
 row : ∀ k, u.ownBlock = some k → X + 2 ≤ k ∧ k < w.heap.size
 below : Below w0.heap.size w0 w
 ord : w0.heap.size ≤ X
theorem Lp.lt {X : Nat} {u : Value} {xs : List Int} {b : Bool} {A : Option Addr} {c : Nat} {w0 w : World} (h : Lp X u xs b A c w0 w) : X + 1 < w.heap.size := (Array.getElem?_eq_some_iff.1 h.z).1
theorem Lp.cells {X : Nat} {u : Value} {xs : List Int} {b : Bool} {A : Option Addr} {c : Nat} {w0 w : World} (h : Lp X u xs b A c w0 w) : w.cell? ⟨X, 0, none⟩ = some (.slice A xs.length c) ∧ w.cell? ⟨X, 1, none⟩ = some (.bool b) ∧ w.frozen? ⟨X, 0, none⟩ = false ∧ w.frozen? ⟨X, 1, none⟩ = false :=
 ⟨by rw [cell_of_row _ _ 0 _ _ _ h.bx]; rfl, by rw [cell_of_row _ _ 1 _ _ _ h.bx]; rfl, frozen_of_row _ _ 0 _ _ h.bx, frozen_of_row _ _ 1 _ _ h.bx⟩
theorem Lp.step {X : Nat} {u : Value} {xs xs' : List Int} {b b' : Bool} {A A' : Option Addr} {c c' : Nat} {w0 w w' : World} (h : Lp X u xs b A c w0 w) (hb : Below w.heap.size w w') (hv : Bt (fun k => okB X u k ∨ w.heap.size ≤ k) w' A' c' xs') :
  Lp X u xs' b' A' c' w0 ((w'.setCell ⟨X, 0, none⟩ (.slice A' xs'.length c')).setCell ⟨X, 1, none⟩ (.bool b')) := by
 have hlt := h.lt
 have hbut := but2c X w' (.slice A' xs'.length c') (.bool b')
 have hbx := (hb.block X (by omega)).trans h.bx
 have hz := (hb.block (X + 1) hlt).trans h.z
 have hs := hb.size
 refine ⟨set2 hbx _ _, (hbut.block (X + 1) (by omega) (fun e => by have := Option.some.inj e; omega)).trans hz, ?_, fun k hk => ?_, (below_step h.below hb).grown hbut (below_step h.below hb).size (fun K e => by cases e; exact h.ord), h.ord⟩
 ·have h1 : Bt (okB X u) w' A' c' xs' := Kd.V_mono hv (fun k hk => by
   rcases hk with hk | hk
   ·exact hk
   ·refine ⟨⟨by omega, by omega⟩, fun e => ?_⟩
    have := h.row k e.symm
    omega)
  exact Kd.V_step h1 (fun k hk hlt2 => hbut.block k hlt2 (fun e => hk.1.1 (Option.some.inj e)))
 ·have := h.row k hk
  have := hbut.size
  omega
theorem Lp.below' {X : Nat} {u : Value} {xs : List Int} {b : Bool} {A : Option Addr} {c : Nat} {w0 w w' : World} (h : Lp X u xs b A c w0 w) (hb : Below w.heap.size w w') : Lp X u xs b A c w0 w' := by
 have hlt := h.lt
 exact ⟨(hb.block X (by omega)).trans h.bx, (hb.block _ hlt).trans h.z, Kd.V_below h.bt hb, fun k hk => by have := h.row k hk; have := hb.size; omega, below_step h.below hb, h.ord⟩
theorem Lp.grow {X : Nat} {u u' : Value} {xs : List Int} {b : Bool} {A : Option Addr} {c : Nat} {w0 w w' : World} (h : Lp X u xs b A c w0 w) (hg : w.grownBy w' u.ownBlock) (hat : u'.ownBlock = u.ownBlock ∨ ∃ k, u'.ownBlock = some k ∧ w.heap.size ≤ k) (hlt' : ∀ k, u'.ownBlock = some k → k < w'.heap.size) : Lp X u' xs b A c w0 w' := by
 have hlt := h.lt
 have ho := h.ord
 have ne : ∀ k, u.ownBlock = some k → X + 2 ≤ k := fun k hk => (h.row k hk).1
 refine ⟨(hg.block X (by omega) (fun e => by have := ne X e.symm; omega)).trans h.bx, (hg.block (X + 1) hlt (fun e => by have := ne (X + 1) e.symm; omega)).trans h.z, ?_, fun k hk => ⟨?_, hlt' k hk⟩, h.below.grown hg h.below.size (fun K e => by have := ne K e; omega), ho⟩
 ·have h1 := Kd.V_bound h.bt
  have h2 := Kd.V_grown h1 hg (fun k hk => hk.1.2)
  refine Kd.V_mono h2 (fun k hk => ⟨hk.1.1, fun e => ?_⟩)
  rcases hat with hat | ⟨j, hj, hj2⟩
  ·exact hk.1.2 (e.trans hat)
  ·rw [hj] at e
   have := Option.some.inj e
   have := hk.2
   omega
 ·rcases hat with hat | ⟨j, hj, hj2⟩
  ·exact ne k (by rw [← hat]; exact hk)
  ·rw [hj] at hk
   have := Option.some.inj hk
   omega
theorem ro_step {B X : Nat} {u : Value} {l : List EditL.Rn} {w w' : World} (h : RowRn.RO w B u l) (hB : X < B) (hb : Below w.heap.size w w') (y0 y1 : Value) : RowRn.RO ((w'.setCell ⟨X, 0, none⟩ y0).setCell ⟨X, 1, none⟩ y1) B u l := by
 have h2 := h.below hb
 exact own_move h2 fun k hk => (but2c X w' y0 y1).block k (own_lt h2 k hk) (fun e => by have h1 := own_base h2 k hk; have := Option.some.inj e; omega)
theorem no_step {B X : Nat} {u : Value} {l : List Nt} {w w' : World} (h : NO w B u l) (hB : X < B) (hb : Below w.heap.size w w') (y0 y1 : Value) : NO ((w'.setCell ⟨X, 0, none⟩ y0).setCell ⟨X, 1, none⟩ y1) B u l := by
 have h2 := h.below hb
 exact own_move h2 fun k hk => (but2c X w' y0 y1).block k (own_lt h2 k hk) (fun e => by have h1 := own_base h2 k hk; have := Option.some.inj e; omega)
def R12.T12 : Bool × List (List Nat × List Nat) := (true, [([], []), ([], []), ([0, 0], [0]), ([1, 2, 0, 1, 2], [1])])
def R12.B12 : List Nat := [0, 0, 1, 7]
theorem R12.tab12 : rtab .any (opsOf Try.f80 12) = R12.T12 := by kernel_rfl
theorem R12.bits12 : waitsOk R12.T12.2 R12.B12 = true := by kernel_rfl
set_option maxHeartbeats 16000000 in
set_option maxRecDepth 100000 in
theorem op_c (w : World) (A : Option Addr) (c : Nat) (xs : List Int) (b : Bool) (h : Sl w (.slice A xs.length c) xs) (hok : Byt.Ok xs) (hl : xs.length ≤ 500000) :
  Calls Try.prog 80 #[.agg #[.slice A xs.length c, .bool b]] w fun e w' => ∃ u A' c', e = .returned (.tuple #[u, .agg #[.slice A' (rOp xs b).2.1.length c', .bool (rOp xs b).2.2]]) ∧ RowRn.RO w' w.heap.size u (rOp xs b).1 ∧ Sl w' (.slice A' (rOp xs b).2.1.length c') (rOp xs b).2.1 ∧ Below w.heap.size w w' := by
 obtain ⟨X, hX⟩ : ∃ X, X = w.heap.size := ⟨_, rfl⟩
 obtain ⟨w1, hw1⟩ : ∃ w1, w1 = w.alloc (.cells #[.slice A xs.length c, .bool b] TR) := ⟨_, rfl⟩
 obtain ⟨w2, hw2⟩ : ∃ w2, w2 = w1.alloc (.cells #[.slice none 0 0, .bool false] TR) := ⟨_, rfl⟩
 have hs1 : w1.heap.size = X + 1 := by rw [hw1, World.size_alloc, hX]
 have hs2 : w2.heap.size = X + 2 := by rw [hw2, World.size_alloc, hs1]
 have hB2 : Below w.heap.size w w2 := by rw [hw2, hw1]; exact below_alloc (below_alloc (Below.refl _ _) _) _
 have HL2 := Aside0.mk (show Lp X (.slice none 0 0) xs b A c w w2 from
  ⟨by rw [hw2, Own.heap_old _ _ _ (by omega), hw1, hX]; exact Own.heap_new _ _, by rw [hw2, ← hs1]; exact Own.heap_new _ _, Kd.V_below (Kd.V_mono (Sl.to_V (base := 0) h) (fun k hk => ⟨⟨by omega, by omega⟩, by simp [Value.ownBlock]⟩)) hB2, fun k hk => by simp [Value.ownBlock] at hk, hB2, by omega⟩)
 have HOK := Aside0.mk hok
 have HLM := Aside0.mk hl
 have HN := Aside0.mk (num_c _ w2 A c xs b HL2.out.bt hok)
 have HS2 := Aside0.mk hs2
 have HW1 := Aside0.mk hw1
 have HW2 := Aside0.mk hw2
 have HXE := Aside0.mk hX
 have HS1 := Aside0.mk hs1
 obtain ⟨x0, x1, _, _⟩ := HL2.out.cells
 obtain ⟨many, hmany⟩ : ∃ many, many = (numL xs).1 := ⟨_, rfl⟩
 obtain ⟨xs1, hxs1⟩ : ∃ xs1, xs1 = dr xs := ⟨_, rfl⟩
 obtain ⟨b1, hb1⟩ : ∃ b1, b1 = (b || bd xs) := ⟨_, rfl⟩
 have HMM := Aside0.mk (show 0 ≤ many ∧ many ≤ 4611686018427387904 by rw [hmany]; exact numL_nonneg hok)
 have HOK1 := Aside0.mk (show Byt.Ok xs1 by rw [hxs1]; exact Byt.ok_drop hok _)
 have HLM1 := Aside0.mk (show xs1.length ≤ xs.length by rw [hxs1]; exact dr_len)
 obtain ⟨fin, hfin⟩ : ∃ fin, fin = rOp xs b := ⟨_, rfl⟩
 have HFIN := Aside0.mk (show opLoop (xs.length + 1) [] many 0 xs1 b1 = fin by rw [hfin, hmany, hxs1, hb1]; rfl)
 rw [← hmany, ← hxs1, ← hb1] at HN
 rw [← hfin]
 clear h hok hl hX hw1 hw2 hs1 hs2 hB2 hmany hxs1 hb1 hfin
 go_enter Try.func80, Try.ntmps80
 go_wp2_with (first | rw [← HXE.out, ← HW1.out] | rw [← HW2.out, HS1.out])
 refine HN.out.mono ?_
 rintro e w3 ⟨A1, c1, rfl, hv, hb⟩
 have HL3 := Aside0.mk (HL2.out.step (b' := b1) hb hv)
 obtain ⟨_, _, f0, f1⟩ := (HL2.out.below' hb).cells
 obtain ⟨w4, hw4⟩ : ∃ w4, w4 = (w3.setCell ⟨X, 0, none⟩ (.slice A1 xs1.length c1)).setCell ⟨X, 1, none⟩ (.bool b1) := ⟨_, rfl⟩
 rw [← hw4] at HL3
 obtain ⟨x0_, x1_, _, _⟩ := (HL2.out.below' hb).cells
 have HW4 := Aside0.mk hw4
 clear x0 x1 hv hb HN HW1 HW2 HXE HS1 HL2 hw4
 go_wp2_with (first | rw [← HW4.out])
 clear x0_ x1_ f0 f1 HW4
 go_loopw [4, 6] (fun tv iv wr => ∃ (n : Nat) (acc : List EditL.Rn) (i : Int) (ys : List Int) (y : Bool) (Ay : Option Addr) (cy : Nat), iv = .int .i64 i ∧ 0 ≤ i ∧ i ≤ many ∧ (y = false → ys.length < n) ∧ acc.length + n ≤ 500001 ∧ opLoop n acc many i ys y = fin ∧ RowRn.RO wr (X + 2) tv acc ∧ Lp X tv ys y Ay cy w wr ∧ Byt.Ok ys ∧ ys.length ≤ 500000) (fun _ iv _ => (many - intOf iv).toNat)
 case atStart => exact ⟨xs.length + 1, [], 0, xs1, b1, A1, c1, rfl, Int.le_refl _, HMM.out.1, fun _ => by have := HLM1.out; omega, by have := HLM.out; simp; omega, HFIN.out, World.ownsRow_nil _ _ _ _, HL3.out, HOK1.out, by have := HLM1.out; have := HLM.out; omega⟩
 case round =>
  obtain ⟨n, acc, i, ys, y, Ay, cy, rfl, h0, him, hsh, hac, hrec, hro, hlp, hoky, hly⟩ := hrel
  have HRO := Aside0.mk hro
  have HLP := Aside0.mk hlp
  have HOY := Aside0.mk hoky
  have HLY := Aside0.mk hly
  have HREC := Aside0.mk hrec
  have HSH := Aside0.mk hsh
  have HAC := Aside0.mk hac
  have HIM := Aside0.mk (And.intro h0 him)
  have HM2 := Aside0.mk HMM.out.2
  obtain ⟨x0, x1, f0, f1⟩ := hlp.cells
  clear hro hlp hoky hly hrec hsh hac h0 him
  by_cases hgo : i < many ∧ y = false
  ·obtain ⟨hi, rfl⟩ := hgo
   obtain ⟨n, rfl⟩ : ∃ m, n = m + 1 := ⟨n - 1, by have := HSH.out rfl; omega⟩
   have HS3 := Aside0.mk (HSH.out rfl)
   have HOS := Aside0.mk (opS_short HOY.out)
   have HST := Aside0.mk (show opLoop n (acc ++ [(opS ys).1]) many (i + 1) (opS ys).2.1 (opS ys).2.2 = fin by
    have h := HREC.out
    simp only [opLoop] at h
    rw [if_pos ⟨hi, trivial⟩] at h
    exact h)
   obtain ⟨sv, hsv⟩ : ∃ sv, sv = (sgnL ys).1 := ⟨_, rfl⟩
   obtain ⟨zs, hzs⟩ : ∃ zs, zs = ys.drop (sgnL ys).2 := ⟨_, rfl⟩
   obtain ⟨zb, hzb⟩ : ∃ zb, zb = decide ((sgnL ys).2 = 0) := ⟨_, rfl⟩
   have HOPS := Aside0.mk (show opS ys = if sv = 0 then (⟨mx sv 0, strOfNums (textL zs).1, mx (wrap64 (-sv)) 0⟩, zs.drop (textL zs).2, zb || decide ((textL zs).2 = 0)) else (⟨mx sv 0, ⟨#[]⟩, mx (wrap64 (-sv)) 0⟩, zs, zb) by unfold opS; rw [← hsv, ← hzs, ← hzb])
   have HOZ := Aside0.mk (show Byt.Ok zs by rw [hzs]; exact Byt.ok_drop HOY.out _)
   have HLZ := Aside0.mk (show zs.length ≤ 500000 by rw [hzs, List.length_drop]; have := HLY.out; omega)
   have HSG := Aside0.mk (sgn_c _ wr Ay cy ys false HLP.out.bt HOY.out)
   rw [← hsv, ← hzs, ← hzb, Bool.false_or] at HSG
   have HI := Aside0.mk hi
   have hw64 : wrap64 (i + 1) = i + 1 := Byt.wrap_in _ (by have := HIM.out; have := HM2.out; omega)
   have HWI := Aside0.mk hw64
   clear hsv hzs hzb
   go_wp2_with fail
   refine HSG.out.mono ?_
   rintro e w5 ⟨A2, c2, rfl, hv, hb⟩
   have HL5 := Aside0.mk (HLP.out.step (b' := zb) hb hv)
   have HRO5 := Aside0.mk (ro_step HRO.out (show X < X + 2 by omega) hb (.slice A2 zs.length c2) (.bool zb))
   obtain ⟨y0, y1, g0, g1⟩ := (HLP.out.below' hb).cells
   obtain ⟨w6, hw6⟩ : ∃ w6, w6 = (w5.setCell ⟨X, 0, none⟩ (.slice A2 zs.length c2)).setCell ⟨X, 1, none⟩ (.bool zb) := ⟨_, rfl⟩
   rw [← hw6] at HL5 HRO5
   have HW6 := Aside0.mk hw6
   clear x0 x1 f0 f1 hv hb HSG hw6
   by_cases hz : sv = 0
   ·have hzb : (sv == 0) = true := by rw [hz]; rfl
    have HTX := Aside0.mk (text_c _ w6 A2 c2 zs zb HL5.out.bt HOZ.out (by have := HLZ.out; omega))
    obtain ⟨tv, htv⟩ : ∃ tv, tv = strOfNums (textL zs).1 := ⟨_, rfl⟩
    obtain ⟨us, hus⟩ : ∃ us, us = zs.drop (textL zs).2 := ⟨_, rfl⟩
    obtain ⟨ub, hub⟩ : ∃ ub, ub = (zb || decide ((textL zs).2 = 0)) := ⟨_, rfl⟩
    have HO2 := Aside0.mk (show opS ys = (⟨mx sv 0, tv, mx (wrap64 (-sv)) 0⟩, us, ub) by rw [HOPS.out, if_pos hz, ← htv, ← hus, ← hub])
    rw [← htv, ← hus, ← hub] at HTX
    rw [HO2.out] at HST HOS
    obtain ⟨x0, x1, _, _⟩ := HL5.out.cells
    clear htv hus hub hz
    go_wp2_with (first | rw [← HW6.out])
    refine HTX.out.mono ?_
    rintro e w7 ⟨A3, c3, rfl, hv, hb⟩
    have HL7 := Aside0.mk (HL5.out.step (b' := ub) hb hv)
    have HRO7 := Aside0.mk (ro_step HRO5.out (show X < X + 2 by omega) hb (.slice A3 us.length c3) (.bool ub))
    obtain ⟨z0, z1, k0, k1⟩ := (HL5.out.below' hb).cells
    obtain ⟨w8, hw8⟩ : ∃ w8, w8 = (w7.setCell ⟨X, 0, none⟩ (.slice A3 us.length c3)).setCell ⟨X, 1, none⟩ (.bool ub) := ⟨_, rfl⟩
    rw [← hw8] at HL7 HRO7
    have HW8 := Aside0.mk hw8
    have HWB := Aside0.mk (show X + 2 ≤ w8.heap.size by have := HL7.out.lt; omega)
    clear x0 x1 y0 y1 g0 g1 hv hb HTX hw8
    go_wp2_with (first | rw [← HW8.out] | (at_builtin; refine RowRn.wpList_run (by rfl) (by rfl) HWB.out (by rfl) HRO7.out ⟨mx sv 0, tv, mx (wrap64 (-sv)) 0⟩ (by rfl) (by have := HAC.out; omega) ?_; intro v' w9 hg9))
    refine ⟨⟨n, acc ++ [⟨mx sv 0, tv, mx (wrap64 (-sv)) 0⟩], i + 1, us, ub, A3, c3, by rw [HWI.out], by have := HIM.out; omega, by have := HI.out; omega, fun e => by have h1 := HOS.out.2.2.1 e; have h2 := HS3.out; omega, by have := HAC.out; rw [List.length_append]; simp only [List.length_singleton]; omega, HST.out, hg9.own, HL7.out.grow hg9.grown hg9.at_ (fun k hk => own_lt hg9.own k hk), HOS.out.1, by have h1 := HOS.out.2.1; have := HLY.out; omega⟩, ?_⟩
    show (many - (wrap64 (i + 1))).toNat < (many - i).toNat
    rw [HWI.out]
    have := HI.out
    omega
   ·have hzb : (sv == 0) = false := by simpa using hz
    have HO2 := Aside0.mk (show opS ys = (⟨mx sv 0, ⟨#[]⟩, mx (wrap64 (-sv)) 0⟩, zs, zb) by rw [HOPS.out, if_neg hz])
    rw [HO2.out] at HST HOS
    have HWB := Aside0.mk (show X + 2 ≤ w6.heap.size by have := HL5.out.lt; omega)
    go_wp2_with (first | rw [← HW6.out] | (at_builtin; refine RowRn.wpList_run (by rfl) (by rfl) HWB.out (by rfl) HRO5.out ⟨mx sv 0, ⟨#[]⟩, mx (wrap64 (-sv)) 0⟩ (by rfl) (by have := HAC.out; omega) ?_; intro v' w9 hg9))
    refine ⟨⟨n, acc ++ [⟨mx sv 0, ⟨#[]⟩, mx (wrap64 (-sv)) 0⟩], i + 1, zs, zb, A2, c2, by rw [HWI.out], by have := HIM.out; omega, by have := HI.out; omega, fun e => by have h1 := HOS.out.2.2.1 e; have h2 := HS3.out; omega, by have := HAC.out; rw [List.length_append]; simp only [List.length_singleton]; omega, HST.out, hg9.own, HL5.out.grow hg9.grown hg9.at_ (fun k hk => own_lt hg9.own k hk), HOS.out.1, by have h1 := HOS.out.2.1; have := HLY.out; omega⟩, ?_⟩
    show (many - (wrap64 (i + 1))).toNat < (many - i).toNat
    rw [HWI.out]
    have := HI.out
    omega
  ·have hend : (acc, ys, y) = fin := by
    have h := HREC.out
    cases n with
    | zero => exact h
    | succ n =>
     simp only [opLoop] at h
     rw [if_neg hgo] at h
     exact h
   have HEND := Aside0.mk hend
   obtain ⟨Au, cu, eu⟩ := Kd.R_slice (RowRn.RO.R HRO.out)
   subst eu
   have HB := Aside0.mk (But.refl (X + 1) wr)
   have HQ := Aside0.mk HLP.out.z
   have HAL := Aside0.mk (fun (W : World) (hW : But (X + 1) wr W) => (show W.cell? ⟨X, 0, none⟩ = some (.slice Ay ys.length cy) ∧ W.cell? ⟨X, 1, none⟩ = some (.bool y) by
    have hz := (hW.block X (by have := HLP.out.lt; omega) (fun e => by have := Option.some.inj e; omega)).trans HLP.out.bx
    exact ⟨by rw [cell_of_row _ _ 0 _ _ _ hz]; rfl, by rw [cell_of_row _ _ 1 _ _ _ hz]; rfl⟩))
   clear hend HREC
   have hcase : i < many ∧ y = true ∨ ¬ i < many := by
    by_cases h : i < many
    ·left
     refine ⟨h, ?_⟩
     cases y with
     | true => rfl
     | false => exact absurd ⟨h, rfl⟩ hgo
    ·exact .inr h
   clear hgo
   rcases hcase with ⟨hi, rfl⟩ | hi
   ·go_wp2_with fail
    clear x0 x1 f0 f1
    refine start_ (n := 4) (S := fun w' => True) (ds := []) #[false, false, false, false] (by kernel_rfl) rfl rfl trivial (fun hHeld => ?_); refine with_tabW R12.tab12 R12.bits12 (fun HT_ HW_ => ?_)
    refine inv_at [0, 1, 2, 3] (fun a0_ b a w' => a = putSel a0_ b [(0, 46, (.slice Au acc.length cu)), (1, 47, (.agg #[.slice Ay ys.length cy, .bool true])), (2, 2, (.slice Au acc.length cu))] ∧ (But (X + 1) wr w') ∧ (b 3 = false → w'.heap[X + 1]? = some (.cells #[.slice none 0 0, .bool false] TR (0, 0))) ∧ (b 3 = true → w'.heap[X + 1]? = some (.cells #[.slice Ay ys.length cy, .bool true] TR (0, 0)))) HT_.out HW_.out (by kernel_rfl) (by kernel_rfl) ?_ ?_ ?_
    ·exact ⟨by simp only [putSel, Bool.false_eq_true, if_false], HB.out.trans (But.drewN _ _ 1), fun _ => HQ.out, fun h_ => absurd h_ (by decide)⟩
    ·skip
     clear HB HQ
     refine steps_cons ?_ ?_
     ·rintro b a w' ⟨ha, Q_HB, Q_HQ, Q_HZ⟩ hb_ hon hoff
      refine ⟨_, rfl, fun K hK => ?_⟩
      have e4 : a.tmps[4]? = some ((.slice Au acc.length cu)) := by rw [ha]; exact (putSel_off rfl).trans rfl
      replace ha := Aside0.mk ha
      have HB := Aside0.mk Q_HB
      have HQ := Aside0.mk (Q_HQ (hoff 3 (by kernel_rfl)))
      refine value_ (w1 := w') (v := (.slice Au acc.length cu)) (by rfl) rfl ?_ ?_
      ·go_simp
       (try simp only [i64_w])
       try (first | rfl | assumption)
      refine hK.out _ _ ⟨(by rw [ha.out]; exact putSel_upk 0 hb_ rfl rfl rfl), Q_HB, Q_HQ, fun h0_ => absurd ((hoff 3 (by kernel_rfl)).symm.trans h0_) (by decide)⟩
     refine steps_cons ?_ ?_
     ·rintro b a w' ⟨ha, Q_HB, Q_HQ, Q_HZ⟩ hb_ hon hoff
      refine ⟨_, rfl, fun K hK => ?_⟩
      have e1 : a.tmps[1]? = some ((.pointer (some ⟨X, 0, none⟩))) := by rw [ha]; exact (putSel_off rfl).trans rfl
      replace ha := Aside0.mk ha
      have HB := Aside0.mk Q_HB
      have HQ := Aside0.mk (Q_HQ (hoff 3 (by kernel_rfl)))
      obtain ⟨x0_, x1_⟩ := HAL.out _ HB.out
      refine value_ (w1 := w') (v := (.agg #[.slice Ay ys.length cy, .bool true])) (by rfl) rfl ?_ ?_
      ·go_simp
       (try simp only [i64_w])
       try (first | rfl | assumption)
      refine hK.out _ _ ⟨(by rw [ha.out]; exact putSel_upk 1 hb_ rfl rfl rfl), Q_HB, Q_HQ, fun h0_ => absurd ((hoff 3 (by kernel_rfl)).symm.trans h0_) (by decide)⟩
     refine steps_cons ?_ ?_
     ·rintro b a w' ⟨ha, Q_HB, Q_HQ, Q_HZ⟩ hb_ hon hoff
      refine ⟨_, rfl, fun K hK => ?_⟩
      have e46 : a.tmps[46]? = some ((.slice Au acc.length cu)) := by rw [ha]; exact putSel_on (e := (0, 46, (.slice Au acc.length cu))) 0 rfl rfl (hon 0 (by kernel_rfl)) rfl
      replace ha := Aside0.mk ha
      have HB := Aside0.mk Q_HB
      have HQ := Aside0.mk (Q_HQ (hoff 3 (by kernel_rfl)))
      refine value_ (w1 := w') (v := (.slice Au acc.length cu)) (by rfl) rfl ?_ ?_
      ·go_simp
       (try simp only [i64_w])
       try (first | rfl | assumption)
      refine hK.out _ _ ⟨(by rw [ha.out]; exact putSel_upk 2 hb_ rfl rfl rfl), Q_HB, Q_HQ, fun h0_ => absurd ((hoff 3 (by kernel_rfl)).symm.trans h0_) (by decide)⟩
     refine steps_cons ?_ ?_
     ·rintro b a w' ⟨ha, Q_HB, Q_HQ, Q_HZ⟩ hb_ hon hoff
      refine ⟨_, rfl, fun K hK => ?_⟩
      have e3 : a.tmps[3]? = some ((.pointer (some ⟨X + 1, 0, none⟩))) := by rw [ha]; exact (putSel_off rfl).trans rfl
      have e47 : a.tmps[47]? = some ((.agg #[.slice Ay ys.length cy, .bool true])) := by rw [ha]; exact putSel_on (e := (1, 47, (.agg #[.slice Ay ys.length cy, .bool true]))) 1 rfl rfl (hon 1 (by kernel_rfl)) rfl
      replace ha := Aside0.mk ha
      have HB := Aside0.mk Q_HB
      have HQ := Aside0.mk (Q_HQ hb_)
      have hz_ := HQ.out
      obtain ⟨w1_, hw1_⟩ : ∃ w1_, w1_ = (w'.setCell ⟨X + 1, 0, none⟩ (.slice Ay ys.length cy)).setCell ⟨X + 1, 1, none⟩ (.bool true) := ⟨_, rfl⟩
      refine skip_ (w1 := w1_) (by rfl) rfl (by rw [hw1_]; have z0_ := cell_of_row _ _ 0 _ _ _ hz_; have z1_ := cell_of_row _ _ 1 _ _ _ hz_; have f0_ := frozen_of_row _ _ 0 _ _ hz_; have f1_ := frozen_of_row _ _ 1 _ _ hz_; go_simp) ?_
      refine hK.out _ _ ⟨(by rw [ha.out]; exact putSel_none (v := undef) rfl), (by rw [hw1_]; exact HB.out.trans (but2c _ _ _ _)), fun h0_ => absurd ((up_self b 3).symm.trans h0_) (by decide), fun _ => (by rw [hw1_]; exact set2 hz_ _ _)⟩
     exact steps_nil
    rintro b a we hall ⟨ha, Q_HB, Q_HQ, Q_HZ⟩
    clear HB HQ
    have hb0_ := hall 0 (by kernel_rfl)
    have hb1_ := hall 1 (by kernel_rfl)
    have hb2_ := hall 2 (by kernel_rfl)
    have hb3_ := hall 3 (by kernel_rfl)
    subst ha
    simp only [putSel, hb0_, hb1_, hb2_, hb3_, if_true, Act.put, List.setIfInBounds_toArray, List.set_cons_zero, List.set_cons_succ]
    have HB := Aside0.mk Q_HB
    clear Q_HB
    clear Q_HQ
    have HZ := Aside0.mk (Q_HZ hb3_)
    clear Q_HZ
    clear hall hb0_ hb1_ hb2_ hb3_
    go_wp2_with fail
    refine bodyPost_ret (results_tc rfl _ _ (X + 1) TR #[.slice Ay ys.length cy, .bool true] (0, 0) _ rfl HZ.out Try.underlying119 rfl (by kernel_rfl)) rfl ?_
    rw [← HEND.out]
    refine ⟨_, Ay, cy, rfl, World.ownsRow.mono (own_move HRO.out fun k hk => HB.out.block k (own_lt HRO.out k hk) (fun e => by have h1 := own_base HRO.out k hk; have := Option.some.inj e; omega)) (by have := HLP.out.ord; omega), ?_, HLP.out.below.grown HB.out HLP.out.below.size (fun K e => by cases e; have := HLP.out.ord; omega)⟩
    exact Sl.of_V (Kd.V_step HLP.out.bt (fun k hk hlt => HB.out.block k hlt (fun e => hk.1.2 (Option.some.inj e))))
   ·go_wp2_with fail
    clear x0 x1 f0 f1
    refine start_ (n := 4) (S := fun w' => True) (ds := []) #[false, false, false, false] (by kernel_rfl) rfl rfl trivial (fun hHeld => ?_); refine with_tabW R12.tab12 R12.bits12 (fun HT_ HW_ => ?_)
    refine inv_at [0, 1, 2, 3] (fun a0_ b a w' => a = putSel a0_ b [(0, 46, (.slice Au acc.length cu)), (1, 47, (.agg #[.slice Ay ys.length cy, .bool y])), (2, 2, (.slice Au acc.length cu))] ∧ (But (X + 1) wr w') ∧ (b 3 = false → w'.heap[X + 1]? = some (.cells #[.slice none 0 0, .bool false] TR (0, 0))) ∧ (b 3 = true → w'.heap[X + 1]? = some (.cells #[.slice Ay ys.length cy, .bool y] TR (0, 0)))) HT_.out HW_.out (by kernel_rfl) (by kernel_rfl) ?_ ?_ ?_
    ·exact ⟨by simp only [putSel, Bool.false_eq_true, if_false], HB.out.trans (But.drewN _ _ 1), fun _ => HQ.out, fun h_ => absurd h_ (by decide)⟩
    ·skip
     clear HB HQ
     refine steps_cons ?_ ?_
     ·rintro b a w' ⟨ha, Q_HB, Q_HQ, Q_HZ⟩ hb_ hon hoff
      refine ⟨_, rfl, fun K hK => ?_⟩
      have e4 : a.tmps[4]? = some ((.slice Au acc.length cu)) := by rw [ha]; exact (putSel_off rfl).trans rfl
      replace ha := Aside0.mk ha
      have HB := Aside0.mk Q_HB
      have HQ := Aside0.mk (Q_HQ (hoff 3 (by kernel_rfl)))
      refine value_ (w1 := w') (v := (.slice Au acc.length cu)) (by rfl) rfl ?_ ?_
      ·go_simp
       (try simp only [i64_w])
       try (first | rfl | assumption)
      refine hK.out _ _ ⟨(by rw [ha.out]; exact putSel_upk 0 hb_ rfl rfl rfl), Q_HB, Q_HQ, fun h0_ => absurd ((hoff 3 (by kernel_rfl)).symm.trans h0_) (by decide)⟩
     refine steps_cons ?_ ?_
     ·rintro b a w' ⟨ha, Q_HB, Q_HQ, Q_HZ⟩ hb_ hon hoff
      refine ⟨_, rfl, fun K hK => ?_⟩
      have e1 : a.tmps[1]? = some ((.pointer (some ⟨X, 0, none⟩))) := by rw [ha]; exact (putSel_off rfl).trans rfl
      replace ha := Aside0.mk ha
      have HB := Aside0.mk Q_HB
      have HQ := Aside0.mk (Q_HQ (hoff 3 (by kernel_rfl)))
      obtain ⟨x0_, x1_⟩ := HAL.out _ HB.out
      refine value_ (w1 := w') (v := (.agg #[.slice Ay ys.length cy, .bool y])) (by rfl) rfl ?_ ?_
      ·go_simp
       (try simp only [i64_w])
       try (first | rfl | assumption)
      refine hK.out _ _ ⟨(by rw [ha.out]; exact putSel_upk 1 hb_ rfl rfl rfl), Q_HB, Q_HQ, fun h0_ => absurd ((hoff 3 (by kernel_rfl)).symm.trans h0_) (by decide)⟩
     refine steps_cons ?_ ?_
     ·rintro b a w' ⟨ha, Q_HB, Q_HQ, Q_HZ⟩ hb_ hon hoff
      refine ⟨_, rfl, fun K hK => ?_⟩
      have e46 : a.tmps[46]? = some ((.slice Au acc.length cu)) := by rw [ha]; exact putSel_on (e := (0, 46, (.slice Au acc.length cu))) 0 rfl rfl (hon 0 (by kernel_rfl)) rfl
      replace ha := Aside0.mk ha
      have HB := Aside0.mk Q_HB
      have HQ := Aside0.mk (Q_HQ (hoff 3 (by kernel_rfl)))
      refine value_ (w1 := w') (v := (.slice Au acc.length cu)) (by rfl) rfl ?_ ?_
      ·go_simp
       (try simp only [i64_w])
       try (first | rfl | assumption)
      refine hK.out _ _ ⟨(by rw [ha.out]; exact putSel_upk 2 hb_ rfl rfl rfl), Q_HB, Q_HQ, fun h0_ => absurd ((hoff 3 (by kernel_rfl)).symm.trans h0_) (by decide)⟩
     refine steps_cons ?_ ?_
     ·rintro b a w' ⟨ha, Q_HB, Q_HQ, Q_HZ⟩ hb_ hon hoff
      refine ⟨_, rfl, fun K hK => ?_⟩
      have e3 : a.tmps[3]? = some ((.pointer (some ⟨X + 1, 0, none⟩))) := by rw [ha]; exact (putSel_off rfl).trans rfl
      have e47 : a.tmps[47]? = some ((.agg #[.slice Ay ys.length cy, .bool y])) := by rw [ha]; exact putSel_on (e := (1, 47, (.agg #[.slice Ay ys.length cy, .bool y]))) 1 rfl rfl (hon 1 (by kernel_rfl)) rfl
      replace ha := Aside0.mk ha
      have HB := Aside0.mk Q_HB
      have HQ := Aside0.mk (Q_HQ hb_)
      have hz_ := HQ.out
      obtain ⟨w1_, hw1_⟩ : ∃ w1_, w1_ = (w'.setCell ⟨X + 1, 0, none⟩ (.slice Ay ys.length cy)).setCell ⟨X + 1, 1, none⟩ (.bool y) := ⟨_, rfl⟩
      refine skip_ (w1 := w1_) (by rfl) rfl (by rw [hw1_]; have z0_ := cell_of_row _ _ 0 _ _ _ hz_; have z1_ := cell_of_row _ _ 1 _ _ _ hz_; have f0_ := frozen_of_row _ _ 0 _ _ hz_; have f1_ := frozen_of_row _ _ 1 _ _ hz_; go_simp) ?_
      refine hK.out _ _ ⟨(by rw [ha.out]; exact putSel_none (v := undef) rfl), (by rw [hw1_]; exact HB.out.trans (but2c _ _ _ _)), fun h0_ => absurd ((up_self b 3).symm.trans h0_) (by decide), fun _ => (by rw [hw1_]; exact set2 hz_ _ _)⟩
     exact steps_nil
    rintro b a we hall ⟨ha, Q_HB, Q_HQ, Q_HZ⟩
    clear HB HQ
    have hb0_ := hall 0 (by kernel_rfl)
    have hb1_ := hall 1 (by kernel_rfl)
    have hb2_ := hall 2 (by kernel_rfl)
    have hb3_ := hall 3 (by kernel_rfl)
    subst ha
    simp only [putSel, hb0_, hb1_, hb2_, hb3_, if_true, Act.put, List.setIfInBounds_toArray, List.set_cons_zero, List.set_cons_succ]
    have HB := Aside0.mk Q_HB
    clear Q_HB
    clear Q_HQ
    have HZ := Aside0.mk (Q_HZ hb3_)
    clear Q_HZ
    clear hall hb0_ hb1_ hb2_ hb3_
    go_wp2_with fail
    refine bodyPost_ret (results_tc rfl _ _ (X + 1) TR #[.slice Ay ys.length cy, .bool y] (0, 0) _ rfl HZ.out Try.underlying119 rfl (by kernel_rfl)) rfl ?_
    rw [← HEND.out]
    refine ⟨_, Ay, cy, rfl, World.ownsRow.mono (own_move HRO.out fun k hk => HB.out.block k (own_lt HRO.out k hk) (fun e => by have h1 := own_base HRO.out k hk; have := Option.some.inj e; omega)) (by have := HLP.out.ord; omega), ?_, HLP.out.below.grown HB.out HLP.out.below.size (fun K e => by cases e; have := HLP.out.ord; omega)⟩
    exact Sl.of_V (Kd.V_step HLP.out.bt (fun k hk hlt => HB.out.block k hlt (fun e => hk.1.2 (Option.some.inj e))))
def R17.T17 : Bool × List (List Nat × List Nat) := (true, [([], []), ([], []), ([0, 0], [0]), ([1, 2, 0, 1, 2], [1])])
def R17.B17 : List Nat := [0, 0, 1, 7]
theorem R17.tab17 : rtab .any (opsOf Try.f82 17) = R17.T17 := by kernel_rfl
theorem R17.bits17 : waitsOk R17.T17.2 R17.B17 = true := by kernel_rfl
set_option maxHeartbeats 16000000 in
set_option maxRecDepth 100000 in
theorem notes_c (w : World) (A : Option Addr) (c : Nat) (xs : List Int) (b : Bool) (h : Sl w (.slice A xs.length c) xs) (hok : Byt.Ok xs) (hl : xs.length ≤ 500000) :
  Calls Try.prog 82 #[.agg #[.slice A xs.length c, .bool b]] w fun e w' => ∃ u A' c', e = .returned (.tuple #[u, .agg #[.slice A' (rNotes xs b).2.1.length c', .bool (rNotes xs b).2.2]]) ∧ NO w' w.heap.size u (rNotes xs b).1 ∧ Sl w' (.slice A' (rNotes xs b).2.1.length c') (rNotes xs b).2.1 ∧ Below w.heap.size w w' := by
 obtain ⟨X, hX⟩ : ∃ X, X = w.heap.size := ⟨_, rfl⟩
 obtain ⟨w1, hw1⟩ : ∃ w1, w1 = w.alloc (.cells #[.slice A xs.length c, .bool b] TR) := ⟨_, rfl⟩
 obtain ⟨w2, hw2⟩ : ∃ w2, w2 = w1.alloc (.cells #[.slice none 0 0, .bool false] TR) := ⟨_, rfl⟩
 have hs1 : w1.heap.size = X + 1 := by rw [hw1, World.size_alloc, hX]
 have hs2 : w2.heap.size = X + 2 := by rw [hw2, World.size_alloc, hs1]
 have hB2 : Below w.heap.size w w2 := by rw [hw2, hw1]; exact below_alloc (below_alloc (Below.refl _ _) _) _
 have HL2 := Aside0.mk (show Lp X (.slice none 0 0) xs b A c w w2 from
  ⟨by rw [hw2, Own.heap_old _ _ _ (by omega), hw1, hX]; exact Own.heap_new _ _, by rw [hw2, ← hs1]; exact Own.heap_new _ _, Kd.V_below (Kd.V_mono (Sl.to_V (base := 0) h) (fun k hk => ⟨⟨by omega, by omega⟩, by simp [Value.ownBlock]⟩)) hB2, fun k hk => by simp [Value.ownBlock] at hk, hB2, by omega⟩)
 have HOK := Aside0.mk hok
 have HLM := Aside0.mk hl
 have HN := Aside0.mk (num_c _ w2 A c xs b HL2.out.bt hok)
 have HS2 := Aside0.mk hs2
 have HW1 := Aside0.mk hw1
 have HW2 := Aside0.mk hw2
 have HXE := Aside0.mk hX
 have HS1 := Aside0.mk hs1
 obtain ⟨x0, x1, _, _⟩ := HL2.out.cells
 obtain ⟨many, hmany⟩ : ∃ many, many = (numL xs).1 := ⟨_, rfl⟩
 obtain ⟨xs1, hxs1⟩ : ∃ xs1, xs1 = dr xs := ⟨_, rfl⟩
 obtain ⟨b1, hb1⟩ : ∃ b1, b1 = (b || bd xs) := ⟨_, rfl⟩
 have HMM := Aside0.mk (show 0 ≤ many ∧ many ≤ 4611686018427387904 by rw [hmany]; exact numL_nonneg hok)
 have HOK1 := Aside0.mk (show Byt.Ok xs1 by rw [hxs1]; exact Byt.ok_drop hok _)
 have HLM1 := Aside0.mk (show xs1.length ≤ xs.length by rw [hxs1]; exact dr_len)
 obtain ⟨fin, hfin⟩ : ∃ fin, fin = rNotes xs b := ⟨_, rfl⟩
 have HFIN := Aside0.mk (show noteLoop (xs.length + 1) [] many 0 0 xs1 b1 = fin by rw [hfin, hmany, hxs1, hb1]; rfl)
 rw [← hmany, ← hxs1, ← hb1] at HN
 rw [← hfin]
 clear h hok hl hX hw1 hw2 hs1 hs2 hB2 hmany hxs1 hb1 hfin
 go_enter Try.func82, Try.ntmps82
 go_wp2_with (first | rw [← HXE.out, ← HW1.out] | rw [← HW2.out, HS1.out])
 refine HN.out.mono ?_
 rintro e w3 ⟨A1, c1, rfl, hv, hb⟩
 have HL3 := Aside0.mk (HL2.out.step (b' := b1) hb hv)
 obtain ⟨_, _, f0, f1⟩ := (HL2.out.below' hb).cells
 obtain ⟨w4, hw4⟩ : ∃ w4, w4 = (w3.setCell ⟨X, 0, none⟩ (.slice A1 xs1.length c1)).setCell ⟨X, 1, none⟩ (.bool b1) := ⟨_, rfl⟩
 rw [← hw4] at HL3
 obtain ⟨x0_, x1_, _, _⟩ := (HL2.out.below' hb).cells
 have HW4 := Aside0.mk hw4
 clear x0 x1 hv hb HN HW1 HW2 HXE HS1 HL2 hw4
 go_wp2_with (first | rw [← HW4.out])
 clear x0_ x1_ f0 f1 HW4
 go_loopw [4, 6, 7] (fun tv qv iv wr => ∃ (n : Nat) (acc : List Nt) (q i : Int) (ys : List Int) (y : Bool) (Ay : Option Addr) (cy : Nat), qv = .int .i64 q ∧ iv = .int .i64 i ∧ 0 ≤ i ∧ i ≤ many ∧ (y = false → ys.length < n) ∧ acc.length + n ≤ 500001 ∧ noteLoop n acc many q i ys y = fin ∧ NO wr (X + 2) tv acc ∧ Lp X tv ys y Ay cy w wr ∧ Byt.Ok ys ∧ ys.length ≤ 500000) (fun _ _ iv _ => (many - intOf iv).toNat)
 case atStart => exact ⟨xs.length + 1, [], 0, 0, xs1, b1, A1, c1, rfl, rfl, Int.le_refl _, HMM.out.1, fun _ => by have := HLM1.out; omega, by have := HLM.out; simp; omega, HFIN.out, World.ownsRow_nil _ _ _ _, HL3.out, HOK1.out, by have := HLM1.out; have := HLM.out; omega⟩
 case round =>
  obtain ⟨n, acc, q, i, ys, y, Ay, cy, rfl, rfl, h0, him, hsh, hac, hrec, hro, hlp, hoky, hly⟩ := hrel
  have HRO := Aside0.mk hro
  have HLP := Aside0.mk hlp
  have HOY := Aside0.mk hoky
  have HLY := Aside0.mk hly
  have HREC := Aside0.mk hrec
  have HSH := Aside0.mk hsh
  have HAC := Aside0.mk hac
  have HIM := Aside0.mk (And.intro h0 him)
  have HM2 := Aside0.mk HMM.out.2
  obtain ⟨x0, x1, f0, f1⟩ := hlp.cells
  clear hro hlp hoky hly hrec hsh hac h0 him
  by_cases hgo : i < many ∧ y = false
  ·obtain ⟨hi, rfl⟩ := hgo
   obtain ⟨n, rfl⟩ : ∃ m, n = m + 1 := ⟨n - 1, by have := HSH.out rfl; omega⟩
   have HS3 := Aside0.mk (HSH.out rfl)
   obtain ⟨s1, s2, s3⟩ := dr_short HOY.out
   obtain ⟨t1, t2, t3⟩ := dr_short s1
   obtain ⟨u1, u2, u3⟩ := dr_short t1
   have hnum := numL_nonneg HOY.out
   have hnum2 := numL_nonneg s1
   have hst : (if 16777216 < (numL ys).1 ∨ 16777216 < (numL (dr ys)).1 then ([], [], true) else noteLoop n (acc ++ [⟨⟨wrap64 (q + (numL ys).1), wrap64 (wrap64 (q + (numL ys).1) + (numL (dr ys)).1)⟩, (numL (dr (dr ys))).1⟩]) many (wrap64 (q + (numL ys).1)) (i + 1) (dr (dr (dr ys))) ((bd ys || bd (dr ys)) || bd (dr (dr ys)))) = fin := by
    have h := HREC.out
    simp only [noteLoop] at h
    rw [if_pos ⟨hi, trivial⟩] at h
    exact h
   obtain ⟨na, hna⟩ : ∃ na, na = (numL ys).1 := ⟨_, rfl⟩
   obtain ⟨ya, hya⟩ : ∃ ya, ya = dr ys := ⟨_, rfl⟩
   obtain ⟨ba, hba⟩ : ∃ ba, ba = bd ys := ⟨_, rfl⟩
   have HSA := Aside0.mk (num_c _ wr Ay cy ys false HLP.out.bt HOY.out)
   rw [← hna, ← hya, ← hba] at hst
   rw [← hna, ← hya, ← hba, Bool.false_or] at HSA
   rw [← hya] at s1 s2 s3 t1 t2 t3 u1 u2 u3 hnum2
   rw [← hba] at s3
   obtain ⟨nb, hnb⟩ : ∃ nb, nb = (numL ya).1 := ⟨_, rfl⟩
   obtain ⟨yb, hyb⟩ : ∃ yb, yb = dr ya := ⟨_, rfl⟩
   obtain ⟨bb, hbb⟩ : ∃ bb, bb = (ba || bd ya) := ⟨_, rfl⟩
   rw [← hnb, ← hyb, ← hbb] at hst
   rw [← hyb] at t1 t2 t3 u1 u2 u3
   obtain ⟨nc, hnc⟩ : ∃ nc, nc = (numL yb).1 := ⟨_, rfl⟩
   obtain ⟨yc, hyc⟩ : ∃ yc, yc = dr yb := ⟨_, rfl⟩
   obtain ⟨bc, hbc⟩ : ∃ bc, bc = (bb || bd yb) := ⟨_, rfl⟩
   rw [← hnc, ← hyc, ← hbc] at hst
   rw [← hyc] at u1 u2 u3
   have HST := Aside0.mk hst
   have HOA := Aside0.mk s1
   have HOB := Aside0.mk t1
   have HOC := Aside0.mk u1
   have HLC := Aside0.mk (show yc.length ≤ 500000 by have := HLY.out; omega)
   have HSC := Aside0.mk (show bc = false → yc.length < n by
    intro e
    have h1 : ba = false := by
     rw [hbc, hbb] at e
     simp only [Bool.or_eq_false_iff] at e
     exact e.1.1
    have := s3 h1
    have := HS3.out
    omega)
   have HNE := Aside0.mk hnb
   have HNB2 := Aside0.mk hyb
   have HBB2 := Aside0.mk hbb
   have HNC2 := Aside0.mk hnc
   have HYC2 := Aside0.mk hyc
   have HBC2 := Aside0.mk hbc
   have HI := Aside0.mk hi
   have hw64 : wrap64 (i + 1) = i + 1 := Byt.wrap_in _ (by have := HIM.out; have := HM2.out; omega)
   have HWI := Aside0.mk hw64
   clear hna hya hba hnb hyb hbb hnc hyc hbc s1 s2 s3 t1 t2 t3 u1 u2 u3 hst hnum hnum2
   go_wp2_with fail
   refine HSA.out.mono ?_
   rintro e w5 ⟨A2, c2, rfl, hv, hb⟩
   have HL6 := Aside0.mk (HLP.out.step (b' := ba) hb hv)
   have HRO6 := Aside0.mk (no_step HRO.out (show X < X + 2 by omega) hb (.slice A2 ya.length c2) (.bool ba))
   obtain ⟨y0, y1, g0, g1⟩ := (HLP.out.below' hb).cells
   obtain ⟨w6, hw6⟩ : ∃ w6, w6 = (w5.setCell ⟨X, 0, none⟩ (.slice A2 ya.length c2)).setCell ⟨X, 1, none⟩ (.bool ba) := ⟨_, rfl⟩
   rw [← hw6] at HL6 HRO6
   have HW6 := Aside0.mk hw6
   have HSB0 := num_c _ w6 A2 c2 ya ba HL6.out.bt HOA.out
   rw [← HNE.out, ← HNB2.out, ← HBB2.out] at HSB0
   have HSB := Aside0.mk HSB0
   obtain ⟨x0_, x1_, _, _⟩ := HL6.out.cells
   clear x0 x1 f0 f1 hv hb HSA hw6 HSB0
   go_wp2_with (first | rw [← HW6.out])
   refine HSB.out.mono ?_
   rintro e w7 ⟨A3, c3, rfl, hv, hb⟩
   have HL8 := Aside0.mk (HL6.out.step (b' := bb) hb hv)
   have HRO8 := Aside0.mk (no_step HRO6.out (show X < X + 2 by omega) hb (.slice A3 yb.length c3) (.bool bb))
   obtain ⟨z0, z1, k0, k1⟩ := (HL6.out.below' hb).cells
   obtain ⟨w8, hw8⟩ : ∃ w8, w8 = (w7.setCell ⟨X, 0, none⟩ (.slice A3 yb.length c3)).setCell ⟨X, 1, none⟩ (.bool bb) := ⟨_, rfl⟩
   rw [← hw8] at HL8 HRO8
   have HW8 := Aside0.mk hw8
   have HSC0 := num_c _ w8 A3 c3 yb bb HL8.out.bt HOB.out
   rw [← HNC2.out, ← HYC2.out, ← HBC2.out] at HSC0
   have HSD := Aside0.mk HSC0
   obtain ⟨x0, x1, _, _⟩ := HL8.out.cells
   clear y0 y1 g0 g1 x0_ x1_ hv hb HSB hw8 HSC0 HW6
   go_wp2_with (first | rw [← HW8.out])
   refine HSD.out.mono ?_
   rintro e w9 ⟨A4, c4, rfl, hv, hb⟩
   have HL10 := Aside0.mk (HL8.out.step (b' := bc) hb hv)
   have HRO10 := Aside0.mk (no_step HRO8.out (show X < X + 2 by omega) hb (.slice A4 yc.length c4) (.bool bc))
   obtain ⟨y0, y1, g0, g1⟩ := (HL8.out.below' hb).cells
   obtain ⟨w10, hw10⟩ : ∃ w10, w10 = (w9.setCell ⟨X, 0, none⟩ (.slice A4 yc.length c4)).setCell ⟨X, 1, none⟩ (.bool bc) := ⟨_, rfl⟩
   rw [← hw10] at HL10 HRO10
   have HW10 := Aside0.mk hw10
   clear x0 x1 z0 z1 k0 k1 hv hb HSD hw10 HW8
   have HWB := Aside0.mk (show X + 2 ≤ w10.heap.size by have := HL10.out.lt; omega)
   by_cases hfar : 16777216 < na ∨ 16777216 < nb
   ·have HEND := Aside0.mk (show (([] : List Nt), ([] : List Int), true) = fin by have h := HST.out; rw [if_pos hfar] at h; exact h)
    have z0 : w10.cell? ⟨X + 1, 0, none⟩ = some (.slice none 0 0) := by rw [cell_of_row _ _ 0 _ _ _ HL10.out.z]; rfl
    have z1 : w10.cell? ⟨X + 1, 1, none⟩ = some (.bool false) := by rw [cell_of_row _ _ 1 _ _ _ HL10.out.z]; rfl
    have k0 := frozen_of_row _ _ 0 _ _ HL10.out.z
    have k1 := frozen_of_row _ _ 1 _ _ HL10.out.z
    have hcase : 16777216 < na ∨ ¬ 16777216 < na ∧ 16777216 < nb := by omega
    clear hfar
    rcases hcase with hfa | ⟨hfa, hfb⟩
    ·go_wp2_with (first | rw [← HW10.out])
     refine bodyPost_ret (results_tc rfl _ _ (X + 1) TR #[.slice none 0 0, .bool true] (0, 0) _ rfl (set2 HL10.out.z _ _) Try.underlying119 rfl (by kernel_rfl)) rfl ?_
     rw [← HEND.out]
     exact ⟨_, none, 0, rfl, World.ownsRow_nil _ _ _ _, Sl.nil _, HL10.out.below.grown (but2c (X + 1) w10 _ _) HL10.out.below.size (fun K e => by cases e; have := HL10.out.ord; omega)⟩
    ·go_wp2_with (first | rw [← HW10.out])
     refine bodyPost_ret (results_tc rfl _ _ (X + 1) TR #[.slice none 0 0, .bool true] (0, 0) _ rfl (set2 HL10.out.z _ _) Try.underlying119 rfl (by kernel_rfl)) rfl ?_
     rw [← HEND.out]
     exact ⟨_, none, 0, rfl, World.ownsRow_nil _ _ _ _, Sl.nil _, HL10.out.below.grown (but2c (X + 1) w10 _ _) HL10.out.below.size (fun K e => by cases e; have := HL10.out.ord; omega)⟩
   ·have HST2 := Aside0.mk (show noteLoop n (acc ++ [⟨⟨wrap64 (q + na), wrap64 (wrap64 (q + na) + nb)⟩, nc⟩]) many (wrap64 (q + na)) (i + 1) yc bc = fin by have h := HST.out; rw [if_neg hfar] at h; exact h)
    have hfa : ¬ 16777216 < na := fun h => hfar (.inl h)
    have hfb : ¬ 16777216 < nb := fun h => hfar (.inr h)
    clear hfar
    go_wp2_with (first | rw [← HW10.out] | (at_builtin; refine RowNt.wpList_note (by rfl) (by rfl) HWB.out (by rfl) HRO10.out ⟨⟨wrap64 (q + na), wrap64 (wrap64 (q + na) + nb)⟩, nc⟩ (by rfl) (by have := HAC.out; omega) ?_; intro v' w11 hg9))
    refine ⟨⟨n, acc ++ [⟨⟨wrap64 (q + na), wrap64 (wrap64 (q + na) + nb)⟩, nc⟩], wrap64 (q + na), i + 1, yc, bc, A4, c4, rfl, by rw [HWI.out], by have := HIM.out; omega, by have := HI.out; omega, HSC.out, by have := HAC.out; rw [List.length_append]; simp only [List.length_singleton]; omega, HST2.out, hg9.own, HL10.out.grow hg9.grown hg9.at_ (fun k hk => own_lt hg9.own k hk), HOC.out, HLC.out⟩, ?_⟩
    show (many - (wrap64 (i + 1))).toNat < (many - i).toNat
    rw [HWI.out]
    have := HI.out
    omega
  ·have hend : (acc, ys, y) = fin := by
    have h := HREC.out
    cases n with
    | zero => exact h
    | succ n =>
     simp only [noteLoop] at h
     rw [if_neg hgo] at h
     exact h
   have HEND := Aside0.mk hend
   obtain ⟨Au, cu, eu⟩ := Kd.R_slice (NC.of_own HRO.out)
   subst eu
   have HB := Aside0.mk (But.refl (X + 1) wr)
   have HQ := Aside0.mk HLP.out.z
   have HAL := Aside0.mk (fun (W : World) (hW : But (X + 1) wr W) => (show W.cell? ⟨X, 0, none⟩ = some (.slice Ay ys.length cy) ∧ W.cell? ⟨X, 1, none⟩ = some (.bool y) by
    have hz := (hW.block X (by have := HLP.out.lt; omega) (fun e => by have := Option.some.inj e; omega)).trans HLP.out.bx
    exact ⟨by rw [cell_of_row _ _ 0 _ _ _ hz]; rfl, by rw [cell_of_row _ _ 1 _ _ _ hz]; rfl⟩))
   clear hend HREC
   have hcase : i < many ∧ y = true ∨ ¬ i < many := by
    by_cases h : i < many
    ·left
     refine ⟨h, ?_⟩
     cases y with
     | true => rfl
     | false => exact absurd ⟨h, rfl⟩ hgo
    ·exact .inr h
   clear hgo
   rcases hcase with ⟨hi, rfl⟩ | hi
   ·go_wp2_with fail
    clear x0 x1 f0 f1
    refine start_ (n := 4) (S := fun w' => True) (ds := []) #[false, false, false, false] (by kernel_rfl) rfl rfl trivial (fun hHeld => ?_); refine with_tabW R17.tab17 R17.bits17 (fun HT_ HW_ => ?_)
    refine inv_at [0, 1, 2, 3] (fun a0_ b a w' => a = putSel a0_ b [(0, 61, (.slice Au acc.length cu)), (1, 62, (.agg #[.slice Ay ys.length cy, .bool true])), (2, 2, (.slice Au acc.length cu))] ∧ (But (X + 1) wr w') ∧ (b 3 = false → w'.heap[X + 1]? = some (.cells #[.slice none 0 0, .bool false] TR (0, 0))) ∧ (b 3 = true → w'.heap[X + 1]? = some (.cells #[.slice Ay ys.length cy, .bool true] TR (0, 0)))) HT_.out HW_.out (by kernel_rfl) (by kernel_rfl) ?_ ?_ ?_
    ·exact ⟨by simp only [putSel, Bool.false_eq_true, if_false], HB.out.trans (But.drewN _ _ 1), fun _ => HQ.out, fun h_ => absurd h_ (by decide)⟩
    ·skip
     clear HB HQ
     refine steps_cons ?_ ?_
     ·rintro b a w' ⟨ha, Q_HB, Q_HQ, Q_HZ⟩ hb_ hon hoff
      refine ⟨_, rfl, fun K hK => ?_⟩
      have e4 : a.tmps[4]? = some ((.slice Au acc.length cu)) := by rw [ha]; exact (putSel_off rfl).trans rfl
      replace ha := Aside0.mk ha
      have HB := Aside0.mk Q_HB
      have HQ := Aside0.mk (Q_HQ (hoff 3 (by kernel_rfl)))
      refine value_ (w1 := w') (v := (.slice Au acc.length cu)) (by rfl) rfl ?_ ?_
      ·go_simp
       (try simp only [i64_w])
       try (first | rfl | assumption)
      refine hK.out _ _ ⟨(by rw [ha.out]; exact putSel_upk 0 hb_ rfl rfl rfl), Q_HB, Q_HQ, fun h0_ => absurd ((hoff 3 (by kernel_rfl)).symm.trans h0_) (by decide)⟩
     refine steps_cons ?_ ?_
     ·rintro b a w' ⟨ha, Q_HB, Q_HQ, Q_HZ⟩ hb_ hon hoff
      refine ⟨_, rfl, fun K hK => ?_⟩
      have e1 : a.tmps[1]? = some ((.pointer (some ⟨X, 0, none⟩))) := by rw [ha]; exact (putSel_off rfl).trans rfl
      replace ha := Aside0.mk ha
      have HB := Aside0.mk Q_HB
      have HQ := Aside0.mk (Q_HQ (hoff 3 (by kernel_rfl)))
      obtain ⟨x0_, x1_⟩ := HAL.out _ HB.out
      refine value_ (w1 := w') (v := (.agg #[.slice Ay ys.length cy, .bool true])) (by rfl) rfl ?_ ?_
      ·go_simp
       (try simp only [i64_w])
       try (first | rfl | assumption)
      refine hK.out _ _ ⟨(by rw [ha.out]; exact putSel_upk 1 hb_ rfl rfl rfl), Q_HB, Q_HQ, fun h0_ => absurd ((hoff 3 (by kernel_rfl)).symm.trans h0_) (by decide)⟩
     refine steps_cons ?_ ?_
     ·rintro b a w' ⟨ha, Q_HB, Q_HQ, Q_HZ⟩ hb_ hon hoff
      refine ⟨_, rfl, fun K hK => ?_⟩
      have e61 : a.tmps[61]? = some ((.slice Au acc.length cu)) := by rw [ha]; exact putSel_on (e := (0, 61, (.slice Au acc.length cu))) 0 rfl rfl (hon 0 (by kernel_rfl)) rfl
      replace ha := Aside0.mk ha
      have HB := Aside0.mk Q_HB
      have HQ := Aside0.mk (Q_HQ (hoff 3 (by kernel_rfl)))
      refine value_ (w1 := w') (v := (.slice Au acc.length cu)) (by rfl) rfl ?_ ?_
      ·go_simp
       (try simp only [i64_w])
       try (first | rfl | assumption)
      refine hK.out _ _ ⟨(by rw [ha.out]; exact putSel_upk 2 hb_ rfl rfl rfl), Q_HB, Q_HQ, fun h0_ => absurd ((hoff 3 (by kernel_rfl)).symm.trans h0_) (by decide)⟩
     refine steps_cons ?_ ?_
     ·rintro b a w' ⟨ha, Q_HB, Q_HQ, Q_HZ⟩ hb_ hon hoff
      refine ⟨_, rfl, fun K hK => ?_⟩
      have e3 : a.tmps[3]? = some ((.pointer (some ⟨X + 1, 0, none⟩))) := by rw [ha]; exact (putSel_off rfl).trans rfl
      have e62 : a.tmps[62]? = some ((.agg #[.slice Ay ys.length cy, .bool true])) := by rw [ha]; exact putSel_on (e := (1, 62, (.agg #[.slice Ay ys.length cy, .bool true]))) 1 rfl rfl (hon 1 (by kernel_rfl)) rfl
      replace ha := Aside0.mk ha
      have HB := Aside0.mk Q_HB
      have HQ := Aside0.mk (Q_HQ hb_)
      have hz_ := HQ.out
      obtain ⟨w1_, hw1_⟩ : ∃ w1_, w1_ = (w'.setCell ⟨X + 1, 0, none⟩ (.slice Ay ys.length cy)).setCell ⟨X + 1, 1, none⟩ (.bool true) := ⟨_, rfl⟩
      refine skip_ (w1 := w1_) (by rfl) rfl (by rw [hw1_]; have z0_ := cell_of_row _ _ 0 _ _ _ hz_; have z1_ := cell_of_row _ _ 1 _ _ _ hz_; have f0_ := frozen_of_row _ _ 0 _ _ hz_; have f1_ := frozen_of_row _ _ 1 _ _ hz_; go_simp) ?_
      refine hK.out _ _ ⟨(by rw [ha.out]; exact putSel_none (v := undef) rfl), (by rw [hw1_]; exact HB.out.trans (but2c _ _ _ _)), fun h0_ => absurd ((up_self b 3).symm.trans h0_) (by decide), fun _ => (by rw [hw1_]; exact set2 hz_ _ _)⟩
     exact steps_nil
    rintro b a we hall ⟨ha, Q_HB, Q_HQ, Q_HZ⟩
    clear HB HQ
    have hb0_ := hall 0 (by kernel_rfl)
    have hb1_ := hall 1 (by kernel_rfl)
    have hb2_ := hall 2 (by kernel_rfl)
    have hb3_ := hall 3 (by kernel_rfl)
    subst ha
    simp only [putSel, hb0_, hb1_, hb2_, hb3_, if_true, Act.put, List.setIfInBounds_toArray, List.set_cons_zero, List.set_cons_succ]
    have HB := Aside0.mk Q_HB
    clear Q_HB
    clear Q_HQ
    have HZ := Aside0.mk (Q_HZ hb3_)
    clear Q_HZ
    clear hall hb0_ hb1_ hb2_ hb3_
    go_wp2_with fail
    refine bodyPost_ret (results_tc rfl _ _ (X + 1) TR #[.slice Ay ys.length cy, .bool true] (0, 0) _ rfl HZ.out Try.underlying119 rfl (by kernel_rfl)) rfl ?_
    rw [← HEND.out]
    refine ⟨_, Ay, cy, rfl, World.ownsRow.mono (own_move HRO.out fun k hk => HB.out.block k (own_lt HRO.out k hk) (fun e => by have h1 := own_base HRO.out k hk; have := Option.some.inj e; omega)) (by have := HLP.out.ord; omega), ?_, HLP.out.below.grown HB.out HLP.out.below.size (fun K e => by cases e; have := HLP.out.ord; omega)⟩
    exact Sl.of_V (Kd.V_step HLP.out.bt (fun k hk hlt => HB.out.block k hlt (fun e => hk.1.2 (Option.some.inj e))))
   ·go_wp2_with fail
    clear x0 x1 f0 f1
    refine start_ (n := 4) (S := fun w' => True) (ds := []) #[false, false, false, false] (by kernel_rfl) rfl rfl trivial (fun hHeld => ?_); refine with_tabW R17.tab17 R17.bits17 (fun HT_ HW_ => ?_)
    refine inv_at [0, 1, 2, 3] (fun a0_ b a w' => a = putSel a0_ b [(0, 61, (.slice Au acc.length cu)), (1, 62, (.agg #[.slice Ay ys.length cy, .bool y])), (2, 2, (.slice Au acc.length cu))] ∧ (But (X + 1) wr w') ∧ (b 3 = false → w'.heap[X + 1]? = some (.cells #[.slice none 0 0, .bool false] TR (0, 0))) ∧ (b 3 = true → w'.heap[X + 1]? = some (.cells #[.slice Ay ys.length cy, .bool y] TR (0, 0)))) HT_.out HW_.out (by kernel_rfl) (by kernel_rfl) ?_ ?_ ?_
    ·exact ⟨by simp only [putSel, Bool.false_eq_true, if_false], HB.out.trans (But.drewN _ _ 1), fun _ => HQ.out, fun h_ => absurd h_ (by decide)⟩
    ·skip
     clear HB HQ
     refine steps_cons ?_ ?_
     ·rintro b a w' ⟨ha, Q_HB, Q_HQ, Q_HZ⟩ hb_ hon hoff
      refine ⟨_, rfl, fun K hK => ?_⟩
      have e4 : a.tmps[4]? = some ((.slice Au acc.length cu)) := by rw [ha]; exact (putSel_off rfl).trans rfl
      replace ha := Aside0.mk ha
      have HB := Aside0.mk Q_HB
      have HQ := Aside0.mk (Q_HQ (hoff 3 (by kernel_rfl)))
      refine value_ (w1 := w') (v := (.slice Au acc.length cu)) (by rfl) rfl ?_ ?_
      ·go_simp
       (try simp only [i64_w])
       try (first | rfl | assumption)
      refine hK.out _ _ ⟨(by rw [ha.out]; exact putSel_upk 0 hb_ rfl rfl rfl), Q_HB, Q_HQ, fun h0_ => absurd ((hoff 3 (by kernel_rfl)).symm.trans h0_) (by decide)⟩
     refine steps_cons ?_ ?_
     ·rintro b a w' ⟨ha, Q_HB, Q_HQ, Q_HZ⟩ hb_ hon hoff
      refine ⟨_, rfl, fun K hK => ?_⟩
      have e1 : a.tmps[1]? = some ((.pointer (some ⟨X, 0, none⟩))) := by rw [ha]; exact (putSel_off rfl).trans rfl
      replace ha := Aside0.mk ha
      have HB := Aside0.mk Q_HB
      have HQ := Aside0.mk (Q_HQ (hoff 3 (by kernel_rfl)))
      obtain ⟨x0_, x1_⟩ := HAL.out _ HB.out
      refine value_ (w1 := w') (v := (.agg #[.slice Ay ys.length cy, .bool y])) (by rfl) rfl ?_ ?_
      ·go_simp
       (try simp only [i64_w])
       try (first | rfl | assumption)
      refine hK.out _ _ ⟨(by rw [ha.out]; exact putSel_upk 1 hb_ rfl rfl rfl), Q_HB, Q_HQ, fun h0_ => absurd ((hoff 3 (by kernel_rfl)).symm.trans h0_) (by decide)⟩
     refine steps_cons ?_ ?_
     ·rintro b a w' ⟨ha, Q_HB, Q_HQ, Q_HZ⟩ hb_ hon hoff
      refine ⟨_, rfl, fun K hK => ?_⟩
      have e61 : a.tmps[61]? = some ((.slice Au acc.length cu)) := by rw [ha]; exact putSel_on (e := (0, 61, (.slice Au acc.length cu))) 0 rfl rfl (hon 0 (by kernel_rfl)) rfl
      replace ha := Aside0.mk ha
      have HB := Aside0.mk Q_HB
      have HQ := Aside0.mk (Q_HQ (hoff 3 (by kernel_rfl)))
      refine value_ (w1 := w') (v := (.slice Au acc.length cu)) (by rfl) rfl ?_ ?_
      ·go_simp
       (try simp only [i64_w])
       try (first | rfl | assumption)
      refine hK.out _ _ ⟨(by rw [ha.out]; exact putSel_upk 2 hb_ rfl rfl rfl), Q_HB, Q_HQ, fun h0_ => absurd ((hoff 3 (by kernel_rfl)).symm.trans h0_) (by decide)⟩
     refine steps_cons ?_ ?_
     ·rintro b a w' ⟨ha, Q_HB, Q_HQ, Q_HZ⟩ hb_ hon hoff
      refine ⟨_, rfl, fun K hK => ?_⟩
      have e3 : a.tmps[3]? = some ((.pointer (some ⟨X + 1, 0, none⟩))) := by rw [ha]; exact (putSel_off rfl).trans rfl
      have e62 : a.tmps[62]? = some ((.agg #[.slice Ay ys.length cy, .bool y])) := by rw [ha]; exact putSel_on (e := (1, 62, (.agg #[.slice Ay ys.length cy, .bool y]))) 1 rfl rfl (hon 1 (by kernel_rfl)) rfl
      replace ha := Aside0.mk ha
      have HB := Aside0.mk Q_HB
      have HQ := Aside0.mk (Q_HQ hb_)
      have hz_ := HQ.out
      obtain ⟨w1_, hw1_⟩ : ∃ w1_, w1_ = (w'.setCell ⟨X + 1, 0, none⟩ (.slice Ay ys.length cy)).setCell ⟨X + 1, 1, none⟩ (.bool y) := ⟨_, rfl⟩
      refine skip_ (w1 := w1_) (by rfl) rfl (by rw [hw1_]; have z0_ := cell_of_row _ _ 0 _ _ _ hz_; have z1_ := cell_of_row _ _ 1 _ _ _ hz_; have f0_ := frozen_of_row _ _ 0 _ _ hz_; have f1_ := frozen_of_row _ _ 1 _ _ hz_; go_simp) ?_
      refine hK.out _ _ ⟨(by rw [ha.out]; exact putSel_none (v := undef) rfl), (by rw [hw1_]; exact HB.out.trans (but2c _ _ _ _)), fun h0_ => absurd ((up_self b 3).symm.trans h0_) (by decide), fun _ => (by rw [hw1_]; exact set2 hz_ _ _)⟩
     exact steps_nil
    rintro b a we hall ⟨ha, Q_HB, Q_HQ, Q_HZ⟩
    clear HB HQ
    have hb0_ := hall 0 (by kernel_rfl)
    have hb1_ := hall 1 (by kernel_rfl)
    have hb2_ := hall 2 (by kernel_rfl)
    have hb3_ := hall 3 (by kernel_rfl)
    subst ha
    simp only [putSel, hb0_, hb1_, hb2_, hb3_, if_true, Act.put, List.setIfInBounds_toArray, List.set_cons_zero, List.set_cons_succ]
    have HB := Aside0.mk Q_HB
    clear Q_HB
    clear Q_HQ
    have HZ := Aside0.mk (Q_HZ hb3_)
    clear Q_HZ
    clear hall hb0_ hb1_ hb2_ hb3_
    go_wp2_with fail
    refine bodyPost_ret (results_tc rfl _ _ (X + 1) TR #[.slice Ay ys.length cy, .bool y] (0, 0) _ rfl HZ.out Try.underlying119 rfl (by kernel_rfl)) rfl ?_
    rw [← HEND.out]
    refine ⟨_, Ay, cy, rfl, World.ownsRow.mono (own_move HRO.out fun k hk => HB.out.block k (own_lt HRO.out k hk) (fun e => by have h1 := own_base HRO.out k hk; have := Option.some.inj e; omega)) (by have := HLP.out.ord; omega), ?_, HLP.out.below.grown HB.out HLP.out.below.size (fun K e => by cases e; have := HLP.out.ord; omega)⟩
    exact Sl.of_V (Kd.V_step HLP.out.bt (fun k hk hlt => HB.out.block k hlt (fun e => hk.1.2 (Option.some.inj e))))
end Go.Proofs.Ytedfcjcnhgomoaa.RefList
end
-- MERGED YtedfcjcnhgomoaaMsgDec
section
namespace Go.Proofs.Ytedfcjcnhgomoaa.MsgDec
open Go.RowKit Go.Proofs.Ytedfcjcnhgomoaa.P Go.Proofs.YtedfcjcnhgomoaaW.PrintWords Go.Proofs.YtedfcjcnhgomoaaW.PrintLast Go.Proofs.YtedfcjcnhgomoaaW.PrintMore Go.Proofs.Ytedfcjcnhgomoaa.Own Go.Proofs.Ytedfcjcnhgomoaa.Vy Go.Proofs.Ytedfcjcnhgomoaa.VaryR Go.Proofs.Ytedfcjcnhgomoaa.NoteN Go.Proofs.Ytedfcjcnhgomoaa.MsgA Go.Proofs.Ytedfcjcnhgomoaa.MsgD Go.Proofs.Ytedfcjcnhgomoaa.MsgE Go.Proofs.Ytedfcjcnhgomoaa.MsgW Go.Proofs.Ytedfcjcnhgomoaa.DecA Go.Proofs.Ytedfcjcnhgomoaa.RowRn Go.Proofs.Ytedfcjcnhgomoaa.RowNt Go.Proofs.Ytedfcjcnhgomoaa.DecB Go.Proofs.Ytedfcjcnhgomoaa.DecC Go.Proofs.Ytedfcjcnhgomoaa.DecM Go.Proofs.Ytedfcjcnhgomoaa.DecL
set_option linter.unusedSimpArgs false
set_option linter.unusedVariables false
def DecPost (l : List Int) (w : World) (e : Ending) (w' : World) : Prop :=
 ∃ A6 c6 A8 c8, e = .returned (.tuple #[((decR l).1.mg A6 c6 A8 c8).val, .int .i64 (decR l).2]) ∧ Lies (decR l).1 A6 c6 A8 c8 w' ∧ Below w.heap.size w w'
theorem text_a (g : Nat) (v : Value) (l : List Int) (hok : Byt.Ok l) (s : At) (W : World) (h : Rd g W v l s.a s.bad) : Calls Try.prog 51 #[.pointer (some ⟨g, 0, none⟩)] W fun e W' => e = .returned (.string (s.text l).1) ∧ Rd g W' v l (s.text l).2.a (s.text l).2.bad ∧ But g W W' := VaryR.nText g W v l s.a s.bad h hok
def Mo (m : Ms) (ov nv : Value) : Mg := ⟨m.k, m.c, m.e, m.r, m.s, m.d, ov, m.t, nv⟩
def zero9 : Array Value := (Mo noMs (.slice none 0 0) (.slice none 0 0)).cs
structure Got (g B R N : Nat) (v : Value) (l : List Int) (m : Ms) (s : At) (ov nv : Value) (w0 w : World) : Prop where
 rd : Rd g w v l s.a s.bad
 blk : Blk B (Mo m ov nv) w
 res : w.heap[R]? = some (.cells zero9 44 (0, 0))
 o : RowRn.RO w N ov m.o
 n : NO w N nv m.n
 below : Below w0.heap.size w0 w
 size : N ≤ w.heap.size
 ord : w0.heap.size ≤ R ∧ R < g ∧ g < B ∧ B < N
theorem Got.below' {g B R N : Nat} {v : Value} {l : List Int} {m : Ms} {s : At} {ov nv : Value} {w0 w w' : World} (h : Got g B R N v l m s ov nv w0 w) (hb : Below w.heap.size w w') : Got g B R N v l m s ov nv w0 w' :=
 ⟨h.rd.below hb, h.blk.below hb, (hb.block _ (Array.getElem?_eq_some_iff.1 h.res).1).trans h.res, h.o.below hb, h.n.below hb, below_step h.below hb, Nat.le_trans h.size hb.size, h.ord⟩
theorem Got.read {g B R N : Nat} {v : Value} {l : List Int} {m : Ms} {s s' : At} {ov nv : Value} {w0 w w' : World} (h : Got g B R N v l m s ov nv w0 w) (hb : But g w w') (hr : Rd g w' v l s'.a s'.bad) : Got g B R N v l m s' ov nv w0 w' := by
 obtain ⟨o1, o2, o3, o4⟩ := h.ord
 refine ⟨hr, (hb.block B h.blk.lt (fun e => by have := Option.some.inj e; omega)).trans h.blk, (hb.block R (Array.getElem?_eq_some_iff.1 h.res).1 (fun e => by have := Option.some.inj e; omega)).trans h.res, ?_, ?_, h.below.grown hb h.below.size (fun K e => by cases e; omega), Nat.le_trans h.size hb.size, h.ord⟩
 ·exact own_move h.o fun k hk => hb.block k (own_lt h.o k hk) (fun e => by have h1 := own_base h.o k hk; have := Option.some.inj e; omega)
 ·exact own_move h.n fun k hk => hb.block k (own_lt h.n k hk) (fun e => by have h1 := own_base h.n k hk; have := Option.some.inj e; omega)
theorem RO.form {w : World} {N : Nat} {u : Value} {xs : List EditL.Rn} (h : RowRn.RO w N u xs) : ∃ A c, u = .slice A xs.length c := by
 obtain ⟨A, c, e⟩ := Kd.R_slice (RO.R h)
 exact ⟨A, c, e⟩
theorem NO.form {w : World} {N : Nat} {u : Value} {xs : List Nt} (h : NO w N u xs) : ∃ A c, u = .slice A xs.length c := by
 obtain ⟨A, c, e⟩ := Kd.R_slice (NC.of_own h)
 exact ⟨A, c, e⟩
theorem Got.put {g B R N : Nat} {v : Value} {l : List Int} {m m' : Ms} {s : At} {ov nv ov' nv' : Value} {w0 w : World} (h : Got g B R N v l m s ov nv w0 w) (o : Nat) (u : Value) (hB : Blk B (Mo m' ov' nv') (w.setCell ⟨B, o, none⟩ u)) (ho : RowRn.RO w N ov' m'.o) (hn : NO w N nv' m'.n) : Got g B R N v l m' s ov' nv' w0 (w.setCell ⟨B, o, none⟩ u) := by
 obtain ⟨o1, o2, o3, o4⟩ := h.ord
 have hb := But.setCell B o w u
 have hno : ∀ o x, w.cell? ⟨B, o, none⟩ ≠ some (.int .u8 x) := by
  intro o x hx
  obtain ⟨A, c, e1⟩ := RO.form h.o
  obtain ⟨A2, c2, e2⟩ := NO.form h.n
  have hq := h.blk
  unfold Blk Mo Mg.cs at hq
  rw [e1, e2] at hq
  rw [cell_of_row w _ o _ _ _ hq] at hx
  rcases o with _ | _ | _ | _ | _ | _ | _ | _ | _ | o <;> simp at hx
 refine ⟨h.rd.but hb (by omega) hno, hB, (hb.block R (Array.getElem?_eq_some_iff.1 h.res).1 (fun e => by have := Option.some.inj e; omega)).trans h.res, ?_, ?_, h.below.grown hb h.below.size (fun K e => by cases e; omega), Nat.le_trans h.size hb.size, h.ord⟩
 ·exact own_move ho fun k hk => hb.block k (own_lt ho k hk) (fun e => by have h1 := own_base ho k hk; have := Option.some.inj e; omega)
 ·exact own_move hn fun k hk => hb.block k (own_lt hn k hk) (fun e => by have h1 := own_base hn k hk; have := Option.some.inj e; omega)
theorem Got.num {g B R N : Nat} {v : Value} {l : List Int} {m : Ms} {s s' : At} {ov nv : Value} {w0 w w' : World} (h : Got g B R N v l m s ov nv w0 w) (hb : But g w w') (hr : Rd g w' v l s'.a s'.bad) (f : Nat) (hf : f < 5) (x : Int) : Got g B R N v l (Ms.setN m f x) s' ov nv w0 (w'.setCell ⟨B, f + 1, none⟩ (.int .i64 x)) := by
 have h2 := h.read hb hr
 have hq : f = 0 ∨ f = 1 ∨ f = 2 ∨ f = 3 ∨ f = 4 := by omega
 rcases hq with rfl | rfl | rfl | rfl | rfl <;>
 ·exact h2.put _ _ (heap_setCell_same w' B _ _ _ _ h2.blk) h2.o h2.n
theorem Got.op {g B R N : Nat} {v u : Value} {l : List Int} {m : Ms} {s s' : At} {ov nv : Value} {w0 w w' : World} {xs : List EditL.Rn} (h : Got g B R N v l m s ov nv w0 w) (hb : But g w w') (hr : Rd g w' v l s'.a s'.bad) (hu : RowRn.RO w' w.heap.size u xs) : Got g B R N v l { m with o := xs } s' u nv w0 (w'.setCell ⟨B, 6, none⟩ u) := by
 have h2 := h.read hb hr
 exact h2.put _ _ (heap_setCell_same w' B _ _ _ _ h2.blk) (World.ownsRow.mono hu h.size) h2.n
theorem Got.text {g B R N : Nat} {v : Value} {l : List Int} {m : Ms} {s s' : At} {ov nv : Value} {w0 w w' : World} (h : Got g B R N v l m s ov nv w0 w) (hb : But g w w') (hr : Rd g w' v l s'.a s'.bad) (t : ByteArray) : Got g B R N v l { m with t := t } s' ov nv w0 (w'.setCell ⟨B, 7, none⟩ (.string t)) := by
 have h2 := h.read hb hr
 exact h2.put _ _ (heap_setCell_same w' B _ _ _ _ h2.blk) h2.o h2.n
theorem Got.notes {g B R N : Nat} {v u : Value} {l : List Int} {m : Ms} {s s' : At} {ov nv : Value} {w0 w w' : World} {xs : List Nt} (h : Got g B R N v l m s ov nv w0 w) (hb : But g w w') (hr : Rd g w' v l s'.a s'.bad) (hu : NO w' w.heap.size u xs) : Got g B R N v l { m with n := xs } s' ov u w0 (w'.setCell ⟨B, 8, none⟩ u) := by
 have h2 := h.read hb hr
 exact h2.put _ _ (heap_setCell_same w' B _ _ _ _ h2.blk) h2.o (World.ownsRow.mono hu h.size)
theorem lies_own {w : World} {N : Nat} {m : Ms} {A6 A8 : Option Addr} {c6 c8 : Nat} (ho : RowRn.RO w N (.slice A6 m.o.length c6) m.o) (hn : NO w N (.slice A8 m.n.length c8) m.n) : Lies m A6 c6 A8 c8 w := by
 obtain ⟨A, c, e, h1, h2⟩ := Kd.R_reads (RO.R ho)
 obtain ⟨A', c', e', h3, h4⟩ := Kd.R_reads (NC.of_own hn)
 injection e with e1 e2 e3
 injection e' with e4 e5 e6
 subst e1 e3 e4 e6
 exact ⟨h2, h1, h4, h3⟩
theorem but9 (R : Nat) (w : World) (y0 y1 y2 y3 y4 y5 y6 y7 y8 : Value) : But R w (((((((((w.setCell ⟨R, 0, none⟩ y0).setCell ⟨R, 1, none⟩ y1).setCell ⟨R, 2, none⟩ y2).setCell ⟨R, 3, none⟩ y3).setCell ⟨R, 4, none⟩ y4).setCell ⟨R, 5, none⟩ y5).setCell ⟨R, 6, none⟩ y6).setCell ⟨R, 7, none⟩ y7).setCell ⟨R, 8, none⟩ y8) :=
 ((((((((But.setCell R 0 _ _).trans (But.setCell R 1 _ _)).trans (But.setCell R 2 _ _)).trans (But.setCell R 3 _ _)).trans (But.setCell R 4 _ _)).trans (But.setCell R 5 _ _)).trans (But.setCell R 6 _ _)).trans (But.setCell R 7 _ _)).trans (But.setCell R 8 _ _)
theorem post_no {l : List Int} {w w' : World} (h : decOk l = false) (hb : Below w.heap.size w w') : DecPost l w (.returned (.tuple #[.agg #[.int .i64 0, .int .i64 0, .int .i64 0, .int .i64 0, .int .i64 0, .int .i64 0, .slice none 0 0, .string ⟨#[]⟩, .slice none 0 0], .int .i64 10])) w' := by
 have e : decR l = (noMs, 10) := by unfold decR; rw [h]; rfl
 unfold DecPost
 rw [e]
 exact ⟨none, 0, none, 0, rfl, ⟨Kd.C_nil _ _, Nat.le_refl _, Kd.C_nil _ _, Nat.le_refl _⟩, hb⟩
theorem post_yes {g B R N : Nat} {v : Value} {l : List Int} {m : Ms} {s : At} {A6 A8 : Option Addr} {c6 c8 : Nat} {w0 w : World} (h : decOk l = true) (hm : (readM l).1 = m) (hg : Got g B R N v l m s (.slice A6 m.o.length c6) (.slice A8 m.n.length c8) w0 w) (y0 y1 y2 y3 y4 y5 y6 y7 y8 : Value) :
  DecPost l w0 (.returned (.tuple #[.agg #[.int .i64 m.k, .int .i64 m.c, .int .i64 m.e, .int .i64 m.r, .int .i64 m.s, .int .i64 m.d, .slice A6 m.o.length c6, .string m.t, .slice A8 m.n.length c8], .int .i64 0])) (((((((((w.setCell ⟨R, 0, none⟩ y0).setCell ⟨R, 1, none⟩ y1).setCell ⟨R, 2, none⟩ y2).setCell ⟨R, 3, none⟩ y3).setCell ⟨R, 4, none⟩ y4).setCell ⟨R, 5, none⟩ y5).setCell ⟨R, 6, none⟩ y6).setCell ⟨R, 7, none⟩ y7).setCell ⟨R, 8, none⟩ y8) := by
 have e : decR l = (m, 0) := by unfold decR; rw [h, ← hm]; rfl
 obtain ⟨o1, o2, o3, o4⟩ := hg.ord
 have hb := but9 R w y0 y1 y2 y3 y4 y5 y6 y7 y8
 unfold DecPost
 rw [e]
 refine ⟨A6, c6, A8, c8, rfl, lies_own (N := N) (own_move hg.o fun k hk => hb.block k (own_lt hg.o k hk) (fun e => ?_)) (own_move hg.n fun k hk => hb.block k (own_lt hg.n k hk) (fun e => ?_)), below_set9 hg.below o1 _ _ _ _ _ _ _ _ _⟩
 ·have h1 := own_base hg.o k hk; have := Option.some.inj e; omega
 ·have h1 := own_base hg.n k hk; have := Option.some.inj e; omega
set_option maxHeartbeats 16000000 in
set_option maxRecDepth 100000 in
theorem decode_c (w : World) (v : Value) (l : List Int) (h : Sl w v l) (hok : Byt.Ok l) (hl : l.length ≤ 500000) : Calls Try.prog 35 #[v] w (DecPost l w) := by
 obtain ⟨R, hR⟩ : ∃ R, R = w.heap.size := ⟨_, rfl⟩
 obtain ⟨w1, hw1⟩ : ∃ w1, w1 = w.alloc (.cells #[.int .i64 0, .int .i64 0, .int .i64 0, .int .i64 0, .int .i64 0, .int .i64 0, .slice none 0 0, .string ⟨#[]⟩, .slice none 0 0] 44) := ⟨_, rfl⟩
 have hb1 : Below w.heap.size w w1 := by rw [hw1]; exact below_alloc (Below.refl _ _) _
 have HR1 := Aside0.mk (show w1.heap[R]? = some (.cells zero9 44 (0, 0)) by rw [hw1, hR]; exact Own.heap_new _ _)
 obtain ⟨g, hg⟩ : ∃ g, g = w1.heap.size := ⟨_, rfl⟩
 have hrg : R < g := by have := (Array.getElem?_eq_some_iff.1 HR1.out).1; omega
 have HRG := Aside0.mk hrg
 have HGE := Aside0.mk hg
 have HRW := Aside0.mk (show w.heap.size ≤ R by omega)
 have HRD0 := Aside0.mk (nRead w1 v l (h.below hb1) (by omega))
 rw [← hg] at HRD0
 have HB1 := Aside0.mk hb1
 have HW1 := Aside0.mk hw1
 have HRE := Aside0.mk hR
 have HOK := Aside0.mk hok
 have HL := Aside0.mk hl
 have HS := Aside0.mk h
 clear h hok hl hb1 hw1 hR hg hrg
 go_enter Try.func35, Try.ntmps35
 go_wp2_with (first | rw [← HRE.out, ← HW1.out])
 refine HRD0.out.mono ?_
 rintro e w2 ⟨rfl, hrd, hb, hsz⟩
 rw [HGE.out] at hb
 have hb : Below w1.heap.size w1 w2 := hb
 have HRD2 := Aside0.mk hrd
 have HB2 := Aside0.mk (below_step HB1.out hb)
 have HR2 := Aside0.mk ((hb.block R (Array.getElem?_eq_some_iff.1 HR1.out).1).trans HR1.out)
 have HNM := Aside0.mk (num_a g v l HOK.out ⟨0, false⟩ w2 hrd)
 clear hrd hb hsz HRD0 HR1 HB1
 go_wp2_with fail
 refine HNM.out.mono ?_
 rintro e w3 ⟨rfl, hrd, hb⟩
 obtain ⟨k, hk⟩ : ∃ k, k = (At.num l ⟨0, false⟩).1 := ⟨_, rfl⟩
 obtain ⟨s1, hs1⟩ : ∃ s1, s1 = (At.num l ⟨0, false⟩).2 := ⟨_, rfl⟩
 rw [← hs1] at hrd
 rw [← hk]
 have HREAD := Aside0.mk (show putAll l (fieldsL k) (⟨k, 0, 0, 0, 0, 0, [], ⟨#[]⟩, []⟩, s1) = readM l by unfold readM; rw [hk, hs1])
 have HGW := Aside0.mk (show g < w2.heap.size by
  obtain ⟨a', h1, _⟩ := HRD2.out
  exact (Array.getElem?_eq_some_iff.1 h1.heap).1)
 have HR3 := Aside0.mk ((hb.block R (Nat.lt_trans HRG.out HGW.out) (fun e => by have h1 := HRG.out; have := Option.some.inj e; omega)).trans HR2.out)
 have HB3 := Aside0.mk (show Below w.heap.size w w3 from HB2.out.grown hb HB2.out.size (fun K e => by cases e; have h1 := HRG.out; have h2 := HRW.out; omega))
 obtain ⟨B, hB⟩ : ∃ B, B = w3.heap.size := ⟨_, rfl⟩
 obtain ⟨w4, hw4⟩ : ∃ w4, w4 = w3.alloc (.cells #[.int .i64 0, .int .i64 0, .int .i64 0, .int .i64 0, .int .i64 0, .int .i64 0, .slice none 0 0, .string ⟨#[]⟩, .slice none 0 0] 44) := ⟨_, rfl⟩
 have hT4 : w4.heap[B]? = some (.cells #[.int .i64 0, .int .i64 0, .int .i64 0, .int .i64 0, .int .i64 0, .int .i64 0, .slice none 0 0, .string ⟨#[]⟩, .slice none 0 0] 44 (0, 0)) := by rw [hw4, hB]; exact Own.heap_new _ _
 obtain ⟨w5, hw5⟩ : ∃ w5, w5 = ((((((((w4.setCell ⟨B, 0, none⟩ (.int .i64 k)).setCell ⟨B, 1, none⟩ (.int .i64 0)).setCell ⟨B, 2, none⟩ (.int .i64 0)).setCell ⟨B, 3, none⟩ (.int .i64 0)).setCell ⟨B, 4, none⟩ (.int .i64 0)).setCell ⟨B, 5, none⟩ (.int .i64 0)).setCell ⟨B, 6, none⟩ (.slice none 0 0)).setCell ⟨B, 7, none⟩ (.string ⟨#[]⟩)).setCell ⟨B, 8, none⟩ (.slice none 0 0) := ⟨_, rfl⟩
 have hbx : But B w4 w5 := by
  rw [hw5]
  exact ((((((((But.setCell B 0 _ _).trans (But.setCell B 1 _ _)).trans (But.setCell B 2 _ _)).trans (But.setCell B 3 _ _)).trans (But.setCell B 4 _ _)).trans (But.setCell B 5 _ _)).trans (But.setCell B 6 _ _)).trans (But.setCell B 7 _ _)).trans (But.setCell B 8 _ _)
 have hb34 : Below w3.heap.size w3 w4 := by rw [hw4]; exact below_alloc (Below.refl _ _) _
 have hb35 : Below w3.heap.size w3 w5 := hb34.grown hbx hb34.size (fun K e => by cases e; omega)
 have hBl := (Array.getElem?_eq_some_iff.1 hT4).1
 have hGB : g < B := by have h1 := HGW.out; have h2 := hb.size; omega
 have HGB := Aside0.mk hGB
 obtain ⟨N, hN⟩ : ∃ N, N = w5.heap.size := ⟨_, rfl⟩
 have HBN := Aside0.mk (show B < N by have := hbx.size; omega)
 have HG5 := Aside0.mk (show Got g B R N v l ⟨k, 0, 0, 0, 0, 0, [], ⟨#[]⟩, []⟩ s1 (.slice none 0 0) (.slice none 0 0) w w5 from
  ⟨hrd.below hb35, by unfold Blk; rw [hw5]; exact set9 hT4 _ _ _ _ _ _ _ _ _, (hb35.block R (by have h1 := HRG.out; omega)).trans HR3.out, World.ownsRow_nil _ _ _ _, World.ownsRow_nil _ _ _ _, below_step HB3.out hb35, by omega, HRW.out, HRG.out, hGB, HBN.out⟩)
 have x0 : w4.cell? ⟨B, 0, none⟩ = some (.int .i64 0) := by rw [cell_of_row _ _ 0 _ _ _ hT4]; rfl
 have x1 : w4.cell? ⟨B, 1, none⟩ = some (.int .i64 0) := by rw [cell_of_row _ _ 1 _ _ _ hT4]; rfl
 have x2 : w4.cell? ⟨B, 2, none⟩ = some (.int .i64 0) := by rw [cell_of_row _ _ 2 _ _ _ hT4]; rfl
 have x3 : w4.cell? ⟨B, 3, none⟩ = some (.int .i64 0) := by rw [cell_of_row _ _ 3 _ _ _ hT4]; rfl
 have x4 : w4.cell? ⟨B, 4, none⟩ = some (.int .i64 0) := by rw [cell_of_row _ _ 4 _ _ _ hT4]; rfl
 have x5 : w4.cell? ⟨B, 5, none⟩ = some (.int .i64 0) := by rw [cell_of_row _ _ 5 _ _ _ hT4]; rfl
 have x6 : w4.cell? ⟨B, 6, none⟩ = some (.slice none 0 0) := by rw [cell_of_row _ _ 6 _ _ _ hT4]; rfl
 have x7 : w4.cell? ⟨B, 7, none⟩ = some (.string ⟨#[]⟩) := by rw [cell_of_row _ _ 7 _ _ _ hT4]; rfl
 have x8 : w4.cell? ⟨B, 8, none⟩ = some (.slice none 0 0) := by rw [cell_of_row _ _ 8 _ _ _ hT4]; rfl
 have f0 := frozen_of_row _ _ 0 _ _ hT4
 have f1 := frozen_of_row _ _ 1 _ _ hT4
 have f2 := frozen_of_row _ _ 2 _ _ hT4
 have f3 := frozen_of_row _ _ 3 _ _ hT4
 have f4 := frozen_of_row _ _ 4 _ _ hT4
 have f5 := frozen_of_row _ _ 5 _ _ hT4
 have f6 := frozen_of_row _ _ 6 _ _ hT4
 have f7 := frozen_of_row _ _ 7 _ _ hT4
 have f8 := frozen_of_row _ _ 8 _ _ hT4
 have HW4 := Aside0.mk hw4
 have HW5 := Aside0.mk hw5
 have HBE := Aside0.mk hB
 have HNE := Aside0.mk hN
 have y0 : w5.cell? ⟨B, 0, none⟩ = some (.int .i64 k) := HG5.out.blk.cells.1.1
 clear hrd hb hw4 hw5 hB hT4 hbx hb34 hb35 hBl hGB hN hk hs1 HRD2 HNM HW1 HR2 HR3 HB2 HB3
 go_wp2_with (first | rw [← HBE.out, ← HW4.out] | rw [← HW5.out])
 refine (message_fields.calls k _ _ (fields_f k)).mono ?_
 rintro e w6 ⟨v', rfl, hr, hb⟩
 have hr' := Kd.R_mono (ok' := fun K => N ≤ K) (Kd.R_bound hr) (fun K hK => by
  have h1 := HNE.out
  have h2 := hK.2.1
  omega)
 obtain ⟨F, cF, rfl⟩ := Kd.R_slice hr'
 obtain ⟨fs, hfs⟩ : ∃ fs, fs = fieldsL k := ⟨_, rfl⟩
 have HFO := Aside0.mk (fields_ok k)
 rw [← hfs] at hr' HFO HREAD ⊢
 have HRF := Aside0.mk hr'
 have HG6 := Aside0.mk (HG5.out.below' hb)
 obtain ⟨bs, hbs⟩ : ∃ bs, bs = w5.heap.size := ⟨_, rfl⟩
 rw [← hbs] at HRF
 clear hbs hr hr' hb hfs x0 x1 x2 x3 x4 x5 x6 x7 x8 f0 f1 f2 f3 f4 f5 f6 f7 f8 y0 HG5 HW4 HW5 HBE HNE
 go_wp2_with fail
 go_loopw [21] (fun iv wr => ∃ (j : Nat) (m : Ms) (s : At) (ov nv : Value), j ≤ fs.length ∧ iv = .int .i64 (j : Int) ∧ putAll l (fs.drop j) (m, s) = readM l ∧ Got g B R N v l m s ov nv w wr ∧ Kd.R (Kd.int .i64) 92 wr bs (fun K => N ≤ K) (.slice F fs.length cF) fs) (fun iv _ => fs.length - (intOf iv).toNat)
 case atStart => exact ⟨0, _, _, _, _, Nat.zero_le _, rfl, HREAD.out, HG6.out, HRF.out⟩
 case round =>
  obtain ⟨j, m, s, ov, nv, hj, rfl, ho, hgot, hrow⟩ := hrel
  have HGT := Aside0.mk hgot
  have HO := Aside0.mk ho
  have HRJ := Aside0.mk hrow
  clear hgot ho hrow
  by_cases hlt : j < fs.length
  ·obtain ⟨f, hf⟩ : ∃ f, f = rd fs (j : Int) := ⟨_, rfl⟩
   have h4 : j < 4 := by have := HFO.out.2.2; omega
   have hdr := drop_rd hlt
   rw [← hf] at hdr
   have hmem : f ∈ fs := List.mem_of_mem_drop (i := j) (by rw [hdr]; exact List.mem_cons_self)
   have h08 := HFO.out.2.1 f hmem
   obtain ⟨ad, rfl, y⟩ := Kd.at_int (Kd.R_reads' HRJ.out).2.2 (j : Int) (by omega) (by omega)
   rw [Int.toNat_natCast, ← hf] at y
   have HO2 := Aside0.mk (show putAll l (fs.drop (j + 1)) (putF l f (m, s)) = readM l by rw [← HO.out, hdr]; rfl)
   have HLT := Aside0.mk hlt
   have hlt' : (j : Int) < (fs.length : Int) := by omega
   clear hf hdr hmem hlt
   have hq : f = 0 ∨ f = 1 ∨ f = 2 ∨ f = 3 ∨ f = 4 ∨ f = 5 ∨ f = 6 ∨ f = 7 := by omega
   clear h08
   rcases hq with rfl | rfl | rfl | rfl | rfl | rfl | rfl | rfl
   ·have HN1 := Aside0.mk (num_a g v l HOK.out s wr HGT.out.rd)
    obtain ⟨⟨x0, x1, x2, x3, x4, x5⟩, x6, x7, x8⟩ := HGT.out.blk.cells
    clear x0 x1 x2 x3 x4 x5 x6 x7 x8
    go_wp2_with fail
    refine (num_c B 0 (by decide) wr).mono ?_
    rintro e w6 ⟨rfl, rfl⟩
    go_wp2_with fail
    refine HN1.out.mono ?_
    rintro e w7 ⟨rfl, hrd, hb7⟩
    have HG7 := Aside0.mk (HGT.out.read hb7 hrd)
    have HG8 := Aside0.mk (HGT.out.num hb7 hrd 0 (by decide) (s.num l).1)
    have HR7 := Aside0.mk (Kd.R_grown (Kd.R_grown HRJ.out hb7 (fun K hK e => by have h1 := HGT.out.ord; have := Option.some.inj e; omega)) (But.setCell B 1 w7 (.int .i64 (s.num l).1)) (fun K hK e => by have h1 := HGT.out.ord; have := Option.some.inj e; omega))
    have c7 : w7.cell? ⟨B, 1, none⟩ = some (.int .i64 m.c) := by obtain ⟨⟨x0, x1, x2, x3, x4, x5⟩, x6, x7, x8⟩ := HG7.out.blk.cells; exact x1
    have f7 := HG7.out.blk.fz 1
    clear hrd hb7 y HN1
    go_wp2_with fail
    go_roundw
    case rel => exact ⟨j + 1, _, _, _, _, HLT.out, by go_num, HO2.out, HG8.out, HR7.out⟩
    case measure => simp [intOf]; have := HLT.out; omega
   ·have HN1 := Aside0.mk (num_a g v l HOK.out s wr HGT.out.rd)
    obtain ⟨⟨x0, x1, x2, x3, x4, x5⟩, x6, x7, x8⟩ := HGT.out.blk.cells
    clear x0 x1 x2 x3 x4 x5 x6 x7 x8
    go_wp2_with fail
    refine (num_c B 1 (by decide) wr).mono ?_
    rintro e w6 ⟨rfl, rfl⟩
    go_wp2_with fail
    refine HN1.out.mono ?_
    rintro e w7 ⟨rfl, hrd, hb7⟩
    have HG7 := Aside0.mk (HGT.out.read hb7 hrd)
    have HG8 := Aside0.mk (HGT.out.num hb7 hrd 1 (by decide) (s.num l).1)
    have HR7 := Aside0.mk (Kd.R_grown (Kd.R_grown HRJ.out hb7 (fun K hK e => by have h1 := HGT.out.ord; have := Option.some.inj e; omega)) (But.setCell B 2 w7 (.int .i64 (s.num l).1)) (fun K hK e => by have h1 := HGT.out.ord; have := Option.some.inj e; omega))
    have c7 : w7.cell? ⟨B, 2, none⟩ = some (.int .i64 m.e) := by obtain ⟨⟨x0, x1, x2, x3, x4, x5⟩, x6, x7, x8⟩ := HG7.out.blk.cells; exact x2
    have f7 := HG7.out.blk.fz 2
    clear hrd hb7 y HN1
    go_wp2_with fail
    go_roundw
    case rel => exact ⟨j + 1, _, _, _, _, HLT.out, by go_num, HO2.out, HG8.out, HR7.out⟩
    case measure => simp [intOf]; have := HLT.out; omega
   ·have HN1 := Aside0.mk (num_a g v l HOK.out s wr HGT.out.rd)
    obtain ⟨⟨x0, x1, x2, x3, x4, x5⟩, x6, x7, x8⟩ := HGT.out.blk.cells
    clear x0 x1 x2 x3 x4 x5 x6 x7 x8
    go_wp2_with fail
    refine (num_c B 2 (by decide) wr).mono ?_
    rintro e w6 ⟨rfl, rfl⟩
    go_wp2_with fail
    refine HN1.out.mono ?_
    rintro e w7 ⟨rfl, hrd, hb7⟩
    have HG7 := Aside0.mk (HGT.out.read hb7 hrd)
    have HG8 := Aside0.mk (HGT.out.num hb7 hrd 2 (by decide) (s.num l).1)
    have HR7 := Aside0.mk (Kd.R_grown (Kd.R_grown HRJ.out hb7 (fun K hK e => by have h1 := HGT.out.ord; have := Option.some.inj e; omega)) (But.setCell B 3 w7 (.int .i64 (s.num l).1)) (fun K hK e => by have h1 := HGT.out.ord; have := Option.some.inj e; omega))
    have c7 : w7.cell? ⟨B, 3, none⟩ = some (.int .i64 m.r) := by obtain ⟨⟨x0, x1, x2, x3, x4, x5⟩, x6, x7, x8⟩ := HG7.out.blk.cells; exact x3
    have f7 := HG7.out.blk.fz 3
    clear hrd hb7 y HN1
    go_wp2_with fail
    go_roundw
    case rel => exact ⟨j + 1, _, _, _, _, HLT.out, by go_num, HO2.out, HG8.out, HR7.out⟩
    case measure => simp [intOf]; have := HLT.out; omega
   ·have HN1 := Aside0.mk (num_a g v l HOK.out s wr HGT.out.rd)
    obtain ⟨⟨x0, x1, x2, x3, x4, x5⟩, x6, x7, x8⟩ := HGT.out.blk.cells
    clear x0 x1 x2 x3 x4 x5 x6 x7 x8
    go_wp2_with fail
    refine (num_c B 3 (by decide) wr).mono ?_
    rintro e w6 ⟨rfl, rfl⟩
    go_wp2_with fail
    refine HN1.out.mono ?_
    rintro e w7 ⟨rfl, hrd, hb7⟩
    have HG7 := Aside0.mk (HGT.out.read hb7 hrd)
    have HG8 := Aside0.mk (HGT.out.num hb7 hrd 3 (by decide) (s.num l).1)
    have HR7 := Aside0.mk (Kd.R_grown (Kd.R_grown HRJ.out hb7 (fun K hK e => by have h1 := HGT.out.ord; have := Option.some.inj e; omega)) (But.setCell B 4 w7 (.int .i64 (s.num l).1)) (fun K hK e => by have h1 := HGT.out.ord; have := Option.some.inj e; omega))
    have c7 : w7.cell? ⟨B, 4, none⟩ = some (.int .i64 m.s) := by obtain ⟨⟨x0, x1, x2, x3, x4, x5⟩, x6, x7, x8⟩ := HG7.out.blk.cells; exact x4
    have f7 := HG7.out.blk.fz 4
    clear hrd hb7 y HN1
    go_wp2_with fail
    go_roundw
    case rel => exact ⟨j + 1, _, _, _, _, HLT.out, by go_num, HO2.out, HG8.out, HR7.out⟩
    case measure => simp [intOf]; have := HLT.out; omega
   ·have HN1 := Aside0.mk (num_a g v l HOK.out s wr HGT.out.rd)
    obtain ⟨⟨x0, x1, x2, x3, x4, x5⟩, x6, x7, x8⟩ := HGT.out.blk.cells
    clear x0 x1 x2 x3 x4 x5 x6 x7 x8
    go_wp2_with fail
    refine (num_c B 4 (by decide) wr).mono ?_
    rintro e w6 ⟨rfl, rfl⟩
    go_wp2_with fail
    refine HN1.out.mono ?_
    rintro e w7 ⟨rfl, hrd, hb7⟩
    have HG7 := Aside0.mk (HGT.out.read hb7 hrd)
    have HG8 := Aside0.mk (HGT.out.num hb7 hrd 4 (by decide) (s.num l).1)
    have HR7 := Aside0.mk (Kd.R_grown (Kd.R_grown HRJ.out hb7 (fun K hK e => by have h1 := HGT.out.ord; have := Option.some.inj e; omega)) (But.setCell B 5 w7 (.int .i64 (s.num l).1)) (fun K hK e => by have h1 := HGT.out.ord; have := Option.some.inj e; omega))
    have c7 : w7.cell? ⟨B, 5, none⟩ = some (.int .i64 m.d) := by obtain ⟨⟨x0, x1, x2, x3, x4, x5⟩, x6, x7, x8⟩ := HG7.out.blk.cells; exact x5
    have f7 := HG7.out.blk.fz 5
    clear hrd hb7 y HN1
    go_wp2_with fail
    go_roundw
    case rel => exact ⟨j + 1, _, _, _, _, HLT.out, by go_num, HO2.out, HG8.out, HR7.out⟩
    case measure => simp [intOf]; have := HLT.out; omega
   ·have HN1 := Aside0.mk (runs_c g wr v l s HGT.out.rd HOK.out (by have := HL.out; omega))
    go_wp2_with fail
    refine HN1.out.mono ?_
    rintro e w7 ⟨u, rfl, hu, hrd, hb7⟩
    obtain ⟨A9, c9, rfl⟩ := RO.form hu
    have HG7 := Aside0.mk (HGT.out.read hb7 hrd)
    have HG8 := Aside0.mk (HGT.out.op hb7 hrd hu)
    have HR7 := Aside0.mk (Kd.R_grown (Kd.R_grown HRJ.out hb7 (fun K hK e => by have h1 := HGT.out.ord; have := Option.some.inj e; omega)) (But.setCell B 6 w7 (.slice A9 (runsP l s).1.length c9)) (fun K hK e => by have h1 := HGT.out.ord; have := Option.some.inj e; omega))
    have c7 : w7.cell? ⟨B, 6, none⟩ = some ov := by obtain ⟨⟨x0, x1, x2, x3, x4, x5⟩, x6, x7, x8⟩ := HG7.out.blk.cells; exact x6
    have f7 := HG7.out.blk.fz 6
    clear hrd hb7 y HN1
    go_wp2_with fail
    go_roundw
    case rel => exact ⟨j + 1, _, _, _, _, HLT.out, by go_num, HO2.out, HG8.out, HR7.out⟩
    case measure => simp [intOf]; have := HLT.out; omega
   ·have HN1 := Aside0.mk (text_a g v l HOK.out s wr HGT.out.rd)
    go_wp2_with fail
    refine HN1.out.mono ?_
    rintro e w7 ⟨rfl, hrd, hb7⟩
    have HG7 := Aside0.mk (HGT.out.read hb7 hrd)
    have HG8 := Aside0.mk (HGT.out.text hb7 hrd (s.text l).1)
    have HR7 := Aside0.mk (Kd.R_grown (Kd.R_grown HRJ.out hb7 (fun K hK e => by have h1 := HGT.out.ord; have := Option.some.inj e; omega)) (But.setCell B 7 w7 (.string (s.text l).1)) (fun K hK e => by have h1 := HGT.out.ord; have := Option.some.inj e; omega))
    have c7 : w7.cell? ⟨B, 7, none⟩ = some (.string m.t) := by obtain ⟨⟨x0, x1, x2, x3, x4, x5⟩, x6, x7, x8⟩ := HG7.out.blk.cells; exact x7
    have f7 := HG7.out.blk.fz 7
    clear hrd hb7 y HN1
    go_wp2_with fail
    go_roundw
    case rel => exact ⟨j + 1, _, _, _, _, HLT.out, by go_num, HO2.out, HG8.out, HR7.out⟩
    case measure => simp [intOf]; have := HLT.out; omega
   ·have HN1 := Aside0.mk (spots_c g wr v l s HGT.out.rd HOK.out (by have := HL.out; omega))
    go_wp2_with fail
    refine HN1.out.mono ?_
    rintro e w7 ⟨u, rfl, hu, hrd, hb7⟩
    obtain ⟨A9, c9, rfl⟩ := NO.form hu
    have HG7 := Aside0.mk (HGT.out.read hb7 hrd)
    have HG8 := Aside0.mk (HGT.out.notes hb7 hrd hu)
    have HR7 := Aside0.mk (Kd.R_grown (Kd.R_grown HRJ.out hb7 (fun K hK e => by have h1 := HGT.out.ord; have := Option.some.inj e; omega)) (But.setCell B 8 w7 (.slice A9 (notesP l s).1.length c9)) (fun K hK e => by have h1 := HGT.out.ord; have := Option.some.inj e; omega))
    have c7 : w7.cell? ⟨B, 8, none⟩ = some nv := by obtain ⟨⟨x0, x1, x2, x3, x4, x5⟩, x6, x7, x8⟩ := HG7.out.blk.cells; exact x8
    have f7 := HG7.out.blk.fz 8
    clear hrd hb7 y HN1
    go_wp2_with fail
    go_roundw
    case rel => exact ⟨j + 1, _, _, _, _, HLT.out, by go_num, HO2.out, HG8.out, HR7.out⟩
    case measure => simp [intOf]; have := HLT.out; omega
  ·obtain rfl : j = fs.length := by omega
   have hlt' : ¬ ((fs.length : Int) < (fs.length : Int)) := by omega
   have HE := Aside0.mk (show (m, s) = readM l by have h := HO.out; rwa [List.drop_eq_nil_of_le (Nat.le_refl _)] at h)
   obtain ⟨A6, c6, rfl⟩ := RO.form HGT.out.o
   obtain ⟨A8, c8, rfl⟩ := NO.form HGT.out.n
   have HM := Aside0.mk (show (readM l).1 = m by rw [← HE.out])
   have HSM := Aside0.mk (show Small m by rw [← HM.out]; exact readM_small l HL.out)
   have HEN := Aside0.mk (encode_c m A6 c6 A8 c8 wr (lies_own HGT.out.o HGT.out.n) HSM.out)
   have HDEC := Aside0.mk (show decOk l = (m.good && ((!s.bad && decide (l.length - s.a = 0)) && decide (m.encL = l))) by unfold decOk; rw [← HE.out])
   unfold EncPost at HEN
   obtain ⟨⟨x0, x1, x2, x3, x4, x5⟩, x6, x7, x8⟩ := HGT.out.blk.cells
   unfold Mo at x0 x1 x2 x3 x4 x5 x6 x7 x8
   unfold Ms.mg Mg.val Mg.cs at HEN
   clear HO HRJ HRF HG6 HFO
   go_wp2_with fail
   refine HEN.out.mono ?_
   rintro e w7 ⟨v7, rfl, hsl, hb7⟩
   have HSL := Aside0.mk hsl
   have HG7 := Aside0.mk (HGT.out.below' hb7)
   have HRS := Aside0.mk (show Blk R ⟨0, 0, 0, 0, 0, 0, .slice none 0 0, ⟨#[]⟩, .slice none 0 0⟩ w7 from HG7.out.res)
   have HIN := Aside0.mk (HS.out.below HG7.out.below)
   have HDN := Aside0.mk (VaryR.nDone g w7 v l s.a s.bad HG7.out.rd)
   clear hsl hb7 x0 x1 x2 x3 x4 x5 x6 x7 x8 HEN
   cases hgd : m.good with
   | false =>
    have HNO := Aside0.mk (show decOk l = false by rw [HDEC.out, hgd]; rfl)
    obtain ⟨⟨z0, z1, z2, z3, z4, z5⟩, z6, z7, z8⟩ := HRS.out.cells
    have g0 := HRS.out.fz 0
    have g1 := HRS.out.fz 1
    have g2 := HRS.out.fz 2
    have g3 := HRS.out.fz 3
    have g4 := HRS.out.fz 4
    have g5 := HRS.out.fz 5
    have g6 := HRS.out.fz 6
    have g7 := HRS.out.fz 7
    have g8 := HRS.out.fz 8
    go_wp2_with fail
    refine bodyPost_ret (results_ct rfl _ _ R 44 #[.int .i64 0, .int .i64 0, .int .i64 0, .int .i64 0, .int .i64 0, .int .i64 0, .slice none 0 0, .string ⟨#[]⟩, .slice none 0 0] (0, 0) _ rfl (set9 HRS.out _ _ _ _ _ _ _ _ _) Try.underlying44 rfl (by kernel_rfl)) rfl ?_
    exact post_no HNO.out (below_set9 HG7.out.below HRW.out _ _ _ _ _ _ _ _ _)
   | true =>
    have HSL2 := Aside0.mk (show Sl w7 v7 m.encL by have h := HSL.out; rw [if_pos hgd] at h; exact h)
    go_wp2_with fail
    refine HDN.out.mono ?_
    rintro e w8 ⟨rfl, nd, rfl⟩
    obtain ⟨dn, hdn⟩ : ∃ dn, dn = (!s.bad && decide (l.length - s.a = 0)) := ⟨_, rfl⟩
    have HG8 := Aside0.mk (HG7.out.below' (pw_below_drewN (Below.refl _ _) nd))
    have HRS8 := Aside0.mk (show Blk R ⟨0, 0, 0, 0, 0, 0, .slice none 0 0, ⟨#[]⟩, .slice none 0 0⟩ (w7.drewN nd) from HG8.out.res)
    have hcv7 := (HSL2.out.drewN nd).string (P := Try.prog) Try.underlying25 Try.underlying5 Try.underlying9
    have hcvv := (HIN.out.drewN nd).string (P := Try.prog) Try.underlying25 Try.underlying5 Try.underlying9
    rw [hgd, ← hdn, Bool.true_and] at HDEC
    have HDEC := HDEC
    rw [← hdn]
    clear hdn HDN
    cases dn with
    | false =>
     have HNO := Aside0.mk (show decOk l = false by rw [HDEC.out]; rfl)
     obtain ⟨⟨z0, z1, z2, z3, z4, z5⟩, z6, z7, z8⟩ := HRS8.out.cells
     have g0 := HRS8.out.fz 0
     have g1 := HRS8.out.fz 1
     have g2 := HRS8.out.fz 2
     have g3 := HRS8.out.fz 3
     have g4 := HRS8.out.fz 4
     have g5 := HRS8.out.fz 5
     have g6 := HRS8.out.fz 6
     have g7 := HRS8.out.fz 7
     have g8 := HRS8.out.fz 8
     go_wp2_with fail
     refine bodyPost_ret (results_ct rfl _ _ R 44 #[.int .i64 0, .int .i64 0, .int .i64 0, .int .i64 0, .int .i64 0, .int .i64 0, .slice none 0 0, .string ⟨#[]⟩, .slice none 0 0] (0, 0) _ rfl (set9 HRS8.out _ _ _ _ _ _ _ _ _) Try.underlying44 rfl (by kernel_rfl)) rfl ?_
     exact post_no HNO.out (below_set9 HG8.out.below HRW.out _ _ _ _ _ _ _ _ _)
    | true =>
     by_cases hcmp : (strOfNums m.encL).toList = (strOfNums l).toList
     ·have HYES := Aside0.mk (show decOk l = true by rw [HDEC.out, Bool.true_and]; exact decide_eq_true ((Byt.str_eq (ok_encL m) HOK.out).1 hcmp))
      obtain ⟨⟨x0, x1, x2, x3, x4, x5⟩, x6, x7, x8⟩ := HG7.out.blk.cells
      unfold Mo at x0 x1 x2 x3 x4 x5 x6 x7 x8
      obtain ⟨⟨z0, z1, z2, z3, z4, z5⟩, z6, z7, z8⟩ := HRS8.out.cells
      have g0 := HRS8.out.fz 0
      have g1 := HRS8.out.fz 1
      have g2 := HRS8.out.fz 2
      have g3 := HRS8.out.fz 3
      have g4 := HRS8.out.fz 4
      have g5 := HRS8.out.fz 5
      have g6 := HRS8.out.fz 6
      have g7 := HRS8.out.fz 7
      have g8 := HRS8.out.fz 8
      go_wp2_with fail
      refine bodyPost_ret (results_ct rfl _ _ R 44 #[.int .i64 m.k, .int .i64 m.c, .int .i64 m.e, .int .i64 m.r, .int .i64 m.s, .int .i64 m.d, .slice A6 m.o.length c6, .string m.t, .slice A8 m.n.length c8] (0, 0) _ rfl (set9 HRS8.out _ _ _ _ _ _ _ _ _) Try.underlying44 rfl (by kernel_rfl)) rfl ?_
      exact post_yes HYES.out HM.out HG8.out _ _ _ _ _ _ _ _ _
     ·have HNO := Aside0.mk (show decOk l = false by rw [HDEC.out, Bool.true_and]; exact decide_eq_false (fun e => hcmp (by rw [e])))
      have hcb : ((strOfNums m.encL).toList == (strOfNums l).toList) = false := beq_eq_false_iff_ne.2 hcmp
      clear hcmp
      obtain ⟨⟨z0, z1, z2, z3, z4, z5⟩, z6, z7, z8⟩ := HRS8.out.cells
      have g0 := HRS8.out.fz 0
      have g1 := HRS8.out.fz 1
      have g2 := HRS8.out.fz 2
      have g3 := HRS8.out.fz 3
      have g4 := HRS8.out.fz 4
      have g5 := HRS8.out.fz 5
      have g6 := HRS8.out.fz 6
      have g7 := HRS8.out.fz 7
      have g8 := HRS8.out.fz 8
      go_wp2_with fail
      refine bodyPost_ret (results_ct rfl _ _ R 44 #[.int .i64 0, .int .i64 0, .int .i64 0, .int .i64 0, .int .i64 0, .int .i64 0, .slice none 0 0, .string ⟨#[]⟩, .slice none 0 0] (0, 0) _ rfl (set9 HRS8.out _ _ _ _ _ _ _ _ _) Try.underlying44 rfl (by kernel_rfl)) rfl ?_
      exact post_no HNO.out (below_set9 HG8.out.below HRW.out _ _ _ _ _ _ _ _ _)
end Go.Proofs.Ytedfcjcnhgomoaa.MsgDec
end

import Derived.RangeFuncNested
import Derived.RangeFuncBound
import Derived.RangeFuncCalls
import Derived.RangeFuncLeaves
import Derived.Shelf.Abstract
import Derived.Shelf.RegionOpen
import Derived.WalkKit
import Derived.OwnWalkIn
import Derived.TacticsInMore
import Derived.LoopNIn
import Derived.LoopIn
import Derived.Test.YthocalfgeaclgaaYA
import Derived.Test.YthocalfgeaclgaaYB
import Derived.Deep.QuietTactic
import Derived.BigQuiet
import Derived.Laws.EntriesVeiled
-- MERGED YthocalfgeaclgaaPlaceI
section

namespace Go.Proofs.Ythocalfgeaclgaa.PlaceI
open Go.RowKit Go.Shelf Go.Proofs.Ythocalfgeaclgaa.P Go.Proofs.YthocalfgeaclgaaW.PrintWords Go.Proofs.YthocalfgeaclgaaW.PrintLast Go.Proofs.YthocalfgeaclgaaW.PrintMore Go.Proofs.Ythocalfgeaclgaa.Own Go.Proofs.Ythocalfgeaclgaa.EditL Go.Proofs.Ythocalfgeaclgaa.EditK Go.Proofs.Ythocalfgeaclgaa.RangeG Go.Proofs.Ythocalfgeaclgaa.EditJ Go.Proofs.Ythocalfgeaclgaa.EditI Go.Proofs.Ythocalfgeaclgaa.EditR Go.Proofs.Ythocalfgeaclgaa.VaryR
attribute [local go_sem] Oper.semAt_some
set_option linter.unusedSimpArgs false
set_option linter.unusedVariables false
structure St where
 r : Rn
 i : Int
 o : Int
def encS (s : St) : Array Value := #[.agg #[.int .i64 s.r.f0, .string s.r.f1, .int .i64 s.r.f2, .int .i64 s.i, .int .i64 s.o]]
def scs (s : St) : Obj := .cells #[.int .i64 s.r.f0, .string s.r.f1, .int .i64 s.r.f2, .int .i64 s.i, .int .i64 s.o] 76 (0, 0)
def stepsL : List Rn → Int → Int → List St
 | [], _, _ => []
 | r :: l, i, o => ⟨r, i, o⟩ :: stepsL l (i + (r.f0 + r.f2)) (o + (r.f0 + (r.f1.size : Int)))
theorem blk_step {W : World} {b : Nat} {s : St} (h : W.heap[b]? = some (scs s)) : W.cell? ⟨b, 0, none⟩ = some (.int .i64 s.r.f0) ∧ W.cell? ⟨b, 1, none⟩ = some (.string s.r.f1) ∧ W.cell? ⟨b, 2, none⟩ = some (.int .i64 s.r.f2) ∧ W.cell? ⟨b, 3, none⟩ = some (.int .i64 s.i) ∧ W.cell? ⟨b, 4, none⟩ = some (.int .i64 s.o) := by
 unfold scs at h
 exact ⟨by rw [cell_of_row W _ 0 _ _ _ h]; rfl, by rw [cell_of_row W _ 1 _ _ _ h]; rfl, by rw [cell_of_row W _ 2 _ _ _ h]; rfl, by rw [cell_of_row W _ 3 _ _ _ h]; rfl, by rw [cell_of_row W _ 4 _ _ _ h]; rfl⟩
set_option maxHeartbeats 4000000 in
set_option maxRecDepth 100000 in
theorem steps_it (A : Option Addr) (c T : Nat) (f : List Rn) (hf : ∀ r ∈ f, knd r ≠ 0) (hs : Sums 0 0 E f) (hl : f.length ≤ 140737488351232) : Gives Try.prog 65 #[.pointer (some ⟨T, 0, none⟩)] encS (stepsL f 0 0) (Held A c T f) := by
 intro n l J X W1 hP hK hY hJ
 obtain ⟨L, hL⟩ : ∃ L, L = stepsL f 0 0 := ⟨_, rfl⟩
 rw [← hL] at hY ⊢
 refine callsIn_of_wp Try.func65 rfl trivial ?_ rfl
 have HP := Aside0.mk hP
 have HK := Aside0.mk hK
 have HY := Aside0.mk hY
 have HL := Aside0.mk hL
 have HJ := Aside0.mk hJ
 have HF := Aside0.mk hf
 have HS := Aside0.mk hs
 have hh := hK _ _ _ hJ
 have cT : W1.cell? ⟨T, 0, none⟩ = some (.slice A f.length c) := by rw [cell_of_row _ _ 0 _ _ _ hh.1]; rfl
 have hT := (Array.getElem?_eq_some_iff.1 hh.1).1
 clear hP hK hY hL hJ hf hs hh
 simp only [Try.ntmps65, List.size_toArray, List.length_cons, List.length_nil, Nat.reduceAdd, Nat.reduceSub, Array.replicate_succ, Array.replicate_zero, List.push_toArray, List.append_toArray, List.nil_append, List.cons_append]
 gi_wp2
 obtain ⟨W2, hW2⟩ : ∃ W2, W2 = W1.alloc (.cells #[.int .i64 0, .string ⟨#[]⟩, .int .i64 0, .int .i64 0, .int .i64 0] 76) := ⟨_, rfl⟩
 have hJ2 : J [] (Priv.none.put W1.heap.size (scs ⟨⟨0, E, 0⟩, 0, 0⟩)) W2 := by
  rw [hW2]
  exact HP.out.lay HJ.out (below_alloc (Below.refl _ _) _) (Nat.le_refl _) (Own.heap_new _ _) rfl
 rw [← hW2]
 clear hW2
 obtain ⟨B3, hB3⟩ : ∃ b, b = W1.heap.size := ⟨_, rfl⟩
 rw [← hB3] at hJ2 ⊢
 have HJ2 := Aside0.mk hJ2
 clear hJ2 hB3 cT hT HJ
 gi_loopw [9] (fun iv wr => ∃ (i : Nat) (pre : List St) (s : St) (G : Priv), i ≤ f.length ∧ iv = .int .i64 (i : Int) ∧ J pre G wr ∧ pre ++ stepsL (f.drop i) s.i s.o = L ∧ G B3 = some (scs s) ∧ 0 ≤ s.i ∧ 0 ≤ s.o ∧ s.i + inL (f.drop i) ≤ 16777216 ∧ s.o + outL (f.drop i) ≤ 16777216) (fun iv _ => f.length - (intOf iv).toNat)
 case atStart => exact ⟨0, [], ⟨⟨0, E, 0⟩, 0, 0⟩, _, Nat.zero_le _, rfl, HJ2.out, HL.out.symm, Priv.put_same _ _ _, Int.le_refl _, Int.le_refl _, by have := HS.out.i; show (0 : Int) + inL f ≤ _; omega, by have := HS.out.o; rw [E_size] at this; show (0 : Int) + outL f ≤ _; omega⟩
 case round =>
  clear HJ2
  obtain ⟨i, pre, ⟨r0, si, so⟩, G, hi, rfl, hj, he, hg3, hsi, hso, hbi, hbo⟩ := hrel
  simp only at he hsi hso hbi hbo
  have HJr := Aside0.mk hj
  have HE := Aside0.mk he
  have HG3 := Aside0.mk hg3
  clear hj he hg3
  by_cases hlt : i < f.length
  ·obtain ⟨ad, rfl, x0, x1, x2⟩ := at_nat (HK.out _ _ _ HJr.out).2 i hlt
   have hd' := EditK.drop_get hlt
   have hmem : f.getD i z37 ∈ f := by rw [List.getD_eq_getElem?_getD, List.getElem?_eq_getElem hlt]; exact List.getElem_mem hlt
   obtain ⟨r, hr⟩ : ∃ r, r = f.getD i z37 := ⟨_, rfl⟩
   rw [← hr] at x0 x1 x2 hd' hmem
   have hp := knd_pos (HF.out r hmem)
   have hs4 := inL_nonneg (l := f.drop (i + 1)) (fun x hx => HF.out x (List.mem_of_mem_drop hx))
   rw [hd'] at hbi hbo
   simp only [inL, outL] at hbi hbo
   have HD := Aside0.mk hd'
   have HBI := Aside0.mk hbi
   have HBO := Aside0.mk hbo
   have hb1 : si ≤ 16777216 := by omega
   have hb2 : so ≤ 16777216 := by omega
   have hb3 : 0 ≤ r.f0 := hp.1
   have hb4 : 0 ≤ r.f2 := hp.2
   have hb5 : r.f0 ≤ 16777216 := by omega
   have hb6 : r.f2 ≤ 16777216 := by omega
   have hb7 : (r.f1.size : Int) ≤ 16777216 := by omega
   have hlt' : (i : Int) < (f.length : Int) := by omega
   have hq := HP.out.lies _ _ _ HJr.out _ _ HG3.out
   obtain ⟨y0, y1, y2, y3, y4⟩ := blk_step hq
   have fa : ∀ o, wr.frozen? ⟨B3, o, none⟩ = false := fun o => frozen_of_row wr _ o _ _ hq
   have f0 := fa 0
   have f1 := fa 1
   have f2 := fa 2
   have hB3 := HP.out.lt HJr.out HG3.out
   have n1 : wr.heap.size ≠ B3 := by omega
   have n2 : B3 ≠ wr.heap.size := by omega
   have hj5 : J pre ((G.put B3 (scs ⟨r, si, so⟩)).put wr.heap.size (rcs r.f0 r.f1 r.f2)) ((((wr.setCell ⟨B3, 0, none⟩ (.int .i64 r.f0)).setCell ⟨B3, 1, none⟩ (.string r.f1)).setCell ⟨B3, 2, none⟩ (.int .i64 r.f2)).alloc (.cells #[.int .i64 r.f0, .string r.f1, .int .i64 r.f2] 37)) := by
    have h1 := HP.out.set (W' := ((wr.setCell ⟨B3, 0, none⟩ (.int .i64 r.f0)).setCell ⟨B3, 1, none⟩ (.string r.f1)).setCell ⟨B3, 2, none⟩ (.int .i64 r.f2)) HJr.out HG3.out (fun q hq => by rw [Below.heap_setCell _ _ _ _ hq, Below.heap_setCell _ _ _ _ hq, Below.heap_setCell _ _ _ _ hq]) (by simp [World.setCell]) rfl rfl rfl (blk_put (blk_put (blk_put hq 0 _ rfl) 1 _ rfl) 2 _ rfl) rfl
    have hz : (((wr.setCell ⟨B3, 0, none⟩ (.int .i64 r.f0)).setCell ⟨B3, 1, none⟩ (.string r.f1)).setCell ⟨B3, 2, none⟩ (.int .i64 r.f2)).heap.size = wr.heap.size := by simp [World.setCell]
    have h2 := Own.heap_new (((wr.setCell ⟨B3, 0, none⟩ (.int .i64 r.f0)).setCell ⟨B3, 1, none⟩ (.string r.f1)).setCell ⟨B3, 2, none⟩ (.int .i64 r.f2)) (.cells #[.int .i64 r.f0, .string r.f1, .int .i64 r.f2] 37)
    rw [hz] at h2
    exact HP.out.lay h1 (below_alloc (Below.refl _ _) _) (by rw [hz]; exact Nat.le_refl _) h2 rfl
   obtain ⟨fn, tmps, assign, body, hyy, hR⟩ := HY.out (n - 1) pre ⟨r, si, so⟩ (stepsL (f.drop (i + 1)) (si + (r.f0 + r.f2)) (so + (r.f0 + (r.f1.size : Int)))) _ _ (by rw [← HE.out, HD.out]; rfl) hj5
   have HRR := Aside0.mk hR
   unfold encS at hyy
   simp only at hyy
   obtain ⟨B6, hB6⟩ : ∃ b, b = wr.heap.size := ⟨_, rfl⟩
   have n63 : B6 ≠ B3 := by omega
   have n36 : B3 ≠ B6 := by omega
   have HG5 := Aside0.mk (show ((G.put B3 (scs ⟨r, si, so⟩)).put wr.heap.size (rcs r.f0 r.f1 r.f2)) B3 = some (scs ⟨r, si, so⟩) by rw [Priv.put_other _ _ n2]; exact Priv.put_same _ _ _)
   have HG6 := Aside0.mk (show ((G.put B3 (scs ⟨r, si, so⟩)).put wr.heap.size (rcs r.f0 r.f1 r.f2)) B6 = some (rcs r.f0 r.f1 r.f2) by rw [hB6]; exact Priv.put_same _ _ _)
   obtain ⟨G5, hG5⟩ : ∃ g, g = (G.put B3 (scs ⟨r, si, so⟩)).put wr.heap.size (rcs r.f0 r.f1 r.f2) := ⟨_, rfl⟩
   rw [← hG5] at HG5 HG6 HRR
   have HB6 := Aside0.mk hB6
   clear hr hd' hmem hbi hbo hp hs4 hq fa hj5 hR hG5 hB6
   gi_wp2
   refine ⟨fun h => absurd h (by decide), ?_⟩
   refine HRR.out.mono ?_
   rintro e w3 (⟨rfl, hj3⟩ | ⟨rfl, hx3⟩)
   ·have HJ3 := Aside0.mk hj3
    clear hj3 hyy hB3 x0 x1 x2 y0 y1 y2 y3 y4 f0 f1 f2
    rw [← HB6.out]
    clear HB6
    have hq3 := HP.out.lies _ _ _ HJ3.out _ _ HG5.out
    obtain ⟨y0, y1, y2, y3, y4⟩ := blk_step hq3
    obtain ⟨x0, x1, x2⟩ := blk_cells (HP.out.lies _ _ _ HJ3.out _ _ HG6.out)
    have fa : ∀ o, w3.frozen? ⟨B3, o, none⟩ = false := fun o => frozen_of_row w3 _ o _ _ hq3
    have f3 := fa 3
    have f4 := fa 4
    clear fa hq3
    simp only at y0 y1 y2 y3 y4
    gi_wp2
    go_roundw
    case rel =>
     have hq3 := HP.out.lies _ _ _ HJ3.out _ _ HG5.out
     have hjn := HP.out.set (W' := (w3.setCell ⟨B3, 3, none⟩ (.int .i64 (si + (r.f0 + r.f2)))).setCell ⟨B3, 4, none⟩ (.int .i64 (so + (r.f0 + (r.f1.size : Int))))) (o' := scs ⟨r, si + (r.f0 + r.f2), so + (r.f0 + (r.f1.size : Int))⟩) HJ3.out HG5.out (fun q hq => by rw [Below.heap_setCell _ _ _ _ hq, Below.heap_setCell _ _ _ _ hq]) (by simp [World.setCell]) rfl rfl rfl (blk_put (blk_put hq3 3 _ rfl) 4 _ rfl) rfl
     refine ⟨i + 1, pre ++ [⟨r, si, so⟩], ⟨r, si + (r.f0 + r.f2), so + (r.f0 + (r.f1.size : Int))⟩, _, by omega, by go_num, hjn, ?_, Priv.put_same _ _ _, ?_, ?_, ?_, ?_⟩
     ·rw [← HE.out, HD.out]; simp [stepsL]
     ·show 0 ≤ si + (r.f0 + r.f2); omega
     ·show 0 ≤ so + (r.f0 + (r.f1.size : Int)); omega
     ·have := HBI.out; show si + (r.f0 + r.f2) + _ ≤ _; omega
     ·have := HBO.out; show so + (r.f0 + (r.f1.size : Int)) + _ ≤ _; omega
    case measure => simp [intOf]; omega
   ·have HX3 := Aside0.mk hx3
    clear hx3 hyy
    gi_wp2
    refine bodyPost_ret (results_none rfl _ _ _) rfl ?_
    exact ⟨⟨_, rfl⟩, .inr HX3.out⟩
  ·have hge : ¬ ((i : Int) < (f.length : Int)) := by omega
   have HE2 := Aside0.mk (show pre = L by have := HE.out; rw [show f.drop i = [] from by rw [show i = f.length by omega]; exact List.drop_length, show stepsL [] si so = [] from rfl, List.append_nil] at this; exact this)
   clear hlt
   gi_wp2
   refine bodyPost_end (results_none rfl _ _ _) rfl ?_
   exact ⟨⟨_, rfl⟩, .inl ⟨_, by rw [← HE2.out]; exact HJr.out⟩⟩
end Go.Proofs.Ythocalfgeaclgaa.PlaceI
end
-- MERGED YthocalfgeaclgaaRangeB
section

namespace Go.Proofs.Ythocalfgeaclgaa.RangeB
open Go Go.RowKit Go.Proofs.Ythocalfgeaclgaa.RangeG
structure ButS (F : Nat → Prop) (w W : World) : Prop where
 os : W.os = w.os
 tape : W.tape = w.tape
 output : W.output = w.output
 size : w.heap.size ≤ W.heap.size
 block : ∀ k, k < w.heap.size → ¬ F k → W.heap[k]? = w.heap[k]?
theorem ButS.refl (F : Nat → Prop) (w : World) : ButS F w w := ⟨rfl, rfl, rfl, Nat.le_refl _, fun _ _ _ => rfl⟩
theorem ButS.trans {F : Nat → Prop} {a b c : World} (h : ButS F a b) (k : ButS F b c) : ButS F a c :=
 ⟨k.os.trans h.os, k.tape.trans h.tape, k.output.trans h.output, Nat.le_trans h.size k.size, fun i hi hF => (k.block i (Nat.lt_of_lt_of_le hi h.size) hF).trans (h.block i hi hF)⟩
theorem ButS.of_below {F : Nat → Prop} {w W : World} (h : Below w.heap.size w W) : ButS F w W := ⟨h.os, h.tape, h.output, h.size, fun k hk _ => h.block k hk⟩
theorem ButS.setCell {F : Nat → Prop} (w : World) (b o : Nat) (u : Value) (hb : F b) : ButS F w (w.setCell ⟨b, o, none⟩ u) :=
 ⟨rfl, rfl, rfl, by simp [World.setCell], fun k _ hF => Below.heap_setCell _ _ _ _ (fun e => hF (by rw [show k = b from e]; exact hb))⟩
theorem ButS.drew {F : Nat → Prop} (w : World) : ButS F w w.drew := ⟨rfl, rfl, rfl, Nat.le_refl _, fun _ _ _ => rfl⟩
theorem ButS.below {F : Nat → Prop} {B : Nat} {w0 w W : World} (h : ButS F w W) (hb : Below B w0 w) (hF : ∀ k, F k → B ≤ k) (hB : B ≤ w.heap.size) : Below B w0 W :=
 hb.trans ⟨h.os, h.tape, h.output, h.size, fun k hk => h.block k (Nat.lt_of_lt_of_le hk hB) (fun hf => by have := hF k hf; omega)⟩
structure Jf {α : Type} (w0 : World) (F : Nat → Prop) (Q : List α → World → Prop) (pre : List α) (G : Priv) (W : World) : Prop where
 q : Q pre W
 but : ButS F w0 W
 priv : ∀ k ob, G k = some ob → W.heap[k]? = some ob ∧ ob.isCells = true ∧ w0.heap.size ≤ k
section
variable {α : Type} {w0 : World} {F : Nat → Prop} {Q : List α → World → Prop}
theorem jf_party (hF : ∀ k, F k → k < w0.heap.size) (hQ : ∀ pre W W', (∀ k, F k → W'.heap[k]? = W.heap[k]?) → Q pre W → Q pre W') : Party (Jf w0 F Q) := by
 refine ⟨fun pre G W h k o hk => (h.priv k o hk).1, fun pre G G' W W' h ht hG => ?_, fun pre G W h k o hk => (h.priv k o hk).2.1⟩
 have none_ : ∀ k, k < w0.heap.size → G k = none := fun k hk => by
  cases e : G k with
  | none => rfl
  | some q => have := (h.priv k q e).2.2; omega
 refine ⟨hQ _ _ _ (fun k hk => ht.block k (Nat.lt_of_lt_of_le (hF k hk) h.but.size) (none_ k (hF k hk))) h.q, ?_, fun k ob hk => ?_⟩
 ·exact ⟨ht.os.trans h.but.os, ht.tape.trans h.but.tape, ht.output.trans h.but.output, Nat.le_trans h.but.size ht.size, fun k hk hne => (ht.block k (Nat.lt_of_lt_of_le hk h.but.size) (none_ k hk)).trans (h.but.block k hk hne)⟩
 ·obtain ⟨h1, h2, h3⟩ := hG k ob hk
  refine ⟨h1, h2, ?_⟩
  rcases h3 with h3 | h3
  ·cases e : G k with
   | none => exact absurd e h3
   | some q => exact (h.priv k q e).2.2
  ·exact Nat.le_trans h.but.size h3
theorem jf_own {B : Nat} (hB : w0.heap.size ≤ B) (hF : ∀ k, F k → k < w0.heap.size) (hQ : ∀ pre W W', (∀ k, F k → W'.heap[k]? = W.heap[k]?) → Q pre W → Q pre W') : OwnFrom B (fun (s : List α × Priv) W => Jf w0 F Q s.1 s.2 W) := by
 intro s W W' row h hg hr
 refine ⟨hQ _ _ _ (fun k hk => hg.block k (Nat.lt_of_lt_of_le (hF k hk) h.but.size) (fun e => by have := (hr k e.symm).1; have := hF k hk; omega)) h.q, ?_, fun k ob hk => ?_⟩
 ·exact ⟨hg.os.trans h.but.os, hg.tape.trans h.but.tape, hg.output.trans h.but.output, Nat.le_trans h.but.size hg.size, fun k hk hn => (hg.block k (Nat.lt_of_lt_of_le hk h.but.size) (fun e => by have := (hr k e.symm).1; omega)).trans (h.but.block k hk hn)⟩
 ·obtain ⟨h1, h2, h3⟩ := h.priv k ob hk
  refine ⟨(hg.block k (Array.getElem?_eq_some_iff.1 h1).1 (fun e => ?_)).trans h1, h2, h3⟩
  obtain ⟨_, q', h4, h5⟩ := hr k e.symm
  rw [h1] at h4
  cases h4
  rw [h2] at h5; cases h5
theorem jf_step {pre pre' : List α} {G : Priv} {W W' : World} (hF : ∀ k, F k → k < w0.heap.size) (h : Jf w0 F Q pre G W) (hb : ButS F W W') (hq : Q pre' W') : Jf w0 F Q pre' G W' := by
 refine ⟨hq, h.but.trans hb, fun k ob hk => ?_⟩
 obtain ⟨h1, h2, h3⟩ := h.priv k ob hk
 exact ⟨(hb.block k (Array.getElem?_eq_some_iff.1 h1).1 (fun hf => by have := hF k hf; omega)).trans h1, h2, h3⟩
theorem jf_start {G : Priv} (hG : G = Priv.none) (hq : Q [] w0) : Jf w0 F Q [] G w0 := ⟨hq, ButS.refl _ _, fun k o hk => by rw [hG] at hk; cases hk⟩
end
end Go.Proofs.Ythocalfgeaclgaa.RangeB
end
-- MERGED YthocalfgeaclgaaPlaceM
section

namespace Go.Proofs.Ythocalfgeaclgaa.PlaceM
open Go.RowKit Go.Shelf Go.Proofs.Ythocalfgeaclgaa.P Go.Proofs.YthocalfgeaclgaaW.PrintWords Go.Proofs.YthocalfgeaclgaaW.PrintLast Go.Proofs.YthocalfgeaclgaaW.PrintMore Go.Proofs.Ythocalfgeaclgaa.Own Go.Proofs.Ythocalfgeaclgaa.EditL Go.Proofs.Ythocalfgeaclgaa.EditK Go.Proofs.Ythocalfgeaclgaa.RangeG Go.Proofs.Ythocalfgeaclgaa.RangeB Go.Proofs.Ythocalfgeaclgaa.EditJ Go.Proofs.Ythocalfgeaclgaa.EditI Go.Proofs.Ythocalfgeaclgaa.EditR Go.Proofs.Ythocalfgeaclgaa.EditF Go.Proofs.Ythocalfgeaclgaa.PlaceI Go.Proofs.Ythocalfgeaclgaa.VaryR
attribute [local go_sem] Oper.semAt_some max2_int min2_int max_two min_two
set_option linter.unusedSimpArgs false
set_option linter.unusedVariables false
def brk (at_ : Int) (behind : Bool) (s : St) : Prop := at_ < s.i ∨ (s.i = at_ ∧ (behind = false ∨ s.r.f1.size = 0))
instance (at_ : Int) (behind : Bool) (s : St) : Decidable (brk at_ behind s) := by unfold brk; infer_instance
def upd (at_ : Int) (s : St) : Int := s.o + (s.r.f1.size : Int) + (if at_ - s.i < s.r.f0 then at_ - s.i else s.r.f0)
def mvS (at_ : Int) (behind : Bool) : List St → Int → Int
 | [], d => d
 | s :: l, d => if brk at_ behind s then d else mvS at_ behind l (upd at_ s)
def moveL (op : List Rn) (at_ : Int) (behind : Bool) : Int × Bool := if good op = true ∧ 0 ≤ at_ ∧ at_ ≤ inL op then (mvS at_ behind (stepsL op 0 0) 0, true) else (0, false)
theorem step_bounds : ∀ (f : List Rn) (i o : Int), (∀ r ∈ f, knd r ≠ 0) → 0 ≤ i → 0 ≤ o → i + inL f ≤ 16777216 → o + outL f ≤ 16777216 → ∀ s ∈ stepsL f i o, 0 ≤ s.i ∧ 0 ≤ s.o ∧ s.i + (s.r.f0 + s.r.f2) ≤ 16777216 ∧ s.o + (s.r.f0 + (s.r.f1.size : Int)) ≤ 16777216 ∧ knd s.r ≠ 0 := by
 intro f
 induction f with
 | nil => intro i o _ _ _ _ _ s hs; cases hs
 | cons r f ih =>
  intro i o hok hi ho h1 h2 s hs
  have hp := knd_pos (hok r List.mem_cons_self)
  have hf := inL_nonneg (l := f) (fun x hx => hok x (List.mem_cons_of_mem _ hx))
  simp only [inL, outL] at h1 h2
  rcases List.mem_cons.1 hs with rfl | hs
  ·exact ⟨hi, ho, by simp only; omega, by simp only; omega, hok r List.mem_cons_self⟩
  ·exact ih _ _ (fun x hx => hok x (List.mem_cons_of_mem _ hx)) (by omega) (by omega) (by omega) (by omega) s hs
set_option maxHeartbeats 1000000 in
set_option maxRecDepth 100000 in
theorem steps_c (A : Option Addr) (n c : Nat) (w : World) : Calls Try.prog 50 #[.slice A n c] w fun e w' => e = .returned (.func (.func 65) #[] #[.pointer (some ⟨w.heap.size, 0, none⟩)]) ∧ w' = w.alloc (.cells #[.slice A n c] 22) := by
 go_enter Try.func50, Try.ntmps50
 go_wp2_with fail
 go_ret
 exact ⟨rfl, rfl⟩
theorem good_c (A0 : Option Addr) (c0 : Nat) (l0 : List Rn) (hc : l0.length ≤ c0) (hl : l0.length ≤ 140737488351232) (W : World) (h : RC W A0 l0) : Calls Try.prog 24 #[.slice A0 l0.length c0] W fun e w' => e = .returned (.bool (good l0)) ∧ Below W.heap.size W w' :=
 jj10.calls (l0.length + 1) A0 c0 l0 _ W h hc (good_f hl _ (Nat.lt_succ_self _))
theorem in_c (A0 : Option Addr) (c0 : Nat) (l0 : List Rn) (hc : l0.length ≤ c0) (hl : l0.length ≤ 140737488351232) (hg : good l0 = true) (W : World) (h : RC W A0 l0) : Calls Try.prog 26 #[.slice A0 l0.length c0] W fun e w' => e = .returned (.int .i64 (inL l0)) ∧ Below W.heap.size W w' := by
 have := in_f hl (l0.length + 1) (Nat.lt_succ_self _)
 rw [hg, if_pos rfl] at this
 exact jj11.calls (l0.length + 1) A0 c0 l0 _ W h hc this
def PlaceM.T1 : Bool × List (List Nat × List Nat) := (true, [([], []), ([0], [0]), ([1], [1]), ([2, 1], [2]), ([3], [3]), ([4, 3], [3, 4]), ([3, 5], [3, 5]), ([6, 3], [6]), ([7], [7]), ([7], [7]), ([9, 7, 7], [7, 9]), ([8, 10, 7], [7, 8, 10]), ([7, 11], [7, 11])])
def PlaceM.B1 : List Nat := [0, 1, 3, 7, 15, 31, 63, 127, 255, 255, 767, 2047, 4095]
theorem PlaceM.tab1 : rtab .any (opsOf Try.f14 1) = PlaceM.T1 := by kernel_rfl
theorem PlaceM.bits1 : waitsOk PlaceM.T1.2 PlaceM.B1 = true := by kernel_rfl
set_option maxHeartbeats 4000000 in
set_option maxRecDepth 100000 in
theorem move_no1 (A0 : Option Addr) (c0 : Nat) (l0 : List Rn) (at_ : Int) (behind : Bool) (w : World) (h : RC w A0 l0) (hc : l0.length ≤ c0) (hl : l0.length ≤ 140737488351232) (hg : good l0 = false) :
  Calls Try.prog 14 #[.slice A0 l0.length c0, .int .i64 at_, .bool behind] w fun e w' => e = .returned (.tuple #[.int .i64 0, .bool false]) ∧ Below w.heap.size w w' := by
 have HG := Aside0.mk (good_c A0 c0 l0 hc hl)
 rw [hg] at HG
 have H0 := Aside0.mk h
 clear h hc hl hg
 go_enter Try.func14, Try.ntmps14
 go_wp2_with fail
 obtain ⟨w2, hw2⟩ : ∃ w2, w2 = (w.alloc (.cells #[.int .i64 at_] 3)).alloc (.cells #[.bool behind] 4) := ⟨_, rfl⟩
 have hb2 : Below w.heap.size w w2 := by rw [hw2]; exact below_alloc (below_alloc (Below.refl _ _) _) _
 have HB := Aside0.mk hb2
 have HR := Aside0.mk (H0.out.below hb2)
 rw [← hw2]
 clear hw2 hb2
 refine start_ (n := 13) (S := fun w' => True) (ds := []) #[false, false, false, false, false, false, false, false, false, false, false, false, false] (by kernel_rfl) rfl rfl trivial (fun hHeld => ?_); refine with_tabW PlaceM.tab1 PlaceM.bits1 (fun HT_ HW_ => ?_)
 refine inv_at [0, 1, 2, 3, 4, 5, 6, 7, 8, 9, 10, 11, 12] (fun a0_ b a w' => a = putSel a0_ b [(0, 10, (.slice A0 l0.length c0)), (1, 11, (.bool false)), (2, 12, (.bool true)), (3, 13, (.bool true)), (4, 14, undef), (5, 15, undef), (6, 16, (.bool true)), (7, 17, (.bool true)), (8, 18, undef), (9, 19, undef), (10, 20, undef), (11, 21, undef), (12, 22, (.bool true))] ∧ (RC w' A0 l0) ∧ (Below w.heap.size w w')) HT_.out HW_.out (by kernel_rfl) (by kernel_rfl) ?_ ?_ ?_
 ·exact ⟨by simp only [putSel, Bool.false_eq_true, if_false], HR.out.below (below_drew1 (Below.refl _ _)), below_drew1 HB.out⟩
 ·skip
  clear HB HR
  refine steps_cons ?_ ?_
  ·rintro b a w' ⟨ha, Q_HR, Q_HB⟩ hb_ hon hoff
   refine ⟨_, rfl, fun K hK => ?_⟩
   have e0 : a.tmps[0]? = some ((.slice A0 l0.length c0)) := by rw [ha]; exact (putSel_off rfl).trans rfl
   replace ha := Aside0.mk ha
   have HR := Aside0.mk Q_HR
   have HB := Aside0.mk Q_HB
   refine value_ (w1 := w') (v := (.slice A0 l0.length c0)) (by rfl) rfl ?_ ?_
   ·go_simp
    (try simp only [i64_w])
    try rfl
   refine hK.out _ _ ⟨(by rw [ha.out]; exact putSel_upk 0 hb_ rfl rfl rfl), Q_HR, Q_HB⟩
  refine steps_cons ?_ ?_
  ·rintro b a w' ⟨ha, Q_HR, Q_HB⟩ hb_ hon hoff
   refine ⟨_, rfl, fun K hK => ?_⟩
   have e10 : a.tmps[10]? = some ((.slice A0 l0.length c0)) := by rw [ha]; exact putSel_on (e := (0, 10, (.slice A0 l0.length c0))) 0 rfl rfl (hon 0 (by kernel_rfl)) rfl
   replace ha := Aside0.mk ha
   have HR := Aside0.mk Q_HR
   have HB := Aside0.mk Q_HB
   refine goes_ Try.func24 (by kernel_rfl) rfl #[.slice A0 l0.length c0] (by rfl) rfl rfl (by (simp only [List.map_toArray, List.map_cons, List.map_nil, Act.eval, Array.getD_eq_getD_getElem?, Option.getD_some, e10]; done)) ?_
   refine (HG.out _ HR.out).mono ?_
   rintro e w1_ ⟨rfl, hb⟩
   refine ⟨_, rfl, ?_⟩
   refine hK.out _ _ ⟨(by rw [ha.out]; exact putSel_upk 1 hb_ rfl rfl rfl), HR.out.below hb, below_step HB.out hb⟩
  refine steps_cons ?_ ?_
  ·rintro b a w' ⟨ha, Q_HR, Q_HB⟩ hb_ hon hoff
   refine ⟨_, rfl, fun K hK => ?_⟩
   have e11 : a.tmps[11]? = some ((.bool false)) := by rw [ha]; exact putSel_on (e := (1, 11, (.bool false))) 1 rfl rfl (hon 1 (by kernel_rfl)) rfl
   replace ha := Aside0.mk ha
   have HR := Aside0.mk Q_HR
   have HB := Aside0.mk Q_HB
   refine value_ (w1 := w') (v := (.bool true)) (by rfl) rfl ?_ ?_
   ·go_simp
    (try simp only [i64_w])
    try rfl
   refine hK.out _ _ ⟨(by rw [ha.out]; exact putSel_upk 2 hb_ rfl rfl rfl), Q_HR, Q_HB⟩
  refine steps_cons ?_ ?_
  ·rintro b a w' ⟨ha, Q_HR, Q_HB⟩ hb_ hon hoff
   refine ⟨_, rfl, fun K hK => ?_⟩
   have e12 : a.tmps[12]? = some ((.bool true)) := by rw [ha]; exact putSel_on (e := (2, 12, (.bool true))) 2 rfl rfl (hon 2 (by kernel_rfl)) rfl
   replace ha := Aside0.mk ha
   have HR := Aside0.mk Q_HR
   have HB := Aside0.mk Q_HB
   refine value_ (w1 := w') (v := (.bool true)) (by rfl) rfl ?_ ?_
   ·go_simp
    (try simp only [i64_w])
    try rfl
   refine hK.out _ _ ⟨(by rw [ha.out]; exact putSel_upk 3 hb_ rfl rfl rfl), Q_HR, Q_HB⟩
  refine steps_cons ?_ ?_
  ·rintro b a w' ⟨ha, Q_HR, Q_HB⟩ hb_ hon hoff
   refine ⟨_, rfl, fun K hK => ?_⟩
   have e13 : a.tmps[13]? = some ((.bool true)) := by rw [ha]; exact putSel_on (e := (3, 13, (.bool true))) 3 rfl rfl (hon 3 (by kernel_rfl)) rfl
   replace ha := Aside0.mk ha
   have HR := Aside0.mk Q_HR
   have HB := Aside0.mk Q_HB
   refine off_ (wanted_off rfl rfl rfl (e13.trans (by (rfl)))) ?_
   refine hK.out _ _ ⟨(by rw [ha.out]; exact putSel_upk 4 hb_ rfl rfl rfl), Q_HR, Q_HB⟩
  refine steps_cons ?_ ?_
  ·rintro b a w' ⟨ha, Q_HR, Q_HB⟩ hb_ hon hoff
   refine ⟨_, rfl, fun K hK => ?_⟩
   have e13 : a.tmps[13]? = some ((.bool true)) := by rw [ha]; exact putSel_on (e := (3, 13, (.bool true))) 3 rfl rfl (hon 3 (by kernel_rfl)) rfl
   replace ha := Aside0.mk ha
   have HR := Aside0.mk Q_HR
   have HB := Aside0.mk Q_HB
   refine off_ (wanted_off rfl rfl rfl (e13.trans (by (rfl)))) ?_
   refine hK.out _ _ ⟨(by rw [ha.out]; exact putSel_upk 5 hb_ rfl rfl rfl), Q_HR, Q_HB⟩
  refine steps_cons ?_ ?_
  ·rintro b a w' ⟨ha, Q_HR, Q_HB⟩ hb_ hon hoff
   refine ⟨_, rfl, fun K hK => ?_⟩
   have e13 : a.tmps[13]? = some ((.bool true)) := by rw [ha]; exact putSel_on (e := (3, 13, (.bool true))) 3 rfl rfl (hon 3 (by kernel_rfl)) rfl
   have e15 : a.tmps[15]? = some (undef) := by rw [ha]; exact putSel_on (e := (5, 15, undef)) 5 rfl rfl (hon 5 (by kernel_rfl)) rfl
   replace ha := Aside0.mk ha
   have HR := Aside0.mk Q_HR
   have HB := Aside0.mk Q_HB
   refine value_ (w1 := w') (v := (.bool true)) (by rfl) rfl ?_ ?_
   ·go_simp
    (try simp only [i64_w])
    try rfl
   refine hK.out _ _ ⟨(by rw [ha.out]; exact putSel_upk 6 hb_ rfl rfl rfl), Q_HR, Q_HB⟩
  refine steps_cons ?_ ?_
  ·rintro b a w' ⟨ha, Q_HR, Q_HB⟩ hb_ hon hoff
   refine ⟨_, rfl, fun K hK => ?_⟩
   have e16 : a.tmps[16]? = some ((.bool true)) := by rw [ha]; exact putSel_on (e := (6, 16, (.bool true))) 6 rfl rfl (hon 6 (by kernel_rfl)) rfl
   replace ha := Aside0.mk ha
   have HR := Aside0.mk Q_HR
   have HB := Aside0.mk Q_HB
   refine value_ (w1 := w') (v := (.bool true)) (by rfl) rfl ?_ ?_
   ·go_simp
    (try simp only [i64_w])
    try rfl
   refine hK.out _ _ ⟨(by rw [ha.out]; exact putSel_upk 7 hb_ rfl rfl rfl), Q_HR, Q_HB⟩
  refine steps_cons ?_ ?_
  ·rintro b a w' ⟨ha, Q_HR, Q_HB⟩ hb_ hon hoff
   refine ⟨_, rfl, fun K hK => ?_⟩
   have e17 : a.tmps[17]? = some ((.bool true)) := by rw [ha]; exact putSel_on (e := (7, 17, (.bool true))) 7 rfl rfl (hon 7 (by kernel_rfl)) rfl
   replace ha := Aside0.mk ha
   have HR := Aside0.mk Q_HR
   have HB := Aside0.mk Q_HB
   refine off_ (wanted_off rfl rfl rfl (e17.trans (by (rfl)))) ?_
   refine hK.out _ _ ⟨(by rw [ha.out]; exact putSel_upk 8 hb_ rfl rfl rfl), Q_HR, Q_HB⟩
  refine steps_cons ?_ ?_
  ·rintro b a w' ⟨ha, Q_HR, Q_HB⟩ hb_ hon hoff
   refine ⟨_, rfl, fun K hK => ?_⟩
   have e17 : a.tmps[17]? = some ((.bool true)) := by rw [ha]; exact putSel_on (e := (7, 17, (.bool true))) 7 rfl rfl (hon 7 (by kernel_rfl)) rfl
   replace ha := Aside0.mk ha
   have HR := Aside0.mk Q_HR
   have HB := Aside0.mk Q_HB
   refine off_ (wanted_off rfl rfl rfl (e17.trans (by (rfl)))) ?_
   refine hK.out _ _ ⟨(by rw [ha.out]; exact putSel_upk 9 hb_ rfl rfl rfl), Q_HR, Q_HB⟩
  refine steps_cons ?_ ?_
  ·rintro b a w' ⟨ha, Q_HR, Q_HB⟩ hb_ hon hoff
   refine ⟨_, rfl, fun K hK => ?_⟩
   have e17 : a.tmps[17]? = some ((.bool true)) := by rw [ha]; exact putSel_on (e := (7, 17, (.bool true))) 7 rfl rfl (hon 7 (by kernel_rfl)) rfl
   replace ha := Aside0.mk ha
   have HR := Aside0.mk Q_HR
   have HB := Aside0.mk Q_HB
   refine off_ (wanted_off rfl rfl rfl (e17.trans (by (rfl)))) ?_
   refine hK.out _ _ ⟨(by rw [ha.out]; exact putSel_upk 10 hb_ rfl rfl rfl), Q_HR, Q_HB⟩
  refine steps_cons ?_ ?_
  ·rintro b a w' ⟨ha, Q_HR, Q_HB⟩ hb_ hon hoff
   refine ⟨_, rfl, fun K hK => ?_⟩
   have e17 : a.tmps[17]? = some ((.bool true)) := by rw [ha]; exact putSel_on (e := (7, 17, (.bool true))) 7 rfl rfl (hon 7 (by kernel_rfl)) rfl
   replace ha := Aside0.mk ha
   have HR := Aside0.mk Q_HR
   have HB := Aside0.mk Q_HB
   refine off_ (wanted_off rfl rfl rfl (e17.trans (by (rfl)))) ?_
   refine hK.out _ _ ⟨(by rw [ha.out]; exact putSel_upk 11 hb_ rfl rfl rfl), Q_HR, Q_HB⟩
  refine steps_cons ?_ ?_
  ·rintro b a w' ⟨ha, Q_HR, Q_HB⟩ hb_ hon hoff
   refine ⟨_, rfl, fun K hK => ?_⟩
   have e17 : a.tmps[17]? = some ((.bool true)) := by rw [ha]; exact putSel_on (e := (7, 17, (.bool true))) 7 rfl rfl (hon 7 (by kernel_rfl)) rfl
   have e21 : a.tmps[21]? = some (undef) := by rw [ha]; exact putSel_on (e := (11, 21, undef)) 11 rfl rfl (hon 11 (by kernel_rfl)) rfl
   replace ha := Aside0.mk ha
   have HR := Aside0.mk Q_HR
   have HB := Aside0.mk Q_HB
   refine value_ (w1 := w') (v := (.bool true)) (by rfl) rfl ?_ ?_
   ·go_simp
    (try simp only [i64_w])
    try rfl
   refine hK.out _ _ ⟨(by rw [ha.out]; exact putSel_upk 12 hb_ rfl rfl rfl), Q_HR, Q_HB⟩
  exact steps_nil
 rintro b a we hall ⟨ha, Q_HR, Q_HB⟩
 clear HB HR
 have hb0_ := hall 0 (by kernel_rfl)
 have hb1_ := hall 1 (by kernel_rfl)
 have hb2_ := hall 2 (by kernel_rfl)
 have hb3_ := hall 3 (by kernel_rfl)
 have hb4_ := hall 4 (by kernel_rfl)
 have hb5_ := hall 5 (by kernel_rfl)
 have hb6_ := hall 6 (by kernel_rfl)
 have hb7_ := hall 7 (by kernel_rfl)
 have hb8_ := hall 8 (by kernel_rfl)
 have hb9_ := hall 9 (by kernel_rfl)
 have hb10_ := hall 10 (by kernel_rfl)
 have hb11_ := hall 11 (by kernel_rfl)
 have hb12_ := hall 12 (by kernel_rfl)
 subst ha
 simp only [putSel, hb0_, hb1_, hb2_, hb3_, hb4_, hb5_, hb6_, hb7_, hb8_, hb9_, hb10_, hb11_, hb12_, if_true, Act.put, List.setIfInBounds_toArray, List.set_cons_zero, List.set_cons_succ]
 have HR := Aside0.mk Q_HR
 clear Q_HR
 have HB := Aside0.mk Q_HB
 clear Q_HB
 clear hall hb0_ hb1_ hb2_ hb3_ hb4_ hb5_ hb6_ hb7_ hb8_ hb9_ hb10_ hb11_ hb12_
 go_wp2_with fail
 go_ret2
 exact ⟨rfl, HB.out⟩
set_option maxHeartbeats 4000000 in
set_option maxRecDepth 100000 in
theorem move_no2 (A0 : Option Addr) (c0 : Nat) (l0 : List Rn) (at_ : Int) (behind : Bool) (w : World) (h : RC w A0 l0) (hc : l0.length ≤ c0) (hl : l0.length ≤ 140737488351232) (hg : good l0 = true) (ha : at_ < 0) :
  Calls Try.prog 14 #[.slice A0 l0.length c0, .int .i64 at_, .bool behind] w fun e w' => e = .returned (.tuple #[.int .i64 0, .bool false]) ∧ Below w.heap.size w w' := by
 have HG := Aside0.mk (good_c A0 c0 l0 hc hl)
 rw [hg] at HG
 have H0 := Aside0.mk h
 clear h hc hl hg
 go_enter Try.func14, Try.ntmps14
 go_wp2_with fail
 obtain ⟨w2, hw2⟩ : ∃ w2, w2 = (w.alloc (.cells #[.int .i64 at_] 3)).alloc (.cells #[.bool behind] 4) := ⟨_, rfl⟩
 have hb2 : Below w.heap.size w w2 := by rw [hw2]; exact below_alloc (below_alloc (Below.refl _ _) _) _
 have HB := Aside0.mk hb2
 have HR := Aside0.mk (H0.out.below hb2)
 have X4 := Aside0.mk (show Boxed w2 w.heap.size 3 (.int .i64 at_) by rw [hw2]; exact (Boxed.new w _ _).alloc _)
 rw [← hw2]
 clear hw2 hb2
 refine start_ (n := 13) (S := fun w' => True) (ds := []) #[false, false, false, false, false, false, false, false, false, false, false, false, false] (by kernel_rfl) rfl rfl trivial (fun hHeld => ?_); refine with_tabW PlaceM.tab1 PlaceM.bits1 (fun HT_ HW_ => ?_)
 refine inv_at [0, 1, 2, 3, 4, 5, 6, 7, 8, 9, 10, 11, 12] (fun a0_ b a w' => a = putSel a0_ b [(0, 10, (.slice A0 l0.length c0)), (1, 11, (.bool true)), (2, 12, (.bool false)), (3, 13, (.bool false)), (4, 14, (.int .i64 at_)), (5, 15, (.bool true)), (6, 16, (.bool true)), (7, 17, (.bool true)), (8, 18, undef), (9, 19, undef), (10, 20, undef), (11, 21, undef), (12, 22, (.bool true))] ∧ (RC w' A0 l0) ∧ (Below w.heap.size w w') ∧ (Boxed w' w.heap.size 3 (.int .i64 at_))) HT_.out HW_.out (by kernel_rfl) (by kernel_rfl) ?_ ?_ ?_
 ·exact ⟨by simp only [putSel, Bool.false_eq_true, if_false], HR.out.below (below_drew1 (Below.refl _ _)), below_drew1 HB.out, X4.out.below (below_drew1 (Below.refl _ _))⟩
 ·skip
  clear HB HR X4
  refine steps_cons ?_ ?_
  ·rintro b a w' ⟨ha, Q_HR, Q_HB, Q_X4⟩ hb_ hon hoff
   refine ⟨_, rfl, fun K hK => ?_⟩
   have e0 : a.tmps[0]? = some ((.slice A0 l0.length c0)) := by rw [ha]; exact (putSel_off rfl).trans rfl
   replace ha := Aside0.mk ha
   have HR := Aside0.mk Q_HR
   have HB := Aside0.mk Q_HB
   have X4 := Aside0.mk Q_X4
   refine value_ (w1 := w') (v := (.slice A0 l0.length c0)) (by rfl) rfl ?_ ?_
   ·go_simp
    (try simp only [i64_w])
    try rfl
   refine hK.out _ _ ⟨(by rw [ha.out]; exact putSel_upk 0 hb_ rfl rfl rfl), Q_HR, Q_HB, Q_X4⟩
  refine steps_cons ?_ ?_
  ·rintro b a w' ⟨ha, Q_HR, Q_HB, Q_X4⟩ hb_ hon hoff
   refine ⟨_, rfl, fun K hK => ?_⟩
   have e10 : a.tmps[10]? = some ((.slice A0 l0.length c0)) := by rw [ha]; exact putSel_on (e := (0, 10, (.slice A0 l0.length c0))) 0 rfl rfl (hon 0 (by kernel_rfl)) rfl
   replace ha := Aside0.mk ha
   have HR := Aside0.mk Q_HR
   have HB := Aside0.mk Q_HB
   have X4 := Aside0.mk Q_X4
   refine goes_ Try.func24 (by kernel_rfl) rfl #[.slice A0 l0.length c0] (by rfl) rfl rfl (by (simp only [List.map_toArray, List.map_cons, List.map_nil, Act.eval, Array.getD_eq_getD_getElem?, Option.getD_some, e10]; done)) ?_
   refine (HG.out _ HR.out).mono ?_
   rintro e w1_ ⟨rfl, hb⟩
   refine ⟨_, rfl, ?_⟩
   refine hK.out _ _ ⟨(by rw [ha.out]; exact putSel_upk 1 hb_ rfl rfl rfl), HR.out.below hb, below_step HB.out hb, X4.out.below hb⟩
  refine steps_cons ?_ ?_
  ·rintro b a w' ⟨ha, Q_HR, Q_HB, Q_X4⟩ hb_ hon hoff
   refine ⟨_, rfl, fun K hK => ?_⟩
   have e11 : a.tmps[11]? = some ((.bool true)) := by rw [ha]; exact putSel_on (e := (1, 11, (.bool true))) 1 rfl rfl (hon 1 (by kernel_rfl)) rfl
   replace ha := Aside0.mk ha
   have HR := Aside0.mk Q_HR
   have HB := Aside0.mk Q_HB
   have X4 := Aside0.mk Q_X4
   refine value_ (w1 := w') (v := (.bool false)) (by rfl) rfl ?_ ?_
   ·go_simp
    (try simp only [i64_w])
    try rfl
   refine hK.out _ _ ⟨(by rw [ha.out]; exact putSel_upk 2 hb_ rfl rfl rfl), Q_HR, Q_HB, Q_X4⟩
  refine steps_cons ?_ ?_
  ·rintro b a w' ⟨ha, Q_HR, Q_HB, Q_X4⟩ hb_ hon hoff
   refine ⟨_, rfl, fun K hK => ?_⟩
   have e12 : a.tmps[12]? = some ((.bool false)) := by rw [ha]; exact putSel_on (e := (2, 12, (.bool false))) 2 rfl rfl (hon 2 (by kernel_rfl)) rfl
   replace ha := Aside0.mk ha
   have HR := Aside0.mk Q_HR
   have HB := Aside0.mk Q_HB
   have X4 := Aside0.mk Q_X4
   refine value_ (w1 := w') (v := (.bool false)) (by rfl) rfl ?_ ?_
   ·go_simp
    (try simp only [i64_w])
    try rfl
   refine hK.out _ _ ⟨(by rw [ha.out]; exact putSel_upk 3 hb_ rfl rfl rfl), Q_HR, Q_HB, Q_X4⟩
  refine steps_cons ?_ ?_
  ·rintro b a w' ⟨ha, Q_HR, Q_HB, Q_X4⟩ hb_ hon hoff
   refine ⟨_, rfl, fun K hK => ?_⟩
   have e4 : a.tmps[4]? = some ((.pointer (some ⟨w.heap.size, 0, none⟩))) := by rw [ha]; exact (putSel_off rfl).trans rfl
   have e13 : a.tmps[13]? = some ((.bool false)) := by rw [ha]; exact putSel_on (e := (3, 13, (.bool false))) 3 rfl rfl (hon 3 (by kernel_rfl)) rfl
   replace ha := Aside0.mk ha
   have HR := Aside0.mk Q_HR
   have HB := Aside0.mk Q_HB
   have X4 := Aside0.mk Q_X4
   have hc_ := X4.out.cell
   refine value_ (w1 := w') (v := (.int .i64 at_)) (wanted_on rfl rfl rfl (e13.trans (by (rfl)))) rfl ?_ ?_
   ·go_simp
    (try simp only [i64_w])
    try rfl
   refine hK.out _ _ ⟨(by rw [ha.out]; exact putSel_upk 4 hb_ rfl rfl rfl), Q_HR, Q_HB, Q_X4⟩
  refine steps_cons ?_ ?_
  ·rintro b a w' ⟨ha, Q_HR, Q_HB, Q_X4⟩ hb_ hon hoff
   refine ⟨_, rfl, fun K hK => ?_⟩
   have e14 : a.tmps[14]? = some ((.int .i64 at_)) := by rw [ha]; exact putSel_on (e := (4, 14, (.int .i64 at_))) 4 rfl rfl (hon 4 (by kernel_rfl)) rfl
   have e13 : a.tmps[13]? = some ((.bool false)) := by rw [ha]; exact putSel_on (e := (3, 13, (.bool false))) 3 rfl rfl (hon 3 (by kernel_rfl)) rfl
   replace ha := Aside0.mk ha
   have HR := Aside0.mk Q_HR
   have HB := Aside0.mk Q_HB
   have X4 := Aside0.mk Q_X4
   refine value_ (w1 := w') (v := (.bool true)) (wanted_on rfl rfl rfl (e13.trans (by (rfl)))) rfl ?_ ?_
   ·go_simp
    (try simp only [i64_w])
    try rfl
   refine hK.out _ _ ⟨(by rw [ha.out]; exact putSel_upk 5 hb_ rfl rfl rfl), Q_HR, Q_HB, Q_X4⟩
  refine steps_cons ?_ ?_
  ·rintro b a w' ⟨ha, Q_HR, Q_HB, Q_X4⟩ hb_ hon hoff
   refine ⟨_, rfl, fun K hK => ?_⟩
   have e13 : a.tmps[13]? = some ((.bool false)) := by rw [ha]; exact putSel_on (e := (3, 13, (.bool false))) 3 rfl rfl (hon 3 (by kernel_rfl)) rfl
   have e15 : a.tmps[15]? = some ((.bool true)) := by rw [ha]; exact putSel_on (e := (5, 15, (.bool true))) 5 rfl rfl (hon 5 (by kernel_rfl)) rfl
   replace ha := Aside0.mk ha
   have HR := Aside0.mk Q_HR
   have HB := Aside0.mk Q_HB
   have X4 := Aside0.mk Q_X4
   refine value_ (w1 := w') (v := (.bool true)) (by rfl) rfl ?_ ?_
   ·go_simp
    (try simp only [i64_w])
    try rfl
   refine hK.out _ _ ⟨(by rw [ha.out]; exact putSel_upk 6 hb_ rfl rfl rfl), Q_HR, Q_HB, Q_X4⟩
  refine steps_cons ?_ ?_
  ·rintro b a w' ⟨ha, Q_HR, Q_HB, Q_X4⟩ hb_ hon hoff
   refine ⟨_, rfl, fun K hK => ?_⟩
   have e16 : a.tmps[16]? = some ((.bool true)) := by rw [ha]; exact putSel_on (e := (6, 16, (.bool true))) 6 rfl rfl (hon 6 (by kernel_rfl)) rfl
   replace ha := Aside0.mk ha
   have HR := Aside0.mk Q_HR
   have HB := Aside0.mk Q_HB
   have X4 := Aside0.mk Q_X4
   refine value_ (w1 := w') (v := (.bool true)) (by rfl) rfl ?_ ?_
   ·go_simp
    (try simp only [i64_w])
    try rfl
   refine hK.out _ _ ⟨(by rw [ha.out]; exact putSel_upk 7 hb_ rfl rfl rfl), Q_HR, Q_HB, Q_X4⟩
  refine steps_cons ?_ ?_
  ·rintro b a w' ⟨ha, Q_HR, Q_HB, Q_X4⟩ hb_ hon hoff
   refine ⟨_, rfl, fun K hK => ?_⟩
   have e17 : a.tmps[17]? = some ((.bool true)) := by rw [ha]; exact putSel_on (e := (7, 17, (.bool true))) 7 rfl rfl (hon 7 (by kernel_rfl)) rfl
   replace ha := Aside0.mk ha
   have HR := Aside0.mk Q_HR
   have HB := Aside0.mk Q_HB
   have X4 := Aside0.mk Q_X4
   refine off_ (wanted_off rfl rfl rfl (e17.trans (by (rfl)))) ?_
   refine hK.out _ _ ⟨(by rw [ha.out]; exact putSel_upk 8 hb_ rfl rfl rfl), Q_HR, Q_HB, Q_X4⟩
  refine steps_cons ?_ ?_
  ·rintro b a w' ⟨ha, Q_HR, Q_HB, Q_X4⟩ hb_ hon hoff
   refine ⟨_, rfl, fun K hK => ?_⟩
   have e17 : a.tmps[17]? = some ((.bool true)) := by rw [ha]; exact putSel_on (e := (7, 17, (.bool true))) 7 rfl rfl (hon 7 (by kernel_rfl)) rfl
   replace ha := Aside0.mk ha
   have HR := Aside0.mk Q_HR
   have HB := Aside0.mk Q_HB
   have X4 := Aside0.mk Q_X4
   refine off_ (wanted_off rfl rfl rfl (e17.trans (by (rfl)))) ?_
   refine hK.out _ _ ⟨(by rw [ha.out]; exact putSel_upk 9 hb_ rfl rfl rfl), Q_HR, Q_HB, Q_X4⟩
  refine steps_cons ?_ ?_
  ·rintro b a w' ⟨ha, Q_HR, Q_HB, Q_X4⟩ hb_ hon hoff
   refine ⟨_, rfl, fun K hK => ?_⟩
   have e17 : a.tmps[17]? = some ((.bool true)) := by rw [ha]; exact putSel_on (e := (7, 17, (.bool true))) 7 rfl rfl (hon 7 (by kernel_rfl)) rfl
   replace ha := Aside0.mk ha
   have HR := Aside0.mk Q_HR
   have HB := Aside0.mk Q_HB
   have X4 := Aside0.mk Q_X4
   refine off_ (wanted_off rfl rfl rfl (e17.trans (by (rfl)))) ?_
   refine hK.out _ _ ⟨(by rw [ha.out]; exact putSel_upk 10 hb_ rfl rfl rfl), Q_HR, Q_HB, Q_X4⟩
  refine steps_cons ?_ ?_
  ·rintro b a w' ⟨ha, Q_HR, Q_HB, Q_X4⟩ hb_ hon hoff
   refine ⟨_, rfl, fun K hK => ?_⟩
   have e17 : a.tmps[17]? = some ((.bool true)) := by rw [ha]; exact putSel_on (e := (7, 17, (.bool true))) 7 rfl rfl (hon 7 (by kernel_rfl)) rfl
   replace ha := Aside0.mk ha
   have HR := Aside0.mk Q_HR
   have HB := Aside0.mk Q_HB
   have X4 := Aside0.mk Q_X4
   refine off_ (wanted_off rfl rfl rfl (e17.trans (by (rfl)))) ?_
   refine hK.out _ _ ⟨(by rw [ha.out]; exact putSel_upk 11 hb_ rfl rfl rfl), Q_HR, Q_HB, Q_X4⟩
  refine steps_cons ?_ ?_
  ·rintro b a w' ⟨ha, Q_HR, Q_HB, Q_X4⟩ hb_ hon hoff
   refine ⟨_, rfl, fun K hK => ?_⟩
   have e17 : a.tmps[17]? = some ((.bool true)) := by rw [ha]; exact putSel_on (e := (7, 17, (.bool true))) 7 rfl rfl (hon 7 (by kernel_rfl)) rfl
   have e21 : a.tmps[21]? = some (undef) := by rw [ha]; exact putSel_on (e := (11, 21, undef)) 11 rfl rfl (hon 11 (by kernel_rfl)) rfl
   replace ha := Aside0.mk ha
   have HR := Aside0.mk Q_HR
   have HB := Aside0.mk Q_HB
   have X4 := Aside0.mk Q_X4
   refine value_ (w1 := w') (v := (.bool true)) (by rfl) rfl ?_ ?_
   ·go_simp
    (try simp only [i64_w])
    try rfl
   refine hK.out _ _ ⟨(by rw [ha.out]; exact putSel_upk 12 hb_ rfl rfl rfl), Q_HR, Q_HB, Q_X4⟩
  exact steps_nil
 rintro b a we hall ⟨ha, Q_HR, Q_HB, Q_X4⟩
 clear HB HR X4
 have hb0_ := hall 0 (by kernel_rfl)
 have hb1_ := hall 1 (by kernel_rfl)
 have hb2_ := hall 2 (by kernel_rfl)
 have hb3_ := hall 3 (by kernel_rfl)
 have hb4_ := hall 4 (by kernel_rfl)
 have hb5_ := hall 5 (by kernel_rfl)
 have hb6_ := hall 6 (by kernel_rfl)
 have hb7_ := hall 7 (by kernel_rfl)
 have hb8_ := hall 8 (by kernel_rfl)
 have hb9_ := hall 9 (by kernel_rfl)
 have hb10_ := hall 10 (by kernel_rfl)
 have hb11_ := hall 11 (by kernel_rfl)
 have hb12_ := hall 12 (by kernel_rfl)
 subst ha
 simp only [putSel, hb0_, hb1_, hb2_, hb3_, hb4_, hb5_, hb6_, hb7_, hb8_, hb9_, hb10_, hb11_, hb12_, if_true, Act.put, List.setIfInBounds_toArray, List.set_cons_zero, List.set_cons_succ]
 have HR := Aside0.mk Q_HR
 clear Q_HR
 have HB := Aside0.mk Q_HB
 clear Q_HB
 have X4 := Aside0.mk Q_X4
 clear Q_X4
 clear hall hb0_ hb1_ hb2_ hb3_ hb4_ hb5_ hb6_ hb7_ hb8_ hb9_ hb10_ hb11_ hb12_
 go_wp2_with fail
 go_ret2
 exact ⟨rfl, HB.out⟩
set_option maxHeartbeats 4000000 in
set_option maxRecDepth 100000 in
theorem move_no3 (A0 : Option Addr) (c0 : Nat) (l0 : List Rn) (at_ : Int) (behind : Bool) (w : World) (h : RC w A0 l0) (hc : l0.length ≤ c0) (hl : l0.length ≤ 140737488351232) (hg : good l0 = true) (ha : 0 ≤ at_) (hi : inL l0 < at_) :
  Calls Try.prog 14 #[.slice A0 l0.length c0, .int .i64 at_, .bool behind] w fun e w' => e = .returned (.tuple #[.int .i64 0, .bool false]) ∧ Below w.heap.size w w' := by
 have HG := Aside0.mk (good_c A0 c0 l0 hc hl)
 have HI := Aside0.mk (in_c A0 c0 l0 hc hl hg)
 rw [hg] at HG
 have H0 := Aside0.mk h
 have a1 : decide (at_ < 0) = false := by simp; omega
 have a2 : decide (inL l0 < at_) = true := by simpa using hi
 clear h hc hl hg
 go_enter Try.func14, Try.ntmps14
 go_wp2_with fail
 obtain ⟨w2, hw2⟩ : ∃ w2, w2 = (w.alloc (.cells #[.int .i64 at_] 3)).alloc (.cells #[.bool behind] 4) := ⟨_, rfl⟩
 have hb2 : Below w.heap.size w w2 := by rw [hw2]; exact below_alloc (below_alloc (Below.refl _ _) _) _
 have HB := Aside0.mk hb2
 have HR := Aside0.mk (H0.out.below hb2)
 have X4 := Aside0.mk (show Boxed w2 w.heap.size 3 (.int .i64 at_) by rw [hw2]; exact (Boxed.new w _ _).alloc _)
 rw [← hw2]
 clear hw2 hb2
 refine start_ (n := 13) (S := fun w' => True) (ds := []) #[false, false, false, false, false, false, false, false, false, false, false, false, false] (by kernel_rfl) rfl rfl trivial (fun hHeld => ?_); refine with_tabW PlaceM.tab1 PlaceM.bits1 (fun HT_ HW_ => ?_)
 refine inv_at [0, 1, 2, 3, 4, 5, 6, 7, 8, 9, 10, 11, 12] (fun a0_ b a w' => a = putSel a0_ b [(0, 10, (.slice A0 l0.length c0)), (1, 11, (.bool true)), (2, 12, (.bool false)), (3, 13, (.bool false)), (4, 14, (.int .i64 at_)), (5, 15, (.bool false)), (6, 16, (.bool false)), (7, 17, (.bool false)), (8, 18, (.int .i64 at_)), (9, 19, (.slice A0 l0.length c0)), (10, 20, (.int .i64 (inL l0))), (11, 21, (.bool true)), (12, 22, (.bool true))] ∧ (RC w' A0 l0) ∧ (Below w.heap.size w w') ∧ (Boxed w' w.heap.size 3 (.int .i64 at_))) HT_.out HW_.out (by kernel_rfl) (by kernel_rfl) ?_ ?_ ?_
 ·exact ⟨by simp only [putSel, Bool.false_eq_true, if_false], HR.out.below (below_drew1 (Below.refl _ _)), below_drew1 HB.out, X4.out.below (below_drew1 (Below.refl _ _))⟩
 ·skip
  clear HB HR X4
  refine steps_cons ?_ ?_
  ·rintro b a w' ⟨ha, Q_HR, Q_HB, Q_X4⟩ hb_ hon hoff
   refine ⟨_, rfl, fun K hK => ?_⟩
   have e0 : a.tmps[0]? = some ((.slice A0 l0.length c0)) := by rw [ha]; exact (putSel_off rfl).trans rfl
   replace ha := Aside0.mk ha
   have HR := Aside0.mk Q_HR
   have HB := Aside0.mk Q_HB
   have X4 := Aside0.mk Q_X4
   refine value_ (w1 := w') (v := (.slice A0 l0.length c0)) (by rfl) rfl ?_ ?_
   ·go_simp
    (try simp only [i64_w])
    try rfl
   refine hK.out _ _ ⟨(by rw [ha.out]; exact putSel_upk 0 hb_ rfl rfl rfl), Q_HR, Q_HB, Q_X4⟩
  refine steps_cons ?_ ?_
  ·rintro b a w' ⟨ha, Q_HR, Q_HB, Q_X4⟩ hb_ hon hoff
   refine ⟨_, rfl, fun K hK => ?_⟩
   have e10 : a.tmps[10]? = some ((.slice A0 l0.length c0)) := by rw [ha]; exact putSel_on (e := (0, 10, (.slice A0 l0.length c0))) 0 rfl rfl (hon 0 (by kernel_rfl)) rfl
   replace ha := Aside0.mk ha
   have HR := Aside0.mk Q_HR
   have HB := Aside0.mk Q_HB
   have X4 := Aside0.mk Q_X4
   refine goes_ Try.func24 (by kernel_rfl) rfl #[.slice A0 l0.length c0] (by rfl) rfl rfl (by (simp only [List.map_toArray, List.map_cons, List.map_nil, Act.eval, Array.getD_eq_getD_getElem?, Option.getD_some, e10]; done)) ?_
   refine (HG.out _ HR.out).mono ?_
   rintro e w1_ ⟨rfl, hb⟩
   refine ⟨_, rfl, ?_⟩
   refine hK.out _ _ ⟨(by rw [ha.out]; exact putSel_upk 1 hb_ rfl rfl rfl), HR.out.below hb, below_step HB.out hb, X4.out.below hb⟩
  refine steps_cons ?_ ?_
  ·rintro b a w' ⟨ha, Q_HR, Q_HB, Q_X4⟩ hb_ hon hoff
   refine ⟨_, rfl, fun K hK => ?_⟩
   have e11 : a.tmps[11]? = some ((.bool true)) := by rw [ha]; exact putSel_on (e := (1, 11, (.bool true))) 1 rfl rfl (hon 1 (by kernel_rfl)) rfl
   replace ha := Aside0.mk ha
   have HR := Aside0.mk Q_HR
   have HB := Aside0.mk Q_HB
   have X4 := Aside0.mk Q_X4
   refine value_ (w1 := w') (v := (.bool false)) (by rfl) rfl ?_ ?_
   ·go_simp
    (try simp only [i64_w])
    try rfl
   refine hK.out _ _ ⟨(by rw [ha.out]; exact putSel_upk 2 hb_ rfl rfl rfl), Q_HR, Q_HB, Q_X4⟩
  refine steps_cons ?_ ?_
  ·rintro b a w' ⟨ha, Q_HR, Q_HB, Q_X4⟩ hb_ hon hoff
   refine ⟨_, rfl, fun K hK => ?_⟩
   have e12 : a.tmps[12]? = some ((.bool false)) := by rw [ha]; exact putSel_on (e := (2, 12, (.bool false))) 2 rfl rfl (hon 2 (by kernel_rfl)) rfl
   replace ha := Aside0.mk ha
   have HR := Aside0.mk Q_HR
   have HB := Aside0.mk Q_HB
   have X4 := Aside0.mk Q_X4
   refine value_ (w1 := w') (v := (.bool false)) (by rfl) rfl ?_ ?_
   ·go_simp
    (try simp only [i64_w])
    try rfl
   refine hK.out _ _ ⟨(by rw [ha.out]; exact putSel_upk 3 hb_ rfl rfl rfl), Q_HR, Q_HB, Q_X4⟩
  refine steps_cons ?_ ?_
  ·rintro b a w' ⟨ha, Q_HR, Q_HB, Q_X4⟩ hb_ hon hoff
   refine ⟨_, rfl, fun K hK => ?_⟩
   have e4 : a.tmps[4]? = some ((.pointer (some ⟨w.heap.size, 0, none⟩))) := by rw [ha]; exact (putSel_off rfl).trans rfl
   have e13 : a.tmps[13]? = some ((.bool false)) := by rw [ha]; exact putSel_on (e := (3, 13, (.bool false))) 3 rfl rfl (hon 3 (by kernel_rfl)) rfl
   replace ha := Aside0.mk ha
   have HR := Aside0.mk Q_HR
   have HB := Aside0.mk Q_HB
   have X4 := Aside0.mk Q_X4
   have hc_ := X4.out.cell
   refine value_ (w1 := w') (v := (.int .i64 at_)) (wanted_on rfl rfl rfl (e13.trans (by (rfl)))) rfl ?_ ?_
   ·go_simp
    (try simp only [i64_w])
    try rfl
   refine hK.out _ _ ⟨(by rw [ha.out]; exact putSel_upk 4 hb_ rfl rfl rfl), Q_HR, Q_HB, Q_X4⟩
  refine steps_cons ?_ ?_
  ·rintro b a w' ⟨ha, Q_HR, Q_HB, Q_X4⟩ hb_ hon hoff
   refine ⟨_, rfl, fun K hK => ?_⟩
   have e14 : a.tmps[14]? = some ((.int .i64 at_)) := by rw [ha]; exact putSel_on (e := (4, 14, (.int .i64 at_))) 4 rfl rfl (hon 4 (by kernel_rfl)) rfl
   have e13 : a.tmps[13]? = some ((.bool false)) := by rw [ha]; exact putSel_on (e := (3, 13, (.bool false))) 3 rfl rfl (hon 3 (by kernel_rfl)) rfl
   replace ha := Aside0.mk ha
   have HR := Aside0.mk Q_HR
   have HB := Aside0.mk Q_HB
   have X4 := Aside0.mk Q_X4
   refine value_ (w1 := w') (v := (.bool false)) (wanted_on rfl rfl rfl (e13.trans (by (rfl)))) rfl ?_ ?_
   ·go_simp
    (try simp only [i64_w])
    try rfl
   refine hK.out _ _ ⟨(by rw [ha.out]; exact putSel_upk 5 hb_ rfl rfl rfl), Q_HR, Q_HB, Q_X4⟩
  refine steps_cons ?_ ?_
  ·rintro b a w' ⟨ha, Q_HR, Q_HB, Q_X4⟩ hb_ hon hoff
   refine ⟨_, rfl, fun K hK => ?_⟩
   have e13 : a.tmps[13]? = some ((.bool false)) := by rw [ha]; exact putSel_on (e := (3, 13, (.bool false))) 3 rfl rfl (hon 3 (by kernel_rfl)) rfl
   have e15 : a.tmps[15]? = some ((.bool false)) := by rw [ha]; exact putSel_on (e := (5, 15, (.bool false))) 5 rfl rfl (hon 5 (by kernel_rfl)) rfl
   replace ha := Aside0.mk ha
   have HR := Aside0.mk Q_HR
   have HB := Aside0.mk Q_HB
   have X4 := Aside0.mk Q_X4
   refine value_ (w1 := w') (v := (.bool false)) (by rfl) rfl ?_ ?_
   ·go_simp
    (try simp only [i64_w])
    try rfl
   refine hK.out _ _ ⟨(by rw [ha.out]; exact putSel_upk 6 hb_ rfl rfl rfl), Q_HR, Q_HB, Q_X4⟩
  refine steps_cons ?_ ?_
  ·rintro b a w' ⟨ha, Q_HR, Q_HB, Q_X4⟩ hb_ hon hoff
   refine ⟨_, rfl, fun K hK => ?_⟩
   have e16 : a.tmps[16]? = some ((.bool false)) := by rw [ha]; exact putSel_on (e := (6, 16, (.bool false))) 6 rfl rfl (hon 6 (by kernel_rfl)) rfl
   replace ha := Aside0.mk ha
   have HR := Aside0.mk Q_HR
   have HB := Aside0.mk Q_HB
   have X4 := Aside0.mk Q_X4
   refine value_ (w1 := w') (v := (.bool false)) (by rfl) rfl ?_ ?_
   ·go_simp
    (try simp only [i64_w])
    try rfl
   refine hK.out _ _ ⟨(by rw [ha.out]; exact putSel_upk 7 hb_ rfl rfl rfl), Q_HR, Q_HB, Q_X4⟩
  refine steps_cons ?_ ?_
  ·rintro b a w' ⟨ha, Q_HR, Q_HB, Q_X4⟩ hb_ hon hoff
   refine ⟨_, rfl, fun K hK => ?_⟩
   have e4 : a.tmps[4]? = some ((.pointer (some ⟨w.heap.size, 0, none⟩))) := by rw [ha]; exact (putSel_off rfl).trans rfl
   have e17 : a.tmps[17]? = some ((.bool false)) := by rw [ha]; exact putSel_on (e := (7, 17, (.bool false))) 7 rfl rfl (hon 7 (by kernel_rfl)) rfl
   replace ha := Aside0.mk ha
   have HR := Aside0.mk Q_HR
   have HB := Aside0.mk Q_HB
   have X4 := Aside0.mk Q_X4
   have hc_ := X4.out.cell
   refine value_ (w1 := w') (v := (.int .i64 at_)) (wanted_on rfl rfl rfl (e17.trans (by (rfl)))) rfl ?_ ?_
   ·go_simp
    (try simp only [i64_w])
    try rfl
   refine hK.out _ _ ⟨(by rw [ha.out]; exact putSel_upk 8 hb_ rfl rfl rfl), Q_HR, Q_HB, Q_X4⟩
  refine steps_cons ?_ ?_
  ·rintro b a w' ⟨ha, Q_HR, Q_HB, Q_X4⟩ hb_ hon hoff
   refine ⟨_, rfl, fun K hK => ?_⟩
   have e0 : a.tmps[0]? = some ((.slice A0 l0.length c0)) := by rw [ha]; exact (putSel_off rfl).trans rfl
   have e17 : a.tmps[17]? = some ((.bool false)) := by rw [ha]; exact putSel_on (e := (7, 17, (.bool false))) 7 rfl rfl (hon 7 (by kernel_rfl)) rfl
   replace ha := Aside0.mk ha
   have HR := Aside0.mk Q_HR
   have HB := Aside0.mk Q_HB
   have X4 := Aside0.mk Q_X4
   refine value_ (w1 := w') (v := (.slice A0 l0.length c0)) (wanted_on rfl rfl rfl (e17.trans (by (rfl)))) rfl ?_ ?_
   ·go_simp
    (try simp only [i64_w])
    try rfl
   refine hK.out _ _ ⟨(by rw [ha.out]; exact putSel_upk 9 hb_ rfl rfl rfl), Q_HR, Q_HB, Q_X4⟩
  refine steps_cons ?_ ?_
  ·rintro b a w' ⟨ha, Q_HR, Q_HB, Q_X4⟩ hb_ hon hoff
   refine ⟨_, rfl, fun K hK => ?_⟩
   have e19 : a.tmps[19]? = some ((.slice A0 l0.length c0)) := by rw [ha]; exact putSel_on (e := (9, 19, (.slice A0 l0.length c0))) 9 rfl rfl (hon 9 (by kernel_rfl)) rfl
   have e17 : a.tmps[17]? = some ((.bool false)) := by rw [ha]; exact putSel_on (e := (7, 17, (.bool false))) 7 rfl rfl (hon 7 (by kernel_rfl)) rfl
   replace ha := Aside0.mk ha
   have HR := Aside0.mk Q_HR
   have HB := Aside0.mk Q_HB
   have X4 := Aside0.mk Q_X4
   refine goes_ Try.func26 (by kernel_rfl) rfl #[.slice A0 l0.length c0] (wanted_on rfl rfl rfl (e17.trans (by (rfl)))) rfl rfl (by (simp only [List.map_toArray, List.map_cons, List.map_nil, Act.eval, Array.getD_eq_getD_getElem?, Option.getD_some, e19, e17]; done)) ?_
   refine (HI.out _ HR.out).mono ?_
   rintro e w1_ ⟨rfl, hb⟩
   refine ⟨_, rfl, ?_⟩
   refine hK.out _ _ ⟨(by rw [ha.out]; exact putSel_upk 10 hb_ rfl rfl rfl), HR.out.below hb, below_step HB.out hb, X4.out.below hb⟩
  refine steps_cons ?_ ?_
  ·rintro b a w' ⟨ha, Q_HR, Q_HB, Q_X4⟩ hb_ hon hoff
   refine ⟨_, rfl, fun K hK => ?_⟩
   have e18 : a.tmps[18]? = some ((.int .i64 at_)) := by rw [ha]; exact putSel_on (e := (8, 18, (.int .i64 at_))) 8 rfl rfl (hon 8 (by kernel_rfl)) rfl
   have e20 : a.tmps[20]? = some ((.int .i64 (inL l0))) := by rw [ha]; exact putSel_on (e := (10, 20, (.int .i64 (inL l0)))) 10 rfl rfl (hon 10 (by kernel_rfl)) rfl
   have e17 : a.tmps[17]? = some ((.bool false)) := by rw [ha]; exact putSel_on (e := (7, 17, (.bool false))) 7 rfl rfl (hon 7 (by kernel_rfl)) rfl
   replace ha := Aside0.mk ha
   have HR := Aside0.mk Q_HR
   have HB := Aside0.mk Q_HB
   have X4 := Aside0.mk Q_X4
   refine value_ (w1 := w') (v := (.bool true)) (wanted_on rfl rfl rfl (e17.trans (by (rfl)))) rfl ?_ ?_
   ·go_simp
    (try simp only [i64_w])
    try rfl
   refine hK.out _ _ ⟨(by rw [ha.out]; exact putSel_upk 11 hb_ rfl rfl rfl), Q_HR, Q_HB, Q_X4⟩
  refine steps_cons ?_ ?_
  ·rintro b a w' ⟨ha, Q_HR, Q_HB, Q_X4⟩ hb_ hon hoff
   refine ⟨_, rfl, fun K hK => ?_⟩
   have e17 : a.tmps[17]? = some ((.bool false)) := by rw [ha]; exact putSel_on (e := (7, 17, (.bool false))) 7 rfl rfl (hon 7 (by kernel_rfl)) rfl
   have e21 : a.tmps[21]? = some ((.bool true)) := by rw [ha]; exact putSel_on (e := (11, 21, (.bool true))) 11 rfl rfl (hon 11 (by kernel_rfl)) rfl
   replace ha := Aside0.mk ha
   have HR := Aside0.mk Q_HR
   have HB := Aside0.mk Q_HB
   have X4 := Aside0.mk Q_X4
   refine value_ (w1 := w') (v := (.bool true)) (by rfl) rfl ?_ ?_
   ·go_simp
    (try simp only [i64_w])
    try rfl
   refine hK.out _ _ ⟨(by rw [ha.out]; exact putSel_upk 12 hb_ rfl rfl rfl), Q_HR, Q_HB, Q_X4⟩
  exact steps_nil
 rintro b a we hall ⟨ha, Q_HR, Q_HB, Q_X4⟩
 clear HB HR X4
 have hb0_ := hall 0 (by kernel_rfl)
 have hb1_ := hall 1 (by kernel_rfl)
 have hb2_ := hall 2 (by kernel_rfl)
 have hb3_ := hall 3 (by kernel_rfl)
 have hb4_ := hall 4 (by kernel_rfl)
 have hb5_ := hall 5 (by kernel_rfl)
 have hb6_ := hall 6 (by kernel_rfl)
 have hb7_ := hall 7 (by kernel_rfl)
 have hb8_ := hall 8 (by kernel_rfl)
 have hb9_ := hall 9 (by kernel_rfl)
 have hb10_ := hall 10 (by kernel_rfl)
 have hb11_ := hall 11 (by kernel_rfl)
 have hb12_ := hall 12 (by kernel_rfl)
 subst ha
 simp only [putSel, hb0_, hb1_, hb2_, hb3_, hb4_, hb5_, hb6_, hb7_, hb8_, hb9_, hb10_, hb11_, hb12_, if_true, Act.put, List.setIfInBounds_toArray, List.set_cons_zero, List.set_cons_succ]
 have HR := Aside0.mk Q_HR
 clear Q_HR
 have HB := Aside0.mk Q_HB
 clear Q_HB
 have X4 := Aside0.mk Q_X4
 clear Q_X4
 clear hall hb0_ hb1_ hb2_ hb3_ hb4_ hb5_ hb6_ hb7_ hb8_ hb9_ hb10_ hb11_ hb12_
 go_wp2_with fail
 go_ret2
 exact ⟨rfl, HB.out⟩
def MovePost (v : Int) (w : World) (e : Ending) (w' : World) : Prop := e = .returned (.tuple #[.int .i64 v, .bool true]) ∧ Below w.heap.size w w'
set_option maxHeartbeats 8000000 in
set_option maxRecDepth 100000 in
theorem move_yes (A0 : Option Addr) (c0 : Nat) (l0 : List Rn) (at_ : Int) (behind : Bool) (w : World) (h : RC w A0 l0) (hc : l0.length ≤ c0) (hl : l0.length ≤ 140737488351232) (hg : good l0 = true) (ha : 0 ≤ at_) (hi : at_ ≤ inL l0) :
  Calls Try.prog 14 #[.slice A0 l0.length c0, .int .i64 at_, .bool behind] w (MovePost (mvS at_ behind (stepsL l0 0 0) 0) w) := by
 refine (callsIn_wide (n := 12)).1 ?_
 have HG := Aside0.mk (good_c A0 c0 l0 hc hl)
 have HI := Aside0.mk (in_c A0 c0 l0 hc hl hg)
 rw [hg] at HG
 obtain ⟨g1, g2, g3, g4⟩ := good_ok hg
 have gs := (fits_iff g4 0 0 (by decide) (by decide)).1 g3
 have HOK := Aside0.mk g4
 have HSM := Aside0.mk (show Sums 0 0 E l0 from ⟨by decide, by decide, by omega, by rw [E_size]; omega⟩)
 have HLEN := Aside0.mk g2
 have hM : at_ ≤ 16777216 := by omega
 have H0 := Aside0.mk h
 have HA := Aside0.mk (RC.lt h)
 have a1 : decide (at_ < 0) = false := by simp; omega
 have a2 : decide (inL l0 < at_) = false := by simpa using hi
 obtain ⟨V, hV⟩ : ∃ V, V = mvS at_ behind (stepsL l0 0 0) 0 := ⟨_, rfl⟩
 rw [← hV]
 have HV := Aside0.mk hV
 clear h hc hl hg g1 g2 g3 g4 gs hV hi
 refine callsIn_of_wp_marks Try.func14 rfl trivial ?_ rfl
 simp only [Try.ntmps14, List.size_toArray, List.length_cons, List.length_nil, Nat.reduceAdd, Nat.reduceSub, Array.replicate_succ, Array.replicate_zero, List.push_toArray, List.append_toArray, List.nil_append, List.cons_append]
 gi_wp2
 obtain ⟨w2, hw2⟩ : ∃ w2, w2 = (w.alloc (.cells #[.int .i64 at_] 3)).alloc (.cells #[.bool behind] 4) := ⟨_, rfl⟩
 have hb2 : Below w.heap.size w w2 := by rw [hw2]; exact below_alloc (below_alloc (Below.refl _ _) _) _
 have HB := Aside0.mk hb2
 have HR := Aside0.mk (H0.out.below hb2)
 have X4 := Aside0.mk (show Boxed w2 w.heap.size 3 (.int .i64 at_) by rw [hw2]; exact (Boxed.new w _ _).alloc _)
 have X5 := Aside0.mk (show Boxed w2 (w.heap.size + 1) 4 (.bool behind) by
  rw [hw2]
  have := Boxed.new (w.alloc (.cells #[.int .i64 at_] 3)) 4 (.bool behind)
  rwa [World.size_alloc] at this)
 rw [← hw2]
 clear hw2 hb2
 refine wpIn_wide.2 ?_
 refine start_ (n := 13) (S := fun w' => True) (ds := []) #[false, false, false, false, false, false, false, false, false, false, false, false, false] (by kernel_rfl) rfl rfl trivial (fun hHeld => ?_); refine with_tabW PlaceM.tab1 PlaceM.bits1 (fun HT_ HW_ => ?_)
 refine inv_at [0, 1, 2, 3, 4, 5, 6, 7, 8, 9, 10, 11, 12] (fun a0_ b a w' => a = putSel a0_ b [(0, 10, (.slice A0 l0.length c0)), (1, 11, (.bool true)), (2, 12, (.bool false)), (3, 13, (.bool false)), (4, 14, (.int .i64 at_)), (5, 15, (.bool false)), (6, 16, (.bool false)), (7, 17, (.bool false)), (8, 18, (.int .i64 at_)), (9, 19, (.slice A0 l0.length c0)), (10, 20, (.int .i64 (inL l0))), (11, 21, (.bool false)), (12, 22, (.bool false))] ∧ (RC w' A0 l0) ∧ (Below w.heap.size w w') ∧ (Boxed w' w.heap.size 3 (.int .i64 at_)) ∧ (Boxed w' (w.heap.size + 1) 4 (.bool behind))) HT_.out HW_.out (by kernel_rfl) (by kernel_rfl) ?_ ?_ ?_
 ·exact ⟨by simp only [putSel, Bool.false_eq_true, if_false], HR.out.below (below_drew1 (Below.refl _ _)), below_drew1 HB.out, X4.out.below (below_drew1 (Below.refl _ _)), X5.out.below (below_drew1 (Below.refl _ _))⟩
 ·skip
  clear HB HR X4 X5
  refine steps_cons ?_ ?_
  ·rintro b a w' ⟨ha, Q_HR, Q_HB, Q_X4, Q_X5⟩ hb_ hon hoff
   refine ⟨_, rfl, fun K hK => ?_⟩
   have e0 : a.tmps[0]? = some ((.slice A0 l0.length c0)) := by rw [ha]; exact (putSel_off rfl).trans rfl
   replace ha := Aside0.mk ha
   have HR := Aside0.mk Q_HR
   have HB := Aside0.mk Q_HB
   have X4 := Aside0.mk Q_X4
   have X5 := Aside0.mk Q_X5
   refine value_ (w1 := w') (v := (.slice A0 l0.length c0)) (by rfl) rfl ?_ ?_
   ·go_simp
    (try simp only [i64_w])
    try rfl
   refine hK.out _ _ ⟨(by rw [ha.out]; exact putSel_upk 0 hb_ rfl rfl rfl), Q_HR, Q_HB, Q_X4, Q_X5⟩
  refine steps_cons ?_ ?_
  ·rintro b a w' ⟨ha, Q_HR, Q_HB, Q_X4, Q_X5⟩ hb_ hon hoff
   refine ⟨_, rfl, fun K hK => ?_⟩
   have e10 : a.tmps[10]? = some ((.slice A0 l0.length c0)) := by rw [ha]; exact putSel_on (e := (0, 10, (.slice A0 l0.length c0))) 0 rfl rfl (hon 0 (by kernel_rfl)) rfl
   replace ha := Aside0.mk ha
   have HR := Aside0.mk Q_HR
   have HB := Aside0.mk Q_HB
   have X4 := Aside0.mk Q_X4
   have X5 := Aside0.mk Q_X5
   refine goes_ Try.func24 (by kernel_rfl) rfl #[.slice A0 l0.length c0] (by rfl) rfl rfl (by (simp only [List.map_toArray, List.map_cons, List.map_nil, Act.eval, Array.getD_eq_getD_getElem?, Option.getD_some, e10]; done)) ?_
   refine (HG.out _ HR.out).mono ?_
   rintro e w1_ ⟨rfl, hb⟩
   refine ⟨_, rfl, ?_⟩
   refine hK.out _ _ ⟨(by rw [ha.out]; exact putSel_upk 1 hb_ rfl rfl rfl), HR.out.below hb, below_step HB.out hb, X4.out.below hb, X5.out.below hb⟩
  refine steps_cons ?_ ?_
  ·rintro b a w' ⟨ha, Q_HR, Q_HB, Q_X4, Q_X5⟩ hb_ hon hoff
   refine ⟨_, rfl, fun K hK => ?_⟩
   have e11 : a.tmps[11]? = some ((.bool true)) := by rw [ha]; exact putSel_on (e := (1, 11, (.bool true))) 1 rfl rfl (hon 1 (by kernel_rfl)) rfl
   replace ha := Aside0.mk ha
   have HR := Aside0.mk Q_HR
   have HB := Aside0.mk Q_HB
   have X4 := Aside0.mk Q_X4
   have X5 := Aside0.mk Q_X5
   refine value_ (w1 := w') (v := (.bool false)) (by rfl) rfl ?_ ?_
   ·go_simp
    (try simp only [i64_w])
    try rfl
   refine hK.out _ _ ⟨(by rw [ha.out]; exact putSel_upk 2 hb_ rfl rfl rfl), Q_HR, Q_HB, Q_X4, Q_X5⟩
  refine steps_cons ?_ ?_
  ·rintro b a w' ⟨ha, Q_HR, Q_HB, Q_X4, Q_X5⟩ hb_ hon hoff
   refine ⟨_, rfl, fun K hK => ?_⟩
   have e12 : a.tmps[12]? = some ((.bool false)) := by rw [ha]; exact putSel_on (e := (2, 12, (.bool false))) 2 rfl rfl (hon 2 (by kernel_rfl)) rfl
   replace ha := Aside0.mk ha
   have HR := Aside0.mk Q_HR
   have HB := Aside0.mk Q_HB
   have X4 := Aside0.mk Q_X4
   have X5 := Aside0.mk Q_X5
   refine value_ (w1 := w') (v := (.bool false)) (by rfl) rfl ?_ ?_
   ·go_simp
    (try simp only [i64_w])
    try rfl
   refine hK.out _ _ ⟨(by rw [ha.out]; exact putSel_upk 3 hb_ rfl rfl rfl), Q_HR, Q_HB, Q_X4, Q_X5⟩
  refine steps_cons ?_ ?_
  ·rintro b a w' ⟨ha, Q_HR, Q_HB, Q_X4, Q_X5⟩ hb_ hon hoff
   refine ⟨_, rfl, fun K hK => ?_⟩
   have e4 : a.tmps[4]? = some ((.pointer (some ⟨w.heap.size, 0, none⟩))) := by rw [ha]; exact (putSel_off rfl).trans rfl
   have e13 : a.tmps[13]? = some ((.bool false)) := by rw [ha]; exact putSel_on (e := (3, 13, (.bool false))) 3 rfl rfl (hon 3 (by kernel_rfl)) rfl
   replace ha := Aside0.mk ha
   have HR := Aside0.mk Q_HR
   have HB := Aside0.mk Q_HB
   have X4 := Aside0.mk Q_X4
   have X5 := Aside0.mk Q_X5
   have hc_ := X4.out.cell
   refine value_ (w1 := w') (v := (.int .i64 at_)) (wanted_on rfl rfl rfl (e13.trans (by (rfl)))) rfl ?_ ?_
   ·go_simp
    (try simp only [i64_w])
    try rfl
   refine hK.out _ _ ⟨(by rw [ha.out]; exact putSel_upk 4 hb_ rfl rfl rfl), Q_HR, Q_HB, Q_X4, Q_X5⟩
  refine steps_cons ?_ ?_
  ·rintro b a w' ⟨ha, Q_HR, Q_HB, Q_X4, Q_X5⟩ hb_ hon hoff
   refine ⟨_, rfl, fun K hK => ?_⟩
   have e14 : a.tmps[14]? = some ((.int .i64 at_)) := by rw [ha]; exact putSel_on (e := (4, 14, (.int .i64 at_))) 4 rfl rfl (hon 4 (by kernel_rfl)) rfl
   have e13 : a.tmps[13]? = some ((.bool false)) := by rw [ha]; exact putSel_on (e := (3, 13, (.bool false))) 3 rfl rfl (hon 3 (by kernel_rfl)) rfl
   replace ha := Aside0.mk ha
   have HR := Aside0.mk Q_HR
   have HB := Aside0.mk Q_HB
   have X4 := Aside0.mk Q_X4
   have X5 := Aside0.mk Q_X5
   refine value_ (w1 := w') (v := (.bool false)) (wanted_on rfl rfl rfl (e13.trans (by (rfl)))) rfl ?_ ?_
   ·go_simp
    (try simp only [i64_w])
    try rfl
   refine hK.out _ _ ⟨(by rw [ha.out]; exact putSel_upk 5 hb_ rfl rfl rfl), Q_HR, Q_HB, Q_X4, Q_X5⟩
  refine steps_cons ?_ ?_
  ·rintro b a w' ⟨ha, Q_HR, Q_HB, Q_X4, Q_X5⟩ hb_ hon hoff
   refine ⟨_, rfl, fun K hK => ?_⟩
   have e13 : a.tmps[13]? = some ((.bool false)) := by rw [ha]; exact putSel_on (e := (3, 13, (.bool false))) 3 rfl rfl (hon 3 (by kernel_rfl)) rfl
   have e15 : a.tmps[15]? = some ((.bool false)) := by rw [ha]; exact putSel_on (e := (5, 15, (.bool false))) 5 rfl rfl (hon 5 (by kernel_rfl)) rfl
   replace ha := Aside0.mk ha
   have HR := Aside0.mk Q_HR
   have HB := Aside0.mk Q_HB
   have X4 := Aside0.mk Q_X4
   have X5 := Aside0.mk Q_X5
   refine value_ (w1 := w') (v := (.bool false)) (by rfl) rfl ?_ ?_
   ·go_simp
    (try simp only [i64_w])
    try rfl
   refine hK.out _ _ ⟨(by rw [ha.out]; exact putSel_upk 6 hb_ rfl rfl rfl), Q_HR, Q_HB, Q_X4, Q_X5⟩
  refine steps_cons ?_ ?_
  ·rintro b a w' ⟨ha, Q_HR, Q_HB, Q_X4, Q_X5⟩ hb_ hon hoff
   refine ⟨_, rfl, fun K hK => ?_⟩
   have e16 : a.tmps[16]? = some ((.bool false)) := by rw [ha]; exact putSel_on (e := (6, 16, (.bool false))) 6 rfl rfl (hon 6 (by kernel_rfl)) rfl
   replace ha := Aside0.mk ha
   have HR := Aside0.mk Q_HR
   have HB := Aside0.mk Q_HB
   have X4 := Aside0.mk Q_X4
   have X5 := Aside0.mk Q_X5
   refine value_ (w1 := w') (v := (.bool false)) (by rfl) rfl ?_ ?_
   ·go_simp
    (try simp only [i64_w])
    try rfl
   refine hK.out _ _ ⟨(by rw [ha.out]; exact putSel_upk 7 hb_ rfl rfl rfl), Q_HR, Q_HB, Q_X4, Q_X5⟩
  refine steps_cons ?_ ?_
  ·rintro b a w' ⟨ha, Q_HR, Q_HB, Q_X4, Q_X5⟩ hb_ hon hoff
   refine ⟨_, rfl, fun K hK => ?_⟩
   have e4 : a.tmps[4]? = some ((.pointer (some ⟨w.heap.size, 0, none⟩))) := by rw [ha]; exact (putSel_off rfl).trans rfl
   have e17 : a.tmps[17]? = some ((.bool false)) := by rw [ha]; exact putSel_on (e := (7, 17, (.bool false))) 7 rfl rfl (hon 7 (by kernel_rfl)) rfl
   replace ha := Aside0.mk ha
   have HR := Aside0.mk Q_HR
   have HB := Aside0.mk Q_HB
   have X4 := Aside0.mk Q_X4
   have X5 := Aside0.mk Q_X5
   have hc_ := X4.out.cell
   refine value_ (w1 := w') (v := (.int .i64 at_)) (wanted_on rfl rfl rfl (e17.trans (by (rfl)))) rfl ?_ ?_
   ·go_simp
    (try simp only [i64_w])
    try rfl
   refine hK.out _ _ ⟨(by rw [ha.out]; exact putSel_upk 8 hb_ rfl rfl rfl), Q_HR, Q_HB, Q_X4, Q_X5⟩
  refine steps_cons ?_ ?_
  ·rintro b a w' ⟨ha, Q_HR, Q_HB, Q_X4, Q_X5⟩ hb_ hon hoff
   refine ⟨_, rfl, fun K hK => ?_⟩
   have e0 : a.tmps[0]? = some ((.slice A0 l0.length c0)) := by rw [ha]; exact (putSel_off rfl).trans rfl
   have e17 : a.tmps[17]? = some ((.bool false)) := by rw [ha]; exact putSel_on (e := (7, 17, (.bool false))) 7 rfl rfl (hon 7 (by kernel_rfl)) rfl
   replace ha := Aside0.mk ha
   have HR := Aside0.mk Q_HR
   have HB := Aside0.mk Q_HB
   have X4 := Aside0.mk Q_X4
   have X5 := Aside0.mk Q_X5
   refine value_ (w1 := w') (v := (.slice A0 l0.length c0)) (wanted_on rfl rfl rfl (e17.trans (by (rfl)))) rfl ?_ ?_
   ·go_simp
    (try simp only [i64_w])
    try rfl
   refine hK.out _ _ ⟨(by rw [ha.out]; exact putSel_upk 9 hb_ rfl rfl rfl), Q_HR, Q_HB, Q_X4, Q_X5⟩
  refine steps_cons ?_ ?_
  ·rintro b a w' ⟨ha, Q_HR, Q_HB, Q_X4, Q_X5⟩ hb_ hon hoff
   refine ⟨_, rfl, fun K hK => ?_⟩
   have e19 : a.tmps[19]? = some ((.slice A0 l0.length c0)) := by rw [ha]; exact putSel_on (e := (9, 19, (.slice A0 l0.length c0))) 9 rfl rfl (hon 9 (by kernel_rfl)) rfl
   have e17 : a.tmps[17]? = some ((.bool false)) := by rw [ha]; exact putSel_on (e := (7, 17, (.bool false))) 7 rfl rfl (hon 7 (by kernel_rfl)) rfl
   replace ha := Aside0.mk ha
   have HR := Aside0.mk Q_HR
   have HB := Aside0.mk Q_HB
   have X4 := Aside0.mk Q_X4
   have X5 := Aside0.mk Q_X5
   refine goes_ Try.func26 (by kernel_rfl) rfl #[.slice A0 l0.length c0] (wanted_on rfl rfl rfl (e17.trans (by (rfl)))) rfl rfl (by (simp only [List.map_toArray, List.map_cons, List.map_nil, Act.eval, Array.getD_eq_getD_getElem?, Option.getD_some, e19, e17]; done)) ?_
   refine (HI.out _ HR.out).mono ?_
   rintro e w1_ ⟨rfl, hb⟩
   refine ⟨_, rfl, ?_⟩
   refine hK.out _ _ ⟨(by rw [ha.out]; exact putSel_upk 10 hb_ rfl rfl rfl), HR.out.below hb, below_step HB.out hb, X4.out.below hb, X5.out.below hb⟩
  refine steps_cons ?_ ?_
  ·rintro b a w' ⟨ha, Q_HR, Q_HB, Q_X4, Q_X5⟩ hb_ hon hoff
   refine ⟨_, rfl, fun K hK => ?_⟩
   have e18 : a.tmps[18]? = some ((.int .i64 at_)) := by rw [ha]; exact putSel_on (e := (8, 18, (.int .i64 at_))) 8 rfl rfl (hon 8 (by kernel_rfl)) rfl
   have e20 : a.tmps[20]? = some ((.int .i64 (inL l0))) := by rw [ha]; exact putSel_on (e := (10, 20, (.int .i64 (inL l0)))) 10 rfl rfl (hon 10 (by kernel_rfl)) rfl
   have e17 : a.tmps[17]? = some ((.bool false)) := by rw [ha]; exact putSel_on (e := (7, 17, (.bool false))) 7 rfl rfl (hon 7 (by kernel_rfl)) rfl
   replace ha := Aside0.mk ha
   have HR := Aside0.mk Q_HR
   have HB := Aside0.mk Q_HB
   have X4 := Aside0.mk Q_X4
   have X5 := Aside0.mk Q_X5
   refine value_ (w1 := w') (v := (.bool false)) (wanted_on rfl rfl rfl (e17.trans (by (rfl)))) rfl ?_ ?_
   ·go_simp
    (try simp only [i64_w])
    try rfl
   refine hK.out _ _ ⟨(by rw [ha.out]; exact putSel_upk 11 hb_ rfl rfl rfl), Q_HR, Q_HB, Q_X4, Q_X5⟩
  refine steps_cons ?_ ?_
  ·rintro b a w' ⟨ha, Q_HR, Q_HB, Q_X4, Q_X5⟩ hb_ hon hoff
   refine ⟨_, rfl, fun K hK => ?_⟩
   have e17 : a.tmps[17]? = some ((.bool false)) := by rw [ha]; exact putSel_on (e := (7, 17, (.bool false))) 7 rfl rfl (hon 7 (by kernel_rfl)) rfl
   have e21 : a.tmps[21]? = some ((.bool false)) := by rw [ha]; exact putSel_on (e := (11, 21, (.bool false))) 11 rfl rfl (hon 11 (by kernel_rfl)) rfl
   replace ha := Aside0.mk ha
   have HR := Aside0.mk Q_HR
   have HB := Aside0.mk Q_HB
   have X4 := Aside0.mk Q_X4
   have X5 := Aside0.mk Q_X5
   refine value_ (w1 := w') (v := (.bool false)) (by rfl) rfl ?_ ?_
   ·go_simp
    (try simp only [i64_w])
    try rfl
   refine hK.out _ _ ⟨(by rw [ha.out]; exact putSel_upk 12 hb_ rfl rfl rfl), Q_HR, Q_HB, Q_X4, Q_X5⟩
  exact steps_nil
 rintro b a we hall ⟨ha, Q_HR, Q_HB, Q_X4, Q_X5⟩
 clear HB HR X4 X5
 have hb0_ := hall 0 (by kernel_rfl)
 have hb1_ := hall 1 (by kernel_rfl)
 have hb2_ := hall 2 (by kernel_rfl)
 have hb3_ := hall 3 (by kernel_rfl)
 have hb4_ := hall 4 (by kernel_rfl)
 have hb5_ := hall 5 (by kernel_rfl)
 have hb6_ := hall 6 (by kernel_rfl)
 have hb7_ := hall 7 (by kernel_rfl)
 have hb8_ := hall 8 (by kernel_rfl)
 have hb9_ := hall 9 (by kernel_rfl)
 have hb10_ := hall 10 (by kernel_rfl)
 have hb11_ := hall 11 (by kernel_rfl)
 have hb12_ := hall 12 (by kernel_rfl)
 subst ha
 simp only [putSel, hb0_, hb1_, hb2_, hb3_, hb4_, hb5_, hb6_, hb7_, hb8_, hb9_, hb10_, hb11_, hb12_, if_true, Act.put, List.setIfInBounds_toArray, List.set_cons_zero, List.set_cons_succ]
 have HR := Aside0.mk Q_HR
 clear Q_HR
 have HB := Aside0.mk Q_HB
 clear Q_HB
 have X4 := Aside0.mk Q_X4
 clear Q_X4
 have X5 := Aside0.mk Q_X5
 clear Q_X5
 clear hall hb0_ hb1_ hb2_ hb3_ hb4_ hb5_ hb6_ hb7_ hb8_ hb9_ hb10_ hb11_ hb12_
 gi_wp2
 refine ⟨trivial, ?_⟩
 refine (callsIn_wide.2 (steps_c A0 _ c0 _)).mono ?_
 rintro e w4 ⟨rfl, hw4⟩
 obtain ⟨O, hO⟩ : ∃ O, O = we.heap.size := ⟨_, rfl⟩
 have hOw : w.heap.size + 1 < O := by rw [hO]; exact X5.out.lt
 have hb3 := below_alloc (Below.refl we.heap.size we) (.cells #[.int .i64 0] 3)
 have hz3 : (we.alloc (.cells #[.int .i64 0] 3)).heap.size = we.heap.size + 1 := by simp
 have hb4 : Below we.heap.size we w4 := by rw [hw4]; exact hb3.trans (below_alloc (Below.refl _ _) _ |>.mono (by simp))
 have HB4 := Aside0.mk (show Below w.heap.size w w4 from HB.out.trans (hb4.mono HB.out.size))
 have HX4 := Aside0.mk (X4.out.below hb4)
 have HX5 := Aside0.mk (X5.out.below hb4)
 have HR4 := Aside0.mk (HR.out.below hb4)
 have HO4 := Aside0.mk (show Boxed w4 O 3 (.int .i64 0) by rw [hw4, hO]; exact (Boxed.new we _ _).alloc _)
 obtain ⟨T, hT⟩ : ∃ T, T = we.heap.size + 1 := ⟨_, rfl⟩
 have HT4 := Aside0.mk (show w4.heap[T]? = some (.cells #[.slice A0 l0.length c0] 22 (0, 0)) by
  rw [hw4, hT, ← hz3]; exact Own.heap_new _ _)
 have hT4 := (Array.getElem?_eq_some_iff.1 HT4.out).1
 have HTO := Aside0.mk (show T ≠ O by omega)
 have HZ4 := Aside0.mk (show O < w4.heap.size ∧ T < w4.heap.size ∧ w.heap.size + 1 < O from ⟨HO4.out.lt, hT4, hOw⟩)
 rw [World.size_alloc, ← hT]
 rw [← hO]
 clear hw4 hO hT hz3 hb3 hb4 hOw hT4 X4 X5 HR HB HG HI H0 a1 a2
 gi_wp2
 have HFF := Aside0.mk (show ∀ k, (fun k => k = O) k → k < w4.heap.size from fun k hk => by have := HZ4.out.1; omega)
 have HFF1 : ∀ k, (fun k => k = O) k → k < w4.heap.size := HFF.out
 obtain ⟨L, hL⟩ : ∃ L, L = stepsL l0 0 0 := ⟨_, rfl⟩
 obtain ⟨Q, hQ⟩ : ∃ Q : List St → World → Prop, Q = fun pre W => ∃ d : Int, Boxed W O 3 (.int .i64 d) ∧ mvS at_ behind (L.drop pre.length) d = V := ⟨_, rfl⟩
 have HQQ := Aside0.mk (show ∀ pre W W', (∀ k, (fun k => k = O) k → W'.heap[k]? = W.heap[k]?) → Q pre W → Q pre W' from fun pre W W' hk hq => by
  rw [hQ] at hq ⊢
  obtain ⟨d, h1, h2⟩ := hq
  exact ⟨d, (hk O rfl).trans h1, h2⟩)
 have HXX := Aside0.mk (show ∀ (pre : List St) (W W' : World), (∀ k, (fun k => k = O) k → W'.heap[k]? = W.heap[k]?) → (fun (_ : List St) W => Boxed W O 3 (.int .i64 V)) pre W → (fun (_ : List St) W => Boxed W O 3 (.int .i64 V)) pre W' from fun pre W W' hk hq => (hk O rfl).trans hq)
 have HQE := Aside0.mk hQ
 have HLE := Aside0.mk hL
 clear hQ hL HFF1
 refine range_g (n := 12) (w := w4) (by decide) (gf := 65) (lb := #[.pointer (some ⟨T, 0, none⟩)]) rfl (enters_of Try.func65 (by kernel_rfl) rfl) (fun s : St => #[.agg #[.int .i64 s.r.f0, .string s.r.f1, .int .i64 s.r.f2, .int .i64 s.i, .int .i64 s.o]]) (fun _ => rfl) L (Held A0 c0 T l0)
  (by rw [HLE.out]; exact steps_it A0 c0 T l0 HOK.out HSM.out (by have := HLEN.out; omega)) (Jf w4 (fun k => k = O) Q) (jf_party HFF.out HQQ.out) ?hK (jf_own (Nat.le_refl _) HFF.out HQQ.out) (fun c s W => c = .exit 0 ∧ Jf w4 (fun k => k = O) (fun (_ : List St) W => Boxed W O 3 (.int .i64 V)) [] Priv.none W)
  (fun c s W W' row h hg hr => ⟨h.1, jf_own (Nat.le_refl _) HFF.out HXX.out ([], Priv.none) W W' row h.2 hg hr⟩) ?h0
  (fun x a' W => ∃ Bx, W.heap[Bx]? = some (.cells #[.int .i64 x.r.f0, .string x.r.f1, .int .i64 x.r.f2, .int .i64 x.i, .int .i64 x.o] 76 (0, 0)) ∧ a' = { tmps := #[.slice A0 l0.length c0, .int .i64 at_, .bool behind, undef, .pointer (some ⟨w.heap.size, 0, none⟩), .pointer (some ⟨w.heap.size + 1, 0, none⟩), .int .i64 0, .bool false, .pointer (some ⟨O, 0, none⟩), .pointer (some ⟨Bx, 0, none⟩), .slice A0 l0.length c0, .bool true, .bool false, .bool false, .int .i64 at_, .bool false, .bool false, .bool false, .int .i64 at_, .slice A0 l0.length c0, .int .i64 (inL l0), .bool false, .bool false, .slice A0 l0.length c0, .func (.func 65) #[] #[.pointer (some ⟨T, 0, none⟩)], .agg #[.int .i64 x.r.f0, .string x.r.f1, .int .i64 x.r.f2, .int .i64 x.i, .int .i64 x.o], undef, undef, undef, undef, undef, undef, undef, undef, undef, undef, undef, undef, undef, undef, undef, undef, undef, undef, undef, undef, undef, undef, undef, undef, undef, undef, undef, undef, undef, undef, undef, undef, undef, undef, undef, undef, undef], defers := [] })
  (fun x a' s W W' row hs hg hr => by obtain ⟨Bx, h1, h2⟩ := hs; exact ⟨Bx, (hg.block Bx (Array.getElem?_eq_some_iff.1 h1).1 (fun e => by obtain ⟨_, q, h3, h4⟩ := hr Bx e.symm; rw [h1] at h3; cases h3; cases h4)).trans h1, h2⟩) ?assign ?body ?done ?stop
 case hK =>
  intro pre G W hj
  refine ⟨(hj.but.block _ HZ4.out.2.1 HTO.out).trans HT4.out, C_same HR4.out fun ad e hp => ?_⟩
  have hlt := HA.out ad e hp
  exact hj.but.block _ (by have := HZ4.out; omega) (fun e2 => by have e3 : ad.block = O := e2; have := HZ4.out; omega)
 case h0 => exact jf_start rfl (by rw [HQE.out]; exact ⟨0, HO4.out, by rw [HV.out, HLE.out]; rfl⟩)
 case assign =>
  intro l pre G x W K hj hK
  gi_wp2
  exact hK _ _ ((KeepsOthers.alloc _ _).from _) ((jf_party HFF.out HQQ.out).below hj (below_alloc (Below.refl _ _) _)) ⟨W.heap.size, Own.heap_new _ _, rfl⟩
 case body =>
  rintro l pre x suf G a' W hLp hj ⟨Bx, hx, rfl⟩
  have hq := hj.q
  rw [HQE.out] at hq
  obtain ⟨d, hbo, hmv⟩ := hq
  have hdr : L.drop pre.length = x :: suf := by rw [hLp]; simp
  rw [hdr] at hmv
  have HMV := Aside0.mk (show (if brk at_ behind x then d else mvS at_ behind suf (upd at_ x)) = V from hmv)
  have HNX := Aside0.mk (show L.drop (pre ++ [x]).length = suf by rw [hLp]; simp)
  have bnd := step_bounds l0 0 0 HOK.out (by decide) (by decide) HSM.out.i (by have := HSM.out.o; rw [E_size] at this; exact this) x (by rw [← HLE.out, hLp]; simp)
  obtain ⟨xi0, xo0, xi, xo, xk⟩ := bnd
  have xp := knd_pos xk
  have xf0 := xp.1
  have xf2 := xp.2
  have hxM : x.i ≤ 16777216 := by omega
  have hoM : x.o ≤ 16777216 := by omega
  have hfM : x.r.f0 ≤ 16777216 := by omega
  have hsM : (x.r.f1.size : Int) ≤ 16777216 := by omega
  have HJ := Aside0.mk hj
  have HBO := Aside0.mk hbo
  have c8 := hbo.cell
  have f8 := hbo.frozen
  have b4 : Boxed W w.heap.size 3 (.int .i64 at_) := ((hj.but.block _ (by have := HZ4.out; omega) (fun e => by have e2 : w.heap.size = O := e; have := HZ4.out; omega)).trans HX4.out)
  have b5 : Boxed W (w.heap.size + 1) 4 (.bool behind) := ((hj.but.block _ (by have := HZ4.out; omega) (fun e => by have e2 : w.heap.size + 1 = O := e; have := HZ4.out; omega)).trans HX5.out)
  have c4 := b4.cell
  have c5 := b5.cell
  obtain ⟨x0, x1, x2, x3, x4⟩ := blk_step (s := x) hx
  clear hx hj hbo hmv hdr hLp xk xp b4 b5 xi xo
  by_cases h1 : at_ < x.i
  ·have HBR := Aside0.mk (show brk at_ behind x from .inl h1)
   have hdv : d = V := by have := HMV.out; rwa [if_pos HBR.out] at this
   have HX := Aside0.mk (show Jf w4 (fun k => k = O) (fun (_ : List St) W => Boxed W O 3 (.int .i64 V)) [] Priv.none W from ⟨by rw [← hdv]; exact HBO.out, HJ.out.but, fun k o hk => by cases hk⟩)
   clear hdv
   gi_wp2
   exact ⟨KeepsFrom.refl _ _, rfl, HX.out⟩
  ·by_cases h2 : x.i = at_
   ·have e2 : (x.i == at_) = true := by simpa using h2
    cases behind with
    | false =>
     have HBR := Aside0.mk (show brk at_ false x from .inr ⟨h2, .inl rfl⟩)
     have hdv : d = V := by have := HMV.out; rwa [if_pos HBR.out] at this
     have HX := Aside0.mk (show Jf w4 (fun k => k = O) (fun (_ : List St) W => Boxed W O 3 (.int .i64 V)) [] Priv.none W from ⟨by rw [← hdv]; exact HBO.out, HJ.out.but, fun k o hk => by cases hk⟩)
     clear hdv
     gi_wp2
     exact ⟨KeepsFrom.refl _ _, rfl, HX.out⟩
    | true =>
     by_cases h3 : x.r.f1.size = 0
     ·have q1 : (x.r.f1.toList == ([] : List UInt8)) = true := by rw [tl_beq]; simpa using h3
      have q2 : x.r.f1.toList = [] := tl_nil.2 h3
      have HBR := Aside0.mk (show brk at_ true x from .inr ⟨h2, .inr h3⟩)
      have hdv : d = V := by have := HMV.out; rwa [if_pos HBR.out] at this
      have HX := Aside0.mk (show Jf w4 (fun k => k = O) (fun (_ : List St) W => Boxed W O 3 (.int .i64 V)) [] Priv.none W from ⟨by rw [← hdv]; exact HBO.out, HJ.out.but, fun k o hk => by cases hk⟩)
      clear hdv
      gi_wp2
      exact ⟨KeepsFrom.refl _ _, rfl, HX.out⟩
     ·have q1 : (x.r.f1.toList == ([] : List UInt8)) = false := by rw [tl_beq]; simpa using h3
      have q2 : ¬ x.r.f1.toList = [] := by rw [tl_nil]; exact h3
      have HBR := Aside0.mk (show ¬ brk at_ true x from fun h => h.elim (fun h => h1 h) (fun h => h.2.elim (fun h => by cases h) (fun h => h3 h)))
      have HMV2 := Aside0.mk (show mvS at_ true suf (upd at_ x) = V by have := HMV.out; rwa [if_neg HBR.out] at this)
      by_cases hm : at_ - x.i < x.r.f0
      ·have HU := Aside0.mk (show upd at_ x = x.o + (x.r.f1.size : Int) + (at_ - x.i) by unfold upd; rw [if_pos hm])
       gi_wp2
       exact ⟨(KeepsOthers.setCell _ _ _).from _, jf_step HFF.out HJ.out (ButS.setCell W O 0 _ rfl) (by rw [HQE.out]; exact ⟨_, HBO.out.set _, by rw [HNX.out, ← HMV2.out, HU.out]; (congr 1; omega)⟩)⟩
      ·have HU := Aside0.mk (show upd at_ x = x.o + (x.r.f1.size : Int) + x.r.f0 by unfold upd; rw [if_neg hm])
       gi_wp2
       exact ⟨(KeepsOthers.setCell _ _ _).from _, jf_step HFF.out HJ.out (ButS.setCell W O 0 _ rfl) (by rw [HQE.out]; exact ⟨_, HBO.out.set _, by rw [HNX.out, ← HMV2.out, HU.out]; (done)⟩)⟩
   ·have e2 : (x.i == at_) = false := by simpa using h2
    have HBR := Aside0.mk (show ¬ brk at_ behind x from fun h => h.elim (fun h => h1 h) (fun h => h2 h.1))
    have HMV2 := Aside0.mk (show mvS at_ behind suf (upd at_ x) = V by have := HMV.out; rwa [if_neg HBR.out] at this)
    by_cases hm : at_ - x.i < x.r.f0
    ·have HU := Aside0.mk (show upd at_ x = x.o + (x.r.f1.size : Int) + (at_ - x.i) by unfold upd; rw [if_pos hm])
     gi_wp2
     exact ⟨(KeepsOthers.setCell _ _ _).from _, jf_step HFF.out HJ.out (ButS.setCell W O 0 _ rfl) (by rw [HQE.out]; exact ⟨_, HBO.out.set _, by rw [HNX.out, ← HMV2.out, HU.out]; (done)⟩)⟩
    ·have HU := Aside0.mk (show upd at_ x = x.o + (x.r.f1.size : Int) + x.r.f0 by unfold upd; rw [if_neg hm])
     gi_wp2
     exact ⟨(KeepsOthers.setCell _ _ _).from _, jf_step HFF.out HJ.out (ButS.setCell W O 0 _ rfl) (by rw [HQE.out]; exact ⟨_, HBO.out.set _, by rw [HNX.out, ← HMV2.out, HU.out]; (done)⟩)⟩
 case done =>
  intro D G W hD hj hK
  have hq := hj.q
  rw [HQE.out] at hq
  obtain ⟨d, hbo, hmv⟩ := hq
  rw [List.drop_length] at hmv
  have hdv : d = V := hmv
  subst hdv
  have c8 := hbo.cell
  have HJ := Aside0.mk hj
  have HKD := Aside0.mk hK
  have HDD := Aside0.mk hD
  clear hj hbo hmv hK hD
  gi_wp2
  refine ⟨by simp, .inl ⟨_, _, rfl, run_takeDeferred HKD.out, ?_⟩⟩
  refine ⟨.tuple #[.int .i64 d, .bool true], by simp [results, Try.results14, go_sem], rfl, ?_⟩
  exact (HJ.out.but.below HB4.out (fun k hk => by have := HZ4.out; have e2 : k = O := hk; omega) HB4.out.size).trans ⟨rfl, rfl, rfl, by simp, fun k hk => World.putObj_heap_other (by have := HDD.out; have := HB4.out.size; omega)⟩
 case stop =>
  rintro D c s W hD ⟨rfl, hj⟩ hK
  have c8 := (show Boxed W O 3 (.int .i64 V) from hj.q).cell
  have HJ := Aside0.mk hj
  have HKD := Aside0.mk hK
  have HDD := Aside0.mk hD
  clear hj hK hD
  gi_wp2
  refine ⟨by simp, .inl ⟨_, _, rfl, run_takeDeferred HKD.out, ?_⟩⟩
  refine ⟨.tuple #[.int .i64 V, .bool true], by simp [results, Try.results14, go_sem], rfl, ?_⟩
  exact (HJ.out.but.below HB4.out (fun k hk => by have := HZ4.out; have e2 : k = O := hk; omega) HB4.out.size).trans ⟨rfl, rfl, rfl, by simp, fun k hk => World.putObj_heap_other (by have := HDD.out; have := HB4.out.size; omega)⟩
theorem move_c (A0 : Option Addr) (c0 : Nat) (l0 : List Rn) (at_ : Int) (behind : Bool) (w : World) (h : RC w A0 l0) (hc : l0.length ≤ c0) (hl : l0.length ≤ 140737488351232) :
  Calls Try.prog 14 #[.slice A0 l0.length c0, .int .i64 at_, .bool behind] w fun e w' => e = .returned (.tuple #[.int .i64 (moveL l0 at_ behind).1, .bool (moveL l0 at_ behind).2]) ∧ Below w.heap.size w w' := by
 unfold moveL
 cases hg : good l0 with
 | false => rw [if_neg (fun h => by cases h.1)]; exact move_no1 A0 c0 l0 at_ behind w h hc hl hg
 | true =>
  by_cases ha : at_ < 0
  ·rw [if_neg (fun h => by omega)]; exact move_no2 A0 c0 l0 at_ behind w h hc hl hg ha
  ·by_cases hi : inL l0 < at_
   ·rw [if_neg (fun h => by omega)]; exact move_no3 A0 c0 l0 at_ behind w h hc hl hg (by omega) hi
   ·rw [if_pos ⟨rfl, by omega, by omega⟩]; exact move_yes A0 c0 l0 at_ behind w h hc hl hg (by omega) (by omega)
end Go.Proofs.Ythocalfgeaclgaa.PlaceM
end
-- MERGED YthocalfgeaclgaaPlaceC
section

namespace Go.Proofs.Ythocalfgeaclgaa.PlaceC
open Go.RowKit Go.Shelf Go.Proofs.Ythocalfgeaclgaa.P Go.Proofs.YthocalfgeaclgaaW.PrintWords Go.Proofs.YthocalfgeaclgaaW.PrintLast Go.Proofs.YthocalfgeaclgaaW.PrintMore Go.Proofs.Ythocalfgeaclgaa.Own Go.Proofs.Ythocalfgeaclgaa.EditL Go.Proofs.Ythocalfgeaclgaa.EditK Go.Proofs.Ythocalfgeaclgaa.RangeG Go.Proofs.Ythocalfgeaclgaa.RangeB Go.Proofs.Ythocalfgeaclgaa.EditJ Go.Proofs.Ythocalfgeaclgaa.EditI Go.Proofs.Ythocalfgeaclgaa.EditR Go.Proofs.Ythocalfgeaclgaa.EditF Go.Proofs.Ythocalfgeaclgaa.PlaceI Go.Proofs.Ythocalfgeaclgaa.PlaceM Go.Proofs.Ythocalfgeaclgaa.VaryR
attribute [local go_sem] max2_int min2_int max_two min_two
set_option linter.unusedSimpArgs false
set_option linter.unusedVariables false
structure Sp where
 e0 : Int
 e1 : Int
 found : Bool
def lo (a : Int) (s : St) : Int := if a < s.i then s.i else a
def hi (b : Int) (s : St) : Int := if s.i + s.r.f0 < b then s.i + s.r.f0 else b
def meetL (a b : Int) (s : St) (m : Sp) : Sp := if hi b s ≤ lo a s then m else ⟨if m.found then m.e0 else s.o + lo a s - s.i, s.o + hi b s - s.i, true⟩
def SpIn (BE BF : Nat) (m : Sp) (w : World) : Prop := w.heap[BE]? = some (.cells #[.int .i64 m.e0, .int .i64 m.e1] 77 (0, 0)) ∧ w.heap[BF]? = some (.cells #[.bool m.found] 4 (0, 0))
def MeetPost (BE BF : Nat) (m : Sp) (w : World) (e : Ending) (w' : World) : Prop := (∃ v, e = .returned v) ∧ ButS (fun k => k = BE ∨ k = BF) w w' ∧ SpIn BE BF m w'
set_option maxHeartbeats 4000000 in
set_option maxRecDepth 100000 in
theorem meet_c (BX BE BF : Nat) (a b : Int) (s : St) (m : Sp) (w : World) (hx : w.heap[BX]? = some (.cells #[.int .i64 a, .int .i64 b] 24 (0, 0))) (hm : SpIn BE BF m w) (h1 : BE ≠ BF) (h2 : BX ≠ BE) (h3 : BX ≠ BF)
  (ha : 0 ≤ a) (hb : b ≤ 16777216) (ha2 : a ≤ 16777216) (hb0 : 0 ≤ b) (hi0 : 0 ≤ s.i) (hi1 : s.i + s.r.f0 ≤ 16777216) (ho0 : 0 ≤ s.o) (ho1 : s.o ≤ 16777216) (hf0 : 0 ≤ s.r.f0) :
  Calls Try.prog 51 #[.agg #[.int .i64 s.r.f0, .string s.r.f1, .int .i64 s.r.f2, .int .i64 s.i, .int .i64 s.o], .pointer (some ⟨BX, 0, none⟩), .pointer (some ⟨BF, 0, none⟩), .pointer (some ⟨BE, 0, none⟩)] w (MeetPost BE BF (meetL a b s m) w) := by
 have hE := hm.1
 have hF := hm.2
 have HX := Aside0.mk hx
 have HM := Aside0.mk hm
 have H1 := Aside0.mk h1
 have hsi : s.i ≤ 16777216 := by omega
 have hsf : s.r.f0 ≤ 16777216 := by omega
 have hXl := (Array.getElem?_eq_some_iff.1 hx).1
 have hEl := (Array.getElem?_eq_some_iff.1 hE).1
 have hFl := (Array.getElem?_eq_some_iff.1 hF).1
 have cx0 : w.cell? ⟨BX, 0, none⟩ = some (.int .i64 a) := by rw [cell_of_row w _ 0 _ _ _ hx]; rfl
 have cx1 : w.cell? ⟨BX, 1, none⟩ = some (.int .i64 b) := by rw [cell_of_row w _ 1 _ _ _ hx]; rfl
 clear hx hm hE hF
 go_enter Try.func51, Try.ntmps51
 go_wp2_with fail
 go_quiet (fail)
 obtain ⟨F, hF⟩ : ∃ F, F = lo a s := ⟨_, rfl⟩
 obtain ⟨T, hT⟩ : ∃ T, T = hi b s := ⟨_, rfl⟩
 rw [show (if a < s.i then s.i else a) = F from hF.symm, show (if s.i + s.r.f0 < b then s.i + s.r.f0 else b) = T from hT.symm]
 have hFb : 0 ≤ F ∧ F ≤ 16777216 := by rw [hF]; unfold lo; split <;> omega
 have hTb : 0 ≤ T ∧ T ≤ 16777216 := by rw [hT]; unfold hi; split <;> omega
 have hML : meetL a b s m = if T ≤ F then m else ⟨if m.found then m.e0 else s.o + F - s.i, s.o + T - s.i, true⟩ := by rw [hF, hT]; rfl
 have HML := Aside0.mk hML
 obtain ⟨hF0, hF1⟩ := hFb
 obtain ⟨hT0, hT1⟩ := hTb
 obtain ⟨w5, hw5⟩ : ∃ w5, w5 = ((w.alloc (.cells #[.int .i64 s.r.f0, .string s.r.f1, .int .i64 s.r.f2, .int .i64 s.i, .int .i64 s.o] 76)).drewN nq) := ⟨_, rfl⟩
 have hb5 : Below w.heap.size w w5 := by rw [hw5]; exact pw_below_drewN (below_alloc (Below.refl _ _) _) _
 have hs5 : w5.heap[w.heap.size]? = some (scs s) := by rw [hw5]; exact Own.heap_new w _
 have hE5 := (hb5.block BE hEl).trans HM.out.1
 have hF5 := (hb5.block BF hFl).trans HM.out.2
 rw [← hw5]
 have HBS := Aside0.mk (ButS.of_below (F := fun k => k = BE ∨ k = BF) hb5)
 have HE5 := Aside0.mk hE5
 have HF5 := Aside0.mk hF5
 obtain ⟨y0, y1, y2, y3, y4⟩ := blk_step hs5
 have cf : w5.cell? ⟨BF, 0, none⟩ = some (.bool m.found) := by rw [cell_of_row w5 _ 0 _ _ _ hF5]; rfl
 have ce0 : w5.cell? ⟨BE, 0, none⟩ = some (.int .i64 m.e0) := by rw [cell_of_row w5 _ 0 _ _ _ hE5]; rfl
 have ce1 : w5.cell? ⟨BE, 1, none⟩ = some (.int .i64 m.e1) := by rw [cell_of_row w5 _ 1 _ _ _ hE5]; rfl
 have ff : w5.frozen? ⟨BF, 0, none⟩ = false := frozen_of_row w5 _ 0 _ _ hF5
 have fe0 : w5.frozen? ⟨BE, 0, none⟩ = false := frozen_of_row w5 _ 0 _ _ hE5
 have fe1 : w5.frozen? ⟨BE, 1, none⟩ = false := frozen_of_row w5 _ 1 _ _ hE5
 have n1 : BE ≠ BF := H1.out
 have n2 : BF ≠ BE := fun e => H1.out e.symm
 have n3 : BE ≠ w.heap.size := by omega
 have n4 : BF ≠ w.heap.size := by omega
 have n5 : w.heap.size ≠ BE := by omega
 have n6 : w.heap.size ≠ BF := by omega
 clear hF hT hML hw5 hb5 hs5 hE5 hF5 cx0 cx1
 by_cases hTF : T ≤ F
 ·have HV := Aside0.mk (show meetL a b s m = m by rw [HML.out, if_pos hTF])
  go_wp2_with fail
  refine bodyPost_ret (results_none rfl _ _ _) rfl ?_
  exact ⟨⟨_, rfl⟩, HBS.out, by rw [HV.out]; exact ⟨HE5.out, HF5.out⟩⟩
 ·obtain ⟨m0, m1, mf⟩ := m
  have HV := Aside0.mk (show meetL a b s ⟨m0, m1, mf⟩ = ⟨if mf then m0 else s.o + F - s.i, s.o + T - s.i, true⟩ by rw [HML.out, if_neg hTF])
  simp only at cf ce0 ce1
  have hTF2 : F < T := by omega
  cases mf with
  | true =>
   go_wp2_with fail
   refine bodyPost_end (results_none rfl _ _ _) rfl ?_
   refine ⟨⟨_, rfl⟩, (HBS.out.trans (ButS.setCell _ _ _ _ (.inl rfl))).trans (ButS.setCell _ _ _ _ (.inr rfl)), ?_⟩
   rw [HV.out]
   exact ⟨(Below.heap_setCell _ ⟨BF, 0, none⟩ _ _ n1).trans (blk_put HE5.out 1 _ rfl), blk_put ((Below.heap_setCell _ ⟨BE, 1, none⟩ _ _ n2).trans HF5.out) 0 _ rfl⟩
  | false =>
   go_wp2_with fail
   refine bodyPost_end (results_none rfl _ _ _) rfl ?_
   refine ⟨⟨_, rfl⟩, ((HBS.out.trans (ButS.setCell _ _ _ _ (.inl rfl))).trans (ButS.setCell _ _ _ _ (.inl rfl))).trans (ButS.setCell _ _ _ _ (.inr rfl)), ?_⟩
   rw [HV.out]
   exact ⟨(Below.heap_setCell _ ⟨BF, 0, none⟩ _ _ n1).trans (blk_put (blk_put HE5.out 0 _ rfl) 1 _ rfl), blk_put ((Below.heap_setCell _ ⟨BE, 1, none⟩ _ _ n2).trans ((Below.heap_setCell _ ⟨BE, 0, none⟩ _ _ n2).trans HF5.out)) 0 _ rfl⟩
end Go.Proofs.Ythocalfgeaclgaa.PlaceC
end
-- MERGED YthocalfgeaclgaaPlaceS
section

namespace Go.Proofs.Ythocalfgeaclgaa.PlaceS
open Go.RowKit Go.Shelf Go.Proofs.Ythocalfgeaclgaa.P Go.Proofs.YthocalfgeaclgaaW.PrintWords Go.Proofs.YthocalfgeaclgaaW.PrintLast Go.Proofs.YthocalfgeaclgaaW.PrintMore Go.Proofs.Ythocalfgeaclgaa.Own Go.Proofs.Ythocalfgeaclgaa.EditL Go.Proofs.Ythocalfgeaclgaa.EditK Go.Proofs.Ythocalfgeaclgaa.RangeG Go.Proofs.Ythocalfgeaclgaa.RangeB Go.Proofs.Ythocalfgeaclgaa.EditJ Go.Proofs.Ythocalfgeaclgaa.EditI Go.Proofs.Ythocalfgeaclgaa.EditR Go.Proofs.Ythocalfgeaclgaa.EditF Go.Proofs.Ythocalfgeaclgaa.PlaceI Go.Proofs.Ythocalfgeaclgaa.PlaceM Go.Proofs.Ythocalfgeaclgaa.PlaceC Go.Proofs.Ythocalfgeaclgaa.VaryR
attribute [local go_sem] Oper.semAt_some max2_int min2_int max_two min_two
set_option linter.unusedSimpArgs false
set_option linter.unusedVariables false
def Sx (BX : Nat) (a b : Int) (w : World) : Prop := w.heap[BX]? = some (.cells #[.int .i64 a, .int .i64 b] 24 (0, 0))
theorem Sx.below {BX : Nat} {a b : Int} {w w' : World} (h : Sx BX a b w) (hb : Below w.heap.size w w') : Sx BX a b w' := (hb.block _ (Array.getElem?_eq_some_iff.1 h).1).trans h
theorem Sx.c0 {BX : Nat} {a b : Int} {w : World} (h : Sx BX a b w) : w.cell? ⟨BX, 0, none⟩ = some (.int .i64 a) := by rw [cell_of_row w _ 0 _ _ _ h]; rfl
theorem Sx.c1 {BX : Nat} {a b : Int} {w : World} (h : Sx BX a b w) : w.cell? ⟨BX, 1, none⟩ = some (.int .i64 b) := by rw [cell_of_row w _ 1 _ _ _ h]; rfl
theorem Sx.fz {BX : Nat} {a b : Int} {w : World} (h : Sx BX a b w) (o : Nat) : w.frozen? ⟨BX, o, none⟩ = false := frozen_of_row w _ o _ _ h
def spS (a b : Int) : List St → Sp → Sp
 | [], m => m
 | s :: l, m => spS a b l (meetL a b s m)
def spanL (op : List Rn) (a b : Int) : (Int × Int) × Bool :=
 if good op = true ∧ 0 ≤ a ∧ a ≤ b ∧ b ≤ inL op then
  (if (spS a b (stepsL op 0 0) ⟨0, 0, false⟩).found then ((spS a b (stepsL op 0 0) ⟨0, 0, false⟩).e0, (spS a b (stepsL op 0 0) ⟨0, 0, false⟩).e1) else ((moveL op a false).1, (moveL op a false).1), true)
 else ((0, 0), false)
def PlaceS.T1 : Bool × List (List Nat × List Nat) := (true, [([], []), ([0], [0]), ([1], [1]), ([2, 1], [2]), ([3], [3]), ([4, 3], [3, 4]), ([5, 3], [3, 5]), ([3, 6], [3, 6]), ([7, 3], [7]), ([8], [8]), ([9, 8], [8, 9]), ([8], [8]), ([11, 8], [8, 11]), ([10, 12, 8], [8, 10, 12]), ([8, 13], [8, 13]), ([14, 8], [14]), ([15], [15]), ([16, 15], [15, 16]), ([15], [15]), ([18, 15, 15], [15, 18]), ([17, 19, 15], [15, 17, 19]), ([15, 20], [15, 20])])
def PlaceS.B1 : List Nat := [0, 1, 3, 7, 15, 31, 63, 127, 255, 511, 1023, 511, 2559, 8191, 16383, 32767, 65535, 131071, 65535, 327679, 1048575, 2097151]
theorem PlaceS.tab1 : rtab .any (opsOf Try.f16 1) = PlaceS.T1 := by kernel_rfl
theorem PlaceS.bits1 : waitsOk PlaceS.T1.2 PlaceS.B1 = true := by kernel_rfl
theorem res_span (tmps : Array Value) (W : World) (BR : Nat) (x y : Int) (b : Bool) (h4 : tmps.getD 4 undef = .pointer (some ⟨BR, 0, none⟩)) (h5 : tmps.getD 5 undef = .bool b) (hB : Sx BR x y W) :
  (results Try.f16 tmps).run Try.prog W = .ok (.tuple #[.agg #[.int .i64 x, .int .i64 y], .bool b]) W := by
 have h4' : tmps[4]?.getD undef = .pointer (some ⟨BR, 0, none⟩) := by simpa using h4
 have h5' : tmps[5]?.getD undef = .bool b := by simpa using h5
 have c0 := hB.c0
 have c1 := hB.c1
 simp [results, Try.results16, h4', h5', c0, c1, go_sem]
def SpanPost (v : (Int × Int) × Bool) (w : World) (e : Ending) (w' : World) : Prop := e = .returned (.tuple #[.agg #[.int .i64 v.1.1, .int .i64 v.1.2], .bool v.2]) ∧ Below w.heap.size w w'
theorem below_set' {B : Nat} {w W : World} (h : Below B w W) {b o : Nat} {u : Value} (hb : B ≤ b) : Below B w (W.setCell ⟨b, o, none⟩ u) := h.setCell (p := ⟨b, o, none⟩) hb u
set_option maxHeartbeats 4000000 in
set_option maxRecDepth 100000 in
theorem span_no1 (A0 : Option Addr) (c0 : Nat) (l0 : List Rn) (xa xb : Int) (w : World) (h : RC w A0 l0) (hc : l0.length ≤ c0) (hl : l0.length ≤ 140737488351232) (hg : good l0 = false) :
  Calls Try.prog 16 #[.slice A0 l0.length c0, .agg #[.int .i64 xa, .int .i64 xb]] w (SpanPost ((0, 0), false) w) := by
 have HG := Aside0.mk (good_c A0 c0 l0 hc hl)
 rw [hg] at HG
 have H0 := Aside0.mk h
 clear h hc hl hg
 go_enter Try.func16, Try.ntmps16
 go_wp2_with fail
 obtain ⟨w2, hw2⟩ : ∃ w2, w2 = (w.alloc (.cells #[.int .i64 xa, .int .i64 xb] 24)).alloc (.cells #[.int .i64 0, .int .i64 0] 24) := ⟨_, rfl⟩
 have hb2 : Below w.heap.size w w2 := by rw [hw2]; exact below_alloc (below_alloc (Below.refl _ _) _) _
 have HB := Aside0.mk hb2
 have HR := Aside0.mk (H0.out.below hb2)
 have X3 := Aside0.mk (show Sx w.heap.size xa xb w2 by rw [hw2]; exact (show Sx w.heap.size xa xb (w.alloc _) from Own.heap_new w _).below (below_alloc (Below.refl _ _) _))
 have X4 := Aside0.mk (show Sx (w.heap.size + 1) 0 0 w2 by
  rw [hw2]
  have := Own.heap_new (w.alloc (.cells #[.int .i64 xa, .int .i64 xb] 24)) (.cells #[.int .i64 0, .int .i64 0] 24)
  rwa [World.size_alloc] at this)
 rw [← hw2]
 clear hw2 hb2
 refine start_ (n := 22) (S := fun w' => True) (ds := []) #[false, false, false, false, false, false, false, false, false, false, false, false, false, false, false, false, false, false, false, false, false, false] (by kernel_rfl) rfl rfl trivial (fun hHeld => ?_); refine with_tabW PlaceS.tab1 PlaceS.bits1 (fun HT_ HW_ => ?_)
 refine inv_at [0, 1, 2, 3, 4, 5, 6, 7, 8, 9, 10, 11, 12, 13, 14, 15, 16, 17, 18, 19, 20, 21] (fun a0_ b a w' => a = putSel a0_ b [(0, 12, (.slice A0 l0.length c0)), (1, 13, (.bool false)), (2, 14, (.bool true)), (3, 15, (.bool true)), (4, 16, undef), (5, 17, undef), (6, 18, undef), (7, 19, (.bool true)), (8, 20, (.bool true)), (9, 21, undef), (10, 22, undef), (11, 23, undef), (12, 24, undef), (13, 25, undef), (14, 26, (.bool true)), (15, 27, (.bool true)), (16, 28, undef), (17, 29, undef), (18, 30, undef), (19, 31, undef), (20, 32, undef), (21, 33, (.bool true))] ∧ (RC w' A0 l0) ∧ (Below w.heap.size w w') ∧ (Sx w.heap.size xa xb w') ∧ (Sx (w.heap.size + 1) 0 0 w')) HT_.out HW_.out (by kernel_rfl) (by kernel_rfl) ?_ ?_ ?_
 ·exact ⟨by simp only [putSel, Bool.false_eq_true, if_false], HR.out.below (below_drew1 (Below.refl _ _)), below_drew1 HB.out, X3.out.below (below_drew1 (Below.refl _ _)), X4.out.below (below_drew1 (Below.refl _ _))⟩
 ·skip
  clear HB HR X3 X4
  refine steps_cons ?_ ?_
  ·rintro b a w' ⟨ha, Q_HR, Q_HB, Q_X3, Q_X4⟩ hb_ hon hoff
   refine ⟨_, rfl, fun K hK => ?_⟩
   have e0 : a.tmps[0]? = some ((.slice A0 l0.length c0)) := by rw [ha]; exact (putSel_off rfl).trans rfl
   replace ha := Aside0.mk ha
   have HR := Aside0.mk Q_HR
   have HB := Aside0.mk Q_HB
   have X3 := Aside0.mk Q_X3
   have X4 := Aside0.mk Q_X4
   refine value_ (w1 := w') (v := (.slice A0 l0.length c0)) (by rfl) rfl ?_ ?_
   ·go_simp
    (try simp only [i64_w])
    try rfl
   refine hK.out _ _ ⟨(by rw [ha.out]; exact putSel_upk 0 hb_ rfl rfl rfl), Q_HR, Q_HB, Q_X3, Q_X4⟩
  refine steps_cons ?_ ?_
  ·rintro b a w' ⟨ha, Q_HR, Q_HB, Q_X3, Q_X4⟩ hb_ hon hoff
   refine ⟨_, rfl, fun K hK => ?_⟩
   have e12 : a.tmps[12]? = some ((.slice A0 l0.length c0)) := by rw [ha]; exact putSel_on (e := (0, 12, (.slice A0 l0.length c0))) 0 rfl rfl (hon 0 (by kernel_rfl)) rfl
   replace ha := Aside0.mk ha
   have HR := Aside0.mk Q_HR
   have HB := Aside0.mk Q_HB
   have X3 := Aside0.mk Q_X3
   have X4 := Aside0.mk Q_X4
   refine goes_ Try.func24 (by kernel_rfl) rfl #[.slice A0 l0.length c0] (by rfl) rfl rfl (by (simp only [List.map_toArray, List.map_cons, List.map_nil, Act.eval, Array.getD_eq_getD_getElem?, Option.getD_some, e12]; done)) ?_
   refine (HG.out _ HR.out).mono ?_
   rintro e w1_ ⟨rfl, hb⟩
   refine ⟨_, rfl, ?_⟩
   refine hK.out _ _ ⟨(by rw [ha.out]; exact putSel_upk 1 hb_ rfl rfl rfl), HR.out.below hb, below_step HB.out hb, X3.out.below hb, X4.out.below hb⟩
  refine steps_cons ?_ ?_
  ·rintro b a w' ⟨ha, Q_HR, Q_HB, Q_X3, Q_X4⟩ hb_ hon hoff
   refine ⟨_, rfl, fun K hK => ?_⟩
   have e13 : a.tmps[13]? = some ((.bool false)) := by rw [ha]; exact putSel_on (e := (1, 13, (.bool false))) 1 rfl rfl (hon 1 (by kernel_rfl)) rfl
   replace ha := Aside0.mk ha
   have HR := Aside0.mk Q_HR
   have HB := Aside0.mk Q_HB
   have X3 := Aside0.mk Q_X3
   have X4 := Aside0.mk Q_X4
   refine value_ (w1 := w') (v := (.bool true)) (by rfl) rfl ?_ ?_
   ·go_simp
    (try simp only [i64_w])
    try rfl
   refine hK.out _ _ ⟨(by rw [ha.out]; exact putSel_upk 2 hb_ rfl rfl rfl), Q_HR, Q_HB, Q_X3, Q_X4⟩
  refine steps_cons ?_ ?_
  ·rintro b a w' ⟨ha, Q_HR, Q_HB, Q_X3, Q_X4⟩ hb_ hon hoff
   refine ⟨_, rfl, fun K hK => ?_⟩
   have e14 : a.tmps[14]? = some ((.bool true)) := by rw [ha]; exact putSel_on (e := (2, 14, (.bool true))) 2 rfl rfl (hon 2 (by kernel_rfl)) rfl
   replace ha := Aside0.mk ha
   have HR := Aside0.mk Q_HR
   have HB := Aside0.mk Q_HB
   have X3 := Aside0.mk Q_X3
   have X4 := Aside0.mk Q_X4
   refine value_ (w1 := w') (v := (.bool true)) (by rfl) rfl ?_ ?_
   ·go_simp
    (try simp only [i64_w])
    try rfl
   refine hK.out _ _ ⟨(by rw [ha.out]; exact putSel_upk 3 hb_ rfl rfl rfl), Q_HR, Q_HB, Q_X3, Q_X4⟩
  refine steps_cons ?_ ?_
  ·rintro b a w' ⟨ha, Q_HR, Q_HB, Q_X3, Q_X4⟩ hb_ hon hoff
   refine ⟨_, rfl, fun K hK => ?_⟩
   have e15 : a.tmps[15]? = some ((.bool true)) := by rw [ha]; exact putSel_on (e := (3, 15, (.bool true))) 3 rfl rfl (hon 3 (by kernel_rfl)) rfl
   replace ha := Aside0.mk ha
   have HR := Aside0.mk Q_HR
   have HB := Aside0.mk Q_HB
   have X3 := Aside0.mk Q_X3
   have X4 := Aside0.mk Q_X4
   refine off_ (wanted_off rfl rfl rfl (e15.trans (by (rfl)))) ?_
   refine hK.out _ _ ⟨(by rw [ha.out]; exact putSel_upk 4 hb_ rfl rfl rfl), Q_HR, Q_HB, Q_X3, Q_X4⟩
  refine steps_cons ?_ ?_
  ·rintro b a w' ⟨ha, Q_HR, Q_HB, Q_X3, Q_X4⟩ hb_ hon hoff
   refine ⟨_, rfl, fun K hK => ?_⟩
   have e15 : a.tmps[15]? = some ((.bool true)) := by rw [ha]; exact putSel_on (e := (3, 15, (.bool true))) 3 rfl rfl (hon 3 (by kernel_rfl)) rfl
   replace ha := Aside0.mk ha
   have HR := Aside0.mk Q_HR
   have HB := Aside0.mk Q_HB
   have X3 := Aside0.mk Q_X3
   have X4 := Aside0.mk Q_X4
   refine off_ (wanted_off rfl rfl rfl (e15.trans (by (rfl)))) ?_
   refine hK.out _ _ ⟨(by rw [ha.out]; exact putSel_upk 5 hb_ rfl rfl rfl), Q_HR, Q_HB, Q_X3, Q_X4⟩
  refine steps_cons ?_ ?_
  ·rintro b a w' ⟨ha, Q_HR, Q_HB, Q_X3, Q_X4⟩ hb_ hon hoff
   refine ⟨_, rfl, fun K hK => ?_⟩
   have e15 : a.tmps[15]? = some ((.bool true)) := by rw [ha]; exact putSel_on (e := (3, 15, (.bool true))) 3 rfl rfl (hon 3 (by kernel_rfl)) rfl
   replace ha := Aside0.mk ha
   have HR := Aside0.mk Q_HR
   have HB := Aside0.mk Q_HB
   have X3 := Aside0.mk Q_X3
   have X4 := Aside0.mk Q_X4
   refine off_ (wanted_off rfl rfl rfl (e15.trans (by (rfl)))) ?_
   refine hK.out _ _ ⟨(by rw [ha.out]; exact putSel_upk 6 hb_ rfl rfl rfl), Q_HR, Q_HB, Q_X3, Q_X4⟩
  refine steps_cons ?_ ?_
  ·rintro b a w' ⟨ha, Q_HR, Q_HB, Q_X3, Q_X4⟩ hb_ hon hoff
   refine ⟨_, rfl, fun K hK => ?_⟩
   have e15 : a.tmps[15]? = some ((.bool true)) := by rw [ha]; exact putSel_on (e := (3, 15, (.bool true))) 3 rfl rfl (hon 3 (by kernel_rfl)) rfl
   have e18 : a.tmps[18]? = some (undef) := by rw [ha]; exact putSel_on (e := (6, 18, undef)) 6 rfl rfl (hon 6 (by kernel_rfl)) rfl
   replace ha := Aside0.mk ha
   have HR := Aside0.mk Q_HR
   have HB := Aside0.mk Q_HB
   have X3 := Aside0.mk Q_X3
   have X4 := Aside0.mk Q_X4
   refine value_ (w1 := w') (v := (.bool true)) (by rfl) rfl ?_ ?_
   ·go_simp
    (try simp only [i64_w])
    try rfl
   refine hK.out _ _ ⟨(by rw [ha.out]; exact putSel_upk 7 hb_ rfl rfl rfl), Q_HR, Q_HB, Q_X3, Q_X4⟩
  refine steps_cons ?_ ?_
  ·rintro b a w' ⟨ha, Q_HR, Q_HB, Q_X3, Q_X4⟩ hb_ hon hoff
   refine ⟨_, rfl, fun K hK => ?_⟩
   have e19 : a.tmps[19]? = some ((.bool true)) := by rw [ha]; exact putSel_on (e := (7, 19, (.bool true))) 7 rfl rfl (hon 7 (by kernel_rfl)) rfl
   replace ha := Aside0.mk ha
   have HR := Aside0.mk Q_HR
   have HB := Aside0.mk Q_HB
   have X3 := Aside0.mk Q_X3
   have X4 := Aside0.mk Q_X4
   refine value_ (w1 := w') (v := (.bool true)) (by rfl) rfl ?_ ?_
   ·go_simp
    (try simp only [i64_w])
    try rfl
   refine hK.out _ _ ⟨(by rw [ha.out]; exact putSel_upk 8 hb_ rfl rfl rfl), Q_HR, Q_HB, Q_X3, Q_X4⟩
  refine steps_cons ?_ ?_
  ·rintro b a w' ⟨ha, Q_HR, Q_HB, Q_X3, Q_X4⟩ hb_ hon hoff
   refine ⟨_, rfl, fun K hK => ?_⟩
   have e20 : a.tmps[20]? = some ((.bool true)) := by rw [ha]; exact putSel_on (e := (8, 20, (.bool true))) 8 rfl rfl (hon 8 (by kernel_rfl)) rfl
   replace ha := Aside0.mk ha
   have HR := Aside0.mk Q_HR
   have HB := Aside0.mk Q_HB
   have X3 := Aside0.mk Q_X3
   have X4 := Aside0.mk Q_X4
   refine off_ (wanted_off rfl rfl rfl (e20.trans (by (rfl)))) ?_
   refine hK.out _ _ ⟨(by rw [ha.out]; exact putSel_upk 9 hb_ rfl rfl rfl), Q_HR, Q_HB, Q_X3, Q_X4⟩
  refine steps_cons ?_ ?_
  ·rintro b a w' ⟨ha, Q_HR, Q_HB, Q_X3, Q_X4⟩ hb_ hon hoff
   refine ⟨_, rfl, fun K hK => ?_⟩
   have e20 : a.tmps[20]? = some ((.bool true)) := by rw [ha]; exact putSel_on (e := (8, 20, (.bool true))) 8 rfl rfl (hon 8 (by kernel_rfl)) rfl
   replace ha := Aside0.mk ha
   have HR := Aside0.mk Q_HR
   have HB := Aside0.mk Q_HB
   have X3 := Aside0.mk Q_X3
   have X4 := Aside0.mk Q_X4
   refine off_ (wanted_off rfl rfl rfl (e20.trans (by (rfl)))) ?_
   refine hK.out _ _ ⟨(by rw [ha.out]; exact putSel_upk 10 hb_ rfl rfl rfl), Q_HR, Q_HB, Q_X3, Q_X4⟩
  refine steps_cons ?_ ?_
  ·rintro b a w' ⟨ha, Q_HR, Q_HB, Q_X3, Q_X4⟩ hb_ hon hoff
   refine ⟨_, rfl, fun K hK => ?_⟩
   have e20 : a.tmps[20]? = some ((.bool true)) := by rw [ha]; exact putSel_on (e := (8, 20, (.bool true))) 8 rfl rfl (hon 8 (by kernel_rfl)) rfl
   replace ha := Aside0.mk ha
   have HR := Aside0.mk Q_HR
   have HB := Aside0.mk Q_HB
   have X3 := Aside0.mk Q_X3
   have X4 := Aside0.mk Q_X4
   refine off_ (wanted_off rfl rfl rfl (e20.trans (by (rfl)))) ?_
   refine hK.out _ _ ⟨(by rw [ha.out]; exact putSel_upk 11 hb_ rfl rfl rfl), Q_HR, Q_HB, Q_X3, Q_X4⟩
  refine steps_cons ?_ ?_
  ·rintro b a w' ⟨ha, Q_HR, Q_HB, Q_X3, Q_X4⟩ hb_ hon hoff
   refine ⟨_, rfl, fun K hK => ?_⟩
   have e20 : a.tmps[20]? = some ((.bool true)) := by rw [ha]; exact putSel_on (e := (8, 20, (.bool true))) 8 rfl rfl (hon 8 (by kernel_rfl)) rfl
   replace ha := Aside0.mk ha
   have HR := Aside0.mk Q_HR
   have HB := Aside0.mk Q_HB
   have X3 := Aside0.mk Q_X3
   have X4 := Aside0.mk Q_X4
   refine off_ (wanted_off rfl rfl rfl (e20.trans (by (rfl)))) ?_
   refine hK.out _ _ ⟨(by rw [ha.out]; exact putSel_upk 12 hb_ rfl rfl rfl), Q_HR, Q_HB, Q_X3, Q_X4⟩
  refine steps_cons ?_ ?_
  ·rintro b a w' ⟨ha, Q_HR, Q_HB, Q_X3, Q_X4⟩ hb_ hon hoff
   refine ⟨_, rfl, fun K hK => ?_⟩
   have e20 : a.tmps[20]? = some ((.bool true)) := by rw [ha]; exact putSel_on (e := (8, 20, (.bool true))) 8 rfl rfl (hon 8 (by kernel_rfl)) rfl
   replace ha := Aside0.mk ha
   have HR := Aside0.mk Q_HR
   have HB := Aside0.mk Q_HB
   have X3 := Aside0.mk Q_X3
   have X4 := Aside0.mk Q_X4
   refine off_ (wanted_off rfl rfl rfl (e20.trans (by (rfl)))) ?_
   refine hK.out _ _ ⟨(by rw [ha.out]; exact putSel_upk 13 hb_ rfl rfl rfl), Q_HR, Q_HB, Q_X3, Q_X4⟩
  refine steps_cons ?_ ?_
  ·rintro b a w' ⟨ha, Q_HR, Q_HB, Q_X3, Q_X4⟩ hb_ hon hoff
   refine ⟨_, rfl, fun K hK => ?_⟩
   have e20 : a.tmps[20]? = some ((.bool true)) := by rw [ha]; exact putSel_on (e := (8, 20, (.bool true))) 8 rfl rfl (hon 8 (by kernel_rfl)) rfl
   have e25 : a.tmps[25]? = some (undef) := by rw [ha]; exact putSel_on (e := (13, 25, undef)) 13 rfl rfl (hon 13 (by kernel_rfl)) rfl
   replace ha := Aside0.mk ha
   have HR := Aside0.mk Q_HR
   have HB := Aside0.mk Q_HB
   have X3 := Aside0.mk Q_X3
   have X4 := Aside0.mk Q_X4
   refine value_ (w1 := w') (v := (.bool true)) (by rfl) rfl ?_ ?_
   ·go_simp
    (try simp only [i64_w])
    try rfl
   refine hK.out _ _ ⟨(by rw [ha.out]; exact putSel_upk 14 hb_ rfl rfl rfl), Q_HR, Q_HB, Q_X3, Q_X4⟩
  refine steps_cons ?_ ?_
  ·rintro b a w' ⟨ha, Q_HR, Q_HB, Q_X3, Q_X4⟩ hb_ hon hoff
   refine ⟨_, rfl, fun K hK => ?_⟩
   have e26 : a.tmps[26]? = some ((.bool true)) := by rw [ha]; exact putSel_on (e := (14, 26, (.bool true))) 14 rfl rfl (hon 14 (by kernel_rfl)) rfl
   replace ha := Aside0.mk ha
   have HR := Aside0.mk Q_HR
   have HB := Aside0.mk Q_HB
   have X3 := Aside0.mk Q_X3
   have X4 := Aside0.mk Q_X4
   refine value_ (w1 := w') (v := (.bool true)) (by rfl) rfl ?_ ?_
   ·go_simp
    (try simp only [i64_w])
    try rfl
   refine hK.out _ _ ⟨(by rw [ha.out]; exact putSel_upk 15 hb_ rfl rfl rfl), Q_HR, Q_HB, Q_X3, Q_X4⟩
  refine steps_cons ?_ ?_
  ·rintro b a w' ⟨ha, Q_HR, Q_HB, Q_X3, Q_X4⟩ hb_ hon hoff
   refine ⟨_, rfl, fun K hK => ?_⟩
   have e27 : a.tmps[27]? = some ((.bool true)) := by rw [ha]; exact putSel_on (e := (15, 27, (.bool true))) 15 rfl rfl (hon 15 (by kernel_rfl)) rfl
   replace ha := Aside0.mk ha
   have HR := Aside0.mk Q_HR
   have HB := Aside0.mk Q_HB
   have X3 := Aside0.mk Q_X3
   have X4 := Aside0.mk Q_X4
   refine off_ (wanted_off rfl rfl rfl (e27.trans (by (rfl)))) ?_
   refine hK.out _ _ ⟨(by rw [ha.out]; exact putSel_upk 16 hb_ rfl rfl rfl), Q_HR, Q_HB, Q_X3, Q_X4⟩
  refine steps_cons ?_ ?_
  ·rintro b a w' ⟨ha, Q_HR, Q_HB, Q_X3, Q_X4⟩ hb_ hon hoff
   refine ⟨_, rfl, fun K hK => ?_⟩
   have e27 : a.tmps[27]? = some ((.bool true)) := by rw [ha]; exact putSel_on (e := (15, 27, (.bool true))) 15 rfl rfl (hon 15 (by kernel_rfl)) rfl
   replace ha := Aside0.mk ha
   have HR := Aside0.mk Q_HR
   have HB := Aside0.mk Q_HB
   have X3 := Aside0.mk Q_X3
   have X4 := Aside0.mk Q_X4
   refine off_ (wanted_off rfl rfl rfl (e27.trans (by (rfl)))) ?_
   refine hK.out _ _ ⟨(by rw [ha.out]; exact putSel_upk 17 hb_ rfl rfl rfl), Q_HR, Q_HB, Q_X3, Q_X4⟩
  refine steps_cons ?_ ?_
  ·rintro b a w' ⟨ha, Q_HR, Q_HB, Q_X3, Q_X4⟩ hb_ hon hoff
   refine ⟨_, rfl, fun K hK => ?_⟩
   have e27 : a.tmps[27]? = some ((.bool true)) := by rw [ha]; exact putSel_on (e := (15, 27, (.bool true))) 15 rfl rfl (hon 15 (by kernel_rfl)) rfl
   replace ha := Aside0.mk ha
   have HR := Aside0.mk Q_HR
   have HB := Aside0.mk Q_HB
   have X3 := Aside0.mk Q_X3
   have X4 := Aside0.mk Q_X4
   refine off_ (wanted_off rfl rfl rfl (e27.trans (by (rfl)))) ?_
   refine hK.out _ _ ⟨(by rw [ha.out]; exact putSel_upk 18 hb_ rfl rfl rfl), Q_HR, Q_HB, Q_X3, Q_X4⟩
  refine steps_cons ?_ ?_
  ·rintro b a w' ⟨ha, Q_HR, Q_HB, Q_X3, Q_X4⟩ hb_ hon hoff
   refine ⟨_, rfl, fun K hK => ?_⟩
   have e27 : a.tmps[27]? = some ((.bool true)) := by rw [ha]; exact putSel_on (e := (15, 27, (.bool true))) 15 rfl rfl (hon 15 (by kernel_rfl)) rfl
   replace ha := Aside0.mk ha
   have HR := Aside0.mk Q_HR
   have HB := Aside0.mk Q_HB
   have X3 := Aside0.mk Q_X3
   have X4 := Aside0.mk Q_X4
   refine off_ (wanted_off rfl rfl rfl (e27.trans (by (rfl)))) ?_
   refine hK.out _ _ ⟨(by rw [ha.out]; exact putSel_upk 19 hb_ rfl rfl rfl), Q_HR, Q_HB, Q_X3, Q_X4⟩
  refine steps_cons ?_ ?_
  ·rintro b a w' ⟨ha, Q_HR, Q_HB, Q_X3, Q_X4⟩ hb_ hon hoff
   refine ⟨_, rfl, fun K hK => ?_⟩
   have e27 : a.tmps[27]? = some ((.bool true)) := by rw [ha]; exact putSel_on (e := (15, 27, (.bool true))) 15 rfl rfl (hon 15 (by kernel_rfl)) rfl
   replace ha := Aside0.mk ha
   have HR := Aside0.mk Q_HR
   have HB := Aside0.mk Q_HB
   have X3 := Aside0.mk Q_X3
   have X4 := Aside0.mk Q_X4
   refine off_ (wanted_off rfl rfl rfl (e27.trans (by (rfl)))) ?_
   refine hK.out _ _ ⟨(by rw [ha.out]; exact putSel_upk 20 hb_ rfl rfl rfl), Q_HR, Q_HB, Q_X3, Q_X4⟩
  refine steps_cons ?_ ?_
  ·rintro b a w' ⟨ha, Q_HR, Q_HB, Q_X3, Q_X4⟩ hb_ hon hoff
   refine ⟨_, rfl, fun K hK => ?_⟩
   have e27 : a.tmps[27]? = some ((.bool true)) := by rw [ha]; exact putSel_on (e := (15, 27, (.bool true))) 15 rfl rfl (hon 15 (by kernel_rfl)) rfl
   have e32 : a.tmps[32]? = some (undef) := by rw [ha]; exact putSel_on (e := (20, 32, undef)) 20 rfl rfl (hon 20 (by kernel_rfl)) rfl
   replace ha := Aside0.mk ha
   have HR := Aside0.mk Q_HR
   have HB := Aside0.mk Q_HB
   have X3 := Aside0.mk Q_X3
   have X4 := Aside0.mk Q_X4
   refine value_ (w1 := w') (v := (.bool true)) (by rfl) rfl ?_ ?_
   ·go_simp
    (try simp only [i64_w])
    try rfl
   refine hK.out _ _ ⟨(by rw [ha.out]; exact putSel_upk 21 hb_ rfl rfl rfl), Q_HR, Q_HB, Q_X3, Q_X4⟩
  exact steps_nil
 rintro b a we hall ⟨ha, Q_HR, Q_HB, Q_X3, Q_X4⟩
 clear HB HR X3 X4
 have hb0_ := hall 0 (by kernel_rfl)
 have hb1_ := hall 1 (by kernel_rfl)
 have hb2_ := hall 2 (by kernel_rfl)
 have hb3_ := hall 3 (by kernel_rfl)
 have hb4_ := hall 4 (by kernel_rfl)
 have hb5_ := hall 5 (by kernel_rfl)
 have hb6_ := hall 6 (by kernel_rfl)
 have hb7_ := hall 7 (by kernel_rfl)
 have hb8_ := hall 8 (by kernel_rfl)
 have hb9_ := hall 9 (by kernel_rfl)
 have hb10_ := hall 10 (by kernel_rfl)
 have hb11_ := hall 11 (by kernel_rfl)
 have hb12_ := hall 12 (by kernel_rfl)
 have hb13_ := hall 13 (by kernel_rfl)
 have hb14_ := hall 14 (by kernel_rfl)
 have hb15_ := hall 15 (by kernel_rfl)
 have hb16_ := hall 16 (by kernel_rfl)
 have hb17_ := hall 17 (by kernel_rfl)
 have hb18_ := hall 18 (by kernel_rfl)
 have hb19_ := hall 19 (by kernel_rfl)
 have hb20_ := hall 20 (by kernel_rfl)
 have hb21_ := hall 21 (by kernel_rfl)
 subst ha
 simp only [putSel, hb0_, hb1_, hb2_, hb3_, hb4_, hb5_, hb6_, hb7_, hb8_, hb9_, hb10_, hb11_, hb12_, hb13_, hb14_, hb15_, hb16_, hb17_, hb18_, hb19_, hb20_, hb21_, if_true, Act.put, List.setIfInBounds_toArray, List.set_cons_zero, List.set_cons_succ]
 have HR := Aside0.mk Q_HR
 clear Q_HR
 have HB := Aside0.mk Q_HB
 clear Q_HB
 have X3 := Aside0.mk Q_X3
 clear Q_X3
 have X4 := Aside0.mk Q_X4
 clear Q_X4
 clear hall hb0_ hb1_ hb2_ hb3_ hb4_ hb5_ hb6_ hb7_ hb8_ hb9_ hb10_ hb11_ hb12_ hb13_ hb14_ hb15_ hb16_ hb17_ hb18_ hb19_ hb20_ hb21_
 have c40 := X4.out.c0
 have c41 := X4.out.c1
 have f40 := X4.out.fz 0
 have f41 := X4.out.fz 1
 go_wp2_with fail
 refine bodyPost_ret (res_span _ _ (w.heap.size + 1) 0 0 false rfl rfl (blk_put (blk_put X4.out 0 _ rfl) 1 _ rfl)) rfl ?_
 exact ⟨rfl, below_set' (below_set' HB.out (by omega)) (by omega)⟩
set_option maxHeartbeats 4000000 in
set_option maxRecDepth 100000 in
theorem span_no2 (A0 : Option Addr) (c0 : Nat) (l0 : List Rn) (xa xb : Int) (w : World) (h : RC w A0 l0) (hc : l0.length ≤ c0) (hl : l0.length ≤ 140737488351232) (hg : good l0 = true) (ha : xa < 0) :
  Calls Try.prog 16 #[.slice A0 l0.length c0, .agg #[.int .i64 xa, .int .i64 xb]] w (SpanPost ((0, 0), false) w) := by
 have HG := Aside0.mk (good_c A0 c0 l0 hc hl)
 have HI := Aside0.mk (in_c A0 c0 l0 hc hl hg)
 rw [hg] at HG
 have H0 := Aside0.mk h
 clear h hc hl hg
 go_enter Try.func16, Try.ntmps16
 go_wp2_with fail
 obtain ⟨w2, hw2⟩ : ∃ w2, w2 = (w.alloc (.cells #[.int .i64 xa, .int .i64 xb] 24)).alloc (.cells #[.int .i64 0, .int .i64 0] 24) := ⟨_, rfl⟩
 have hb2 : Below w.heap.size w w2 := by rw [hw2]; exact below_alloc (below_alloc (Below.refl _ _) _) _
 have HB := Aside0.mk hb2
 have HR := Aside0.mk (H0.out.below hb2)
 have X3 := Aside0.mk (show Sx w.heap.size xa xb w2 by rw [hw2]; exact (show Sx w.heap.size xa xb (w.alloc _) from Own.heap_new w _).below (below_alloc (Below.refl _ _) _))
 have X4 := Aside0.mk (show Sx (w.heap.size + 1) 0 0 w2 by
  rw [hw2]
  have := Own.heap_new (w.alloc (.cells #[.int .i64 xa, .int .i64 xb] 24)) (.cells #[.int .i64 0, .int .i64 0] 24)
  rwa [World.size_alloc] at this)
 rw [← hw2]
 clear hw2 hb2
 refine start_ (n := 22) (S := fun w' => True) (ds := []) #[false, false, false, false, false, false, false, false, false, false, false, false, false, false, false, false, false, false, false, false, false, false] (by kernel_rfl) rfl rfl trivial (fun hHeld => ?_); refine with_tabW PlaceS.tab1 PlaceS.bits1 (fun HT_ HW_ => ?_)
 refine inv_at [0, 1, 2, 3, 4, 5, 6, 7, 8, 9, 10, 11, 12, 13, 14, 15, 16, 17, 18, 19, 20, 21] (fun a0_ b a w' => a = putSel a0_ b [(0, 12, (.slice A0 l0.length c0)), (1, 13, (.bool true)), (2, 14, (.bool false)), (3, 15, (.bool false)), (4, 16, (.pointer (some ⟨w.heap.size, 0, none⟩))), (5, 17, (.int .i64 xa)), (6, 18, (.bool true)), (7, 19, (.bool true)), (8, 20, (.bool true)), (9, 21, undef), (10, 22, undef), (11, 23, undef), (12, 24, undef), (13, 25, undef), (14, 26, (.bool true)), (15, 27, (.bool true)), (16, 28, undef), (17, 29, undef), (18, 30, undef), (19, 31, undef), (20, 32, undef), (21, 33, (.bool true))] ∧ (RC w' A0 l0) ∧ (Below w.heap.size w w') ∧ (Sx w.heap.size xa xb w') ∧ (Sx (w.heap.size + 1) 0 0 w')) HT_.out HW_.out (by kernel_rfl) (by kernel_rfl) ?_ ?_ ?_
 ·exact ⟨by simp only [putSel, Bool.false_eq_true, if_false], HR.out.below (below_drew1 (Below.refl _ _)), below_drew1 HB.out, X3.out.below (below_drew1 (Below.refl _ _)), X4.out.below (below_drew1 (Below.refl _ _))⟩
 ·skip
  clear HB HR X3 X4
  refine steps_cons ?_ ?_
  ·rintro b a w' ⟨ha, Q_HR, Q_HB, Q_X3, Q_X4⟩ hb_ hon hoff
   refine ⟨_, rfl, fun K hK => ?_⟩
   have e0 : a.tmps[0]? = some ((.slice A0 l0.length c0)) := by rw [ha]; exact (putSel_off rfl).trans rfl
   replace ha := Aside0.mk ha
   have HR := Aside0.mk Q_HR
   have HB := Aside0.mk Q_HB
   have X3 := Aside0.mk Q_X3
   have X4 := Aside0.mk Q_X4
   refine value_ (w1 := w') (v := (.slice A0 l0.length c0)) (by rfl) rfl ?_ ?_
   ·go_simp
    (try simp only [i64_w])
    try rfl
   refine hK.out _ _ ⟨(by rw [ha.out]; exact putSel_upk 0 hb_ rfl rfl rfl), Q_HR, Q_HB, Q_X3, Q_X4⟩
  refine steps_cons ?_ ?_
  ·rintro b a w' ⟨ha, Q_HR, Q_HB, Q_X3, Q_X4⟩ hb_ hon hoff
   refine ⟨_, rfl, fun K hK => ?_⟩
   have e12 : a.tmps[12]? = some ((.slice A0 l0.length c0)) := by rw [ha]; exact putSel_on (e := (0, 12, (.slice A0 l0.length c0))) 0 rfl rfl (hon 0 (by kernel_rfl)) rfl
   replace ha := Aside0.mk ha
   have HR := Aside0.mk Q_HR
   have HB := Aside0.mk Q_HB
   have X3 := Aside0.mk Q_X3
   have X4 := Aside0.mk Q_X4
   refine goes_ Try.func24 (by kernel_rfl) rfl #[.slice A0 l0.length c0] (by rfl) rfl rfl (by (simp only [List.map_toArray, List.map_cons, List.map_nil, Act.eval, Array.getD_eq_getD_getElem?, Option.getD_some, e12]; done)) ?_
   refine (HG.out _ HR.out).mono ?_
   rintro e w1_ ⟨rfl, hb⟩
   refine ⟨_, rfl, ?_⟩
   refine hK.out _ _ ⟨(by rw [ha.out]; exact putSel_upk 1 hb_ rfl rfl rfl), HR.out.below hb, below_step HB.out hb, X3.out.below hb, X4.out.below hb⟩
  refine steps_cons ?_ ?_
  ·rintro b a w' ⟨ha, Q_HR, Q_HB, Q_X3, Q_X4⟩ hb_ hon hoff
   refine ⟨_, rfl, fun K hK => ?_⟩
   have e13 : a.tmps[13]? = some ((.bool true)) := by rw [ha]; exact putSel_on (e := (1, 13, (.bool true))) 1 rfl rfl (hon 1 (by kernel_rfl)) rfl
   replace ha := Aside0.mk ha
   have HR := Aside0.mk Q_HR
   have HB := Aside0.mk Q_HB
   have X3 := Aside0.mk Q_X3
   have X4 := Aside0.mk Q_X4
   refine value_ (w1 := w') (v := (.bool false)) (by rfl) rfl ?_ ?_
   ·go_simp
    (try simp only [i64_w])
    try rfl
   refine hK.out _ _ ⟨(by rw [ha.out]; exact putSel_upk 2 hb_ rfl rfl rfl), Q_HR, Q_HB, Q_X3, Q_X4⟩
  refine steps_cons ?_ ?_
  ·rintro b a w' ⟨ha, Q_HR, Q_HB, Q_X3, Q_X4⟩ hb_ hon hoff
   refine ⟨_, rfl, fun K hK => ?_⟩
   have e14 : a.tmps[14]? = some ((.bool false)) := by rw [ha]; exact putSel_on (e := (2, 14, (.bool false))) 2 rfl rfl (hon 2 (by kernel_rfl)) rfl
   replace ha := Aside0.mk ha
   have HR := Aside0.mk Q_HR
   have HB := Aside0.mk Q_HB
   have X3 := Aside0.mk Q_X3
   have X4 := Aside0.mk Q_X4
   refine value_ (w1 := w') (v := (.bool false)) (by rfl) rfl ?_ ?_
   ·go_simp
    (try simp only [i64_w])
    try rfl
   refine hK.out _ _ ⟨(by rw [ha.out]; exact putSel_upk 3 hb_ rfl rfl rfl), Q_HR, Q_HB, Q_X3, Q_X4⟩
  refine steps_cons ?_ ?_
  ·rintro b a w' ⟨ha, Q_HR, Q_HB, Q_X3, Q_X4⟩ hb_ hon hoff
   refine ⟨_, rfl, fun K hK => ?_⟩
   have e3 : a.tmps[3]? = some ((.pointer (some ⟨w.heap.size, 0, none⟩))) := by rw [ha]; exact (putSel_off rfl).trans rfl
   have e15 : a.tmps[15]? = some ((.bool false)) := by rw [ha]; exact putSel_on (e := (3, 15, (.bool false))) 3 rfl rfl (hon 3 (by kernel_rfl)) rfl
   replace ha := Aside0.mk ha
   have HR := Aside0.mk Q_HR
   have HB := Aside0.mk Q_HB
   have X3 := Aside0.mk Q_X3
   have X4 := Aside0.mk Q_X4
   refine value_ (w1 := w') (v := (.pointer (some ⟨w.heap.size, 0, none⟩))) (wanted_on rfl rfl rfl (e15.trans (by (rfl)))) rfl ?_ ?_
   ·go_simp
    (try simp only [i64_w])
    try rfl
   refine hK.out _ _ ⟨(by rw [ha.out]; exact putSel_upk 4 hb_ rfl rfl rfl), Q_HR, Q_HB, Q_X3, Q_X4⟩
  refine steps_cons ?_ ?_
  ·rintro b a w' ⟨ha, Q_HR, Q_HB, Q_X3, Q_X4⟩ hb_ hon hoff
   refine ⟨_, rfl, fun K hK => ?_⟩
   have e16 : a.tmps[16]? = some ((.pointer (some ⟨w.heap.size, 0, none⟩))) := by rw [ha]; exact putSel_on (e := (4, 16, (.pointer (some ⟨w.heap.size, 0, none⟩)))) 4 rfl rfl (hon 4 (by kernel_rfl)) rfl
   have e15 : a.tmps[15]? = some ((.bool false)) := by rw [ha]; exact putSel_on (e := (3, 15, (.bool false))) 3 rfl rfl (hon 3 (by kernel_rfl)) rfl
   replace ha := Aside0.mk ha
   have HR := Aside0.mk Q_HR
   have HB := Aside0.mk Q_HB
   have X3 := Aside0.mk Q_X3
   have X4 := Aside0.mk Q_X4
   have hc_ := X3.out.c0
   refine value_ (w1 := w') (v := (.int .i64 xa)) (wanted_on rfl rfl rfl (e15.trans (by (rfl)))) rfl ?_ ?_
   ·go_simp
    (try simp only [i64_w])
    try rfl
   refine hK.out _ _ ⟨(by rw [ha.out]; exact putSel_upk 5 hb_ rfl rfl rfl), Q_HR, Q_HB, Q_X3, Q_X4⟩
  refine steps_cons ?_ ?_
  ·rintro b a w' ⟨ha, Q_HR, Q_HB, Q_X3, Q_X4⟩ hb_ hon hoff
   refine ⟨_, rfl, fun K hK => ?_⟩
   have e17 : a.tmps[17]? = some ((.int .i64 xa)) := by rw [ha]; exact putSel_on (e := (5, 17, (.int .i64 xa))) 5 rfl rfl (hon 5 (by kernel_rfl)) rfl
   have e15 : a.tmps[15]? = some ((.bool false)) := by rw [ha]; exact putSel_on (e := (3, 15, (.bool false))) 3 rfl rfl (hon 3 (by kernel_rfl)) rfl
   replace ha := Aside0.mk ha
   have HR := Aside0.mk Q_HR
   have HB := Aside0.mk Q_HB
   have X3 := Aside0.mk Q_X3
   have X4 := Aside0.mk Q_X4
   refine value_ (w1 := w') (v := (.bool true)) (wanted_on rfl rfl rfl (e15.trans (by (rfl)))) rfl ?_ ?_
   ·go_simp
    (try simp only [i64_w])
    try rfl
   refine hK.out _ _ ⟨(by rw [ha.out]; exact putSel_upk 6 hb_ rfl rfl rfl), Q_HR, Q_HB, Q_X3, Q_X4⟩
  refine steps_cons ?_ ?_
  ·rintro b a w' ⟨ha, Q_HR, Q_HB, Q_X3, Q_X4⟩ hb_ hon hoff
   refine ⟨_, rfl, fun K hK => ?_⟩
   have e15 : a.tmps[15]? = some ((.bool false)) := by rw [ha]; exact putSel_on (e := (3, 15, (.bool false))) 3 rfl rfl (hon 3 (by kernel_rfl)) rfl
   have e18 : a.tmps[18]? = some ((.bool true)) := by rw [ha]; exact putSel_on (e := (6, 18, (.bool true))) 6 rfl rfl (hon 6 (by kernel_rfl)) rfl
   replace ha := Aside0.mk ha
   have HR := Aside0.mk Q_HR
   have HB := Aside0.mk Q_HB
   have X3 := Aside0.mk Q_X3
   have X4 := Aside0.mk Q_X4
   refine value_ (w1 := w') (v := (.bool true)) (by rfl) rfl ?_ ?_
   ·go_simp
    (try simp only [i64_w])
    try rfl
   refine hK.out _ _ ⟨(by rw [ha.out]; exact putSel_upk 7 hb_ rfl rfl rfl), Q_HR, Q_HB, Q_X3, Q_X4⟩
  refine steps_cons ?_ ?_
  ·rintro b a w' ⟨ha, Q_HR, Q_HB, Q_X3, Q_X4⟩ hb_ hon hoff
   refine ⟨_, rfl, fun K hK => ?_⟩
   have e19 : a.tmps[19]? = some ((.bool true)) := by rw [ha]; exact putSel_on (e := (7, 19, (.bool true))) 7 rfl rfl (hon 7 (by kernel_rfl)) rfl
   replace ha := Aside0.mk ha
   have HR := Aside0.mk Q_HR
   have HB := Aside0.mk Q_HB
   have X3 := Aside0.mk Q_X3
   have X4 := Aside0.mk Q_X4
   refine value_ (w1 := w') (v := (.bool true)) (by rfl) rfl ?_ ?_
   ·go_simp
    (try simp only [i64_w])
    try rfl
   refine hK.out _ _ ⟨(by rw [ha.out]; exact putSel_upk 8 hb_ rfl rfl rfl), Q_HR, Q_HB, Q_X3, Q_X4⟩
  refine steps_cons ?_ ?_
  ·rintro b a w' ⟨ha, Q_HR, Q_HB, Q_X3, Q_X4⟩ hb_ hon hoff
   refine ⟨_, rfl, fun K hK => ?_⟩
   have e20 : a.tmps[20]? = some ((.bool true)) := by rw [ha]; exact putSel_on (e := (8, 20, (.bool true))) 8 rfl rfl (hon 8 (by kernel_rfl)) rfl
   replace ha := Aside0.mk ha
   have HR := Aside0.mk Q_HR
   have HB := Aside0.mk Q_HB
   have X3 := Aside0.mk Q_X3
   have X4 := Aside0.mk Q_X4
   refine off_ (wanted_off rfl rfl rfl (e20.trans (by (rfl)))) ?_
   refine hK.out _ _ ⟨(by rw [ha.out]; exact putSel_upk 9 hb_ rfl rfl rfl), Q_HR, Q_HB, Q_X3, Q_X4⟩
  refine steps_cons ?_ ?_
  ·rintro b a w' ⟨ha, Q_HR, Q_HB, Q_X3, Q_X4⟩ hb_ hon hoff
   refine ⟨_, rfl, fun K hK => ?_⟩
   have e20 : a.tmps[20]? = some ((.bool true)) := by rw [ha]; exact putSel_on (e := (8, 20, (.bool true))) 8 rfl rfl (hon 8 (by kernel_rfl)) rfl
   replace ha := Aside0.mk ha
   have HR := Aside0.mk Q_HR
   have HB := Aside0.mk Q_HB
   have X3 := Aside0.mk Q_X3
   have X4 := Aside0.mk Q_X4
   refine off_ (wanted_off rfl rfl rfl (e20.trans (by (rfl)))) ?_
   refine hK.out _ _ ⟨(by rw [ha.out]; exact putSel_upk 10 hb_ rfl rfl rfl), Q_HR, Q_HB, Q_X3, Q_X4⟩
  refine steps_cons ?_ ?_
  ·rintro b a w' ⟨ha, Q_HR, Q_HB, Q_X3, Q_X4⟩ hb_ hon hoff
   refine ⟨_, rfl, fun K hK => ?_⟩
   have e20 : a.tmps[20]? = some ((.bool true)) := by rw [ha]; exact putSel_on (e := (8, 20, (.bool true))) 8 rfl rfl (hon 8 (by kernel_rfl)) rfl
   replace ha := Aside0.mk ha
   have HR := Aside0.mk Q_HR
   have HB := Aside0.mk Q_HB
   have X3 := Aside0.mk Q_X3
   have X4 := Aside0.mk Q_X4
   refine off_ (wanted_off rfl rfl rfl (e20.trans (by (rfl)))) ?_
   refine hK.out _ _ ⟨(by rw [ha.out]; exact putSel_upk 11 hb_ rfl rfl rfl), Q_HR, Q_HB, Q_X3, Q_X4⟩
  refine steps_cons ?_ ?_
  ·rintro b a w' ⟨ha, Q_HR, Q_HB, Q_X3, Q_X4⟩ hb_ hon hoff
   refine ⟨_, rfl, fun K hK => ?_⟩
   have e20 : a.tmps[20]? = some ((.bool true)) := by rw [ha]; exact putSel_on (e := (8, 20, (.bool true))) 8 rfl rfl (hon 8 (by kernel_rfl)) rfl
   replace ha := Aside0.mk ha
   have HR := Aside0.mk Q_HR
   have HB := Aside0.mk Q_HB
   have X3 := Aside0.mk Q_X3
   have X4 := Aside0.mk Q_X4
   refine off_ (wanted_off rfl rfl rfl (e20.trans (by (rfl)))) ?_
   refine hK.out _ _ ⟨(by rw [ha.out]; exact putSel_upk 12 hb_ rfl rfl rfl), Q_HR, Q_HB, Q_X3, Q_X4⟩
  refine steps_cons ?_ ?_
  ·rintro b a w' ⟨ha, Q_HR, Q_HB, Q_X3, Q_X4⟩ hb_ hon hoff
   refine ⟨_, rfl, fun K hK => ?_⟩
   have e20 : a.tmps[20]? = some ((.bool true)) := by rw [ha]; exact putSel_on (e := (8, 20, (.bool true))) 8 rfl rfl (hon 8 (by kernel_rfl)) rfl
   replace ha := Aside0.mk ha
   have HR := Aside0.mk Q_HR
   have HB := Aside0.mk Q_HB
   have X3 := Aside0.mk Q_X3
   have X4 := Aside0.mk Q_X4
   refine off_ (wanted_off rfl rfl rfl (e20.trans (by (rfl)))) ?_
   refine hK.out _ _ ⟨(by rw [ha.out]; exact putSel_upk 13 hb_ rfl rfl rfl), Q_HR, Q_HB, Q_X3, Q_X4⟩
  refine steps_cons ?_ ?_
  ·rintro b a w' ⟨ha, Q_HR, Q_HB, Q_X3, Q_X4⟩ hb_ hon hoff
   refine ⟨_, rfl, fun K hK => ?_⟩
   have e20 : a.tmps[20]? = some ((.bool true)) := by rw [ha]; exact putSel_on (e := (8, 20, (.bool true))) 8 rfl rfl (hon 8 (by kernel_rfl)) rfl
   have e25 : a.tmps[25]? = some (undef) := by rw [ha]; exact putSel_on (e := (13, 25, undef)) 13 rfl rfl (hon 13 (by kernel_rfl)) rfl
   replace ha := Aside0.mk ha
   have HR := Aside0.mk Q_HR
   have HB := Aside0.mk Q_HB
   have X3 := Aside0.mk Q_X3
   have X4 := Aside0.mk Q_X4
   refine value_ (w1 := w') (v := (.bool true)) (by rfl) rfl ?_ ?_
   ·go_simp
    (try simp only [i64_w])
    try rfl
   refine hK.out _ _ ⟨(by rw [ha.out]; exact putSel_upk 14 hb_ rfl rfl rfl), Q_HR, Q_HB, Q_X3, Q_X4⟩
  refine steps_cons ?_ ?_
  ·rintro b a w' ⟨ha, Q_HR, Q_HB, Q_X3, Q_X4⟩ hb_ hon hoff
   refine ⟨_, rfl, fun K hK => ?_⟩
   have e26 : a.tmps[26]? = some ((.bool true)) := by rw [ha]; exact putSel_on (e := (14, 26, (.bool true))) 14 rfl rfl (hon 14 (by kernel_rfl)) rfl
   replace ha := Aside0.mk ha
   have HR := Aside0.mk Q_HR
   have HB := Aside0.mk Q_HB
   have X3 := Aside0.mk Q_X3
   have X4 := Aside0.mk Q_X4
   refine value_ (w1 := w') (v := (.bool true)) (by rfl) rfl ?_ ?_
   ·go_simp
    (try simp only [i64_w])
    try rfl
   refine hK.out _ _ ⟨(by rw [ha.out]; exact putSel_upk 15 hb_ rfl rfl rfl), Q_HR, Q_HB, Q_X3, Q_X4⟩
  refine steps_cons ?_ ?_
  ·rintro b a w' ⟨ha, Q_HR, Q_HB, Q_X3, Q_X4⟩ hb_ hon hoff
   refine ⟨_, rfl, fun K hK => ?_⟩
   have e27 : a.tmps[27]? = some ((.bool true)) := by rw [ha]; exact putSel_on (e := (15, 27, (.bool true))) 15 rfl rfl (hon 15 (by kernel_rfl)) rfl
   replace ha := Aside0.mk ha
   have HR := Aside0.mk Q_HR
   have HB := Aside0.mk Q_HB
   have X3 := Aside0.mk Q_X3
   have X4 := Aside0.mk Q_X4
   refine off_ (wanted_off rfl rfl rfl (e27.trans (by (rfl)))) ?_
   refine hK.out _ _ ⟨(by rw [ha.out]; exact putSel_upk 16 hb_ rfl rfl rfl), Q_HR, Q_HB, Q_X3, Q_X4⟩
  refine steps_cons ?_ ?_
  ·rintro b a w' ⟨ha, Q_HR, Q_HB, Q_X3, Q_X4⟩ hb_ hon hoff
   refine ⟨_, rfl, fun K hK => ?_⟩
   have e27 : a.tmps[27]? = some ((.bool true)) := by rw [ha]; exact putSel_on (e := (15, 27, (.bool true))) 15 rfl rfl (hon 15 (by kernel_rfl)) rfl
   replace ha := Aside0.mk ha
   have HR := Aside0.mk Q_HR
   have HB := Aside0.mk Q_HB
   have X3 := Aside0.mk Q_X3
   have X4 := Aside0.mk Q_X4
   refine off_ (wanted_off rfl rfl rfl (e27.trans (by (rfl)))) ?_
   refine hK.out _ _ ⟨(by rw [ha.out]; exact putSel_upk 17 hb_ rfl rfl rfl), Q_HR, Q_HB, Q_X3, Q_X4⟩
  refine steps_cons ?_ ?_
  ·rintro b a w' ⟨ha, Q_HR, Q_HB, Q_X3, Q_X4⟩ hb_ hon hoff
   refine ⟨_, rfl, fun K hK => ?_⟩
   have e27 : a.tmps[27]? = some ((.bool true)) := by rw [ha]; exact putSel_on (e := (15, 27, (.bool true))) 15 rfl rfl (hon 15 (by kernel_rfl)) rfl
   replace ha := Aside0.mk ha
   have HR := Aside0.mk Q_HR
   have HB := Aside0.mk Q_HB
   have X3 := Aside0.mk Q_X3
   have X4 := Aside0.mk Q_X4
   refine off_ (wanted_off rfl rfl rfl (e27.trans (by (rfl)))) ?_
   refine hK.out _ _ ⟨(by rw [ha.out]; exact putSel_upk 18 hb_ rfl rfl rfl), Q_HR, Q_HB, Q_X3, Q_X4⟩
  refine steps_cons ?_ ?_
  ·rintro b a w' ⟨ha, Q_HR, Q_HB, Q_X3, Q_X4⟩ hb_ hon hoff
   refine ⟨_, rfl, fun K hK => ?_⟩
   have e27 : a.tmps[27]? = some ((.bool true)) := by rw [ha]; exact putSel_on (e := (15, 27, (.bool true))) 15 rfl rfl (hon 15 (by kernel_rfl)) rfl
   replace ha := Aside0.mk ha
   have HR := Aside0.mk Q_HR
   have HB := Aside0.mk Q_HB
   have X3 := Aside0.mk Q_X3
   have X4 := Aside0.mk Q_X4
   refine off_ (wanted_off rfl rfl rfl (e27.trans (by (rfl)))) ?_
   refine hK.out _ _ ⟨(by rw [ha.out]; exact putSel_upk 19 hb_ rfl rfl rfl), Q_HR, Q_HB, Q_X3, Q_X4⟩
  refine steps_cons ?_ ?_
  ·rintro b a w' ⟨ha, Q_HR, Q_HB, Q_X3, Q_X4⟩ hb_ hon hoff
   refine ⟨_, rfl, fun K hK => ?_⟩
   have e27 : a.tmps[27]? = some ((.bool true)) := by rw [ha]; exact putSel_on (e := (15, 27, (.bool true))) 15 rfl rfl (hon 15 (by kernel_rfl)) rfl
   replace ha := Aside0.mk ha
   have HR := Aside0.mk Q_HR
   have HB := Aside0.mk Q_HB
   have X3 := Aside0.mk Q_X3
   have X4 := Aside0.mk Q_X4
   refine off_ (wanted_off rfl rfl rfl (e27.trans (by (rfl)))) ?_
   refine hK.out _ _ ⟨(by rw [ha.out]; exact putSel_upk 20 hb_ rfl rfl rfl), Q_HR, Q_HB, Q_X3, Q_X4⟩
  refine steps_cons ?_ ?_
  ·rintro b a w' ⟨ha, Q_HR, Q_HB, Q_X3, Q_X4⟩ hb_ hon hoff
   refine ⟨_, rfl, fun K hK => ?_⟩
   have e27 : a.tmps[27]? = some ((.bool true)) := by rw [ha]; exact putSel_on (e := (15, 27, (.bool true))) 15 rfl rfl (hon 15 (by kernel_rfl)) rfl
   have e32 : a.tmps[32]? = some (undef) := by rw [ha]; exact putSel_on (e := (20, 32, undef)) 20 rfl rfl (hon 20 (by kernel_rfl)) rfl
   replace ha := Aside0.mk ha
   have HR := Aside0.mk Q_HR
   have HB := Aside0.mk Q_HB
   have X3 := Aside0.mk Q_X3
   have X4 := Aside0.mk Q_X4
   refine value_ (w1 := w') (v := (.bool true)) (by rfl) rfl ?_ ?_
   ·go_simp
    (try simp only [i64_w])
    try rfl
   refine hK.out _ _ ⟨(by rw [ha.out]; exact putSel_upk 21 hb_ rfl rfl rfl), Q_HR, Q_HB, Q_X3, Q_X4⟩
  exact steps_nil
 rintro b a we hall ⟨ha, Q_HR, Q_HB, Q_X3, Q_X4⟩
 clear HB HR X3 X4
 have hb0_ := hall 0 (by kernel_rfl)
 have hb1_ := hall 1 (by kernel_rfl)
 have hb2_ := hall 2 (by kernel_rfl)
 have hb3_ := hall 3 (by kernel_rfl)
 have hb4_ := hall 4 (by kernel_rfl)
 have hb5_ := hall 5 (by kernel_rfl)
 have hb6_ := hall 6 (by kernel_rfl)
 have hb7_ := hall 7 (by kernel_rfl)
 have hb8_ := hall 8 (by kernel_rfl)
 have hb9_ := hall 9 (by kernel_rfl)
 have hb10_ := hall 10 (by kernel_rfl)
 have hb11_ := hall 11 (by kernel_rfl)
 have hb12_ := hall 12 (by kernel_rfl)
 have hb13_ := hall 13 (by kernel_rfl)
 have hb14_ := hall 14 (by kernel_rfl)
 have hb15_ := hall 15 (by kernel_rfl)
 have hb16_ := hall 16 (by kernel_rfl)
 have hb17_ := hall 17 (by kernel_rfl)
 have hb18_ := hall 18 (by kernel_rfl)
 have hb19_ := hall 19 (by kernel_rfl)
 have hb20_ := hall 20 (by kernel_rfl)
 have hb21_ := hall 21 (by kernel_rfl)
 subst ha
 simp only [putSel, hb0_, hb1_, hb2_, hb3_, hb4_, hb5_, hb6_, hb7_, hb8_, hb9_, hb10_, hb11_, hb12_, hb13_, hb14_, hb15_, hb16_, hb17_, hb18_, hb19_, hb20_, hb21_, if_true, Act.put, List.setIfInBounds_toArray, List.set_cons_zero, List.set_cons_succ]
 have HR := Aside0.mk Q_HR
 clear Q_HR
 have HB := Aside0.mk Q_HB
 clear Q_HB
 have X3 := Aside0.mk Q_X3
 clear Q_X3
 have X4 := Aside0.mk Q_X4
 clear Q_X4
 clear hall hb0_ hb1_ hb2_ hb3_ hb4_ hb5_ hb6_ hb7_ hb8_ hb9_ hb10_ hb11_ hb12_ hb13_ hb14_ hb15_ hb16_ hb17_ hb18_ hb19_ hb20_ hb21_
 have c40 := X4.out.c0
 have c41 := X4.out.c1
 have f40 := X4.out.fz 0
 have f41 := X4.out.fz 1
 go_wp2_with fail
 refine bodyPost_ret (res_span _ _ (w.heap.size + 1) 0 0 false rfl rfl (blk_put (blk_put X4.out 0 _ rfl) 1 _ rfl)) rfl ?_
 exact ⟨rfl, below_set' (below_set' HB.out (by omega)) (by omega)⟩
set_option maxHeartbeats 4000000 in
set_option maxRecDepth 100000 in
theorem span_no3 (A0 : Option Addr) (c0 : Nat) (l0 : List Rn) (xa xb : Int) (w : World) (h : RC w A0 l0) (hc : l0.length ≤ c0) (hl : l0.length ≤ 140737488351232) (hg : good l0 = true) (ha : 0 ≤ xa) (hab : xb < xa) :
  Calls Try.prog 16 #[.slice A0 l0.length c0, .agg #[.int .i64 xa, .int .i64 xb]] w (SpanPost ((0, 0), false) w) := by
 have HG := Aside0.mk (good_c A0 c0 l0 hc hl)
 have HI := Aside0.mk (in_c A0 c0 l0 hc hl hg)
 rw [hg] at HG
 have H0 := Aside0.mk h
 have a1 : decide (xa < 0) = false := by simp; omega
 have a2 : decide (xb < xa) = true := by simpa using hab
 clear h hc hl hg
 go_enter Try.func16, Try.ntmps16
 go_wp2_with fail
 obtain ⟨w2, hw2⟩ : ∃ w2, w2 = (w.alloc (.cells #[.int .i64 xa, .int .i64 xb] 24)).alloc (.cells #[.int .i64 0, .int .i64 0] 24) := ⟨_, rfl⟩
 have hb2 : Below w.heap.size w w2 := by rw [hw2]; exact below_alloc (below_alloc (Below.refl _ _) _) _
 have HB := Aside0.mk hb2
 have HR := Aside0.mk (H0.out.below hb2)
 have X3 := Aside0.mk (show Sx w.heap.size xa xb w2 by rw [hw2]; exact (show Sx w.heap.size xa xb (w.alloc _) from Own.heap_new w _).below (below_alloc (Below.refl _ _) _))
 have X4 := Aside0.mk (show Sx (w.heap.size + 1) 0 0 w2 by
  rw [hw2]
  have := Own.heap_new (w.alloc (.cells #[.int .i64 xa, .int .i64 xb] 24)) (.cells #[.int .i64 0, .int .i64 0] 24)
  rwa [World.size_alloc] at this)
 rw [← hw2]
 clear hw2 hb2
 refine start_ (n := 22) (S := fun w' => True) (ds := []) #[false, false, false, false, false, false, false, false, false, false, false, false, false, false, false, false, false, false, false, false, false, false] (by kernel_rfl) rfl rfl trivial (fun hHeld => ?_); refine with_tabW PlaceS.tab1 PlaceS.bits1 (fun HT_ HW_ => ?_)
 refine inv_at [0, 1, 2, 3, 4, 5, 6, 7, 8, 9, 10, 11, 12, 13, 14, 15, 16, 17, 18, 19, 20, 21] (fun a0_ b a w' => a = putSel a0_ b [(0, 12, (.slice A0 l0.length c0)), (1, 13, (.bool true)), (2, 14, (.bool false)), (3, 15, (.bool false)), (4, 16, (.pointer (some ⟨w.heap.size, 0, none⟩))), (5, 17, (.int .i64 xa)), (6, 18, (.bool false)), (7, 19, (.bool false)), (8, 20, (.bool false)), (9, 21, (.pointer (some ⟨w.heap.size, 0, none⟩))), (10, 22, (.int .i64 xa)), (11, 23, (.pointer (some ⟨w.heap.size, 1, none⟩))), (12, 24, (.int .i64 xb)), (13, 25, (.bool true)), (14, 26, (.bool true)), (15, 27, (.bool true)), (16, 28, undef), (17, 29, undef), (18, 30, undef), (19, 31, undef), (20, 32, undef), (21, 33, (.bool true))] ∧ (RC w' A0 l0) ∧ (Below w.heap.size w w') ∧ (Sx w.heap.size xa xb w') ∧ (Sx (w.heap.size + 1) 0 0 w')) HT_.out HW_.out (by kernel_rfl) (by kernel_rfl) ?_ ?_ ?_
 ·exact ⟨by simp only [putSel, Bool.false_eq_true, if_false], HR.out.below (below_drew1 (Below.refl _ _)), below_drew1 HB.out, X3.out.below (below_drew1 (Below.refl _ _)), X4.out.below (below_drew1 (Below.refl _ _))⟩
 ·skip
  clear HB HR X3 X4
  refine steps_cons ?_ ?_
  ·rintro b a w' ⟨ha, Q_HR, Q_HB, Q_X3, Q_X4⟩ hb_ hon hoff
   refine ⟨_, rfl, fun K hK => ?_⟩
   have e0 : a.tmps[0]? = some ((.slice A0 l0.length c0)) := by rw [ha]; exact (putSel_off rfl).trans rfl
   replace ha := Aside0.mk ha
   have HR := Aside0.mk Q_HR
   have HB := Aside0.mk Q_HB
   have X3 := Aside0.mk Q_X3
   have X4 := Aside0.mk Q_X4
   refine value_ (w1 := w') (v := (.slice A0 l0.length c0)) (by rfl) rfl ?_ ?_
   ·go_simp
    (try simp only [i64_w])
    try rfl
   refine hK.out _ _ ⟨(by rw [ha.out]; exact putSel_upk 0 hb_ rfl rfl rfl), Q_HR, Q_HB, Q_X3, Q_X4⟩
  refine steps_cons ?_ ?_
  ·rintro b a w' ⟨ha, Q_HR, Q_HB, Q_X3, Q_X4⟩ hb_ hon hoff
   refine ⟨_, rfl, fun K hK => ?_⟩
   have e12 : a.tmps[12]? = some ((.slice A0 l0.length c0)) := by rw [ha]; exact putSel_on (e := (0, 12, (.slice A0 l0.length c0))) 0 rfl rfl (hon 0 (by kernel_rfl)) rfl
   replace ha := Aside0.mk ha
   have HR := Aside0.mk Q_HR
   have HB := Aside0.mk Q_HB
   have X3 := Aside0.mk Q_X3
   have X4 := Aside0.mk Q_X4
   refine goes_ Try.func24 (by kernel_rfl) rfl #[.slice A0 l0.length c0] (by rfl) rfl rfl (by (simp only [List.map_toArray, List.map_cons, List.map_nil, Act.eval, Array.getD_eq_getD_getElem?, Option.getD_some, e12]; done)) ?_
   refine (HG.out _ HR.out).mono ?_
   rintro e w1_ ⟨rfl, hb⟩
   refine ⟨_, rfl, ?_⟩
   refine hK.out _ _ ⟨(by rw [ha.out]; exact putSel_upk 1 hb_ rfl rfl rfl), HR.out.below hb, below_step HB.out hb, X3.out.below hb, X4.out.below hb⟩
  refine steps_cons ?_ ?_
  ·rintro b a w' ⟨ha, Q_HR, Q_HB, Q_X3, Q_X4⟩ hb_ hon hoff
   refine ⟨_, rfl, fun K hK => ?_⟩
   have e13 : a.tmps[13]? = some ((.bool true)) := by rw [ha]; exact putSel_on (e := (1, 13, (.bool true))) 1 rfl rfl (hon 1 (by kernel_rfl)) rfl
   replace ha := Aside0.mk ha
   have HR := Aside0.mk Q_HR
   have HB := Aside0.mk Q_HB
   have X3 := Aside0.mk Q_X3
   have X4 := Aside0.mk Q_X4
   refine value_ (w1 := w') (v := (.bool false)) (by rfl) rfl ?_ ?_
   ·go_simp
    (try simp only [i64_w])
    try rfl
   refine hK.out _ _ ⟨(by rw [ha.out]; exact putSel_upk 2 hb_ rfl rfl rfl), Q_HR, Q_HB, Q_X3, Q_X4⟩
  refine steps_cons ?_ ?_
  ·rintro b a w' ⟨ha, Q_HR, Q_HB, Q_X3, Q_X4⟩ hb_ hon hoff
   refine ⟨_, rfl, fun K hK => ?_⟩
   have e14 : a.tmps[14]? = some ((.bool false)) := by rw [ha]; exact putSel_on (e := (2, 14, (.bool false))) 2 rfl rfl (hon 2 (by kernel_rfl)) rfl
   replace ha := Aside0.mk ha
   have HR := Aside0.mk Q_HR
   have HB := Aside0.mk Q_HB
   have X3 := Aside0.mk Q_X3
   have X4 := Aside0.mk Q_X4
   refine value_ (w1 := w') (v := (.bool false)) (by rfl) rfl ?_ ?_
   ·go_simp
    (try simp only [i64_w])
    try rfl
   refine hK.out _ _ ⟨(by rw [ha.out]; exact putSel_upk 3 hb_ rfl rfl rfl), Q_HR, Q_HB, Q_X3, Q_X4⟩
  refine steps_cons ?_ ?_
  ·rintro b a w' ⟨ha, Q_HR, Q_HB, Q_X3, Q_X4⟩ hb_ hon hoff
   refine ⟨_, rfl, fun K hK => ?_⟩
   have e3 : a.tmps[3]? = some ((.pointer (some ⟨w.heap.size, 0, none⟩))) := by rw [ha]; exact (putSel_off rfl).trans rfl
   have e15 : a.tmps[15]? = some ((.bool false)) := by rw [ha]; exact putSel_on (e := (3, 15, (.bool false))) 3 rfl rfl (hon 3 (by kernel_rfl)) rfl
   replace ha := Aside0.mk ha
   have HR := Aside0.mk Q_HR
   have HB := Aside0.mk Q_HB
   have X3 := Aside0.mk Q_X3
   have X4 := Aside0.mk Q_X4
   refine value_ (w1 := w') (v := (.pointer (some ⟨w.heap.size, 0, none⟩))) (wanted_on rfl rfl rfl (e15.trans (by (rfl)))) rfl ?_ ?_
   ·go_simp
    (try simp only [i64_w])
    try rfl
   refine hK.out _ _ ⟨(by rw [ha.out]; exact putSel_upk 4 hb_ rfl rfl rfl), Q_HR, Q_HB, Q_X3, Q_X4⟩
  refine steps_cons ?_ ?_
  ·rintro b a w' ⟨ha, Q_HR, Q_HB, Q_X3, Q_X4⟩ hb_ hon hoff
   refine ⟨_, rfl, fun K hK => ?_⟩
   have e16 : a.tmps[16]? = some ((.pointer (some ⟨w.heap.size, 0, none⟩))) := by rw [ha]; exact putSel_on (e := (4, 16, (.pointer (some ⟨w.heap.size, 0, none⟩)))) 4 rfl rfl (hon 4 (by kernel_rfl)) rfl
   have e15 : a.tmps[15]? = some ((.bool false)) := by rw [ha]; exact putSel_on (e := (3, 15, (.bool false))) 3 rfl rfl (hon 3 (by kernel_rfl)) rfl
   replace ha := Aside0.mk ha
   have HR := Aside0.mk Q_HR
   have HB := Aside0.mk Q_HB
   have X3 := Aside0.mk Q_X3
   have X4 := Aside0.mk Q_X4
   have hc_ := X3.out.c0
   refine value_ (w1 := w') (v := (.int .i64 xa)) (wanted_on rfl rfl rfl (e15.trans (by (rfl)))) rfl ?_ ?_
   ·go_simp
    (try simp only [i64_w])
    try rfl
   refine hK.out _ _ ⟨(by rw [ha.out]; exact putSel_upk 5 hb_ rfl rfl rfl), Q_HR, Q_HB, Q_X3, Q_X4⟩
  refine steps_cons ?_ ?_
  ·rintro b a w' ⟨ha, Q_HR, Q_HB, Q_X3, Q_X4⟩ hb_ hon hoff
   refine ⟨_, rfl, fun K hK => ?_⟩
   have e17 : a.tmps[17]? = some ((.int .i64 xa)) := by rw [ha]; exact putSel_on (e := (5, 17, (.int .i64 xa))) 5 rfl rfl (hon 5 (by kernel_rfl)) rfl
   have e15 : a.tmps[15]? = some ((.bool false)) := by rw [ha]; exact putSel_on (e := (3, 15, (.bool false))) 3 rfl rfl (hon 3 (by kernel_rfl)) rfl
   replace ha := Aside0.mk ha
   have HR := Aside0.mk Q_HR
   have HB := Aside0.mk Q_HB
   have X3 := Aside0.mk Q_X3
   have X4 := Aside0.mk Q_X4
   refine value_ (w1 := w') (v := (.bool false)) (wanted_on rfl rfl rfl (e15.trans (by (rfl)))) rfl ?_ ?_
   ·go_simp
    (try simp only [i64_w])
    try rfl
   refine hK.out _ _ ⟨(by rw [ha.out]; exact putSel_upk 6 hb_ rfl rfl rfl), Q_HR, Q_HB, Q_X3, Q_X4⟩
  refine steps_cons ?_ ?_
  ·rintro b a w' ⟨ha, Q_HR, Q_HB, Q_X3, Q_X4⟩ hb_ hon hoff
   refine ⟨_, rfl, fun K hK => ?_⟩
   have e15 : a.tmps[15]? = some ((.bool false)) := by rw [ha]; exact putSel_on (e := (3, 15, (.bool false))) 3 rfl rfl (hon 3 (by kernel_rfl)) rfl
   have e18 : a.tmps[18]? = some ((.bool false)) := by rw [ha]; exact putSel_on (e := (6, 18, (.bool false))) 6 rfl rfl (hon 6 (by kernel_rfl)) rfl
   replace ha := Aside0.mk ha
   have HR := Aside0.mk Q_HR
   have HB := Aside0.mk Q_HB
   have X3 := Aside0.mk Q_X3
   have X4 := Aside0.mk Q_X4
   refine value_ (w1 := w') (v := (.bool false)) (by rfl) rfl ?_ ?_
   ·go_simp
    (try simp only [i64_w])
    try rfl
   refine hK.out _ _ ⟨(by rw [ha.out]; exact putSel_upk 7 hb_ rfl rfl rfl), Q_HR, Q_HB, Q_X3, Q_X4⟩
  refine steps_cons ?_ ?_
  ·rintro b a w' ⟨ha, Q_HR, Q_HB, Q_X3, Q_X4⟩ hb_ hon hoff
   refine ⟨_, rfl, fun K hK => ?_⟩
   have e19 : a.tmps[19]? = some ((.bool false)) := by rw [ha]; exact putSel_on (e := (7, 19, (.bool false))) 7 rfl rfl (hon 7 (by kernel_rfl)) rfl
   replace ha := Aside0.mk ha
   have HR := Aside0.mk Q_HR
   have HB := Aside0.mk Q_HB
   have X3 := Aside0.mk Q_X3
   have X4 := Aside0.mk Q_X4
   refine value_ (w1 := w') (v := (.bool false)) (by rfl) rfl ?_ ?_
   ·go_simp
    (try simp only [i64_w])
    try rfl
   refine hK.out _ _ ⟨(by rw [ha.out]; exact putSel_upk 8 hb_ rfl rfl rfl), Q_HR, Q_HB, Q_X3, Q_X4⟩
  refine steps_cons ?_ ?_
  ·rintro b a w' ⟨ha, Q_HR, Q_HB, Q_X3, Q_X4⟩ hb_ hon hoff
   refine ⟨_, rfl, fun K hK => ?_⟩
   have e3 : a.tmps[3]? = some ((.pointer (some ⟨w.heap.size, 0, none⟩))) := by rw [ha]; exact (putSel_off rfl).trans rfl
   have e20 : a.tmps[20]? = some ((.bool false)) := by rw [ha]; exact putSel_on (e := (8, 20, (.bool false))) 8 rfl rfl (hon 8 (by kernel_rfl)) rfl
   replace ha := Aside0.mk ha
   have HR := Aside0.mk Q_HR
   have HB := Aside0.mk Q_HB
   have X3 := Aside0.mk Q_X3
   have X4 := Aside0.mk Q_X4
   refine value_ (w1 := w') (v := (.pointer (some ⟨w.heap.size, 0, none⟩))) (wanted_on rfl rfl rfl (e20.trans (by (rfl)))) rfl ?_ ?_
   ·go_simp
    (try simp only [i64_w])
    try rfl
   refine hK.out _ _ ⟨(by rw [ha.out]; exact putSel_upk 9 hb_ rfl rfl rfl), Q_HR, Q_HB, Q_X3, Q_X4⟩
  refine steps_cons ?_ ?_
  ·rintro b a w' ⟨ha, Q_HR, Q_HB, Q_X3, Q_X4⟩ hb_ hon hoff
   refine ⟨_, rfl, fun K hK => ?_⟩
   have e21 : a.tmps[21]? = some ((.pointer (some ⟨w.heap.size, 0, none⟩))) := by rw [ha]; exact putSel_on (e := (9, 21, (.pointer (some ⟨w.heap.size, 0, none⟩)))) 9 rfl rfl (hon 9 (by kernel_rfl)) rfl
   have e20 : a.tmps[20]? = some ((.bool false)) := by rw [ha]; exact putSel_on (e := (8, 20, (.bool false))) 8 rfl rfl (hon 8 (by kernel_rfl)) rfl
   replace ha := Aside0.mk ha
   have HR := Aside0.mk Q_HR
   have HB := Aside0.mk Q_HB
   have X3 := Aside0.mk Q_X3
   have X4 := Aside0.mk Q_X4
   have hc_ := X3.out.c0
   refine value_ (w1 := w') (v := (.int .i64 xa)) (wanted_on rfl rfl rfl (e20.trans (by (rfl)))) rfl ?_ ?_
   ·go_simp
    (try simp only [i64_w])
    try rfl
   refine hK.out _ _ ⟨(by rw [ha.out]; exact putSel_upk 10 hb_ rfl rfl rfl), Q_HR, Q_HB, Q_X3, Q_X4⟩
  refine steps_cons ?_ ?_
  ·rintro b a w' ⟨ha, Q_HR, Q_HB, Q_X3, Q_X4⟩ hb_ hon hoff
   refine ⟨_, rfl, fun K hK => ?_⟩
   have e3 : a.tmps[3]? = some ((.pointer (some ⟨w.heap.size, 0, none⟩))) := by rw [ha]; exact (putSel_off rfl).trans rfl
   have e20 : a.tmps[20]? = some ((.bool false)) := by rw [ha]; exact putSel_on (e := (8, 20, (.bool false))) 8 rfl rfl (hon 8 (by kernel_rfl)) rfl
   replace ha := Aside0.mk ha
   have HR := Aside0.mk Q_HR
   have HB := Aside0.mk Q_HB
   have X3 := Aside0.mk Q_X3
   have X4 := Aside0.mk Q_X4
   refine value_ (w1 := w') (v := (.pointer (some ⟨w.heap.size, 1, none⟩))) (wanted_on rfl rfl rfl (e20.trans (by (rfl)))) rfl ?_ ?_
   ·go_simp
    (try simp only [i64_w])
    try rfl
   refine hK.out _ _ ⟨(by rw [ha.out]; exact putSel_upk 11 hb_ rfl rfl rfl), Q_HR, Q_HB, Q_X3, Q_X4⟩
  refine steps_cons ?_ ?_
  ·rintro b a w' ⟨ha, Q_HR, Q_HB, Q_X3, Q_X4⟩ hb_ hon hoff
   refine ⟨_, rfl, fun K hK => ?_⟩
   have e23 : a.tmps[23]? = some ((.pointer (some ⟨w.heap.size, 1, none⟩))) := by rw [ha]; exact putSel_on (e := (11, 23, (.pointer (some ⟨w.heap.size, 1, none⟩)))) 11 rfl rfl (hon 11 (by kernel_rfl)) rfl
   have e20 : a.tmps[20]? = some ((.bool false)) := by rw [ha]; exact putSel_on (e := (8, 20, (.bool false))) 8 rfl rfl (hon 8 (by kernel_rfl)) rfl
   replace ha := Aside0.mk ha
   have HR := Aside0.mk Q_HR
   have HB := Aside0.mk Q_HB
   have X3 := Aside0.mk Q_X3
   have X4 := Aside0.mk Q_X4
   have hc_ := X3.out.c1
   refine value_ (w1 := w') (v := (.int .i64 xb)) (wanted_on rfl rfl rfl (e20.trans (by (rfl)))) rfl ?_ ?_
   ·go_simp
    (try simp only [i64_w])
    try rfl
   refine hK.out _ _ ⟨(by rw [ha.out]; exact putSel_upk 12 hb_ rfl rfl rfl), Q_HR, Q_HB, Q_X3, Q_X4⟩
  refine steps_cons ?_ ?_
  ·rintro b a w' ⟨ha, Q_HR, Q_HB, Q_X3, Q_X4⟩ hb_ hon hoff
   refine ⟨_, rfl, fun K hK => ?_⟩
   have e22 : a.tmps[22]? = some ((.int .i64 xa)) := by rw [ha]; exact putSel_on (e := (10, 22, (.int .i64 xa))) 10 rfl rfl (hon 10 (by kernel_rfl)) rfl
   have e24 : a.tmps[24]? = some ((.int .i64 xb)) := by rw [ha]; exact putSel_on (e := (12, 24, (.int .i64 xb))) 12 rfl rfl (hon 12 (by kernel_rfl)) rfl
   have e20 : a.tmps[20]? = some ((.bool false)) := by rw [ha]; exact putSel_on (e := (8, 20, (.bool false))) 8 rfl rfl (hon 8 (by kernel_rfl)) rfl
   replace ha := Aside0.mk ha
   have HR := Aside0.mk Q_HR
   have HB := Aside0.mk Q_HB
   have X3 := Aside0.mk Q_X3
   have X4 := Aside0.mk Q_X4
   refine value_ (w1 := w') (v := (.bool true)) (wanted_on rfl rfl rfl (e20.trans (by (rfl)))) rfl ?_ ?_
   ·go_simp
    (try simp only [i64_w])
    try rfl
   refine hK.out _ _ ⟨(by rw [ha.out]; exact putSel_upk 13 hb_ rfl rfl rfl), Q_HR, Q_HB, Q_X3, Q_X4⟩
  refine steps_cons ?_ ?_
  ·rintro b a w' ⟨ha, Q_HR, Q_HB, Q_X3, Q_X4⟩ hb_ hon hoff
   refine ⟨_, rfl, fun K hK => ?_⟩
   have e20 : a.tmps[20]? = some ((.bool false)) := by rw [ha]; exact putSel_on (e := (8, 20, (.bool false))) 8 rfl rfl (hon 8 (by kernel_rfl)) rfl
   have e25 : a.tmps[25]? = some ((.bool true)) := by rw [ha]; exact putSel_on (e := (13, 25, (.bool true))) 13 rfl rfl (hon 13 (by kernel_rfl)) rfl
   replace ha := Aside0.mk ha
   have HR := Aside0.mk Q_HR
   have HB := Aside0.mk Q_HB
   have X3 := Aside0.mk Q_X3
   have X4 := Aside0.mk Q_X4
   refine value_ (w1 := w') (v := (.bool true)) (by rfl) rfl ?_ ?_
   ·go_simp
    (try simp only [i64_w])
    try rfl
   refine hK.out _ _ ⟨(by rw [ha.out]; exact putSel_upk 14 hb_ rfl rfl rfl), Q_HR, Q_HB, Q_X3, Q_X4⟩
  refine steps_cons ?_ ?_
  ·rintro b a w' ⟨ha, Q_HR, Q_HB, Q_X3, Q_X4⟩ hb_ hon hoff
   refine ⟨_, rfl, fun K hK => ?_⟩
   have e26 : a.tmps[26]? = some ((.bool true)) := by rw [ha]; exact putSel_on (e := (14, 26, (.bool true))) 14 rfl rfl (hon 14 (by kernel_rfl)) rfl
   replace ha := Aside0.mk ha
   have HR := Aside0.mk Q_HR
   have HB := Aside0.mk Q_HB
   have X3 := Aside0.mk Q_X3
   have X4 := Aside0.mk Q_X4
   refine value_ (w1 := w') (v := (.bool true)) (by rfl) rfl ?_ ?_
   ·go_simp
    (try simp only [i64_w])
    try rfl
   refine hK.out _ _ ⟨(by rw [ha.out]; exact putSel_upk 15 hb_ rfl rfl rfl), Q_HR, Q_HB, Q_X3, Q_X4⟩
  refine steps_cons ?_ ?_
  ·rintro b a w' ⟨ha, Q_HR, Q_HB, Q_X3, Q_X4⟩ hb_ hon hoff
   refine ⟨_, rfl, fun K hK => ?_⟩
   have e27 : a.tmps[27]? = some ((.bool true)) := by rw [ha]; exact putSel_on (e := (15, 27, (.bool true))) 15 rfl rfl (hon 15 (by kernel_rfl)) rfl
   replace ha := Aside0.mk ha
   have HR := Aside0.mk Q_HR
   have HB := Aside0.mk Q_HB
   have X3 := Aside0.mk Q_X3
   have X4 := Aside0.mk Q_X4
   refine off_ (wanted_off rfl rfl rfl (e27.trans (by (rfl)))) ?_
   refine hK.out _ _ ⟨(by rw [ha.out]; exact putSel_upk 16 hb_ rfl rfl rfl), Q_HR, Q_HB, Q_X3, Q_X4⟩
  refine steps_cons ?_ ?_
  ·rintro b a w' ⟨ha, Q_HR, Q_HB, Q_X3, Q_X4⟩ hb_ hon hoff
   refine ⟨_, rfl, fun K hK => ?_⟩
   have e27 : a.tmps[27]? = some ((.bool true)) := by rw [ha]; exact putSel_on (e := (15, 27, (.bool true))) 15 rfl rfl (hon 15 (by kernel_rfl)) rfl
   replace ha := Aside0.mk ha
   have HR := Aside0.mk Q_HR
   have HB := Aside0.mk Q_HB
   have X3 := Aside0.mk Q_X3
   have X4 := Aside0.mk Q_X4
   refine off_ (wanted_off rfl rfl rfl (e27.trans (by (rfl)))) ?_
   refine hK.out _ _ ⟨(by rw [ha.out]; exact putSel_upk 17 hb_ rfl rfl rfl), Q_HR, Q_HB, Q_X3, Q_X4⟩
  refine steps_cons ?_ ?_
  ·rintro b a w' ⟨ha, Q_HR, Q_HB, Q_X3, Q_X4⟩ hb_ hon hoff
   refine ⟨_, rfl, fun K hK => ?_⟩
   have e27 : a.tmps[27]? = some ((.bool true)) := by rw [ha]; exact putSel_on (e := (15, 27, (.bool true))) 15 rfl rfl (hon 15 (by kernel_rfl)) rfl
   replace ha := Aside0.mk ha
   have HR := Aside0.mk Q_HR
   have HB := Aside0.mk Q_HB
   have X3 := Aside0.mk Q_X3
   have X4 := Aside0.mk Q_X4
   refine off_ (wanted_off rfl rfl rfl (e27.trans (by (rfl)))) ?_
   refine hK.out _ _ ⟨(by rw [ha.out]; exact putSel_upk 18 hb_ rfl rfl rfl), Q_HR, Q_HB, Q_X3, Q_X4⟩
  refine steps_cons ?_ ?_
  ·rintro b a w' ⟨ha, Q_HR, Q_HB, Q_X3, Q_X4⟩ hb_ hon hoff
   refine ⟨_, rfl, fun K hK => ?_⟩
   have e27 : a.tmps[27]? = some ((.bool true)) := by rw [ha]; exact putSel_on (e := (15, 27, (.bool true))) 15 rfl rfl (hon 15 (by kernel_rfl)) rfl
   replace ha := Aside0.mk ha
   have HR := Aside0.mk Q_HR
   have HB := Aside0.mk Q_HB
   have X3 := Aside0.mk Q_X3
   have X4 := Aside0.mk Q_X4
   refine off_ (wanted_off rfl rfl rfl (e27.trans (by (rfl)))) ?_
   refine hK.out _ _ ⟨(by rw [ha.out]; exact putSel_upk 19 hb_ rfl rfl rfl), Q_HR, Q_HB, Q_X3, Q_X4⟩
  refine steps_cons ?_ ?_
  ·rintro b a w' ⟨ha, Q_HR, Q_HB, Q_X3, Q_X4⟩ hb_ hon hoff
   refine ⟨_, rfl, fun K hK => ?_⟩
   have e27 : a.tmps[27]? = some ((.bool true)) := by rw [ha]; exact putSel_on (e := (15, 27, (.bool true))) 15 rfl rfl (hon 15 (by kernel_rfl)) rfl
   replace ha := Aside0.mk ha
   have HR := Aside0.mk Q_HR
   have HB := Aside0.mk Q_HB
   have X3 := Aside0.mk Q_X3
   have X4 := Aside0.mk Q_X4
   refine off_ (wanted_off rfl rfl rfl (e27.trans (by (rfl)))) ?_
   refine hK.out _ _ ⟨(by rw [ha.out]; exact putSel_upk 20 hb_ rfl rfl rfl), Q_HR, Q_HB, Q_X3, Q_X4⟩
  refine steps_cons ?_ ?_
  ·rintro b a w' ⟨ha, Q_HR, Q_HB, Q_X3, Q_X4⟩ hb_ hon hoff
   refine ⟨_, rfl, fun K hK => ?_⟩
   have e27 : a.tmps[27]? = some ((.bool true)) := by rw [ha]; exact putSel_on (e := (15, 27, (.bool true))) 15 rfl rfl (hon 15 (by kernel_rfl)) rfl
   have e32 : a.tmps[32]? = some (undef) := by rw [ha]; exact putSel_on (e := (20, 32, undef)) 20 rfl rfl (hon 20 (by kernel_rfl)) rfl
   replace ha := Aside0.mk ha
   have HR := Aside0.mk Q_HR
   have HB := Aside0.mk Q_HB
   have X3 := Aside0.mk Q_X3
   have X4 := Aside0.mk Q_X4
   refine value_ (w1 := w') (v := (.bool true)) (by rfl) rfl ?_ ?_
   ·go_simp
    (try simp only [i64_w])
    try rfl
   refine hK.out _ _ ⟨(by rw [ha.out]; exact putSel_upk 21 hb_ rfl rfl rfl), Q_HR, Q_HB, Q_X3, Q_X4⟩
  exact steps_nil
 rintro b a we hall ⟨ha, Q_HR, Q_HB, Q_X3, Q_X4⟩
 clear HB HR X3 X4
 have hb0_ := hall 0 (by kernel_rfl)
 have hb1_ := hall 1 (by kernel_rfl)
 have hb2_ := hall 2 (by kernel_rfl)
 have hb3_ := hall 3 (by kernel_rfl)
 have hb4_ := hall 4 (by kernel_rfl)
 have hb5_ := hall 5 (by kernel_rfl)
 have hb6_ := hall 6 (by kernel_rfl)
 have hb7_ := hall 7 (by kernel_rfl)
 have hb8_ := hall 8 (by kernel_rfl)
 have hb9_ := hall 9 (by kernel_rfl)
 have hb10_ := hall 10 (by kernel_rfl)
 have hb11_ := hall 11 (by kernel_rfl)
 have hb12_ := hall 12 (by kernel_rfl)
 have hb13_ := hall 13 (by kernel_rfl)
 have hb14_ := hall 14 (by kernel_rfl)
 have hb15_ := hall 15 (by kernel_rfl)
 have hb16_ := hall 16 (by kernel_rfl)
 have hb17_ := hall 17 (by kernel_rfl)
 have hb18_ := hall 18 (by kernel_rfl)
 have hb19_ := hall 19 (by kernel_rfl)
 have hb20_ := hall 20 (by kernel_rfl)
 have hb21_ := hall 21 (by kernel_rfl)
 subst ha
 simp only [putSel, hb0_, hb1_, hb2_, hb3_, hb4_, hb5_, hb6_, hb7_, hb8_, hb9_, hb10_, hb11_, hb12_, hb13_, hb14_, hb15_, hb16_, hb17_, hb18_, hb19_, hb20_, hb21_, if_true, Act.put, List.setIfInBounds_toArray, List.set_cons_zero, List.set_cons_succ]
 have HR := Aside0.mk Q_HR
 clear Q_HR
 have HB := Aside0.mk Q_HB
 clear Q_HB
 have X3 := Aside0.mk Q_X3
 clear Q_X3
 have X4 := Aside0.mk Q_X4
 clear Q_X4
 clear hall hb0_ hb1_ hb2_ hb3_ hb4_ hb5_ hb6_ hb7_ hb8_ hb9_ hb10_ hb11_ hb12_ hb13_ hb14_ hb15_ hb16_ hb17_ hb18_ hb19_ hb20_ hb21_
 have c40 := X4.out.c0
 have c41 := X4.out.c1
 have f40 := X4.out.fz 0
 have f41 := X4.out.fz 1
 go_wp2_with fail
 refine bodyPost_ret (res_span _ _ (w.heap.size + 1) 0 0 false rfl rfl (blk_put (blk_put X4.out 0 _ rfl) 1 _ rfl)) rfl ?_
 exact ⟨rfl, below_set' (below_set' HB.out (by omega)) (by omega)⟩
set_option maxHeartbeats 4000000 in
set_option maxRecDepth 100000 in
theorem span_no4 (A0 : Option Addr) (c0 : Nat) (l0 : List Rn) (xa xb : Int) (w : World) (h : RC w A0 l0) (hc : l0.length ≤ c0) (hl : l0.length ≤ 140737488351232) (hg : good l0 = true) (ha : 0 ≤ xa) (hab : xa ≤ xb) (hi_ : inL l0 < xb) :
  Calls Try.prog 16 #[.slice A0 l0.length c0, .agg #[.int .i64 xa, .int .i64 xb]] w (SpanPost ((0, 0), false) w) := by
 have HG := Aside0.mk (good_c A0 c0 l0 hc hl)
 have HI := Aside0.mk (in_c A0 c0 l0 hc hl hg)
 rw [hg] at HG
 have H0 := Aside0.mk h
 have a1 : decide (xa < 0) = false := by simp; omega
 have a2 : decide (xb < xa) = false := by simp; omega
 have a3 : decide (inL l0 < xb) = true := by simpa using hi_
 clear h hc hl hg
 go_enter Try.func16, Try.ntmps16
 go_wp2_with fail
 obtain ⟨w2, hw2⟩ : ∃ w2, w2 = (w.alloc (.cells #[.int .i64 xa, .int .i64 xb] 24)).alloc (.cells #[.int .i64 0, .int .i64 0] 24) := ⟨_, rfl⟩
 have hb2 : Below w.heap.size w w2 := by rw [hw2]; exact below_alloc (below_alloc (Below.refl _ _) _) _
 have HB := Aside0.mk hb2
 have HR := Aside0.mk (H0.out.below hb2)
 have X3 := Aside0.mk (show Sx w.heap.size xa xb w2 by rw [hw2]; exact (show Sx w.heap.size xa xb (w.alloc _) from Own.heap_new w _).below (below_alloc (Below.refl _ _) _))
 have X4 := Aside0.mk (show Sx (w.heap.size + 1) 0 0 w2 by
  rw [hw2]
  have := Own.heap_new (w.alloc (.cells #[.int .i64 xa, .int .i64 xb] 24)) (.cells #[.int .i64 0, .int .i64 0] 24)
  rwa [World.size_alloc] at this)
 rw [← hw2]
 clear hw2 hb2
 refine start_ (n := 22) (S := fun w' => True) (ds := []) #[false, false, false, false, false, false, false, false, false, false, false, false, false, false, false, false, false, false, false, false, false, false] (by kernel_rfl) rfl rfl trivial (fun hHeld => ?_); refine with_tabW PlaceS.tab1 PlaceS.bits1 (fun HT_ HW_ => ?_)
 refine inv_at [0, 1, 2, 3, 4, 5, 6, 7, 8, 9, 10, 11, 12, 13, 14, 15, 16, 17, 18, 19, 20, 21] (fun a0_ b a w' => a = putSel a0_ b [(0, 12, (.slice A0 l0.length c0)), (1, 13, (.bool true)), (2, 14, (.bool false)), (3, 15, (.bool false)), (4, 16, (.pointer (some ⟨w.heap.size, 0, none⟩))), (5, 17, (.int .i64 xa)), (6, 18, (.bool false)), (7, 19, (.bool false)), (8, 20, (.bool false)), (9, 21, (.pointer (some ⟨w.heap.size, 0, none⟩))), (10, 22, (.int .i64 xa)), (11, 23, (.pointer (some ⟨w.heap.size, 1, none⟩))), (12, 24, (.int .i64 xb)), (13, 25, (.bool false)), (14, 26, (.bool false)), (15, 27, (.bool false)), (16, 28, (.pointer (some ⟨w.heap.size, 1, none⟩))), (17, 29, (.int .i64 xb)), (18, 30, (.slice A0 l0.length c0)), (19, 31, (.int .i64 (inL l0))), (20, 32, (.bool true)), (21, 33, (.bool true))] ∧ (RC w' A0 l0) ∧ (Below w.heap.size w w') ∧ (Sx w.heap.size xa xb w') ∧ (Sx (w.heap.size + 1) 0 0 w')) HT_.out HW_.out (by kernel_rfl) (by kernel_rfl) ?_ ?_ ?_
 ·exact ⟨by simp only [putSel, Bool.false_eq_true, if_false], HR.out.below (below_drew1 (Below.refl _ _)), below_drew1 HB.out, X3.out.below (below_drew1 (Below.refl _ _)), X4.out.below (below_drew1 (Below.refl _ _))⟩
 ·skip
  clear HB HR X3 X4
  refine steps_cons ?_ ?_
  ·rintro b a w' ⟨ha, Q_HR, Q_HB, Q_X3, Q_X4⟩ hb_ hon hoff
   refine ⟨_, rfl, fun K hK => ?_⟩
   have e0 : a.tmps[0]? = some ((.slice A0 l0.length c0)) := by rw [ha]; exact (putSel_off rfl).trans rfl
   replace ha := Aside0.mk ha
   have HR := Aside0.mk Q_HR
   have HB := Aside0.mk Q_HB
   have X3 := Aside0.mk Q_X3
   have X4 := Aside0.mk Q_X4
   refine value_ (w1 := w') (v := (.slice A0 l0.length c0)) (by rfl) rfl ?_ ?_
   ·go_simp
    (try simp only [i64_w])
    try rfl
   refine hK.out _ _ ⟨(by rw [ha.out]; exact putSel_upk 0 hb_ rfl rfl rfl), Q_HR, Q_HB, Q_X3, Q_X4⟩
  refine steps_cons ?_ ?_
  ·rintro b a w' ⟨ha, Q_HR, Q_HB, Q_X3, Q_X4⟩ hb_ hon hoff
   refine ⟨_, rfl, fun K hK => ?_⟩
   have e12 : a.tmps[12]? = some ((.slice A0 l0.length c0)) := by rw [ha]; exact putSel_on (e := (0, 12, (.slice A0 l0.length c0))) 0 rfl rfl (hon 0 (by kernel_rfl)) rfl
   replace ha := Aside0.mk ha
   have HR := Aside0.mk Q_HR
   have HB := Aside0.mk Q_HB
   have X3 := Aside0.mk Q_X3
   have X4 := Aside0.mk Q_X4
   refine goes_ Try.func24 (by kernel_rfl) rfl #[.slice A0 l0.length c0] (by rfl) rfl rfl (by (simp only [List.map_toArray, List.map_cons, List.map_nil, Act.eval, Array.getD_eq_getD_getElem?, Option.getD_some, e12]; done)) ?_
   refine (HG.out _ HR.out).mono ?_
   rintro e w1_ ⟨rfl, hb⟩
   refine ⟨_, rfl, ?_⟩
   refine hK.out _ _ ⟨(by rw [ha.out]; exact putSel_upk 1 hb_ rfl rfl rfl), HR.out.below hb, below_step HB.out hb, X3.out.below hb, X4.out.below hb⟩
  refine steps_cons ?_ ?_
  ·rintro b a w' ⟨ha, Q_HR, Q_HB, Q_X3, Q_X4⟩ hb_ hon hoff
   refine ⟨_, rfl, fun K hK => ?_⟩
   have e13 : a.tmps[13]? = some ((.bool true)) := by rw [ha]; exact putSel_on (e := (1, 13, (.bool true))) 1 rfl rfl (hon 1 (by kernel_rfl)) rfl
   replace ha := Aside0.mk ha
   have HR := Aside0.mk Q_HR
   have HB := Aside0.mk Q_HB
   have X3 := Aside0.mk Q_X3
   have X4 := Aside0.mk Q_X4
   refine value_ (w1 := w') (v := (.bool false)) (by rfl) rfl ?_ ?_
   ·go_simp
    (try simp only [i64_w])
    try rfl
   refine hK.out _ _ ⟨(by rw [ha.out]; exact putSel_upk 2 hb_ rfl rfl rfl), Q_HR, Q_HB, Q_X3, Q_X4⟩
  refine steps_cons ?_ ?_
  ·rintro b a w' ⟨ha, Q_HR, Q_HB, Q_X3, Q_X4⟩ hb_ hon hoff
   refine ⟨_, rfl, fun K hK => ?_⟩
   have e14 : a.tmps[14]? = some ((.bool false)) := by rw [ha]; exact putSel_on (e := (2, 14, (.bool false))) 2 rfl rfl (hon 2 (by kernel_rfl)) rfl
   replace ha := Aside0.mk ha
   have HR := Aside0.mk Q_HR
   have HB := Aside0.mk Q_HB
   have X3 := Aside0.mk Q_X3
   have X4 := Aside0.mk Q_X4
   refine value_ (w1 := w') (v := (.bool false)) (by rfl) rfl ?_ ?_
   ·go_simp
    (try simp only [i64_w])
    try rfl
   refine hK.out _ _ ⟨(by rw [ha.out]; exact putSel_upk 3 hb_ rfl rfl rfl), Q_HR, Q_HB, Q_X3, Q_X4⟩
  refine steps_cons ?_ ?_
  ·rintro b a w' ⟨ha, Q_HR, Q_HB, Q_X3, Q_X4⟩ hb_ hon hoff
   refine ⟨_, rfl, fun K hK => ?_⟩
   have e3 : a.tmps[3]? = some ((.pointer (some ⟨w.heap.size, 0, none⟩))) := by rw [ha]; exact (putSel_off rfl).trans rfl
   have e15 : a.tmps[15]? = some ((.bool false)) := by rw [ha]; exact putSel_on (e := (3, 15, (.bool false))) 3 rfl rfl (hon 3 (by kernel_rfl)) rfl
   replace ha := Aside0.mk ha
   have HR := Aside0.mk Q_HR
   have HB := Aside0.mk Q_HB
   have X3 := Aside0.mk Q_X3
   have X4 := Aside0.mk Q_X4
   refine value_ (w1 := w') (v := (.pointer (some ⟨w.heap.size, 0, none⟩))) (wanted_on rfl rfl rfl (e15.trans (by (rfl)))) rfl ?_ ?_
   ·go_simp
    (try simp only [i64_w])
    try rfl
   refine hK.out _ _ ⟨(by rw [ha.out]; exact putSel_upk 4 hb_ rfl rfl rfl), Q_HR, Q_HB, Q_X3, Q_X4⟩
  refine steps_cons ?_ ?_
  ·rintro b a w' ⟨ha, Q_HR, Q_HB, Q_X3, Q_X4⟩ hb_ hon hoff
   refine ⟨_, rfl, fun K hK => ?_⟩
   have e16 : a.tmps[16]? = some ((.pointer (some ⟨w.heap.size, 0, none⟩))) := by rw [ha]; exact putSel_on (e := (4, 16, (.pointer (some ⟨w.heap.size, 0, none⟩)))) 4 rfl rfl (hon 4 (by kernel_rfl)) rfl
   have e15 : a.tmps[15]? = some ((.bool false)) := by rw [ha]; exact putSel_on (e := (3, 15, (.bool false))) 3 rfl rfl (hon 3 (by kernel_rfl)) rfl
   replace ha := Aside0.mk ha
   have HR := Aside0.mk Q_HR
   have HB := Aside0.mk Q_HB
   have X3 := Aside0.mk Q_X3
   have X4 := Aside0.mk Q_X4
   have hc_ := X3.out.c0
   refine value_ (w1 := w') (v := (.int .i64 xa)) (wanted_on rfl rfl rfl (e15.trans (by (rfl)))) rfl ?_ ?_
   ·go_simp
    (try simp only [i64_w])
    try rfl
   refine hK.out _ _ ⟨(by rw [ha.out]; exact putSel_upk 5 hb_ rfl rfl rfl), Q_HR, Q_HB, Q_X3, Q_X4⟩
  refine steps_cons ?_ ?_
  ·rintro b a w' ⟨ha, Q_HR, Q_HB, Q_X3, Q_X4⟩ hb_ hon hoff
   refine ⟨_, rfl, fun K hK => ?_⟩
   have e17 : a.tmps[17]? = some ((.int .i64 xa)) := by rw [ha]; exact putSel_on (e := (5, 17, (.int .i64 xa))) 5 rfl rfl (hon 5 (by kernel_rfl)) rfl
   have e15 : a.tmps[15]? = some ((.bool false)) := by rw [ha]; exact putSel_on (e := (3, 15, (.bool false))) 3 rfl rfl (hon 3 (by kernel_rfl)) rfl
   replace ha := Aside0.mk ha
   have HR := Aside0.mk Q_HR
   have HB := Aside0.mk Q_HB
   have X3 := Aside0.mk Q_X3
   have X4 := Aside0.mk Q_X4
   refine value_ (w1 := w') (v := (.bool false)) (wanted_on rfl rfl rfl (e15.trans (by (rfl)))) rfl ?_ ?_
   ·go_simp
    (try simp only [i64_w])
    try rfl
   refine hK.out _ _ ⟨(by rw [ha.out]; exact putSel_upk 6 hb_ rfl rfl rfl), Q_HR, Q_HB, Q_X3, Q_X4⟩
  refine steps_cons ?_ ?_
  ·rintro b a w' ⟨ha, Q_HR, Q_HB, Q_X3, Q_X4⟩ hb_ hon hoff
   refine ⟨_, rfl, fun K hK => ?_⟩
   have e15 : a.tmps[15]? = some ((.bool false)) := by rw [ha]; exact putSel_on (e := (3, 15, (.bool false))) 3 rfl rfl (hon 3 (by kernel_rfl)) rfl
   have e18 : a.tmps[18]? = some ((.bool false)) := by rw [ha]; exact putSel_on (e := (6, 18, (.bool false))) 6 rfl rfl (hon 6 (by kernel_rfl)) rfl
   replace ha := Aside0.mk ha
   have HR := Aside0.mk Q_HR
   have HB := Aside0.mk Q_HB
   have X3 := Aside0.mk Q_X3
   have X4 := Aside0.mk Q_X4
   refine value_ (w1 := w') (v := (.bool false)) (by rfl) rfl ?_ ?_
   ·go_simp
    (try simp only [i64_w])
    try rfl
   refine hK.out _ _ ⟨(by rw [ha.out]; exact putSel_upk 7 hb_ rfl rfl rfl), Q_HR, Q_HB, Q_X3, Q_X4⟩
  refine steps_cons ?_ ?_
  ·rintro b a w' ⟨ha, Q_HR, Q_HB, Q_X3, Q_X4⟩ hb_ hon hoff
   refine ⟨_, rfl, fun K hK => ?_⟩
   have e19 : a.tmps[19]? = some ((.bool false)) := by rw [ha]; exact putSel_on (e := (7, 19, (.bool false))) 7 rfl rfl (hon 7 (by kernel_rfl)) rfl
   replace ha := Aside0.mk ha
   have HR := Aside0.mk Q_HR
   have HB := Aside0.mk Q_HB
   have X3 := Aside0.mk Q_X3
   have X4 := Aside0.mk Q_X4
   refine value_ (w1 := w') (v := (.bool false)) (by rfl) rfl ?_ ?_
   ·go_simp
    (try simp only [i64_w])
    try rfl
   refine hK.out _ _ ⟨(by rw [ha.out]; exact putSel_upk 8 hb_ rfl rfl rfl), Q_HR, Q_HB, Q_X3, Q_X4⟩
  refine steps_cons ?_ ?_
  ·rintro b a w' ⟨ha, Q_HR, Q_HB, Q_X3, Q_X4⟩ hb_ hon hoff
   refine ⟨_, rfl, fun K hK => ?_⟩
   have e3 : a.tmps[3]? = some ((.pointer (some ⟨w.heap.size, 0, none⟩))) := by rw [ha]; exact (putSel_off rfl).trans rfl
   have e20 : a.tmps[20]? = some ((.bool false)) := by rw [ha]; exact putSel_on (e := (8, 20, (.bool false))) 8 rfl rfl (hon 8 (by kernel_rfl)) rfl
   replace ha := Aside0.mk ha
   have HR := Aside0.mk Q_HR
   have HB := Aside0.mk Q_HB
   have X3 := Aside0.mk Q_X3
   have X4 := Aside0.mk Q_X4
   refine value_ (w1 := w') (v := (.pointer (some ⟨w.heap.size, 0, none⟩))) (wanted_on rfl rfl rfl (e20.trans (by (rfl)))) rfl ?_ ?_
   ·go_simp
    (try simp only [i64_w])
    try rfl
   refine hK.out _ _ ⟨(by rw [ha.out]; exact putSel_upk 9 hb_ rfl rfl rfl), Q_HR, Q_HB, Q_X3, Q_X4⟩
  refine steps_cons ?_ ?_
  ·rintro b a w' ⟨ha, Q_HR, Q_HB, Q_X3, Q_X4⟩ hb_ hon hoff
   refine ⟨_, rfl, fun K hK => ?_⟩
   have e21 : a.tmps[21]? = some ((.pointer (some ⟨w.heap.size, 0, none⟩))) := by rw [ha]; exact putSel_on (e := (9, 21, (.pointer (some ⟨w.heap.size, 0, none⟩)))) 9 rfl rfl (hon 9 (by kernel_rfl)) rfl
   have e20 : a.tmps[20]? = some ((.bool false)) := by rw [ha]; exact putSel_on (e := (8, 20, (.bool false))) 8 rfl rfl (hon 8 (by kernel_rfl)) rfl
   replace ha := Aside0.mk ha
   have HR := Aside0.mk Q_HR
   have HB := Aside0.mk Q_HB
   have X3 := Aside0.mk Q_X3
   have X4 := Aside0.mk Q_X4
   have hc_ := X3.out.c0
   refine value_ (w1 := w') (v := (.int .i64 xa)) (wanted_on rfl rfl rfl (e20.trans (by (rfl)))) rfl ?_ ?_
   ·go_simp
    (try simp only [i64_w])
    try rfl
   refine hK.out _ _ ⟨(by rw [ha.out]; exact putSel_upk 10 hb_ rfl rfl rfl), Q_HR, Q_HB, Q_X3, Q_X4⟩
  refine steps_cons ?_ ?_
  ·rintro b a w' ⟨ha, Q_HR, Q_HB, Q_X3, Q_X4⟩ hb_ hon hoff
   refine ⟨_, rfl, fun K hK => ?_⟩
   have e3 : a.tmps[3]? = some ((.pointer (some ⟨w.heap.size, 0, none⟩))) := by rw [ha]; exact (putSel_off rfl).trans rfl
   have e20 : a.tmps[20]? = some ((.bool false)) := by rw [ha]; exact putSel_on (e := (8, 20, (.bool false))) 8 rfl rfl (hon 8 (by kernel_rfl)) rfl
   replace ha := Aside0.mk ha
   have HR := Aside0.mk Q_HR
   have HB := Aside0.mk Q_HB
   have X3 := Aside0.mk Q_X3
   have X4 := Aside0.mk Q_X4
   refine value_ (w1 := w') (v := (.pointer (some ⟨w.heap.size, 1, none⟩))) (wanted_on rfl rfl rfl (e20.trans (by (rfl)))) rfl ?_ ?_
   ·go_simp
    (try simp only [i64_w])
    try rfl
   refine hK.out _ _ ⟨(by rw [ha.out]; exact putSel_upk 11 hb_ rfl rfl rfl), Q_HR, Q_HB, Q_X3, Q_X4⟩
  refine steps_cons ?_ ?_
  ·rintro b a w' ⟨ha, Q_HR, Q_HB, Q_X3, Q_X4⟩ hb_ hon hoff
   refine ⟨_, rfl, fun K hK => ?_⟩
   have e23 : a.tmps[23]? = some ((.pointer (some ⟨w.heap.size, 1, none⟩))) := by rw [ha]; exact putSel_on (e := (11, 23, (.pointer (some ⟨w.heap.size, 1, none⟩)))) 11 rfl rfl (hon 11 (by kernel_rfl)) rfl
   have e20 : a.tmps[20]? = some ((.bool false)) := by rw [ha]; exact putSel_on (e := (8, 20, (.bool false))) 8 rfl rfl (hon 8 (by kernel_rfl)) rfl
   replace ha := Aside0.mk ha
   have HR := Aside0.mk Q_HR
   have HB := Aside0.mk Q_HB
   have X3 := Aside0.mk Q_X3
   have X4 := Aside0.mk Q_X4
   have hc_ := X3.out.c1
   refine value_ (w1 := w') (v := (.int .i64 xb)) (wanted_on rfl rfl rfl (e20.trans (by (rfl)))) rfl ?_ ?_
   ·go_simp
    (try simp only [i64_w])
    try rfl
   refine hK.out _ _ ⟨(by rw [ha.out]; exact putSel_upk 12 hb_ rfl rfl rfl), Q_HR, Q_HB, Q_X3, Q_X4⟩
  refine steps_cons ?_ ?_
  ·rintro b a w' ⟨ha, Q_HR, Q_HB, Q_X3, Q_X4⟩ hb_ hon hoff
   refine ⟨_, rfl, fun K hK => ?_⟩
   have e22 : a.tmps[22]? = some ((.int .i64 xa)) := by rw [ha]; exact putSel_on (e := (10, 22, (.int .i64 xa))) 10 rfl rfl (hon 10 (by kernel_rfl)) rfl
   have e24 : a.tmps[24]? = some ((.int .i64 xb)) := by rw [ha]; exact putSel_on (e := (12, 24, (.int .i64 xb))) 12 rfl rfl (hon 12 (by kernel_rfl)) rfl
   have e20 : a.tmps[20]? = some ((.bool false)) := by rw [ha]; exact putSel_on (e := (8, 20, (.bool false))) 8 rfl rfl (hon 8 (by kernel_rfl)) rfl
   replace ha := Aside0.mk ha
   have HR := Aside0.mk Q_HR
   have HB := Aside0.mk Q_HB
   have X3 := Aside0.mk Q_X3
   have X4 := Aside0.mk Q_X4
   refine value_ (w1 := w') (v := (.bool false)) (wanted_on rfl rfl rfl (e20.trans (by (rfl)))) rfl ?_ ?_
   ·go_simp
    (try simp only [i64_w])
    try rfl
   refine hK.out _ _ ⟨(by rw [ha.out]; exact putSel_upk 13 hb_ rfl rfl rfl), Q_HR, Q_HB, Q_X3, Q_X4⟩
  refine steps_cons ?_ ?_
  ·rintro b a w' ⟨ha, Q_HR, Q_HB, Q_X3, Q_X4⟩ hb_ hon hoff
   refine ⟨_, rfl, fun K hK => ?_⟩
   have e20 : a.tmps[20]? = some ((.bool false)) := by rw [ha]; exact putSel_on (e := (8, 20, (.bool false))) 8 rfl rfl (hon 8 (by kernel_rfl)) rfl
   have e25 : a.tmps[25]? = some ((.bool false)) := by rw [ha]; exact putSel_on (e := (13, 25, (.bool false))) 13 rfl rfl (hon 13 (by kernel_rfl)) rfl
   replace ha := Aside0.mk ha
   have HR := Aside0.mk Q_HR
   have HB := Aside0.mk Q_HB
   have X3 := Aside0.mk Q_X3
   have X4 := Aside0.mk Q_X4
   refine value_ (w1 := w') (v := (.bool false)) (by rfl) rfl ?_ ?_
   ·go_simp
    (try simp only [i64_w])
    try rfl
   refine hK.out _ _ ⟨(by rw [ha.out]; exact putSel_upk 14 hb_ rfl rfl rfl), Q_HR, Q_HB, Q_X3, Q_X4⟩
  refine steps_cons ?_ ?_
  ·rintro b a w' ⟨ha, Q_HR, Q_HB, Q_X3, Q_X4⟩ hb_ hon hoff
   refine ⟨_, rfl, fun K hK => ?_⟩
   have e26 : a.tmps[26]? = some ((.bool false)) := by rw [ha]; exact putSel_on (e := (14, 26, (.bool false))) 14 rfl rfl (hon 14 (by kernel_rfl)) rfl
   replace ha := Aside0.mk ha
   have HR := Aside0.mk Q_HR
   have HB := Aside0.mk Q_HB
   have X3 := Aside0.mk Q_X3
   have X4 := Aside0.mk Q_X4
   refine value_ (w1 := w') (v := (.bool false)) (by rfl) rfl ?_ ?_
   ·go_simp
    (try simp only [i64_w])
    try rfl
   refine hK.out _ _ ⟨(by rw [ha.out]; exact putSel_upk 15 hb_ rfl rfl rfl), Q_HR, Q_HB, Q_X3, Q_X4⟩
  refine steps_cons ?_ ?_
  ·rintro b a w' ⟨ha, Q_HR, Q_HB, Q_X3, Q_X4⟩ hb_ hon hoff
   refine ⟨_, rfl, fun K hK => ?_⟩
   have e3 : a.tmps[3]? = some ((.pointer (some ⟨w.heap.size, 0, none⟩))) := by rw [ha]; exact (putSel_off rfl).trans rfl
   have e27 : a.tmps[27]? = some ((.bool false)) := by rw [ha]; exact putSel_on (e := (15, 27, (.bool false))) 15 rfl rfl (hon 15 (by kernel_rfl)) rfl
   replace ha := Aside0.mk ha
   have HR := Aside0.mk Q_HR
   have HB := Aside0.mk Q_HB
   have X3 := Aside0.mk Q_X3
   have X4 := Aside0.mk Q_X4
   refine value_ (w1 := w') (v := (.pointer (some ⟨w.heap.size, 1, none⟩))) (wanted_on rfl rfl rfl (e27.trans (by (rfl)))) rfl ?_ ?_
   ·go_simp
    (try simp only [i64_w])
    try rfl
   refine hK.out _ _ ⟨(by rw [ha.out]; exact putSel_upk 16 hb_ rfl rfl rfl), Q_HR, Q_HB, Q_X3, Q_X4⟩
  refine steps_cons ?_ ?_
  ·rintro b a w' ⟨ha, Q_HR, Q_HB, Q_X3, Q_X4⟩ hb_ hon hoff
   refine ⟨_, rfl, fun K hK => ?_⟩
   have e28 : a.tmps[28]? = some ((.pointer (some ⟨w.heap.size, 1, none⟩))) := by rw [ha]; exact putSel_on (e := (16, 28, (.pointer (some ⟨w.heap.size, 1, none⟩)))) 16 rfl rfl (hon 16 (by kernel_rfl)) rfl
   have e27 : a.tmps[27]? = some ((.bool false)) := by rw [ha]; exact putSel_on (e := (15, 27, (.bool false))) 15 rfl rfl (hon 15 (by kernel_rfl)) rfl
   replace ha := Aside0.mk ha
   have HR := Aside0.mk Q_HR
   have HB := Aside0.mk Q_HB
   have X3 := Aside0.mk Q_X3
   have X4 := Aside0.mk Q_X4
   have hc_ := X3.out.c1
   refine value_ (w1 := w') (v := (.int .i64 xb)) (wanted_on rfl rfl rfl (e27.trans (by (rfl)))) rfl ?_ ?_
   ·go_simp
    (try simp only [i64_w])
    try rfl
   refine hK.out _ _ ⟨(by rw [ha.out]; exact putSel_upk 17 hb_ rfl rfl rfl), Q_HR, Q_HB, Q_X3, Q_X4⟩
  refine steps_cons ?_ ?_
  ·rintro b a w' ⟨ha, Q_HR, Q_HB, Q_X3, Q_X4⟩ hb_ hon hoff
   refine ⟨_, rfl, fun K hK => ?_⟩
   have e0 : a.tmps[0]? = some ((.slice A0 l0.length c0)) := by rw [ha]; exact (putSel_off rfl).trans rfl
   have e27 : a.tmps[27]? = some ((.bool false)) := by rw [ha]; exact putSel_on (e := (15, 27, (.bool false))) 15 rfl rfl (hon 15 (by kernel_rfl)) rfl
   replace ha := Aside0.mk ha
   have HR := Aside0.mk Q_HR
   have HB := Aside0.mk Q_HB
   have X3 := Aside0.mk Q_X3
   have X4 := Aside0.mk Q_X4
   refine value_ (w1 := w') (v := (.slice A0 l0.length c0)) (wanted_on rfl rfl rfl (e27.trans (by (rfl)))) rfl ?_ ?_
   ·go_simp
    (try simp only [i64_w])
    try rfl
   refine hK.out _ _ ⟨(by rw [ha.out]; exact putSel_upk 18 hb_ rfl rfl rfl), Q_HR, Q_HB, Q_X3, Q_X4⟩
  refine steps_cons ?_ ?_
  ·rintro b a w' ⟨ha, Q_HR, Q_HB, Q_X3, Q_X4⟩ hb_ hon hoff
   refine ⟨_, rfl, fun K hK => ?_⟩
   have e30 : a.tmps[30]? = some ((.slice A0 l0.length c0)) := by rw [ha]; exact putSel_on (e := (18, 30, (.slice A0 l0.length c0))) 18 rfl rfl (hon 18 (by kernel_rfl)) rfl
   have e27 : a.tmps[27]? = some ((.bool false)) := by rw [ha]; exact putSel_on (e := (15, 27, (.bool false))) 15 rfl rfl (hon 15 (by kernel_rfl)) rfl
   replace ha := Aside0.mk ha
   have HR := Aside0.mk Q_HR
   have HB := Aside0.mk Q_HB
   have X3 := Aside0.mk Q_X3
   have X4 := Aside0.mk Q_X4
   refine goes_ Try.func26 (by kernel_rfl) rfl #[.slice A0 l0.length c0] (wanted_on rfl rfl rfl (e27.trans (by (rfl)))) rfl rfl (by (simp only [List.map_toArray, List.map_cons, List.map_nil, Act.eval, Array.getD_eq_getD_getElem?, Option.getD_some, e30, e27]; done)) ?_
   refine (HI.out _ HR.out).mono ?_
   rintro e w1_ ⟨rfl, hb⟩
   refine ⟨_, rfl, ?_⟩
   refine hK.out _ _ ⟨(by rw [ha.out]; exact putSel_upk 19 hb_ rfl rfl rfl), HR.out.below hb, below_step HB.out hb, X3.out.below hb, X4.out.below hb⟩
  refine steps_cons ?_ ?_
  ·rintro b a w' ⟨ha, Q_HR, Q_HB, Q_X3, Q_X4⟩ hb_ hon hoff
   refine ⟨_, rfl, fun K hK => ?_⟩
   have e29 : a.tmps[29]? = some ((.int .i64 xb)) := by rw [ha]; exact putSel_on (e := (17, 29, (.int .i64 xb))) 17 rfl rfl (hon 17 (by kernel_rfl)) rfl
   have e31 : a.tmps[31]? = some ((.int .i64 (inL l0))) := by rw [ha]; exact putSel_on (e := (19, 31, (.int .i64 (inL l0)))) 19 rfl rfl (hon 19 (by kernel_rfl)) rfl
   have e27 : a.tmps[27]? = some ((.bool false)) := by rw [ha]; exact putSel_on (e := (15, 27, (.bool false))) 15 rfl rfl (hon 15 (by kernel_rfl)) rfl
   replace ha := Aside0.mk ha
   have HR := Aside0.mk Q_HR
   have HB := Aside0.mk Q_HB
   have X3 := Aside0.mk Q_X3
   have X4 := Aside0.mk Q_X4
   refine value_ (w1 := w') (v := (.bool true)) (wanted_on rfl rfl rfl (e27.trans (by (rfl)))) rfl ?_ ?_
   ·go_simp
    (try simp only [i64_w])
    try rfl
   refine hK.out _ _ ⟨(by rw [ha.out]; exact putSel_upk 20 hb_ rfl rfl rfl), Q_HR, Q_HB, Q_X3, Q_X4⟩
  refine steps_cons ?_ ?_
  ·rintro b a w' ⟨ha, Q_HR, Q_HB, Q_X3, Q_X4⟩ hb_ hon hoff
   refine ⟨_, rfl, fun K hK => ?_⟩
   have e27 : a.tmps[27]? = some ((.bool false)) := by rw [ha]; exact putSel_on (e := (15, 27, (.bool false))) 15 rfl rfl (hon 15 (by kernel_rfl)) rfl
   have e32 : a.tmps[32]? = some ((.bool true)) := by rw [ha]; exact putSel_on (e := (20, 32, (.bool true))) 20 rfl rfl (hon 20 (by kernel_rfl)) rfl
   replace ha := Aside0.mk ha
   have HR := Aside0.mk Q_HR
   have HB := Aside0.mk Q_HB
   have X3 := Aside0.mk Q_X3
   have X4 := Aside0.mk Q_X4
   refine value_ (w1 := w') (v := (.bool true)) (by rfl) rfl ?_ ?_
   ·go_simp
    (try simp only [i64_w])
    try rfl
   refine hK.out _ _ ⟨(by rw [ha.out]; exact putSel_upk 21 hb_ rfl rfl rfl), Q_HR, Q_HB, Q_X3, Q_X4⟩
  exact steps_nil
 rintro b a we hall ⟨ha, Q_HR, Q_HB, Q_X3, Q_X4⟩
 clear HB HR X3 X4
 have hb0_ := hall 0 (by kernel_rfl)
 have hb1_ := hall 1 (by kernel_rfl)
 have hb2_ := hall 2 (by kernel_rfl)
 have hb3_ := hall 3 (by kernel_rfl)
 have hb4_ := hall 4 (by kernel_rfl)
 have hb5_ := hall 5 (by kernel_rfl)
 have hb6_ := hall 6 (by kernel_rfl)
 have hb7_ := hall 7 (by kernel_rfl)
 have hb8_ := hall 8 (by kernel_rfl)
 have hb9_ := hall 9 (by kernel_rfl)
 have hb10_ := hall 10 (by kernel_rfl)
 have hb11_ := hall 11 (by kernel_rfl)
 have hb12_ := hall 12 (by kernel_rfl)
 have hb13_ := hall 13 (by kernel_rfl)
 have hb14_ := hall 14 (by kernel_rfl)
 have hb15_ := hall 15 (by kernel_rfl)
 have hb16_ := hall 16 (by kernel_rfl)
 have hb17_ := hall 17 (by kernel_rfl)
 have hb18_ := hall 18 (by kernel_rfl)
 have hb19_ := hall 19 (by kernel_rfl)
 have hb20_ := hall 20 (by kernel_rfl)
 have hb21_ := hall 21 (by kernel_rfl)
 subst ha
 simp only [putSel, hb0_, hb1_, hb2_, hb3_, hb4_, hb5_, hb6_, hb7_, hb8_, hb9_, hb10_, hb11_, hb12_, hb13_, hb14_, hb15_, hb16_, hb17_, hb18_, hb19_, hb20_, hb21_, if_true, Act.put, List.setIfInBounds_toArray, List.set_cons_zero, List.set_cons_succ]
 have HR := Aside0.mk Q_HR
 clear Q_HR
 have HB := Aside0.mk Q_HB
 clear Q_HB
 have X3 := Aside0.mk Q_X3
 clear Q_X3
 have X4 := Aside0.mk Q_X4
 clear Q_X4
 clear hall hb0_ hb1_ hb2_ hb3_ hb4_ hb5_ hb6_ hb7_ hb8_ hb9_ hb10_ hb11_ hb12_ hb13_ hb14_ hb15_ hb16_ hb17_ hb18_ hb19_ hb20_ hb21_
 have c40 := X4.out.c0
 have c41 := X4.out.c1
 have f40 := X4.out.fz 0
 have f41 := X4.out.fz 1
 go_wp2_with fail
 refine bodyPost_ret (res_span _ _ (w.heap.size + 1) 0 0 false rfl rfl (blk_put (blk_put X4.out 0 _ rfl) 1 _ rfl)) rfl ?_
 exact ⟨rfl, below_set' (below_set' HB.out (by omega)) (by omega)⟩
set_option maxHeartbeats 8000000 in
set_option maxRecDepth 100000 in
theorem span_yes (A0 : Option Addr) (c0 : Nat) (l0 : List Rn) (xa xb : Int) (w : World) (h : RC w A0 l0) (hc : l0.length ≤ c0) (hl : l0.length ≤ 140737488351232) (hg : good l0 = true) (ha : 0 ≤ xa) (hab : xa ≤ xb) (hi_ : xb ≤ inL l0) :
  Calls Try.prog 16 #[.slice A0 l0.length c0, .agg #[.int .i64 xa, .int .i64 xb]] w (SpanPost (spanL l0 xa xb) w) := by
 refine (callsIn_wide (n := 12)).1 ?_
 have HG := Aside0.mk (good_c A0 c0 l0 hc hl)
 have HI := Aside0.mk (in_c A0 c0 l0 hc hl hg)
 have HMV := Aside0.mk (fun W (hr : RC W A0 l0) => move_c A0 c0 l0 xa false W hr hc hl)
 rw [hg] at HG
 obtain ⟨g1, g2, g3, g4⟩ := good_ok hg
 have gs := (fits_iff g4 0 0 (by decide) (by decide)).1 g3
 have HOK := Aside0.mk g4
 have HSM := Aside0.mk (show Sums 0 0 E l0 from ⟨by decide, by decide, by omega, by rw [E_size]; omega⟩)
 have HLEN := Aside0.mk g2
 have hMa : xa ≤ 16777216 := by omega
 have hMb : xb ≤ 16777216 := by omega
 have hb0 : 0 ≤ xb := by omega
 have H0 := Aside0.mk h
 have HA := Aside0.mk (RC.lt h)
 have a1 : decide (xa < 0) = false := by simp; omega
 have a2 : decide (xb < xa) = false := by simp; omega
 have a3 : decide (inL l0 < xb) = false := by simpa using hi_
 obtain ⟨M, hM⟩ : ∃ M, M = spS xa xb (stepsL l0 0 0) ⟨0, 0, false⟩ := ⟨_, rfl⟩
 have hV : spanL l0 xa xb = (if M.found then (M.e0, M.e1) else ((moveL l0 xa false).1, (moveL l0 xa false).1), true) := by unfold spanL; rw [if_pos ⟨hg, ha, hab, hi_⟩, hM]
 obtain ⟨V, hVV⟩ : ∃ V, V = spanL l0 xa xb := ⟨_, rfl⟩
 rw [← hVV] at hV ⊢
 have HV := Aside0.mk hV
 have HM := Aside0.mk hM
 clear h hc hl hg g1 g2 g3 g4 gs hV hM hVV hi_ hab
 refine callsIn_of_wp_marks Try.func16 rfl trivial ?_ rfl
 simp only [Try.ntmps16, List.size_toArray, List.length_cons, List.length_nil, Nat.reduceAdd, Nat.reduceSub, Array.replicate_succ, Array.replicate_zero, List.push_toArray, List.append_toArray, List.nil_append, List.cons_append]
 gi_wp2
 obtain ⟨w2, hw2⟩ : ∃ w2, w2 = (w.alloc (.cells #[.int .i64 xa, .int .i64 xb] 24)).alloc (.cells #[.int .i64 0, .int .i64 0] 24) := ⟨_, rfl⟩
 have hb2 : Below w.heap.size w w2 := by rw [hw2]; exact below_alloc (below_alloc (Below.refl _ _) _) _
 have HB := Aside0.mk hb2
 have HR := Aside0.mk (H0.out.below hb2)
 have X3 := Aside0.mk (show Sx w.heap.size xa xb w2 by rw [hw2]; exact (show Sx w.heap.size xa xb (w.alloc _) from Own.heap_new w _).below (below_alloc (Below.refl _ _) _))
 have X4 := Aside0.mk (show Sx (w.heap.size + 1) 0 0 w2 by
  rw [hw2]
  have := Own.heap_new (w.alloc (.cells #[.int .i64 xa, .int .i64 xb] 24)) (.cells #[.int .i64 0, .int .i64 0] 24)
  rwa [World.size_alloc] at this)
 rw [← hw2]
 clear hw2 hb2
 refine wpIn_wide.2 ?_
 refine start_ (n := 22) (S := fun w' => True) (ds := []) #[false, false, false, false, false, false, false, false, false, false, false, false, false, false, false, false, false, false, false, false, false, false] (by kernel_rfl) rfl rfl trivial (fun hHeld => ?_); refine with_tabW PlaceS.tab1 PlaceS.bits1 (fun HT_ HW_ => ?_)
 refine inv_at [0, 1, 2, 3, 4, 5, 6, 7, 8, 9, 10, 11, 12, 13, 14, 15, 16, 17, 18, 19, 20, 21] (fun a0_ b a w' => a = putSel a0_ b [(0, 12, (.slice A0 l0.length c0)), (1, 13, (.bool true)), (2, 14, (.bool false)), (3, 15, (.bool false)), (4, 16, (.pointer (some ⟨w.heap.size, 0, none⟩))), (5, 17, (.int .i64 xa)), (6, 18, (.bool false)), (7, 19, (.bool false)), (8, 20, (.bool false)), (9, 21, (.pointer (some ⟨w.heap.size, 0, none⟩))), (10, 22, (.int .i64 xa)), (11, 23, (.pointer (some ⟨w.heap.size, 1, none⟩))), (12, 24, (.int .i64 xb)), (13, 25, (.bool false)), (14, 26, (.bool false)), (15, 27, (.bool false)), (16, 28, (.pointer (some ⟨w.heap.size, 1, none⟩))), (17, 29, (.int .i64 xb)), (18, 30, (.slice A0 l0.length c0)), (19, 31, (.int .i64 (inL l0))), (20, 32, (.bool false)), (21, 33, (.bool false))] ∧ (RC w' A0 l0) ∧ (Below w.heap.size w w') ∧ (Sx w.heap.size xa xb w') ∧ (Sx (w.heap.size + 1) 0 0 w')) HT_.out HW_.out (by kernel_rfl) (by kernel_rfl) ?_ ?_ ?_
 ·exact ⟨by simp only [putSel, Bool.false_eq_true, if_false], HR.out.below (below_drew1 (Below.refl _ _)), below_drew1 HB.out, X3.out.below (below_drew1 (Below.refl _ _)), X4.out.below (below_drew1 (Below.refl _ _))⟩
 ·skip
  clear HB HR X3 X4
  refine steps_cons ?_ ?_
  ·rintro b a w' ⟨ha, Q_HR, Q_HB, Q_X3, Q_X4⟩ hb_ hon hoff
   refine ⟨_, rfl, fun K hK => ?_⟩
   have e0 : a.tmps[0]? = some ((.slice A0 l0.length c0)) := by rw [ha]; exact (putSel_off rfl).trans rfl
   replace ha := Aside0.mk ha
   have HR := Aside0.mk Q_HR
   have HB := Aside0.mk Q_HB
   have X3 := Aside0.mk Q_X3
   have X4 := Aside0.mk Q_X4
   refine value_ (w1 := w') (v := (.slice A0 l0.length c0)) (by rfl) rfl ?_ ?_
   ·go_simp
    (try simp only [i64_w])
    try rfl
   refine hK.out _ _ ⟨(by rw [ha.out]; exact putSel_upk 0 hb_ rfl rfl rfl), Q_HR, Q_HB, Q_X3, Q_X4⟩
  refine steps_cons ?_ ?_
  ·rintro b a w' ⟨ha, Q_HR, Q_HB, Q_X3, Q_X4⟩ hb_ hon hoff
   refine ⟨_, rfl, fun K hK => ?_⟩
   have e12 : a.tmps[12]? = some ((.slice A0 l0.length c0)) := by rw [ha]; exact putSel_on (e := (0, 12, (.slice A0 l0.length c0))) 0 rfl rfl (hon 0 (by kernel_rfl)) rfl
   replace ha := Aside0.mk ha
   have HR := Aside0.mk Q_HR
   have HB := Aside0.mk Q_HB
   have X3 := Aside0.mk Q_X3
   have X4 := Aside0.mk Q_X4
   refine goes_ Try.func24 (by kernel_rfl) rfl #[.slice A0 l0.length c0] (by rfl) rfl rfl (by (simp only [List.map_toArray, List.map_cons, List.map_nil, Act.eval, Array.getD_eq_getD_getElem?, Option.getD_some, e12]; done)) ?_
   refine (HG.out _ HR.out).mono ?_
   rintro e w1_ ⟨rfl, hb⟩
   refine ⟨_, rfl, ?_⟩
   refine hK.out _ _ ⟨(by rw [ha.out]; exact putSel_upk 1 hb_ rfl rfl rfl), HR.out.below hb, below_step HB.out hb, X3.out.below hb, X4.out.below hb⟩
  refine steps_cons ?_ ?_
  ·rintro b a w' ⟨ha, Q_HR, Q_HB, Q_X3, Q_X4⟩ hb_ hon hoff
   refine ⟨_, rfl, fun K hK => ?_⟩
   have e13 : a.tmps[13]? = some ((.bool true)) := by rw [ha]; exact putSel_on (e := (1, 13, (.bool true))) 1 rfl rfl (hon 1 (by kernel_rfl)) rfl
   replace ha := Aside0.mk ha
   have HR := Aside0.mk Q_HR
   have HB := Aside0.mk Q_HB
   have X3 := Aside0.mk Q_X3
   have X4 := Aside0.mk Q_X4
   refine value_ (w1 := w') (v := (.bool false)) (by rfl) rfl ?_ ?_
   ·go_simp
    (try simp only [i64_w])
    try rfl
   refine hK.out _ _ ⟨(by rw [ha.out]; exact putSel_upk 2 hb_ rfl rfl rfl), Q_HR, Q_HB, Q_X3, Q_X4⟩
  refine steps_cons ?_ ?_
  ·rintro b a w' ⟨ha, Q_HR, Q_HB, Q_X3, Q_X4⟩ hb_ hon hoff
   refine ⟨_, rfl, fun K hK => ?_⟩
   have e14 : a.tmps[14]? = some ((.bool false)) := by rw [ha]; exact putSel_on (e := (2, 14, (.bool false))) 2 rfl rfl (hon 2 (by kernel_rfl)) rfl
   replace ha := Aside0.mk ha
   have HR := Aside0.mk Q_HR
   have HB := Aside0.mk Q_HB
   have X3 := Aside0.mk Q_X3
   have X4 := Aside0.mk Q_X4
   refine value_ (w1 := w') (v := (.bool false)) (by rfl) rfl ?_ ?_
   ·go_simp
    (try simp only [i64_w])
    try rfl
   refine hK.out _ _ ⟨(by rw [ha.out]; exact putSel_upk 3 hb_ rfl rfl rfl), Q_HR, Q_HB, Q_X3, Q_X4⟩
  refine steps_cons ?_ ?_
  ·rintro b a w' ⟨ha, Q_HR, Q_HB, Q_X3, Q_X4⟩ hb_ hon hoff
   refine ⟨_, rfl, fun K hK => ?_⟩
   have e3 : a.tmps[3]? = some ((.pointer (some ⟨w.heap.size, 0, none⟩))) := by rw [ha]; exact (putSel_off rfl).trans rfl
   have e15 : a.tmps[15]? = some ((.bool false)) := by rw [ha]; exact putSel_on (e := (3, 15, (.bool false))) 3 rfl rfl (hon 3 (by kernel_rfl)) rfl
   replace ha := Aside0.mk ha
   have HR := Aside0.mk Q_HR
   have HB := Aside0.mk Q_HB
   have X3 := Aside0.mk Q_X3
   have X4 := Aside0.mk Q_X4
   refine value_ (w1 := w') (v := (.pointer (some ⟨w.heap.size, 0, none⟩))) (wanted_on rfl rfl rfl (e15.trans (by (rfl)))) rfl ?_ ?_
   ·go_simp
    (try simp only [i64_w])
    try rfl
   refine hK.out _ _ ⟨(by rw [ha.out]; exact putSel_upk 4 hb_ rfl rfl rfl), Q_HR, Q_HB, Q_X3, Q_X4⟩
  refine steps_cons ?_ ?_
  ·rintro b a w' ⟨ha, Q_HR, Q_HB, Q_X3, Q_X4⟩ hb_ hon hoff
   refine ⟨_, rfl, fun K hK => ?_⟩
   have e16 : a.tmps[16]? = some ((.pointer (some ⟨w.heap.size, 0, none⟩))) := by rw [ha]; exact putSel_on (e := (4, 16, (.pointer (some ⟨w.heap.size, 0, none⟩)))) 4 rfl rfl (hon 4 (by kernel_rfl)) rfl
   have e15 : a.tmps[15]? = some ((.bool false)) := by rw [ha]; exact putSel_on (e := (3, 15, (.bool false))) 3 rfl rfl (hon 3 (by kernel_rfl)) rfl
   replace ha := Aside0.mk ha
   have HR := Aside0.mk Q_HR
   have HB := Aside0.mk Q_HB
   have X3 := Aside0.mk Q_X3
   have X4 := Aside0.mk Q_X4
   have hc_ := X3.out.c0
   refine value_ (w1 := w') (v := (.int .i64 xa)) (wanted_on rfl rfl rfl (e15.trans (by (rfl)))) rfl ?_ ?_
   ·go_simp
    (try simp only [i64_w])
    try rfl
   refine hK.out _ _ ⟨(by rw [ha.out]; exact putSel_upk 5 hb_ rfl rfl rfl), Q_HR, Q_HB, Q_X3, Q_X4⟩
  refine steps_cons ?_ ?_
  ·rintro b a w' ⟨ha, Q_HR, Q_HB, Q_X3, Q_X4⟩ hb_ hon hoff
   refine ⟨_, rfl, fun K hK => ?_⟩
   have e17 : a.tmps[17]? = some ((.int .i64 xa)) := by rw [ha]; exact putSel_on (e := (5, 17, (.int .i64 xa))) 5 rfl rfl (hon 5 (by kernel_rfl)) rfl
   have e15 : a.tmps[15]? = some ((.bool false)) := by rw [ha]; exact putSel_on (e := (3, 15, (.bool false))) 3 rfl rfl (hon 3 (by kernel_rfl)) rfl
   replace ha := Aside0.mk ha
   have HR := Aside0.mk Q_HR
   have HB := Aside0.mk Q_HB
   have X3 := Aside0.mk Q_X3
   have X4 := Aside0.mk Q_X4
   refine value_ (w1 := w') (v := (.bool false)) (wanted_on rfl rfl rfl (e15.trans (by (rfl)))) rfl ?_ ?_
   ·go_simp
    (try simp only [i64_w])
    try rfl
   refine hK.out _ _ ⟨(by rw [ha.out]; exact putSel_upk 6 hb_ rfl rfl rfl), Q_HR, Q_HB, Q_X3, Q_X4⟩
  refine steps_cons ?_ ?_
  ·rintro b a w' ⟨ha, Q_HR, Q_HB, Q_X3, Q_X4⟩ hb_ hon hoff
   refine ⟨_, rfl, fun K hK => ?_⟩
   have e15 : a.tmps[15]? = some ((.bool false)) := by rw [ha]; exact putSel_on (e := (3, 15, (.bool false))) 3 rfl rfl (hon 3 (by kernel_rfl)) rfl
   have e18 : a.tmps[18]? = some ((.bool false)) := by rw [ha]; exact putSel_on (e := (6, 18, (.bool false))) 6 rfl rfl (hon 6 (by kernel_rfl)) rfl
   replace ha := Aside0.mk ha
   have HR := Aside0.mk Q_HR
   have HB := Aside0.mk Q_HB
   have X3 := Aside0.mk Q_X3
   have X4 := Aside0.mk Q_X4
   refine value_ (w1 := w') (v := (.bool false)) (by rfl) rfl ?_ ?_
   ·go_simp
    (try simp only [i64_w])
    try rfl
   refine hK.out _ _ ⟨(by rw [ha.out]; exact putSel_upk 7 hb_ rfl rfl rfl), Q_HR, Q_HB, Q_X3, Q_X4⟩
  refine steps_cons ?_ ?_
  ·rintro b a w' ⟨ha, Q_HR, Q_HB, Q_X3, Q_X4⟩ hb_ hon hoff
   refine ⟨_, rfl, fun K hK => ?_⟩
   have e19 : a.tmps[19]? = some ((.bool false)) := by rw [ha]; exact putSel_on (e := (7, 19, (.bool false))) 7 rfl rfl (hon 7 (by kernel_rfl)) rfl
   replace ha := Aside0.mk ha
   have HR := Aside0.mk Q_HR
   have HB := Aside0.mk Q_HB
   have X3 := Aside0.mk Q_X3
   have X4 := Aside0.mk Q_X4
   refine value_ (w1 := w') (v := (.bool false)) (by rfl) rfl ?_ ?_
   ·go_simp
    (try simp only [i64_w])
    try rfl
   refine hK.out _ _ ⟨(by rw [ha.out]; exact putSel_upk 8 hb_ rfl rfl rfl), Q_HR, Q_HB, Q_X3, Q_X4⟩
  refine steps_cons ?_ ?_
  ·rintro b a w' ⟨ha, Q_HR, Q_HB, Q_X3, Q_X4⟩ hb_ hon hoff
   refine ⟨_, rfl, fun K hK => ?_⟩
   have e3 : a.tmps[3]? = some ((.pointer (some ⟨w.heap.size, 0, none⟩))) := by rw [ha]; exact (putSel_off rfl).trans rfl
   have e20 : a.tmps[20]? = some ((.bool false)) := by rw [ha]; exact putSel_on (e := (8, 20, (.bool false))) 8 rfl rfl (hon 8 (by kernel_rfl)) rfl
   replace ha := Aside0.mk ha
   have HR := Aside0.mk Q_HR
   have HB := Aside0.mk Q_HB
   have X3 := Aside0.mk Q_X3
   have X4 := Aside0.mk Q_X4
   refine value_ (w1 := w') (v := (.pointer (some ⟨w.heap.size, 0, none⟩))) (wanted_on rfl rfl rfl (e20.trans (by (rfl)))) rfl ?_ ?_
   ·go_simp
    (try simp only [i64_w])
    try rfl
   refine hK.out _ _ ⟨(by rw [ha.out]; exact putSel_upk 9 hb_ rfl rfl rfl), Q_HR, Q_HB, Q_X3, Q_X4⟩
  refine steps_cons ?_ ?_
  ·rintro b a w' ⟨ha, Q_HR, Q_HB, Q_X3, Q_X4⟩ hb_ hon hoff
   refine ⟨_, rfl, fun K hK => ?_⟩
   have e21 : a.tmps[21]? = some ((.pointer (some ⟨w.heap.size, 0, none⟩))) := by rw [ha]; exact putSel_on (e := (9, 21, (.pointer (some ⟨w.heap.size, 0, none⟩)))) 9 rfl rfl (hon 9 (by kernel_rfl)) rfl
   have e20 : a.tmps[20]? = some ((.bool false)) := by rw [ha]; exact putSel_on (e := (8, 20, (.bool false))) 8 rfl rfl (hon 8 (by kernel_rfl)) rfl
   replace ha := Aside0.mk ha
   have HR := Aside0.mk Q_HR
   have HB := Aside0.mk Q_HB
   have X3 := Aside0.mk Q_X3
   have X4 := Aside0.mk Q_X4
   have hc_ := X3.out.c0
   refine value_ (w1 := w') (v := (.int .i64 xa)) (wanted_on rfl rfl rfl (e20.trans (by (rfl)))) rfl ?_ ?_
   ·go_simp
    (try simp only [i64_w])
    try rfl
   refine hK.out _ _ ⟨(by rw [ha.out]; exact putSel_upk 10 hb_ rfl rfl rfl), Q_HR, Q_HB, Q_X3, Q_X4⟩
  refine steps_cons ?_ ?_
  ·rintro b a w' ⟨ha, Q_HR, Q_HB, Q_X3, Q_X4⟩ hb_ hon hoff
   refine ⟨_, rfl, fun K hK => ?_⟩
   have e3 : a.tmps[3]? = some ((.pointer (some ⟨w.heap.size, 0, none⟩))) := by rw [ha]; exact (putSel_off rfl).trans rfl
   have e20 : a.tmps[20]? = some ((.bool false)) := by rw [ha]; exact putSel_on (e := (8, 20, (.bool false))) 8 rfl rfl (hon 8 (by kernel_rfl)) rfl
   replace ha := Aside0.mk ha
   have HR := Aside0.mk Q_HR
   have HB := Aside0.mk Q_HB
   have X3 := Aside0.mk Q_X3
   have X4 := Aside0.mk Q_X4
   refine value_ (w1 := w') (v := (.pointer (some ⟨w.heap.size, 1, none⟩))) (wanted_on rfl rfl rfl (e20.trans (by (rfl)))) rfl ?_ ?_
   ·go_simp
    (try simp only [i64_w])
    try rfl
   refine hK.out _ _ ⟨(by rw [ha.out]; exact putSel_upk 11 hb_ rfl rfl rfl), Q_HR, Q_HB, Q_X3, Q_X4⟩
  refine steps_cons ?_ ?_
  ·rintro b a w' ⟨ha, Q_HR, Q_HB, Q_X3, Q_X4⟩ hb_ hon hoff
   refine ⟨_, rfl, fun K hK => ?_⟩
   have e23 : a.tmps[23]? = some ((.pointer (some ⟨w.heap.size, 1, none⟩))) := by rw [ha]; exact putSel_on (e := (11, 23, (.pointer (some ⟨w.heap.size, 1, none⟩)))) 11 rfl rfl (hon 11 (by kernel_rfl)) rfl
   have e20 : a.tmps[20]? = some ((.bool false)) := by rw [ha]; exact putSel_on (e := (8, 20, (.bool false))) 8 rfl rfl (hon 8 (by kernel_rfl)) rfl
   replace ha := Aside0.mk ha
   have HR := Aside0.mk Q_HR
   have HB := Aside0.mk Q_HB
   have X3 := Aside0.mk Q_X3
   have X4 := Aside0.mk Q_X4
   have hc_ := X3.out.c1
   refine value_ (w1 := w') (v := (.int .i64 xb)) (wanted_on rfl rfl rfl (e20.trans (by (rfl)))) rfl ?_ ?_
   ·go_simp
    (try simp only [i64_w])
    try rfl
   refine hK.out _ _ ⟨(by rw [ha.out]; exact putSel_upk 12 hb_ rfl rfl rfl), Q_HR, Q_HB, Q_X3, Q_X4⟩
  refine steps_cons ?_ ?_
  ·rintro b a w' ⟨ha, Q_HR, Q_HB, Q_X3, Q_X4⟩ hb_ hon hoff
   refine ⟨_, rfl, fun K hK => ?_⟩
   have e22 : a.tmps[22]? = some ((.int .i64 xa)) := by rw [ha]; exact putSel_on (e := (10, 22, (.int .i64 xa))) 10 rfl rfl (hon 10 (by kernel_rfl)) rfl
   have e24 : a.tmps[24]? = some ((.int .i64 xb)) := by rw [ha]; exact putSel_on (e := (12, 24, (.int .i64 xb))) 12 rfl rfl (hon 12 (by kernel_rfl)) rfl
   have e20 : a.tmps[20]? = some ((.bool false)) := by rw [ha]; exact putSel_on (e := (8, 20, (.bool false))) 8 rfl rfl (hon 8 (by kernel_rfl)) rfl
   replace ha := Aside0.mk ha
   have HR := Aside0.mk Q_HR
   have HB := Aside0.mk Q_HB
   have X3 := Aside0.mk Q_X3
   have X4 := Aside0.mk Q_X4
   refine value_ (w1 := w') (v := (.bool false)) (wanted_on rfl rfl rfl (e20.trans (by (rfl)))) rfl ?_ ?_
   ·go_simp
    (try simp only [i64_w])
    try rfl
   refine hK.out _ _ ⟨(by rw [ha.out]; exact putSel_upk 13 hb_ rfl rfl rfl), Q_HR, Q_HB, Q_X3, Q_X4⟩
  refine steps_cons ?_ ?_
  ·rintro b a w' ⟨ha, Q_HR, Q_HB, Q_X3, Q_X4⟩ hb_ hon hoff
   refine ⟨_, rfl, fun K hK => ?_⟩
   have e20 : a.tmps[20]? = some ((.bool false)) := by rw [ha]; exact putSel_on (e := (8, 20, (.bool false))) 8 rfl rfl (hon 8 (by kernel_rfl)) rfl
   have e25 : a.tmps[25]? = some ((.bool false)) := by rw [ha]; exact putSel_on (e := (13, 25, (.bool false))) 13 rfl rfl (hon 13 (by kernel_rfl)) rfl
   replace ha := Aside0.mk ha
   have HR := Aside0.mk Q_HR
   have HB := Aside0.mk Q_HB
   have X3 := Aside0.mk Q_X3
   have X4 := Aside0.mk Q_X4
   refine value_ (w1 := w') (v := (.bool false)) (by rfl) rfl ?_ ?_
   ·go_simp
    (try simp only [i64_w])
    try rfl
   refine hK.out _ _ ⟨(by rw [ha.out]; exact putSel_upk 14 hb_ rfl rfl rfl), Q_HR, Q_HB, Q_X3, Q_X4⟩
  refine steps_cons ?_ ?_
  ·rintro b a w' ⟨ha, Q_HR, Q_HB, Q_X3, Q_X4⟩ hb_ hon hoff
   refine ⟨_, rfl, fun K hK => ?_⟩
   have e26 : a.tmps[26]? = some ((.bool false)) := by rw [ha]; exact putSel_on (e := (14, 26, (.bool false))) 14 rfl rfl (hon 14 (by kernel_rfl)) rfl
   replace ha := Aside0.mk ha
   have HR := Aside0.mk Q_HR
   have HB := Aside0.mk Q_HB
   have X3 := Aside0.mk Q_X3
   have X4 := Aside0.mk Q_X4
   refine value_ (w1 := w') (v := (.bool false)) (by rfl) rfl ?_ ?_
   ·go_simp
    (try simp only [i64_w])
    try rfl
   refine hK.out _ _ ⟨(by rw [ha.out]; exact putSel_upk 15 hb_ rfl rfl rfl), Q_HR, Q_HB, Q_X3, Q_X4⟩
  refine steps_cons ?_ ?_
  ·rintro b a w' ⟨ha, Q_HR, Q_HB, Q_X3, Q_X4⟩ hb_ hon hoff
   refine ⟨_, rfl, fun K hK => ?_⟩
   have e3 : a.tmps[3]? = some ((.pointer (some ⟨w.heap.size, 0, none⟩))) := by rw [ha]; exact (putSel_off rfl).trans rfl
   have e27 : a.tmps[27]? = some ((.bool false)) := by rw [ha]; exact putSel_on (e := (15, 27, (.bool false))) 15 rfl rfl (hon 15 (by kernel_rfl)) rfl
   replace ha := Aside0.mk ha
   have HR := Aside0.mk Q_HR
   have HB := Aside0.mk Q_HB
   have X3 := Aside0.mk Q_X3
   have X4 := Aside0.mk Q_X4
   refine value_ (w1 := w') (v := (.pointer (some ⟨w.heap.size, 1, none⟩))) (wanted_on rfl rfl rfl (e27.trans (by (rfl)))) rfl ?_ ?_
   ·go_simp
    (try simp only [i64_w])
    try rfl
   refine hK.out _ _ ⟨(by rw [ha.out]; exact putSel_upk 16 hb_ rfl rfl rfl), Q_HR, Q_HB, Q_X3, Q_X4⟩
  refine steps_cons ?_ ?_
  ·rintro b a w' ⟨ha, Q_HR, Q_HB, Q_X3, Q_X4⟩ hb_ hon hoff
   refine ⟨_, rfl, fun K hK => ?_⟩
   have e28 : a.tmps[28]? = some ((.pointer (some ⟨w.heap.size, 1, none⟩))) := by rw [ha]; exact putSel_on (e := (16, 28, (.pointer (some ⟨w.heap.size, 1, none⟩)))) 16 rfl rfl (hon 16 (by kernel_rfl)) rfl
   have e27 : a.tmps[27]? = some ((.bool false)) := by rw [ha]; exact putSel_on (e := (15, 27, (.bool false))) 15 rfl rfl (hon 15 (by kernel_rfl)) rfl
   replace ha := Aside0.mk ha
   have HR := Aside0.mk Q_HR
   have HB := Aside0.mk Q_HB
   have X3 := Aside0.mk Q_X3
   have X4 := Aside0.mk Q_X4
   have hc_ := X3.out.c1
   refine value_ (w1 := w') (v := (.int .i64 xb)) (wanted_on rfl rfl rfl (e27.trans (by (rfl)))) rfl ?_ ?_
   ·go_simp
    (try simp only [i64_w])
    try rfl
   refine hK.out _ _ ⟨(by rw [ha.out]; exact putSel_upk 17 hb_ rfl rfl rfl), Q_HR, Q_HB, Q_X3, Q_X4⟩
  refine steps_cons ?_ ?_
  ·rintro b a w' ⟨ha, Q_HR, Q_HB, Q_X3, Q_X4⟩ hb_ hon hoff
   refine ⟨_, rfl, fun K hK => ?_⟩
   have e0 : a.tmps[0]? = some ((.slice A0 l0.length c0)) := by rw [ha]; exact (putSel_off rfl).trans rfl
   have e27 : a.tmps[27]? = some ((.bool false)) := by rw [ha]; exact putSel_on (e := (15, 27, (.bool false))) 15 rfl rfl (hon 15 (by kernel_rfl)) rfl
   replace ha := Aside0.mk ha
   have HR := Aside0.mk Q_HR
   have HB := Aside0.mk Q_HB
   have X3 := Aside0.mk Q_X3
   have X4 := Aside0.mk Q_X4
   refine value_ (w1 := w') (v := (.slice A0 l0.length c0)) (wanted_on rfl rfl rfl (e27.trans (by (rfl)))) rfl ?_ ?_
   ·go_simp
    (try simp only [i64_w])
    try rfl
   refine hK.out _ _ ⟨(by rw [ha.out]; exact putSel_upk 18 hb_ rfl rfl rfl), Q_HR, Q_HB, Q_X3, Q_X4⟩
  refine steps_cons ?_ ?_
  ·rintro b a w' ⟨ha, Q_HR, Q_HB, Q_X3, Q_X4⟩ hb_ hon hoff
   refine ⟨_, rfl, fun K hK => ?_⟩
   have e30 : a.tmps[30]? = some ((.slice A0 l0.length c0)) := by rw [ha]; exact putSel_on (e := (18, 30, (.slice A0 l0.length c0))) 18 rfl rfl (hon 18 (by kernel_rfl)) rfl
   have e27 : a.tmps[27]? = some ((.bool false)) := by rw [ha]; exact putSel_on (e := (15, 27, (.bool false))) 15 rfl rfl (hon 15 (by kernel_rfl)) rfl
   replace ha := Aside0.mk ha
   have HR := Aside0.mk Q_HR
   have HB := Aside0.mk Q_HB
   have X3 := Aside0.mk Q_X3
   have X4 := Aside0.mk Q_X4
   refine goes_ Try.func26 (by kernel_rfl) rfl #[.slice A0 l0.length c0] (wanted_on rfl rfl rfl (e27.trans (by (rfl)))) rfl rfl (by (simp only [List.map_toArray, List.map_cons, List.map_nil, Act.eval, Array.getD_eq_getD_getElem?, Option.getD_some, e30, e27]; done)) ?_
   refine (HI.out _ HR.out).mono ?_
   rintro e w1_ ⟨rfl, hb⟩
   refine ⟨_, rfl, ?_⟩
   refine hK.out _ _ ⟨(by rw [ha.out]; exact putSel_upk 19 hb_ rfl rfl rfl), HR.out.below hb, below_step HB.out hb, X3.out.below hb, X4.out.below hb⟩
  refine steps_cons ?_ ?_
  ·rintro b a w' ⟨ha, Q_HR, Q_HB, Q_X3, Q_X4⟩ hb_ hon hoff
   refine ⟨_, rfl, fun K hK => ?_⟩
   have e29 : a.tmps[29]? = some ((.int .i64 xb)) := by rw [ha]; exact putSel_on (e := (17, 29, (.int .i64 xb))) 17 rfl rfl (hon 17 (by kernel_rfl)) rfl
   have e31 : a.tmps[31]? = some ((.int .i64 (inL l0))) := by rw [ha]; exact putSel_on (e := (19, 31, (.int .i64 (inL l0)))) 19 rfl rfl (hon 19 (by kernel_rfl)) rfl
   have e27 : a.tmps[27]? = some ((.bool false)) := by rw [ha]; exact putSel_on (e := (15, 27, (.bool false))) 15 rfl rfl (hon 15 (by kernel_rfl)) rfl
   replace ha := Aside0.mk ha
   have HR := Aside0.mk Q_HR
   have HB := Aside0.mk Q_HB
   have X3 := Aside0.mk Q_X3
   have X4 := Aside0.mk Q_X4
   refine value_ (w1 := w') (v := (.bool false)) (wanted_on rfl rfl rfl (e27.trans (by (rfl)))) rfl ?_ ?_
   ·go_simp
    (try simp only [i64_w])
    try rfl
   refine hK.out _ _ ⟨(by rw [ha.out]; exact putSel_upk 20 hb_ rfl rfl rfl), Q_HR, Q_HB, Q_X3, Q_X4⟩
  refine steps_cons ?_ ?_
  ·rintro b a w' ⟨ha, Q_HR, Q_HB, Q_X3, Q_X4⟩ hb_ hon hoff
   refine ⟨_, rfl, fun K hK => ?_⟩
   have e27 : a.tmps[27]? = some ((.bool false)) := by rw [ha]; exact putSel_on (e := (15, 27, (.bool false))) 15 rfl rfl (hon 15 (by kernel_rfl)) rfl
   have e32 : a.tmps[32]? = some ((.bool false)) := by rw [ha]; exact putSel_on (e := (20, 32, (.bool false))) 20 rfl rfl (hon 20 (by kernel_rfl)) rfl
   replace ha := Aside0.mk ha
   have HR := Aside0.mk Q_HR
   have HB := Aside0.mk Q_HB
   have X3 := Aside0.mk Q_X3
   have X4 := Aside0.mk Q_X4
   refine value_ (w1 := w') (v := (.bool false)) (by rfl) rfl ?_ ?_
   ·go_simp
    (try simp only [i64_w])
    try rfl
   refine hK.out _ _ ⟨(by rw [ha.out]; exact putSel_upk 21 hb_ rfl rfl rfl), Q_HR, Q_HB, Q_X3, Q_X4⟩
  exact steps_nil
 rintro b a we hall ⟨ha, Q_HR, Q_HB, Q_X3, Q_X4⟩
 clear HB HR X3 X4
 have hb0_ := hall 0 (by kernel_rfl)
 have hb1_ := hall 1 (by kernel_rfl)
 have hb2_ := hall 2 (by kernel_rfl)
 have hb3_ := hall 3 (by kernel_rfl)
 have hb4_ := hall 4 (by kernel_rfl)
 have hb5_ := hall 5 (by kernel_rfl)
 have hb6_ := hall 6 (by kernel_rfl)
 have hb7_ := hall 7 (by kernel_rfl)
 have hb8_ := hall 8 (by kernel_rfl)
 have hb9_ := hall 9 (by kernel_rfl)
 have hb10_ := hall 10 (by kernel_rfl)
 have hb11_ := hall 11 (by kernel_rfl)
 have hb12_ := hall 12 (by kernel_rfl)
 have hb13_ := hall 13 (by kernel_rfl)
 have hb14_ := hall 14 (by kernel_rfl)
 have hb15_ := hall 15 (by kernel_rfl)
 have hb16_ := hall 16 (by kernel_rfl)
 have hb17_ := hall 17 (by kernel_rfl)
 have hb18_ := hall 18 (by kernel_rfl)
 have hb19_ := hall 19 (by kernel_rfl)
 have hb20_ := hall 20 (by kernel_rfl)
 have hb21_ := hall 21 (by kernel_rfl)
 subst ha
 simp only [putSel, hb0_, hb1_, hb2_, hb3_, hb4_, hb5_, hb6_, hb7_, hb8_, hb9_, hb10_, hb11_, hb12_, hb13_, hb14_, hb15_, hb16_, hb17_, hb18_, hb19_, hb20_, hb21_, if_true, Act.put, List.setIfInBounds_toArray, List.set_cons_zero, List.set_cons_succ]
 have HR := Aside0.mk Q_HR
 clear Q_HR
 have HB := Aside0.mk Q_HB
 clear Q_HB
 have X3 := Aside0.mk Q_X3
 clear Q_X3
 have X4 := Aside0.mk Q_X4
 clear Q_X4
 clear hall hb0_ hb1_ hb2_ hb3_ hb4_ hb5_ hb6_ hb7_ hb8_ hb9_ hb10_ hb11_ hb12_ hb13_ hb14_ hb15_ hb16_ hb17_ hb18_ hb19_ hb20_ hb21_
 gi_wp2
 obtain ⟨BE, hBE⟩ : ∃ b, b = we.heap.size := ⟨_, rfl⟩
 obtain ⟨BF, hBF⟩ : ∃ b, b = we.heap.size + 1 := ⟨_, rfl⟩
 obtain ⟨BC, hBC⟩ : ∃ b, b = we.heap.size + 1 + 1 := ⟨_, rfl⟩
 obtain ⟨w5, hw5⟩ : ∃ w5, w5 = (((we.alloc (.cells #[.int .i64 0, .int .i64 0] 77)).alloc (.cells #[.bool false] 4)).alloc (.cells #[.func (.func 51) #[] #[.pointer (some ⟨w.heap.size, 0, none⟩), .pointer (some ⟨we.heap.size + 1, 0, none⟩), .pointer (some ⟨we.heap.size, 0, none⟩)]] 78)) := ⟨_, rfl⟩
 have hz5 : w5.heap.size = we.heap.size + 3 := by rw [hw5]; simp
 have hb5 : Below we.heap.size we w5 := by rw [hw5]; exact below_alloc (below_alloc (below_alloc (Below.refl _ _) _) _ ) _
 have hE5 : w5.heap[BE]? = some (.cells #[.int .i64 0, .int .i64 0] 77 (0, 0)) := by
  rw [hw5, hBE, Own.heap_old _ _ _ (by simp; omega), Own.heap_old _ _ _ (by simp)]; exact Own.heap_new _ _
 have hF5 : w5.heap[BF]? = some (.cells #[.bool false] 4 (0, 0)) := by
  rw [hw5, hBF, Own.heap_old _ _ _ (by simp)]
  have := Own.heap_new (we.alloc (.cells #[.int .i64 0, .int .i64 0] 77)) (.cells #[.bool false] 4)
  rwa [World.size_alloc] at this
 have hC5 : w5.heap[BC]? = some (.cells #[.func (.func 51) #[] #[.pointer (some ⟨w.heap.size, 0, none⟩), .pointer (some ⟨BF, 0, none⟩), .pointer (some ⟨BE, 0, none⟩)]] 78 (0, 0)) := by
  rw [hw5, hBC, hBF, hBE]
  have := Own.heap_new ((we.alloc (.cells #[.int .i64 0, .int .i64 0] 77)).alloc (.cells #[.bool false] 4)) (.cells #[.func (.func 51) #[] #[.pointer (some ⟨w.heap.size, 0, none⟩), .pointer (some ⟨we.heap.size + 1, 0, none⟩), .pointer (some ⟨we.heap.size, 0, none⟩)]] 78)
  rwa [World.size_alloc, World.size_alloc] at this
 rw [← hw5, ← hBC, ← hBF, ← hBE]
 refine ⟨trivial, ?_⟩
 refine (callsIn_wide.2 (steps_c A0 _ c0 _)).mono ?_
 rintro e w6 ⟨rfl, hw6⟩
 have hb56 : Below w5.heap.size w5 w6 := by rw [hw6]; exact below_alloc (Below.refl _ _) _
 have hb6 : Below we.heap.size we w6 := hb5.trans (hb56.mono hb5.size)
 have hwe := X4.out
 have hwl : w.heap.size + 1 < we.heap.size := (Array.getElem?_eq_some_iff.1 hwe).1
 have HB6 := Aside0.mk (show Below w.heap.size w w6 from HB.out.trans (hb6.mono HB.out.size))
 have HX3 := Aside0.mk (X3.out.below hb6)
 have HX4 := Aside0.mk (X4.out.below hb6)
 have HR6 := Aside0.mk (HR.out.below hb6)
 have HE6 := Aside0.mk ((hb56.block BE (by omega)).trans hE5)
 have HF6 := Aside0.mk ((hb56.block BF (by omega)).trans hF5)
 have HC6 := Aside0.mk ((hb56.block BC (by omega)).trans hC5)
 obtain ⟨T, hT⟩ : ∃ T, T = w5.heap.size := ⟨_, rfl⟩
 have HT6 := Aside0.mk (show w6.heap[T]? = some (.cells #[.slice A0 l0.length c0] 22 (0, 0)) by rw [hw6, hT]; exact Own.heap_new _ _)
 have hT6 := (Array.getElem?_eq_some_iff.1 HT6.out).1
 have HZ6 := Aside0.mk (show w.heap.size + 1 < BE ∧ BF = BE + 1 ∧ BC = BE + 2 ∧ T = BE + 3 ∧ T < w6.heap.size from ⟨by omega, by omega, by omega, by omega, hT6⟩)
 rw [← hT]
 clear hw5 hz5 hb5 hE5 hF5 hC5 hw6 hb56 hb6 hwe hwl hT hT6 hBE hBF hBC X3 X4 HR HB HG HI H0 a1 a2 a3
 gi_wp2
 have HFF := Aside0.mk (show ∀ k, (fun k => k = BE ∨ k = BF) k → k < w6.heap.size from fun k hk => by have := HZ6.out; have hk2 : k = BE ∨ k = BF := hk; omega)
 obtain ⟨L, hL⟩ : ∃ L, L = stepsL l0 0 0 := ⟨_, rfl⟩
 obtain ⟨Q, hQ⟩ : ∃ Q : List St → World → Prop, Q = fun pre W => ∃ m : Sp, SpIn BE BF m W ∧ spS xa xb (L.drop pre.length) m = M := ⟨_, rfl⟩
 have HQQ := Aside0.mk (show ∀ pre W W', (∀ k, (fun k => k = BE ∨ k = BF) k → W'.heap[k]? = W.heap[k]?) → Q pre W → Q pre W' from fun pre W W' hk hq => by
  rw [hQ] at hq ⊢
  obtain ⟨d, h1, h2⟩ := hq
  exact ⟨d, ⟨(hk BE (.inl rfl)).trans h1.1, (hk BF (.inr rfl)).trans h1.2⟩, h2⟩)
 have HQE := Aside0.mk hQ
 have HLE := Aside0.mk hL
 clear hQ hL
 refine range_g (n := 12) (w := w6) (by decide) (gf := 65) (lb := #[.pointer (some ⟨T, 0, none⟩)]) rfl (enters_of Try.func65 (by kernel_rfl) rfl) (fun s : St => #[.agg #[.int .i64 s.r.f0, .string s.r.f1, .int .i64 s.r.f2, .int .i64 s.i, .int .i64 s.o]]) (fun _ => rfl) L (Held A0 c0 T l0)
  (by rw [HLE.out]; exact steps_it A0 c0 T l0 HOK.out HSM.out (by have := HLEN.out; omega)) (Jf w6 (fun k => k = BE ∨ k = BF) Q) (jf_party HFF.out HQQ.out) ?hK (jf_own (Nat.le_refl _) HFF.out HQQ.out) (fun _ _ _ => False) (fun _ _ _ _ _ h _ _ => h) ?h0
  (fun x a' W => ∃ Bx, W.heap[Bx]? = some (.cells #[.int .i64 x.r.f0, .string x.r.f1, .int .i64 x.r.f2, .int .i64 x.i, .int .i64 x.o] 76 (0, 0)) ∧ a' = { tmps := #[.slice A0 l0.length c0, .agg #[.int .i64 xa, .int .i64 xb], undef, .pointer (some ⟨w.heap.size, 0, none⟩), .pointer (some ⟨w.heap.size + 1, 0, none⟩), .bool false, .pointer (some ⟨BE, 0, none⟩), .pointer (some ⟨BF, 0, none⟩), .pointer (some ⟨BC, 0, none⟩), .pointer (some ⟨Bx, 0, none⟩), undef, undef, .slice A0 l0.length c0, .bool true, .bool false, .bool false, .pointer (some ⟨w.heap.size, 0, none⟩), .int .i64 xa, .bool false, .bool false, .bool false, .pointer (some ⟨w.heap.size, 0, none⟩), .int .i64 xa, .pointer (some ⟨w.heap.size, 1, none⟩), .int .i64 xb, .bool false, .bool false, .bool false, .pointer (some ⟨w.heap.size, 1, none⟩), .int .i64 xb, .slice A0 l0.length c0, .int .i64 (inL l0), .bool false, .bool false, undef, .func (.func 51) #[] #[.pointer (some ⟨w.heap.size, 0, none⟩), .pointer (some ⟨BF, 0, none⟩), .pointer (some ⟨BE, 0, none⟩)], .slice A0 l0.length c0, .func (.func 65) #[] #[.pointer (some ⟨T, 0, none⟩)], .agg #[.int .i64 x.r.f0, .string x.r.f1, .int .i64 x.r.f2, .int .i64 x.i, .int .i64 x.o], undef, undef, undef, undef, undef, undef, undef, undef, undef, undef, undef, undef, undef, undef, undef, undef, undef, undef, undef, undef], defers := [] })
  (fun x a' s W W' row hs hg hr => by obtain ⟨Bx, h1, h2⟩ := hs; exact ⟨Bx, (hg.block Bx (Array.getElem?_eq_some_iff.1 h1).1 (fun e => by obtain ⟨_, q, h3, h4⟩ := hr Bx e.symm; rw [h1] at h3; cases h3; cases h4)).trans h1, h2⟩) ?assign ?body ?done ?stop
 case hK =>
  intro pre G W hj
  refine ⟨(hj.but.block _ HZ6.out.2.2.2.2 (fun e => by have e2 : T = BE ∨ T = BF := e; have := HZ6.out; omega)).trans HT6.out, C_same HR6.out fun ad e hp => ?_⟩
  have hlt := HA.out ad e hp
  exact hj.but.block _ (by have := HZ6.out; omega) (fun e2 => by have e3 : ad.block = BE ∨ ad.block = BF := e2; have := HZ6.out; omega)
 case h0 => exact jf_start rfl (by rw [HQE.out]; exact ⟨⟨0, 0, false⟩, ⟨HE6.out, HF6.out⟩, by rw [HM.out, HLE.out]; rfl⟩)
 case assign =>
  intro l pre G x W K hj hK
  gi_wp2
  exact hK _ _ ((KeepsOthers.alloc _ _).from _) ((jf_party HFF.out HQQ.out).below hj (below_alloc (Below.refl _ _) _)) ⟨W.heap.size, Own.heap_new _ _, rfl⟩
 case body =>
  rintro l pre x suf G a' W hLp hj ⟨Bx, hx, rfl⟩
  have hq := hj.q
  rw [HQE.out] at hq
  obtain ⟨m, hsp, hmv⟩ := hq
  have hdr : L.drop pre.length = x :: suf := by rw [hLp]; simp
  rw [hdr] at hmv
  have HMS := Aside0.mk (show spS xa xb suf (meetL xa xb x m) = M from hmv)
  have HNX := Aside0.mk (show L.drop (pre ++ [x]).length = suf by rw [hLp]; simp)
  have bnd := step_bounds l0 0 0 HOK.out (by decide) (by decide) HSM.out.i (by have := HSM.out.o; rw [E_size] at this; exact this) x (by rw [← HLE.out, hLp]; simp)
  obtain ⟨xi0, xo0, xi, xo, xk⟩ := bnd
  have xp := knd_pos xk
  have HJ := Aside0.mk hj
  have hX : W.heap[w.heap.size]? = some (.cells #[.int .i64 xa, .int .i64 xb] 24 (0, 0)) := (hj.but.block _ (by have := HZ6.out; omega) (fun e => by have e2 : w.heap.size = BE ∨ w.heap.size = BF := e; have := HZ6.out; omega)).trans HX3.out
  have hCC := (hj.but.block BC (by have := HZ6.out; omega) (fun e => by have e2 : BC = BE ∨ BC = BF := e; have := HZ6.out; omega)).trans HC6.out
  have HMC := Aside0.mk (meet_c w.heap.size BE BF xa xb x m W hX hsp (by have := HZ6.out; omega) (by have := HZ6.out; omega) (by have := HZ6.out; omega) ha hMb hMa hb0 xi0 (by omega) xo0 (by omega) xp.1)
  have c8 : W.cell? ⟨BC, 0, none⟩ = some (.func (.func 51) #[] #[.pointer (some ⟨w.heap.size, 0, none⟩), .pointer (some ⟨BF, 0, none⟩), .pointer (some ⟨BE, 0, none⟩)]) := by rw [cell_of_row W _ 0 _ _ _ hCC]; rfl
  obtain ⟨x0, x1, x2, x3, x4⟩ := blk_step (s := x) hx
  clear hx hj hsp hmv hdr hLp xk xp xi xo xi0 xo0 hX hCC
  gi_wp2
  refine ⟨trivial, ?_⟩
  refine (callsIn_wide.2 HMC.out).mono ?_
  rintro e w8 ⟨⟨v, rfl⟩, hbs, hsp⟩
  have HBS := Aside0.mk hbs
  have HSP := Aside0.mk hsp
  clear hbs hsp
  gi_wp2
  refine ⟨⟨HBS.out.size, fun k q hk hq hc => (HBS.out.block k (Array.getElem?_eq_some_iff.1 hq).1 (fun e => by have := HFF.out k e; omega)).trans hq⟩, jf_step HFF.out HJ.out HBS.out (by rw [HQE.out]; exact ⟨_, HSP.out, by rw [HNX.out]; exact HMS.out⟩)⟩
 case done =>
  intro D G W hD hj hK
  have hq := hj.q
  rw [HQE.out] at hq
  obtain ⟨m, hsp, hmv⟩ := hq
  rw [List.drop_length] at hmv
  have hmm : m = M := hmv
  subst hmm
  have HSP := Aside0.mk hsp
  have HBUT := Aside0.mk hj.but
  have HKD := Aside0.mk hK
  have HDD := Aside0.mk hD
  have hX3 : Sx w.heap.size xa xb W := (hj.but.block _ (by have := HZ6.out; omega) (fun e => by have e2 : w.heap.size = BE ∨ w.heap.size = BF := e; have := HZ6.out; omega)).trans HX3.out
  have hX4 : Sx (w.heap.size + 1) 0 0 W := (hj.but.block _ (by have := HZ6.out; omega) (fun e => by have e2 : w.heap.size + 1 = BE ∨ w.heap.size + 1 = BF := e; have := HZ6.out; omega)).trans HX4.out
  have HX3W := Aside0.mk hX3
  have HX4W := Aside0.mk hX4
  have HRW := Aside0.mk (show RC W A0 l0 from C_same HR6.out fun ad e hp => by
   have hlt := HA.out ad e hp
   exact HBUT.out.block _ (by have := HZ6.out; omega) (fun e2 => by have e3 : ad.block = BE ∨ ad.block = BF := e2; have := HZ6.out; omega))
  have HBW := Aside0.mk (HBUT.out.below HB6.out (fun k hk => by have e2 : k = BE ∨ k = BF := hk; have := HZ6.out; omega) HB6.out.size)
  have cf : W.cell? ⟨BF, 0, none⟩ = some (.bool m.found) := by rw [cell_of_row W _ 0 _ _ _ hsp.2]; rfl
  clear hj hsp hmv hK hD hX3 hX4
  obtain ⟨m0, m1, mf⟩ := m
  have hRB : w.heap.size + 1 ≠ BE := by have := HZ6.out; omega
  have hRF : w.heap.size + 1 ≠ BF := by have := HZ6.out; omega
  have hBR : BE ≠ w.heap.size + 1 := by have := HZ6.out; omega
  have HDR := Aside0.mk (show D ≠ w.heap.size + 1 by have := HDD.out; have := HZ6.out; omega)
  simp only at cf
  cases mf with
  | true =>
   have HV2 := Aside0.mk (show V = ((m0, m1), true) from HV.out)
   have e0 : W.cell? ⟨BE, 0, none⟩ = some (.int .i64 m0) := by rw [cell_of_row W _ 0 _ _ _ HSP.out.1]; rfl
   have e1 : W.cell? ⟨BE, 1, none⟩ = some (.int .i64 m1) := by rw [cell_of_row W _ 1 _ _ _ HSP.out.1]; rfl
   have c40 := HX4W.out.c0
   have c41 := HX4W.out.c1
   have f40 := HX4W.out.fz 0
   have f41 := HX4W.out.fz 1
   gi_wp2
   have hkd : ((W.setCell ⟨w.heap.size + 1, 0, none⟩ (.int .i64 m0)).setCell ⟨w.heap.size + 1, 1, none⟩ (.int .i64 m1)).heap[D]? = some (.deferred (some [])) := by
    rw [Below.heap_setCell _ ⟨w.heap.size + 1, 1, none⟩ _ D HDR.out, Below.heap_setCell _ ⟨w.heap.size + 1, 0, none⟩ _ D HDR.out]; exact HKD.out
   refine ⟨by simp, .inl ⟨_, _, rfl, run_takeDeferred hkd, ?_⟩⟩
   have hs := blk_put (blk_put HX4W.out 0 (.int .i64 m0) rfl) 1 (.int .i64 m1) rfl
   have hs2 : Sx (w.heap.size + 1) m0 m1 (((W.setCell ⟨w.heap.size + 1, 0, none⟩ (.int .i64 m0)).setCell ⟨w.heap.size + 1, 1, none⟩ (.int .i64 m1)).putObj D (.deferred none)) := (World.putObj_heap_other HDR.out.symm).trans hs
   refine ⟨_, res_span _ _ (w.heap.size + 1) m0 m1 true rfl rfl hs2, ?_, ?_⟩
   ·rw [HV2.out]
   exact (below_set' (below_set' HBW.out (by omega)) (by omega)).trans ⟨rfl, rfl, rfl, by simp, fun k hk => World.putObj_heap_other (by have := HDD.out; have := HZ6.out; omega)⟩
  | false =>
   obtain ⟨mv, hmv⟩ : ∃ mv, mv = moveL l0 xa false := ⟨_, rfl⟩
   have HV2 := Aside0.mk (show V = ((mv.1, mv.1), true) by rw [hmv]; exact HV.out)
   have HMW := Aside0.mk (HMV.out W HRW.out)
   rw [← hmv] at HMW
   clear hmv
   obtain ⟨mx, mb⟩ := mv
   simp only at HMW HV2
   have c30 := HX3W.out.c0
   gi_wp2
   refine ⟨trivial, ?_⟩
   refine (callsIn_wide.2 HMW.out).mono ?_
   rintro e W3 ⟨rfl, hb3⟩
   have hx4 := HX4W.out.below hb3
   have hE3 := (hb3.block BE (Array.getElem?_eq_some_iff.1 HSP.out.1).1).trans HSP.out.1
   have HX43 := Aside0.mk hx4
   have HE3 := Aside0.mk hE3
   have HK3 := Aside0.mk ((hb3.block D (Array.getElem?_eq_some_iff.1 HKD.out).1).trans HKD.out)
   have HBW3 := Aside0.mk (HBW.out.trans (hb3.mono HBW.out.size))
   have e0 : W3.cell? ⟨BE, 0, none⟩ = some (.int .i64 m0) := by rw [cell_of_row W3 _ 0 _ _ _ hE3]; rfl
   have e1 : W3.cell? ⟨BE, 1, none⟩ = some (.int .i64 m1) := by rw [cell_of_row W3 _ 1 _ _ _ hE3]; rfl
   have fe0 : W3.frozen? ⟨BE, 0, none⟩ = false := frozen_of_row W3 _ 0 _ _ hE3
   have fe1 : W3.frozen? ⟨BE, 1, none⟩ = false := frozen_of_row W3 _ 1 _ _ hE3
   have c40 := hx4.c0
   have c41 := hx4.c1
   have f40 := hx4.fz 0
   have f41 := hx4.fz 1
   have HDE := Aside0.mk (show D ≠ BE by have := HDD.out; have := HZ6.out; omega)
   clear hb3 hx4 hE3 cf c30
   gi_wp2
   have hkd : ((((W3.setCell ⟨BE, 0, none⟩ (.int .i64 mx)).setCell ⟨BE, 1, none⟩ (.int .i64 mx)).setCell ⟨w.heap.size + 1, 0, none⟩ (.int .i64 mx)).setCell ⟨w.heap.size + 1, 1, none⟩ (.int .i64 mx)).heap[D]? = some (.deferred (some [])) := by
    rw [Below.heap_setCell _ ⟨w.heap.size + 1, 1, none⟩ _ D HDR.out, Below.heap_setCell _ ⟨w.heap.size + 1, 0, none⟩ _ D HDR.out, Below.heap_setCell _ ⟨BE, 1, none⟩ _ D HDE.out, Below.heap_setCell _ ⟨BE, 0, none⟩ _ D HDE.out]; exact HK3.out
   refine ⟨by simp, .inl ⟨_, _, rfl, run_takeDeferred hkd, ?_⟩⟩
   have hs0 : Sx (w.heap.size + 1) 0 0 ((W3.setCell ⟨BE, 0, none⟩ (.int .i64 mx)).setCell ⟨BE, 1, none⟩ (.int .i64 mx)) := (Below.heap_setCell _ ⟨BE, 1, none⟩ _ _ hRB).trans ((Below.heap_setCell _ ⟨BE, 0, none⟩ _ _ hRB).trans HX43.out)
   have hs := blk_put (blk_put hs0 0 (.int .i64 mx) rfl) 1 (.int .i64 mx) rfl
   have hs2 : Sx (w.heap.size + 1) mx mx (((((W3.setCell ⟨BE, 0, none⟩ (.int .i64 mx)).setCell ⟨BE, 1, none⟩ (.int .i64 mx)).setCell ⟨w.heap.size + 1, 0, none⟩ (.int .i64 mx)).setCell ⟨w.heap.size + 1, 1, none⟩ (.int .i64 mx)).putObj D (.deferred none)) := (World.putObj_heap_other HDR.out.symm).trans hs
   refine ⟨_, res_span _ _ (w.heap.size + 1) mx mx true rfl rfl hs2, ?_, ?_⟩
   ·rw [HV2.out]
   have hBl : w.heap.size ≤ BE := by have := HZ6.out; omega
   have hbw : Below w.heap.size w ((((W3.setCell ⟨BE, 0, none⟩ (.int .i64 mx)).setCell ⟨BE, 1, none⟩ (.int .i64 mx)).setCell ⟨w.heap.size + 1, 0, none⟩ (.int .i64 mx)).setCell ⟨w.heap.size + 1, 1, none⟩ (.int .i64 mx)) := below_set' (below_set' (below_set' (below_set' HBW3.out hBl) hBl) (Nat.le_succ _)) (Nat.le_succ _)
   exact hbw.trans ⟨rfl, rfl, rfl, by simp, fun k hk => World.putObj_heap_other (by have := HDD.out; have := HZ6.out; omega)⟩
 case stop =>
  rintro D c s W _ h _
  exact h.elim
theorem span_c (A0 : Option Addr) (c0 : Nat) (l0 : List Rn) (xa xb : Int) (w : World) (h : RC w A0 l0) (hc : l0.length ≤ c0) (hl : l0.length ≤ 140737488351232) :
  Calls Try.prog 16 #[.slice A0 l0.length c0, .agg #[.int .i64 xa, .int .i64 xb]] w fun e w' => e = .returned (.tuple #[.agg #[.int .i64 (spanL l0 xa xb).1.1, .int .i64 (spanL l0 xa xb).1.2], .bool (spanL l0 xa xb).2]) ∧ Below w.heap.size w w' := by
 by_cases hall : good l0 = true ∧ 0 ≤ xa ∧ xa ≤ xb ∧ xb ≤ inL l0
 ·exact span_yes A0 c0 l0 xa xb w h hc hl hall.1 hall.2.1 hall.2.2.1 hall.2.2.2
 ·have hv : spanL l0 xa xb = ((0, 0), false) := by unfold spanL; rw [if_neg hall]
  rw [hv]
  cases hg : good l0 with
  | false => exact span_no1 A0 c0 l0 xa xb w h hc hl hg
  | true =>
   by_cases h1 : xa < 0
   ·exact span_no2 A0 c0 l0 xa xb w h hc hl hg h1
   ·by_cases h2 : xb < xa
    ·exact span_no3 A0 c0 l0 xa xb w h hc hl hg (by omega) h2
    ·exact span_no4 A0 c0 l0 xa xb w h hc hl hg (by omega) (by omega) (Int.not_le.1 fun h3 => hall ⟨hg, by omega, by omega, h3⟩)
end Go.Proofs.Ythocalfgeaclgaa.PlaceS
end
-- MERGED YthocalfgeaclgaaEditG
section

namespace Go.Proofs.Ythocalfgeaclgaa.EditG
open Go.RowKit Go.Proofs.Ythocalfgeaclgaa.P Go.Proofs.Ythocalfgeaclgaa.EditL
set_option linter.unusedSimpArgs false
set_option linter.unusedVariables false
theorem E_add (s : ByteArray) : E ++ s = s := by
 apply ByteArray.ext
 simp [E]
theorem add_E (s : ByteArray) : s ++ E = s := by
 apply ByteArray.ext
 simp [E]
theorem size_add (a b : ByteArray) : (a ++ b).size = a.size + b.size := ByteArray.size_append ..
theorem jn_flush {r : Rn} {l : List Rn} {k d : Int} {a : ByteArray} (h1 : knd r = 1) (h2 : a.size ≠ 0 ∨ 0 < d) : jn (r :: l) k a d = fl k a d ++ jn l r.f0 r.f1 r.f2 := by
 show (if _ then _ else _) = _; rw [if_pos ⟨h1, h2⟩]
theorem jn_on {r : Rn} {l : List Rn} {k d : Int} {a : ByteArray} (h : ¬ (knd r = 1 ∧ (a.size ≠ 0 ∨ 0 < d))) : jn (r :: l) k a d = jn l (k + r.f0) (a ++ r.f1) (d + r.f2) := by
 show (if _ then _ else _) = _; rw [if_neg h]
theorem fl_len (k d : Int) (a : ByteArray) : (fl k a d).length ≤ 3 := by unfold fl; simp only [List.length_append]; (repeat' split) <;> simp
theorem jn_len (l : List Rn) : ∀ k a d, (jn l k a d).length ≤ 3 * l.length + 3 := by
 induction l with
 | nil => intro k a d; have := fl_len k d a; simpa [jn] using this
 | cons r l ih =>
  intro k a d
  by_cases h : knd r = 1 ∧ (a.size ≠ 0 ∨ 0 < d)
  ·rw [jn_flush h.1 h.2, List.length_append, List.length_cons]
   have := fl_len k d a
   have := ih r.f0 r.f1 r.f2
   omega
  ·rw [jn_on h, List.length_cons]
   have := ih (k + r.f0) (a ++ r.f1) (d + r.f2)
   omega
theorem run_eq {r : Rn} (h : knd r = 1) : r = ⟨r.f0, E, 0⟩ ∧ 0 < r.f0 ∧ r.f1 = E ∧ r.f2 = 0 := by
 obtain ⟨f0, f1, f2⟩ := r
 rcases knd_cases ⟨f0, f1, f2⟩ with ⟨h1, h2, h3, h4⟩ | ⟨h1, h2, h3, h4⟩ | ⟨h1, h2, h3, h4⟩ | ⟨h4, _⟩
 ·have := eq_E h2
  simp only at h1 h3 this ⊢
  subst this; subst h3
  exact ⟨rfl, h1, rfl, rfl⟩
 all_goals rw [h4] at h; cases h
theorem run_eq2 {r : Rn} (h : knd r = 2) : r = ⟨0, r.f1, 0⟩ ∧ r.f0 = 0 ∧ r.f1.size ≠ 0 ∧ r.f2 = 0 := by
 obtain ⟨f0, f1, f2⟩ := r
 rcases knd_cases ⟨f0, f1, f2⟩ with ⟨h1, h2, h3, h4⟩ | ⟨h1, h2, h3, h4⟩ | ⟨h1, h2, h3, h4⟩ | ⟨h4, _⟩
 ·rw [h4] at h; cases h
 ·simp only at h1 h2 h3 ⊢
  subst h1; subst h3
  exact ⟨rfl, rfl, by omega, rfl⟩
 all_goals rw [h4] at h; cases h
theorem run_eq3 {r : Rn} (h : knd r = 3) : r = ⟨0, E, r.f2⟩ ∧ r.f0 = 0 ∧ r.f1 = E ∧ 0 < r.f2 := by
 obtain ⟨f0, f1, f2⟩ := r
 rcases knd_cases ⟨f0, f1, f2⟩ with ⟨h1, h2, h3, h4⟩ | ⟨h1, h2, h3, h4⟩ | ⟨h1, h2, h3, h4⟩ | ⟨h4, _⟩
 ·rw [h4] at h; cases h
 ·rw [h4] at h; cases h
 ·have := eq_E h2
  simp only at h1 h3 this ⊢
  subst this; subst h1
  exact ⟨rfl, rfl, rfl, h3⟩
 ·rw [h4] at h; cases h
theorem knd_three {r : Rn} (h : knd r ≠ 0) : knd r = 1 ∨ knd r = 2 ∨ knd r = 3 := by
 rcases knd_cases r with ⟨_, _, _, h4⟩ | ⟨_, _, _, h4⟩ | ⟨_, _, _, h4⟩ | ⟨h4, _⟩
 ·exact .inl h4
 ·exact .inr (.inl h4)
 ·exact .inr (.inr h4)
 ·exact absurd h4 h
theorem sums_fl {k d : Int} (hk : 0 ≤ k) (hd : 0 ≤ d) (a : ByteArray) : inL (fl k a d) = k + d ∧ outL (fl k a d) = k + (a.size : Int) := by
 unfold fl
 by_cases h1 : 0 < k <;> by_cases h2 : a.size ≠ 0 <;> by_cases h3 : 0 < d <;> simp [h1, h2, h3, inL, outL, E_size] <;> omega
theorem sums_jn (l : List Rn) (h : ∀ r ∈ l, knd r ≠ 0) : ∀ (k : Int) (a : ByteArray) (d : Int), 0 ≤ k → 0 ≤ d → inL (jn l k a d) = k + d + inL l ∧ outL (jn l k a d) = k + (a.size : Int) + outL l := by
 induction l with
 | nil =>
  intro k a d hk hd
  have := sums_fl hk hd a
  simp only [jn, inL, outL]
  omega
 | cons r l ih =>
  intro k a d hk hd
  have hp := knd_pos (h r List.mem_cons_self)
  have h2 : ∀ x ∈ l, knd x ≠ 0 := fun x hx => h x (List.mem_cons_of_mem _ hx)
  by_cases c : knd r = 1 ∧ (a.size ≠ 0 ∨ 0 < d)
  ·have h3 := ih h2 r.f0 r.f1 r.f2 hp.1 hp.2
   have h4 := sums_fl hk hd a
   rw [jn_flush c.1 c.2, inL_append, outL_append]
   simp only [inL, outL]
   omega
  ·have h3 := ih h2 (k + r.f0) (a ++ r.f1) (d + r.f2) (by omega) (by omega)
   rw [jn_on c]
   simp only [inL, outL]
   rw [size_add] at h3
   omega
theorem ord_jn (l : List Rn) (h : ∀ r ∈ l, knd r ≠ 0) : ∀ (k : Int) (a : ByteArray) (d last : Int), 0 ≤ k → 0 ≤ d → last ≠ 1 → (k = 0 → last = 0) → ord (jn l k a d) last = true := by
 induction l with
 | nil =>
  intro k a d last hk hd hl h0
  simp only [jn, fl]
  by_cases h1 : 0 < k
  ·by_cases h2 : a.size ≠ 0 <;> by_cases h3 : 0 < d <;> simp [h1, h2, h3, ord, knd_keep, knd_add, knd_drop] <;> omega
  ·have := h0 (by omega)
   subst this
   by_cases h2 : a.size ≠ 0 <;> by_cases h3 : 0 < d <;> simp [h1, h2, h3, ord, knd_keep, knd_add, knd_drop]
 | cons r l ih =>
  intro k a d last hk hd hl h0
  have hp := knd_pos (h r List.mem_cons_self)
  have h2 : ∀ x ∈ l, knd x ≠ 0 := fun x hx => h x (List.mem_cons_of_mem _ hx)
  by_cases c : knd r = 1 ∧ (a.size ≠ 0 ∨ 0 < d)
  ·have hr := run_eq c.1
   have i2 := ih h2 r.f0 r.f1 r.f2 2 hp.1 hp.2 (by decide) (fun e => by omega)
   have i3 := ih h2 r.f0 r.f1 r.f2 3 hp.1 hp.2 (by decide) (fun e => by omega)
   rw [jn_flush c.1 c.2]
   unfold fl
   by_cases h1 : 0 < k
   ·by_cases h2 : a.size ≠ 0 <;> by_cases h3 : 0 < d
    ·simp [h1, h2, h3, ord, knd_keep, knd_add, knd_drop, i2, i3]; omega
    ·simp [h1, h2, h3, ord, knd_keep, knd_add, knd_drop, i2, i3]; omega
    ·simp [h1, h2, h3, ord, knd_keep, knd_add, knd_drop, i2, i3]; omega
    ·exact absurd c.2 (by omega)
   ·have := h0 (by omega)
    subst this
    by_cases h2 : a.size ≠ 0 <;> by_cases h3 : 0 < d
    ·simp [h1, h2, h3, ord, knd_keep, knd_add, knd_drop, i2, i3]
    ·simp [h1, h2, h3, ord, knd_keep, knd_add, knd_drop, i2, i3]
    ·simp [h1, h2, h3, ord, knd_keep, knd_add, knd_drop, i2, i3]
    ·exact absurd c.2 (by omega)
  ·rw [jn_on c]
   refine ih h2 _ _ _ last (by omega) (by omega) hl (fun e => h0 (by omega))
theorem good_out {l : List Rn} (hf : fits (fine l) 0 0 = true) (hl : (out l).length ≤ 65536) : good (out l) = true := by
 have hok := fine_ok l
 have ho := ord_jn (fine l) hok 0 E 0 0 (by decide) (by decide) (by decide) (fun _ => rfl)
 have hs := sums_jn (fine l) hok 0 E 0 (by decide) (by decide)
 have hi := (fits_iff hok 0 0 (by decide) (by decide)).1 hf
 unfold good
 rw [show ord (out l) 0 = true from ho, decide_eq_true hl, Bool.true_and, Bool.true_and]
 refine (fits_iff (ord_ok ho) 0 0 (by decide) (by decide)).2 ?_
 rw [hs.1, hs.2, E_size]
 omega
theorem out_len (l : List Rn) : (out l).length ≤ 3 * l.length + 3 := by
 have h1 := jn_len (fine l) 0 E 0
 have h2 := fine_len l
 unfold out
 omega
theorem norm_fits {l : List Rn} (hf : fits (fine l) 0 0 = true) (hl : 3 * l.length + 3 ≤ 65536) : norm l = out l ∧ good (out l) = true := by
 have h := good_out hf (by have := out_len l; omega)
 unfold norm
 rw [if_pos hf, if_pos h]
 exact ⟨rfl, h⟩
theorem norm_sums {l : List Rn} (hf : fits (fine l) 0 0 = true) (hl : 3 * l.length + 3 ≤ 65536) : good (norm l) = true ∧ inL (norm l) = inL (fine l) ∧ outL (norm l) = outL (fine l) := by
 obtain ⟨h1, h2⟩ := norm_fits hf hl
 have hs := sums_jn (fine l) (fine_ok l) 0 E 0 (by decide) (by decide)
 rw [h1]
 refine ⟨h2, ?_, ?_⟩
 ·unfold out; rw [hs.1]; omega
 ·unfold out; rw [hs.2, E_size]; omega
theorem norm_good (l : List Rn) : good (norm l) = true := by
 unfold norm
 split
 ·split
  ·assumption
  ·exact good_nil
 ·exact good_nil
theorem norm_nofit {l : List Rn} (hf : fits (fine l) 0 0 = false) : norm l = [] := by unfold norm; rw [hf]; rfl
theorem ord_zero {r : Rn} {l : List Rn} {last : Int} (h : ord (r :: l) last = true) : ord (r :: l) 0 = true := by
 simp only [ord, Bool.and_eq_true, decide_eq_true_eq] at h ⊢
 exact ⟨⟨⟨h.1.1.1, h.1.1.1⟩, by omega⟩, h.2⟩
theorem ord_tail {a l : List Rn} : ∀ {last : Int}, ord (a ++ l) last = true → ord l 0 = true := by
 induction a with
 | nil =>
  intro last h
  cases l with
  | nil => rfl
  | cons r l => exact ord_zero h
 | cons r a ih =>
  intro last h
  rw [List.cons_append] at h
  simp only [ord, Bool.and_eq_true] at h
  exact ih h.2
theorem fl_one {k : Int} (h : 0 < k) : fl k E 0 = [⟨k, E, 0⟩] := by unfold fl; rw [if_pos h]; rfl
theorem jn_self (l : List Rn) : ∀ (k : Int) (a : ByteArray) (d : Int), 0 ≤ k → 0 ≤ d → ord (fl k a d ++ l) 0 = true → jn l k a d = fl k a d ++ l := by
 induction l with
 | nil => intro k a d _ _ _; rw [List.append_nil]; rfl
 | cons r l ih =>
  intro k a d hk hd h
  have hr : knd r ≠ 0 := ord_ok h r (List.mem_append_right _ List.mem_cons_self)
  rcases knd_three hr with c | c | c
  ·obtain ⟨e, e0, e1, e2⟩ := run_eq c
   have i1 := ih r.f0 r.f1 r.f2 (by omega) (by omega) (by
    rw [e1, e2, fl_one e0]
    have := ord_tail h
    rw [e] at this
    exact this)
   by_cases c2 : a.size ≠ 0 ∨ 0 < d
   ·rw [jn_flush c c2, i1, e1, e2, fl_one e0, ← e]; rfl
   ·have ha : a = E := eq_E (by omega)
    have hd0 : d = 0 := by omega
    subst ha; subst hd0
    have hk0 : k = 0 := by
     apply Classical.byContradiction
     intro hne
     rw [fl_one (by omega)] at h
     simp only [List.cons_append, List.nil_append, ord, knd_keep (show 0 < k by omega), c] at h
     simp at h
    subst hk0
    rw [jn_on (fun h => c2 h.2), Int.zero_add, Int.zero_add, E_add, i1, e1, e2, fl_one e0, ← e]
    rfl
  ·obtain ⟨e, e0, e1, e2⟩ := run_eq2 c
   have hd0 : d = 0 := by
    apply Classical.byContradiction
    intro hne
    have hp : 0 < d := by omega
    unfold fl at h
    rw [if_pos hp, ← List.append_assoc, List.append_assoc] at h
    have h2 : ∀ (x : List Rn) (last : Int), ord (x ++ ([⟨0, E, d⟩] ++ r :: l)) last = true → False := by
     intro x
     induction x with
     | nil =>
      intro last h
      simp [ord, knd_drop hp, c] at h
     | cons y x ihx =>
      intro last h
      rw [List.cons_append] at h
      simp only [ord, Bool.and_eq_true] at h
      exact ihx _ h.2
    exact h2 _ _ h
   subst hd0
   have ha : a = E := by
    refine eq_E (Classical.byContradiction fun hne => ?_)
    unfold fl at h
    rw [if_pos hne, if_neg (show ¬ (0 : Int) < 0 by decide), List.append_nil] at h
    have h2 : ∀ (x : List Rn) (last : Int), ord ((x ++ [⟨0, a, 0⟩]) ++ r :: l) last = true → False := by
     intro x
     induction x with
     | nil =>
      intro last h
      simp [ord, knd_add hne, c] at h
     | cons y x ihx =>
      intro last h
      rw [List.cons_append, List.cons_append] at h
      simp only [ord, Bool.and_eq_true] at h
      exact ihx _ h.2
    exact h2 _ _ h
   subst ha
   have hfl : fl k E 0 ++ r :: l = fl k r.f1 0 ++ l := by
    unfold fl
    rw [if_pos e1, if_neg (show ¬ E.size ≠ 0 by decide), if_neg (show ¬ (0 : Int) < 0 by decide)]
    conv => lhs; rw [e]
    simp
   rw [jn_on (fun h => absurd (c.symm.trans h.1) (by decide)), e0, e2, Int.add_zero, Int.add_zero, E_add, hfl]
   exact ih _ _ _ hk (by decide) (by rw [← hfl]; exact h)
  ·obtain ⟨e, e0, e1, e2⟩ := run_eq3 c
   have hd0 : d = 0 := by
    apply Classical.byContradiction
    intro hne
    have hp : 0 < d := by omega
    unfold fl at h
    rw [if_pos hp, ← List.append_assoc, List.append_assoc] at h
    have h2 : ∀ (x : List Rn) (last : Int), ord (x ++ ([⟨0, E, d⟩] ++ r :: l)) last = true → False := by
     intro x
     induction x with
     | nil =>
      intro last h
      simp [ord, knd_drop hp, c] at h
     | cons y x ihx =>
      intro last h
      rw [List.cons_append] at h
      simp only [ord, Bool.and_eq_true] at h
      exact ihx _ h.2
    exact h2 _ _ h
   subst hd0
   have hfl : fl k a 0 ++ r :: l = fl k a r.f2 ++ l := by
    unfold fl
    rw [if_pos e2, if_neg (show ¬ (0 : Int) < 0 by decide)]
    conv => lhs; rw [e]
    simp
   rw [jn_on (fun h => absurd (c.symm.trans h.1) (by decide)), e0, e1, Int.add_zero, Int.zero_add, add_E, hfl]
   exact ih _ _ _ hk (by omega) (by rw [← hfl]; exact h)
theorem out_self {l : List Rn} (h : ord l 0 = true) : out l = l := by
 unfold out
 rw [fine_self (ord_ok h)]
 exact jn_self l 0 E 0 (by decide) (by decide) h
theorem norm_self {l : List Rn} (h : good l = true) : norm l = l := by
 obtain ⟨h1, h2, h3, h4⟩ := good_ok h
 unfold norm
 rw [fine_self h4, if_pos h3, out_self h1, if_pos h]
end Go.Proofs.Ythocalfgeaclgaa.EditG
end
-- MERGED YthocalfgeaclgaaPlaceL
section

namespace Go.Proofs.Ythocalfgeaclgaa.PlaceL
open Go.RowKit Go.Proofs.Ythocalfgeaclgaa.P Go.Proofs.Ythocalfgeaclgaa.EditL Go.Proofs.Ythocalfgeaclgaa.EditG Go.Proofs.Ythocalfgeaclgaa.PlaceI Go.Proofs.Ythocalfgeaclgaa.PlaceM Go.Proofs.Ythocalfgeaclgaa.PlaceC Go.Proofs.Ythocalfgeaclgaa.PlaceS
set_option linter.unusedSimpArgs false
set_option linter.unusedVariables false
def P : List Rn → Int → Bool → Int
 | [], _, _ => 0
 | r :: l, n, b =>
  if 0 < r.f0 then (if n < r.f0 then n else r.f0 + P l (n - r.f0) b)
  else if 0 < r.f2 then (if n < r.f2 then 0 else P l (n - r.f2) b)
  else if n = 0 ∧ b = false then 0 else (r.f1.size : Int) + P l n b
def keepR (k : Int) : Rn := ⟨k, E, 0⟩
theorem P_keep {r : Rn} (h : knd r = 1) (l : List Rn) (n : Int) (b : Bool) : P (r :: l) n b = if n < r.f0 then n else r.f0 + P l (n - r.f0) b := by
 show (if 0 < r.f0 then _ else _) = _
 rw [if_pos (run_eq h).2.1]
theorem P_drop {r : Rn} (h : knd r = 3) (l : List Rn) (n : Int) (b : Bool) : P (r :: l) n b = if n < r.f2 then 0 else P l (n - r.f2) b := by
 show (if 0 < r.f0 then _ else if 0 < r.f2 then _ else _) = _
 rw [if_neg (by have := (run_eq3 h).2.1; omega), if_pos (run_eq3 h).2.2.2]
theorem P_add {r : Rn} (h : knd r = 2) (l : List Rn) (n : Int) (b : Bool) : P (r :: l) n b = if n = 0 ∧ b = false then 0 else (r.f1.size : Int) + P l n b := by
 show (if 0 < r.f0 then _ else if 0 < r.f2 then _ else _) = _
 rw [if_neg (by have := (run_eq2 h).2.1; omega), if_neg (by have := (run_eq2 h).2.2.2; omega)]
theorem P_zero (l : List Rn) (h : ∀ r ∈ l, knd r ≠ 0) : P l 0 false = 0 := by
 cases l with
 | nil => rfl
 | cons r l =>
  rcases knd_three (h r List.mem_cons_self) with c | c | c
  ·rw [P_keep c, if_pos (run_eq c).2.1]
  ·rw [P_add c, if_pos ⟨rfl, rfl⟩]
  ·rw [P_drop c, if_pos (run_eq3 c).2.2.2]
theorem P_nonneg (l : List Rn) (h : ∀ r ∈ l, knd r ≠ 0) : ∀ (n : Int) (b : Bool), 0 ≤ n → 0 ≤ P l n b := by
 induction l with
 | nil => intro n b _; exact Int.le_refl _
 | cons r l ih =>
  intro n b hn
  have i := ih (fun x hx => h x (List.mem_cons_of_mem _ hx))
  rcases knd_three (h r List.mem_cons_self) with c | c | c
  ·rw [P_keep c]
   split
   ·exact hn
   ·have := i (n - r.f0) b (by omega)
    have := (run_eq c).2.1
    omega
  ·rw [P_add c]
   split
   ·omega
   ·have := i n b hn
    omega
  ·rw [P_drop c]
   split
   ·omega
   ·exact i _ b (by omega)
theorem P_le_out (l : List Rn) (h : ∀ r ∈ l, knd r ≠ 0) : ∀ (n : Int) (b : Bool), 0 ≤ n → P l n b ≤ outL l := by
 induction l with
 | nil => intro n b _; exact Int.le_refl _
 | cons r l ih =>
  intro n b hn
  have h2 : ∀ x ∈ l, knd x ≠ 0 := fun x hx => h x (List.mem_cons_of_mem _ hx)
  have i := ih h2
  have ho := (inL_nonneg h2).2
  simp only [outL]
  rcases knd_three (h r List.mem_cons_self) with c | c | c
  ·have e := run_eq c
   rw [P_keep c, e.2.2.1, E_size]
   split
   ·omega
   ·have := i (n - r.f0) b (by omega); omega
  ·have e := run_eq2 c
   rw [P_add c, e.2.1]
   split
   ·omega
   ·have := i n b hn; omega
  ·have e := run_eq3 c
   rw [P_drop c, e.2.1, e.2.2.1, E_size]
   split
   ·omega
   ·have := i (n - r.f2) b (by omega); omega
theorem P_end (l : List Rn) (h : ∀ r ∈ l, knd r ≠ 0) : P l (inL l) true = outL l := by
 induction l with
 | nil => rfl
 | cons r l ih =>
  have h2 : ∀ x ∈ l, knd x ≠ 0 := fun x hx => h x (List.mem_cons_of_mem _ hx)
  have i := ih h2
  have ho := inL_nonneg h2
  simp only [outL, inL]
  rcases knd_three (h r List.mem_cons_self) with c | c | c
  ·have e := run_eq c
   rw [P_keep c, e.2.2.1, E_size, e.2.2.2, if_neg (by omega), show r.f0 + 0 + inL l - r.f0 = inL l by omega, i]; omega
  ·have e := run_eq2 c
   rw [P_add c, if_neg (fun h => by cases h.2), e.2.1, e.2.2.2, show (0 : Int) + 0 + inL l = inL l by omega, i]; omega
  ·have e := run_eq3 c
   rw [P_drop c, e.2.1, e.2.2.1, E_size, if_neg (by omega), show 0 + r.f2 + inL l - r.f2 = inL l by omega, i]; omega
theorem P_mono (l : List Rn) (h : ∀ r ∈ l, knd r ≠ 0) : ∀ (n m : Int) (b : Bool), 0 ≤ n → n ≤ m → P l n b ≤ P l m b := by
 induction l with
 | nil => intro n m b _ _; exact Int.le_refl _
 | cons r l ih =>
  intro n m b hn hm
  have h2 : ∀ x ∈ l, knd x ≠ 0 := fun x hx => h x (List.mem_cons_of_mem _ hx)
  have i := ih h2
  have nn := P_nonneg l h2
  rcases knd_three (h r List.mem_cons_self) with c | c | c
  ·have e := run_eq c
   rw [P_keep c, P_keep c]
   by_cases h1 : n < r.f0
   ·rw [if_pos h1]
    split
    ·exact hm
    ·have := nn (m - r.f0) b (by omega); omega
   ·rw [if_neg h1, if_neg (by omega)]
    have := i (n - r.f0) (m - r.f0) b (by omega) (by omega); omega
  ·rw [P_add c, P_add c]
   by_cases h1 : n = 0 ∧ b = false
   ·rw [if_pos h1]
    split
    ·exact Int.le_refl _
    ·have := nn m b (by omega); omega
   ·by_cases h3 : m = 0 ∧ b = false
    ·exact absurd ⟨by omega, h3.2⟩ h1
    ·rw [if_neg h1, if_neg h3]
     have := i n m b hn hm; omega
  ·rw [P_drop c, P_drop c]
   by_cases h1 : n < r.f2
   ·rw [if_pos h1]
    split
    ·exact Int.le_refl _
    ·exact nn (m - r.f2) b (by omega)
   ·rw [if_neg h1, if_neg (by omega)]
    exact i (n - r.f2) (m - r.f2) b (by omega) (by omega)
theorem P_behind (l : List Rn) (h : ∀ r ∈ l, knd r ≠ 0) : ∀ (n : Int), 0 ≤ n → P l n false ≤ P l n true := by
 induction l with
 | nil => intro n _; exact Int.le_refl _
 | cons r l ih =>
  intro n hn
  have h2 : ∀ x ∈ l, knd x ≠ 0 := fun x hx => h x (List.mem_cons_of_mem _ hx)
  have i := ih h2
  rcases knd_three (h r List.mem_cons_self) with c | c | c
  ·rw [P_keep c, P_keep c]
   by_cases h1 : n < r.f0
   ·rw [if_pos h1, if_pos h1]; exact Int.le_refl _
   ·rw [if_neg h1, if_neg h1]; have := i (n - r.f0) (by omega); omega
  ·rw [P_add c, P_add c, if_neg (fun h : n = 0 ∧ true = false => by cases h.2)]
   split
   ·have := P_nonneg l h2 n true hn; omega
   ·have := i n hn; omega
  ·rw [P_drop c, P_drop c]
   by_cases h1 : n < r.f2
   ·rw [if_pos h1, if_pos h1]; exact Int.le_refl _
   ·rw [if_neg h1, if_neg h1]; exact i (n - r.f2) (by omega)
theorem P_app (pre : List Rn) (hp : ∀ r ∈ pre, knd r ≠ 0) (X : List Rn) : ∀ (n : Int), 0 ≤ n → P (pre ++ X) (inL pre + n) true = outL pre + P X n true := by
 induction pre with
 | nil => intro n _; simp [inL, outL]
 | cons r pre ih =>
  intro n hn
  have h2 : ∀ x ∈ pre, knd x ≠ 0 := fun x hx => hp x (List.mem_cons_of_mem _ hx)
  have i := ih h2 n hn
  have hs := inL_nonneg h2
  rw [List.cons_append]
  simp only [inL, outL]
  rcases knd_three (hp r List.mem_cons_self) with c | c | c
  ·have e := run_eq c
   rw [P_keep c, e.2.2.1, E_size, e.2.2.2, if_neg (by omega), show r.f0 + 0 + inL pre + n - r.f0 = inL pre + n by omega, i]; omega
  ·have e := run_eq2 c
   rw [P_add c, if_neg (fun h => by cases h.2), e.2.1, e.2.2.2, show (0 : Int) + 0 + inL pre + n = inL pre + n by omega, i]; omega
  ·have e := run_eq3 c
   rw [P_drop c, e.2.1, e.2.2.1, E_size, if_neg (by omega), show 0 + r.f2 + inL pre + n - r.f2 = inL pre + n by omega, i]; omega
theorem mvS_past (at_ : Int) (b : Bool) (l : List Rn) (i o t : Int) (h : at_ < i) : mvS at_ b (stepsL l i o) t = t := by
 cases l with
 | nil => rfl
 | cons r l =>
  show (if brk at_ b ⟨r, i, o⟩ then t else _) = t
  rw [if_pos (.inl h)]
theorem mvS_P (at_ : Int) (b : Bool) : ∀ (l : List Rn) (i o t : Int), (∀ r ∈ l, knd r ≠ 0) → i ≤ at_ → at_ ≤ i + inL l → (i = at_ → t = o) → mvS at_ b (stepsL l i o) t = o + P l (at_ - i) b := by
 intro l
 induction l with
 | nil =>
  intro i o t _ h1 h2 h3
  have : i = at_ := by simp only [inL] at h2; omega
  show t = o + 0
  rw [h3 this]; omega
 | cons r l ih =>
  intro i o t hok h1 h2 h3
  have hl : ∀ x ∈ l, knd x ≠ 0 := fun x hx => hok x (List.mem_cons_of_mem _ hx)
  have hs := inL_nonneg hl
  simp only [inL] at h2
  show (if brk at_ b ⟨r, i, o⟩ then t else mvS at_ b (stepsL l (i + (r.f0 + r.f2)) (o + (r.f0 + (r.f1.size : Int)))) (upd at_ ⟨r, i, o⟩)) = _
  have hu : upd at_ ⟨r, i, o⟩ = o + (r.f1.size : Int) + (if at_ - i < r.f0 then at_ - i else r.f0) := rfl
  rcases knd_three (hok r List.mem_cons_self) with c | c | c
  ·have e := run_eq c
   have e1 : (r.f1.size : Int) = 0 := by rw [e.2.2.1, E_size]; rfl
   rw [P_keep c]
   by_cases hi : i = at_
   ·rw [if_pos (.inr ⟨hi, .inr (by show r.f1.size = 0; omega)⟩), h3 hi, if_pos (by omega)]; omega
   ·rw [if_neg (fun h => h.elim (fun h => by have : at_ < i := h; omega) (fun h => hi h.1)), hu]
    by_cases hk : at_ - i < r.f0
    ·rw [if_pos hk, if_pos hk, mvS_past _ _ _ _ _ _ (by omega)]; omega
    ·rw [if_neg hk, if_neg hk, ih _ _ _ hl (by omega) (by omega) (fun _ => by omega), show at_ - (i + (r.f0 + r.f2)) = at_ - i - r.f0 by omega]; omega
  ·have e := run_eq2 c
   rw [P_add c]
   by_cases hi : i = at_
   ·cases b with
    | false => rw [if_pos (.inr ⟨hi, .inl rfl⟩), h3 hi, if_pos ⟨by omega, rfl⟩]; omega
    | true =>
     rw [if_neg (fun h => h.elim (fun h => by have : at_ < i := h; omega) (fun h => h.2.elim (fun h => by cases h) (fun h => e.2.2.1 h))), if_neg (fun h => by cases h.2), hu, if_neg (by omega), ih _ _ _ hl (by omega) (by omega) (fun _ => by omega), show at_ - (i + (r.f0 + r.f2)) = at_ - i by omega]; omega
   ·rw [if_neg (fun h => h.elim (fun h => by have : at_ < i := h; omega) (fun h => hi h.1)), if_neg (fun h => by omega), hu, if_neg (by omega), ih _ _ _ hl (by omega) (by omega) (fun _ => by omega), show at_ - (i + (r.f0 + r.f2)) = at_ - i by omega]; omega
  ·have e := run_eq3 c
   have e1 : (r.f1.size : Int) = 0 := by rw [e.2.2.1, E_size]; rfl
   rw [P_drop c]
   by_cases hi : i = at_
   ·rw [if_pos (.inr ⟨hi, .inr (by show r.f1.size = 0; omega)⟩), h3 hi, if_pos (by omega)]; omega
   ·rw [if_neg (fun h => h.elim (fun h => by have : at_ < i := h; omega) (fun h => hi h.1)), hu, if_neg (by omega)]
    by_cases hk : at_ - i < r.f2
    ·rw [if_pos hk, mvS_past _ _ _ _ _ _ (by omega)]; omega
    ·rw [if_neg hk, ih _ _ _ hl (by omega) (by omega) (fun _ => by omega), show at_ - (i + (r.f0 + r.f2)) = at_ - i - r.f2 by omega]; omega
theorem moveL_P {op : List Rn} {at_ : Int} {b : Bool} (hg : good op = true) (h0 : 0 ≤ at_) (h1 : at_ ≤ inL op) : moveL op at_ b = (P op at_ b, true) := by
 unfold moveL
 rw [if_pos ⟨hg, h0, h1⟩, mvS_P at_ b op 0 0 0 (good_ok hg).2.2.2 h0 (by omega) (fun _ => rfl)]
 simp
def addsL : List Rn → ByteArray → List ByteArray
 | [], s => [s]
 | r :: l, s => if r.f0 + r.f2 = 0 then addsL l (s ++ r.f1) else (s ++ r.f1) :: (List.replicate ((r.f0 + r.f2).toNat - 1) E ++ addsL l E)
def dropsL : List Rn → List Bool
 | [] => []
 | r :: l => List.replicate r.f0.toNat false ++ (List.replicate r.f2.toNat true ++ dropsL l)
def G : List ByteArray → List Bool → Nat → Bool → Int
 | a :: _, _, 0, b => if b then (a.size : Int) else 0
 | a :: xs, d :: ys, n + 1, b => (a.size : Int) + (if d then 0 else 1) + G xs ys n b
 | _, _, _, _ => 0
theorem G_repF (X : List ByteArray) (Y : List Bool) (b : Bool) : ∀ (m n : Nat), G (List.replicate m E ++ X) (List.replicate m false ++ Y) n b = if n < m then (n : Int) else (m : Int) + G X Y (n - m) b := by
 intro m
 induction m with
 | zero => intro n; simp
 | succ m ih =>
  intro n
  cases n with
  | zero =>
   rw [if_pos (by omega)]
   show (if b then ((E.size : Nat) : Int) else 0) = _
   rw [E_size]; simp
  | succ n =>
   show ((E.size : Nat) : Int) + 1 + G (List.replicate m E ++ X) (List.replicate m false ++ Y) n b = _
   rw [ih, E_size]
   by_cases h : n < m
   ·rw [if_pos h, if_pos (by omega)]; omega
   ·rw [if_neg h, if_neg (by omega), show n + 1 - (m + 1) = n - m by omega]; omega
theorem G_repT (X : List ByteArray) (Y : List Bool) (b : Bool) : ∀ (m n : Nat), G (List.replicate m E ++ X) (List.replicate m true ++ Y) n b = if n < m then (0 : Int) else G X Y (n - m) b := by
 intro m
 induction m with
 | zero => intro n; simp
 | succ m ih =>
  intro n
  cases n with
  | zero =>
   rw [if_pos (by omega)]
   show (if b then ((E.size : Nat) : Int) else 0) = _
   rw [E_size]; simp
  | succ n =>
   show ((E.size : Nat) : Int) + 0 + G (List.replicate m E ++ X) (List.replicate m true ++ Y) n b = _
   rw [ih, E_size]
   by_cases h : n < m
   ·rw [if_pos h, if_pos (by omega)]; omega
   ·rw [if_neg h, if_neg (by omega), show n + 1 - (m + 1) = n - m by omega]; omega
theorem G_P : ∀ (l : List Rn) (s : ByteArray) (n : Nat) (b : Bool), (∀ r ∈ l, knd r ≠ 0) → (n : Int) ≤ inL l → G (addsL l s) (dropsL l) n b = (if n = 0 ∧ b = false then 0 else (s.size : Int)) + P l n b := by
 intro l
 induction l with
 | nil =>
  intro s n b _ h
  obtain rfl : n = 0 := by simp only [inL] at h; omega
  show (if b then (s.size : Int) else 0) = _
  cases b <;> simp [P]
 | cons r l ih =>
  intro s n b hok h
  have hl : ∀ x ∈ l, knd x ≠ 0 := fun x hx => hok x (List.mem_cons_of_mem _ hx)
  simp only [inL] at h
  rcases knd_three (hok r List.mem_cons_self) with c | c | c
  ·have e := run_eq c
   obtain ⟨k, hk⟩ : ∃ k : Nat, r.f0 = ((k + 1 : Nat) : Int) := ⟨r.f0.toNat - 1, by omega⟩
   have ea : addsL (r :: l) s = s :: (List.replicate k E ++ addsL l E) := by
    show (if r.f0 + r.f2 = 0 then _ else _) = _
    rw [if_neg (by omega), e.2.2.1, add_E, show (r.f0 + r.f2).toNat - 1 = k by omega]
   have ed : dropsL (r :: l) = false :: (List.replicate k false ++ dropsL l) := by
    show List.replicate r.f0.toNat false ++ (List.replicate r.f2.toNat true ++ dropsL l) = _
    rw [show r.f0.toNat = k + 1 by omega, show r.f2.toNat = 0 by omega, List.replicate_succ]; rfl
   rw [ea, ed, P_keep c]
   cases n with
   | zero =>
    show (if b then (s.size : Int) else 0) = _
    rw [if_pos (show ((0 : Nat) : Int) < r.f0 by omega)]
    cases b <;> simp
   | succ n =>
    show (s.size : Int) + 1 + G (List.replicate k E ++ addsL l E) (List.replicate k false ++ dropsL l) n b = _
    rw [G_repF, if_neg (show ¬ (n + 1 = 0 ∧ b = false) by omega)]
    by_cases h1 : n < k
    ·rw [if_pos h1, if_pos (show ((n + 1 : Nat) : Int) < r.f0 by omega)]; omega
    ·rw [if_neg h1, if_neg (show ¬ ((n + 1 : Nat) : Int) < r.f0 by omega), ih E (n - k) b hl (by omega), E_size, show ((n + 1 : Nat) : Int) - r.f0 = ((n - k : Nat) : Int) by omega, show (if n - k = 0 ∧ b = false then (0 : Int) else ((0 : Nat) : Int)) = 0 by split <;> rfl]
     omega
  ·have e := run_eq2 c
   have ea : addsL (r :: l) s = addsL l (s ++ r.f1) := by
    show (if r.f0 + r.f2 = 0 then _ else _) = _
    rw [if_pos (by omega)]
   have ed : dropsL (r :: l) = dropsL l := by
    show List.replicate r.f0.toNat false ++ (List.replicate r.f2.toNat true ++ dropsL l) = _
    rw [show r.f0.toNat = 0 by omega, show r.f2.toNat = 0 by omega]; rfl
   rw [ea, ed, P_add c, ih _ n b hl (by omega), size_add]
   by_cases h1 : n = 0 ∧ b = false
   ·rw [if_pos h1, if_pos h1, if_pos ⟨by omega, h1.2⟩, h1.1, h1.2, show ((0 : Nat) : Int) = 0 from rfl, P_zero l hl]
   ·rw [if_neg h1, if_neg h1, if_neg (fun h => h1 ⟨by omega, h.2⟩)]; omega
  ·have e := run_eq3 c
   obtain ⟨k, hk⟩ : ∃ k : Nat, r.f2 = ((k + 1 : Nat) : Int) := ⟨r.f2.toNat - 1, by omega⟩
   have ea : addsL (r :: l) s = s :: (List.replicate k E ++ addsL l E) := by
    show (if r.f0 + r.f2 = 0 then _ else _) = _
    rw [if_neg (by omega), e.2.2.1, add_E, show (r.f0 + r.f2).toNat - 1 = k by omega]
   have ed : dropsL (r :: l) = true :: (List.replicate k true ++ dropsL l) := by
    show List.replicate r.f0.toNat false ++ (List.replicate r.f2.toNat true ++ dropsL l) = _
    rw [show r.f2.toNat = k + 1 by omega, show r.f0.toNat = 0 by omega, List.replicate_succ]; rfl
   rw [ea, ed, P_drop c]
   cases n with
   | zero =>
    show (if b then (s.size : Int) else 0) = _
    rw [if_pos (show ((0 : Nat) : Int) < r.f2 by omega)]
    cases b <;> simp
   | succ n =>
    show (s.size : Int) + 0 + G (List.replicate k E ++ addsL l E) (List.replicate k true ++ dropsL l) n b = _
    rw [G_repT, if_neg (show ¬ (n + 1 = 0 ∧ b = false) by omega)]
    by_cases h1 : n < k
    ·rw [if_pos h1, if_pos (show ((n + 1 : Nat) : Int) < r.f2 by omega)]; omega
    ·rw [if_neg h1, if_neg (show ¬ ((n + 1 : Nat) : Int) < r.f2 by omega), ih E (n - k) b hl (by omega), E_size, show ((n + 1 : Nat) : Int) - r.f2 = ((n - k : Nat) : Int) by omega, show (if n - k = 0 ∧ b = false then (0 : Int) else ((0 : Nat) : Int)) = 0 by split <;> rfl]
     omega
theorem addsL_length : ∀ (l : List Rn) (s : ByteArray), (∀ r ∈ l, knd r ≠ 0) → ((addsL l s).length : Int) = inL l + 1 := by
 intro l
 induction l with
 | nil => intro s _; rfl
 | cons r l ih =>
  intro s hok
  have hl : ∀ x ∈ l, knd x ≠ 0 := fun x hx => hok x (List.mem_cons_of_mem _ hx)
  have hp := knd_pos (hok r List.mem_cons_self)
  simp only [inL, addsL]
  split
  ·rw [ih _ hl]; omega
  ·rw [List.length_cons, List.length_append, List.length_replicate]
   have := ih E hl
   omega
theorem dropsL_length : ∀ (l : List Rn), (∀ r ∈ l, knd r ≠ 0) → ((dropsL l).length : Int) = inL l := by
 intro l
 induction l with
 | nil => intro _; rfl
 | cons r l ih =>
  intro hok
  have hl : ∀ x ∈ l, knd x ≠ 0 := fun x hx => hok x (List.mem_cons_of_mem _ hx)
  have hp := knd_pos (hok r List.mem_cons_self)
  have := ih hl
  simp only [inL, dropsL, List.length_append, List.length_replicate]
  omega
end Go.Proofs.Ythocalfgeaclgaa.PlaceL
end
-- MERGED YthocalfgeaclgaaPplaceMove
section

namespace Go.Proofs.Ythocalfgeaclgaa.P
open Go.RowKit Go.Proofs.YthocalfgeaclgaaW.PrintWords Go.Proofs.YthocalfgeaclgaaW.PrintLast Go.Proofs.YthocalfgeaclgaaW.PrintMore
attribute [local go_sem] max2_int min2_int max_two min_two max_three min_three max_four min_four
set_option linter.unusedVariables false
set_option linter.unusedSimpArgs false
def jj23.f (l0 : List (S37)) (a1 : Int) (a2 : Bool) : Option (Int × Bool) := if l0.length ≤ 140737488351232 then some (PlaceM.moveL l0 a1 a2) else none
theorem jj23.calls (A0 : Option Addr) (c0 : Nat) (l0 : List (S37)) (a1 : Int) (a2 : Bool) (r1 : Int) (r2 : Bool) (w : World) (hr0 : Kd.C k37 w A0 l0.length l0) (hc0 : l0.length ≤ c0) (h : jj23.f l0 a1 a2 = some (r1, r2)) :
  Calls Try.prog 14 #[.slice A0 l0.length c0, .int .i64 a1, .bool a2] w fun e w' => e = .returned (.tuple #[.int .i64 r1, .bool r2]) ∧ Below w.heap.size w w' := by
 unfold jj23.f at h
 by_cases hl : l0.length ≤ 140737488351232
 ·rw [if_pos hl] at h
  have h2 := Option.some.inj h
  have := PlaceM.move_c A0 c0 l0 a1 a2 w hr0 hc0 hl
  rw [h2] at this
  exact this
 ·rw [if_neg hl] at h; cases h
end Go.Proofs.Ythocalfgeaclgaa.P
end
-- MERGED YthocalfgeaclgaaPplaceSpan
section

namespace Go.Proofs.Ythocalfgeaclgaa.P
open Go.RowKit Go.Proofs.YthocalfgeaclgaaW.PrintWords Go.Proofs.YthocalfgeaclgaaW.PrintLast Go.Proofs.YthocalfgeaclgaaW.PrintMore
attribute [local go_sem] max2_int min2_int max_two min_two max_three min_three max_four min_four
set_option linter.unusedVariables false
set_option linter.unusedSimpArgs false
def jj25.f (l0 : List (S37)) (a1_0 : Int) (a1_1 : Int) : Option (Int × Int × Bool) := if l0.length ≤ 140737488351232 then some ((PlaceS.spanL l0 a1_0 a1_1).1.1, (PlaceS.spanL l0 a1_0 a1_1).1.2, (PlaceS.spanL l0 a1_0 a1_1).2) else none
theorem jj25.calls (A0 : Option Addr) (c0 : Nat) (l0 : List (S37)) (a1_0 : Int) (a1_1 : Int) (r1 : Int) (r2 : Int) (r3 : Bool) (w : World) (hr0 : Kd.C k37 w A0 l0.length l0) (hc0 : l0.length ≤ c0) (h : jj25.f l0 a1_0 a1_1 = some (r1, r2, r3)) :
  Calls Try.prog 16 #[.slice A0 l0.length c0, .agg #[.int .i64 a1_0, .int .i64 a1_1]] w fun e w' => e = .returned (.tuple #[.agg #[.int .i64 r1, .int .i64 r2], .bool r3]) ∧ Below w.heap.size w w' := by
 unfold jj25.f at h
 by_cases hl : l0.length ≤ 140737488351232
 ·rw [if_pos hl] at h
  have h2 := Option.some.inj h
  injection h2 with e1 e2
  injection e2 with e2 e3
  have := PlaceS.span_c A0 c0 l0 a1_0 a1_1 w hr0 hc0 hl
  rw [e1, e2, e3] at this
  exact this
 ·rw [if_neg hl] at h; cases h
end Go.Proofs.Ythocalfgeaclgaa.P
end

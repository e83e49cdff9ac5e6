/- Shaken: what the claim's theorem needs of our texts, of the printed ones and of the print's words. -/
import Derived.Test.YtedfcjcnhgomoaaXMessageDecodesF
import Derived.Deep.Slices
import Derived.ChangeArms
import Derived.OpenShut
import Derived.ShutString
import Derived.SizedLaws
import Derived.ChangeSlices
import Derived.Test.YtedfcjcnhgomoaaRows
import Derived.WalkKit
import Derived.ProofKit
import Derived.ChangeOld
import Derived.Below
-- MERGED YtedfcjcnhgomoaaRefDec
section
namespace Go.Proofs.Ytedfcjcnhgomoaa.RefDec
open Go.RowKit Go.Proofs.Ytedfcjcnhgomoaa.P Go.Proofs.YtedfcjcnhgomoaaW.PrintWords Go.Proofs.YtedfcjcnhgomoaaW.PrintLast Go.Proofs.YtedfcjcnhgomoaaW.PrintMore Go.Proofs.Ytedfcjcnhgomoaa.Own Go.Proofs.Ytedfcjcnhgomoaa.Vy Go.Proofs.Ytedfcjcnhgomoaa.VaryR Go.Proofs.Ytedfcjcnhgomoaa.NoteN Go.Proofs.Ytedfcjcnhgomoaa.MsgA Go.Proofs.Ytedfcjcnhgomoaa.MsgD Go.Proofs.Ytedfcjcnhgomoaa.MsgE Go.Proofs.Ytedfcjcnhgomoaa.MsgW Go.Proofs.Ytedfcjcnhgomoaa.MsgQ Go.Proofs.Ytedfcjcnhgomoaa.RowNt Go.Proofs.Ytedfcjcnhgomoaa.DecM Go.Proofs.Ytedfcjcnhgomoaa.DecL Go.Proofs.Ytedfcjcnhgomoaa.MsgDec Go.Proofs.Ytedfcjcnhgomoaa.DecRp Go.Proofs.Ytedfcjcnhgomoaa.RefList
set_option linter.unusedSimpArgs false
set_option linter.unusedVariables false
structure Rg (R : Nat) (s : St) (A : Option Addr) (c : Nat) (ov nv : Value) (w0 w : World) : Prop where
 blk : Blk (R + 1) (Mo s.m ov nv) w
 bx : w.heap[R + 2]? = some (.cells #[.slice A s.xs.length c, .bool s.b] TR (0, 0))
 sl : Sl w (.slice A s.xs.length c) s.xs
 res : w.heap[R]? = some (.cells zero9 44 (0, 0))
 o : RowRn.RO w (R + 3) ov s.m.o
 n : NO w (R + 3) nv s.m.n
 below : Below w0.heap.size w0 w
 ord : w0.heap.size ≤ R
theorem Rg.lt {R : Nat} {s : St} {A : Option Addr} {c : Nat} {ov nv : Value} {w0 w : World} (h : Rg R s A c ov nv w0 w) : R + 2 < w.heap.size := (Array.getElem?_eq_some_iff.1 h.bx).1
theorem Rg.below' {R : Nat} {s : St} {A : Option Addr} {c : Nat} {ov nv : Value} {w0 w w' : World} (h : Rg R s A c ov nv w0 w) (hb : Below w.heap.size w w') : Rg R s A c ov nv w0 w' := by
 have hlt := h.lt
 exact ⟨h.blk.below hb, (hb.block _ hlt).trans h.bx, h.sl.below hb, (hb.block R (by omega)).trans h.res, h.o.below hb, h.n.below hb, below_step h.below hb, h.ord⟩
theorem Rg.cells {R : Nat} {s : St} {A : Option Addr} {c : Nat} {ov nv : Value} {w0 w : World} (h : Rg R s A c ov nv w0 w) : w.cell? ⟨R + 2, 0, none⟩ = some (.slice A s.xs.length c) ∧ w.cell? ⟨R + 2, 1, none⟩ = some (.bool s.b) ∧ w.frozen? ⟨R + 2, 0, none⟩ = false ∧ w.frozen? ⟨R + 2, 1, none⟩ = false :=
 ⟨by rw [cell_of_row _ _ 0 _ _ _ h.bx]; rfl, by rw [cell_of_row _ _ 1 _ _ _ h.bx]; rfl, frozen_of_row _ _ 0 _ _ h.bx, frozen_of_row _ _ 1 _ _ h.bx⟩
theorem Rg.put {R : Nat} {s s' : St} {A A' : Option Addr} {c c' : Nat} {ov nv ov' nv' : Value} {w0 w : World} (h : Rg R s A c ov nv w0 w) (o : Nat) (u : Value) (hs : Sl w (.slice A' s'.xs.length c') s'.xs) (hB : Blk (R + 1) (Mo s'.m ov' nv') (w.setCell ⟨R + 1, o, none⟩ u)) (ho : RowRn.RO w (R + 3) ov' s'.m.o) (hn : NO w (R + 3) nv' s'.m.n) :
  Rg R s' A' c' ov' nv' w0 (((w.setCell ⟨R + 1, o, none⟩ u).setCell ⟨R + 2, 0, none⟩ (.slice A' s'.xs.length c')).setCell ⟨R + 2, 1, none⟩ (.bool s'.b)) := by
 obtain ⟨w1, hw1⟩ : ∃ w1, w1 = w.setCell ⟨R + 1, o, none⟩ u := ⟨_, rfl⟩
 rw [← hw1] at hB ⊢
 have hb1 : But (R + 1) w w1 := by rw [hw1]; exact But.setCell _ _ _ _
 have hb2 := but2c (R + 2) w1 (.slice A' s'.xs.length c') (.bool s'.b)
 have hlt := h.lt
 have hbx1 := (hb1.block (R + 2) hlt (fun e => by have := Option.some.inj e; omega)).trans h.bx
 have hno1 : ∀ o x, w.cell? ⟨R + 1, o, none⟩ ≠ some (.int .u8 x) := by
  intro o x hx
  obtain ⟨A3, c3, e1⟩ := RO.form h.o
  obtain ⟨A2, c2, e2⟩ := NO.form h.n
  have hq := h.blk
  unfold Blk Mo Mg.cs at hq
  rw [e1, e2] at hq
  rw [cell_of_row w _ o _ _ _ hq] at hx
  rcases o with _ | _ | _ | _ | _ | _ | _ | _ | _ | o <;> simp at hx
 have hno2 : ∀ o x, w1.cell? ⟨R + 2, o, none⟩ ≠ some (.int .u8 x) := by
  intro o x hx
  rw [cell_of_row w1 _ o _ _ _ hbx1] at hx
  rcases o with _ | _ | o <;> simp at hx
 have hs1 : w.heap.size ≤ w1.heap.size := hb1.size
 refine ⟨(hb2.block (R + 1) (by omega) (fun e => by have := Option.some.inj e; omega)).trans hB, set2 hbx1 _ _, Sl.but (Sl.but hs hb1 hno1) hb2 hno2, (hb2.block R (by omega) (fun e => by have := Option.some.inj e; omega)).trans ((hb1.block R (by omega) (fun e => by have := Option.some.inj e; omega)).trans h.res), ?_, ?_, (h.below.grown hb1 h.below.size (fun K e => by cases e; have := h.ord; omega)).grown hb2 (Nat.le_trans h.below.size hs1) (fun K e => by cases e; have := h.ord; omega), h.ord⟩
 ·have h2 : RowRn.RO w1 (R + 3) ov' s'.m.o := own_move ho fun k hk => hb1.block k (own_lt ho k hk) (fun e => by have h1 := own_base ho k hk; have := Option.some.inj e; omega)
  exact own_move h2 fun k hk => hb2.block k (own_lt h2 k hk) (fun e => by have h1 := own_base h2 k hk; have := Option.some.inj e; omega)
 ·have h2 : NO w1 (R + 3) nv' s'.m.n := own_move hn fun k hk => hb1.block k (own_lt hn k hk) (fun e => by have h1 := own_base hn k hk; have := Option.some.inj e; omega)
  exact own_move h2 fun k hk => hb2.block k (own_lt h2 k hk) (fun e => by have h1 := own_base h2 k hk; have := Option.some.inj e; omega)
theorem rnum_c (w : World) (A : Option Addr) (c : Nat) (xs : List Int) (b : Bool) (h : Sl w (.slice A xs.length c) xs) (hok : Byt.Ok xs) :
  Calls Try.prog 79 #[.agg #[.slice A xs.length c, .bool b]] w fun e w' => ∃ A' c', e = .returned (.tuple #[.int .i64 (numL xs).1, .agg #[.slice A' (dr xs).length c', .bool (b || bd xs)]]) ∧ Sl w' (.slice A' (dr xs).length c') (dr xs) ∧ Below w.heap.size w w' := by
 refine (num_c _ w A c xs b (Sl.to_V (base := 0) h) hok).mono ?_
 rintro e w' ⟨A', c', rfl, hv, hb⟩
 exact ⟨A', c', rfl, Sl.of_V hv, hb⟩
theorem rtext_c (w : World) (A : Option Addr) (c : Nat) (xs : List Int) (b : Bool) (h : Sl w (.slice A xs.length c) xs) (hok : Byt.Ok xs) (hl : xs.length ≤ 500000) :
  Calls Try.prog 81 #[.agg #[.slice A xs.length c, .bool b]] w fun e w' => ∃ A' c', e = .returned (.tuple #[.string (strOfNums (textL xs).1), .agg #[.slice A' (xs.drop (textL xs).2).length c', .bool (b || decide ((textL xs).2 = 0))]]) ∧ Sl w' (.slice A' (xs.drop (textL xs).2).length c') (xs.drop (textL xs).2) ∧ Below w.heap.size w w' := by
 refine (text_c _ w A c xs b (Sl.to_V (base := 0) h) hok (by omega)).mono ?_
 rintro e w' ⟨A', c', rfl, hv, hb⟩
 exact ⟨A', c', rfl, Sl.of_V hv, hb⟩
def RdPost (l : List Int) (w : World) (e : Ending) (w' : World) : Prop :=
 ∃ A6 c6 A8 c8, e = .returned (.tuple #[((decR l).1.mg A6 c6 A8 c8).val, .int .i64 (decR l).2]) ∧ Lies (decR l).1 A6 c6 A8 c8 w' ∧ Below w.heap.size w w'
theorem post_no {l : List Int} {w w' : World} (h : decR l = (noMs, 10)) (hb : Below w.heap.size w w') : RdPost l w (.returned (.tuple #[.agg #[.int .i64 0, .int .i64 0, .int .i64 0, .int .i64 0, .int .i64 0, .int .i64 0, .slice none 0 0, .string ⟨#[]⟩, .slice none 0 0], .int .i64 10])) w' := by
 unfold RdPost
 rw [h]
 exact ⟨none, 0, none, 0, rfl, ⟨Kd.C_nil _ _, Nat.le_refl _, Kd.C_nil _ _, Nat.le_refl _⟩, hb⟩
theorem post_yes {R : Nat} {l : List Int} {s : St} {A A6 A8 : Option Addr} {c c6 c8 : Nat} {w0 w : World} (h : decR l = (s.m, 0)) (hg : Rg R s A c (.slice A6 s.m.o.length c6) (.slice A8 s.m.n.length c8) w0 w) (y0 y1 y2 y3 y4 y5 y6 y7 y8 : Value) :
  RdPost l w0 (.returned (.tuple #[.agg #[.int .i64 s.m.k, .int .i64 s.m.c, .int .i64 s.m.e, .int .i64 s.m.r, .int .i64 s.m.s, .int .i64 s.m.d, .slice A6 s.m.o.length c6, .string s.m.t, .slice A8 s.m.n.length c8], .int .i64 0])) (((((((((w.setCell ⟨R, 0, none⟩ y0).setCell ⟨R, 1, none⟩ y1).setCell ⟨R, 2, none⟩ y2).setCell ⟨R, 3, none⟩ y3).setCell ⟨R, 4, none⟩ y4).setCell ⟨R, 5, none⟩ y5).setCell ⟨R, 6, none⟩ y6).setCell ⟨R, 7, none⟩ y7).setCell ⟨R, 8, none⟩ y8) := by
 have o1 := hg.ord
 have hb := but9 R w y0 y1 y2 y3 y4 y5 y6 y7 y8
 unfold RdPost
 rw [h]
 refine ⟨A6, c6, A8, c8, rfl, lies_own (N := R + 3) (own_move hg.o fun k hk => hb.block k (own_lt hg.o k hk) (fun e => ?_)) (own_move hg.n fun k hk => hb.block k (own_lt hg.n k hk) (fun e => ?_)), below_set9 hg.below o1 _ _ _ _ _ _ _ _ _⟩
 ·have h1 := own_base hg.o k hk; have := Option.some.inj e; omega
 ·have h1 := own_base hg.n k hk; have := Option.some.inj e; omega
set_option maxHeartbeats 16000000 in
set_option maxRecDepth 100000 in
theorem rdecode_c (w : World) (A : Option Addr) (c : Nat) (l : List Int) (h : Sl w (.slice A l.length c) l) (hok : Byt.Ok l) (hl : l.length ≤ 500000) : Calls Try.prog 36 #[.slice A l.length c] w (RdPost l w) := by
 obtain ⟨R, hR⟩ : ∃ R, R = w.heap.size := ⟨_, rfl⟩
 obtain ⟨w1, hw1⟩ : ∃ w1, w1 = w.alloc (.cells #[(.int .i64 0), (.int .i64 0), (.int .i64 0), (.int .i64 0), (.int .i64 0), (.int .i64 0), (.slice none 0 0), (.string ⟨#[]⟩), (.slice none 0 0)] 44) := ⟨_, rfl⟩
 have hs1 : w1.heap.size = R + 1 := by rw [hw1, World.size_alloc, hR]
 obtain ⟨w2, hw2⟩ : ∃ w2, w2 = w1.alloc (.cells #[(.int .i64 0), (.int .i64 0), (.int .i64 0), (.int .i64 0), (.int .i64 0), (.int .i64 0), (.slice none 0 0), (.string ⟨#[]⟩), (.slice none 0 0)] 44) := ⟨_, rfl⟩
 have hs2 : w2.heap.size = R + 2 := by rw [hw2, World.size_alloc, hs1]
 have hT2 : w2.heap[R + 1]? = some (.cells #[(.int .i64 0), (.int .i64 0), (.int .i64 0), (.int .i64 0), (.int .i64 0), (.int .i64 0), (.slice none 0 0), (.string ⟨#[]⟩), (.slice none 0 0)] 44 (0, 0)) := by rw [hw2, ← hs1]; exact Own.heap_new _ _
 obtain ⟨w3, hw3⟩ : ∃ w3, w3 = (((((((((w2.setCell ⟨R + 1, 0, none⟩ (.int .i64 0)).setCell ⟨R + 1, 1, none⟩ (.int .i64 0)).setCell ⟨R + 1, 2, none⟩ (.int .i64 0)).setCell ⟨R + 1, 3, none⟩ (.int .i64 0)).setCell ⟨R + 1, 4, none⟩ (.int .i64 0)).setCell ⟨R + 1, 5, none⟩ (.int .i64 0)).setCell ⟨R + 1, 6, none⟩ (.slice none 0 0)).setCell ⟨R + 1, 7, none⟩ (.string ⟨#[]⟩)).setCell ⟨R + 1, 8, none⟩ (.slice none 0 0)) := ⟨_, rfl⟩
 have hs3 : w3.heap.size = R + 2 := by rw [hw3]; simp [hs2]
 obtain ⟨w4, hw4⟩ : ∃ w4, w4 = w3.alloc (.cells #[.slice none 0 0, .bool false] TR) := ⟨_, rfl⟩
 have hT4 : w4.heap[R + 2]? = some (.cells #[.slice none 0 0, .bool false] TR (0, 0)) := by rw [hw4, ← hs3]; exact Own.heap_new _ _
 obtain ⟨w5, hw5⟩ : ∃ w5, w5 = (w4.setCell ⟨R + 2, 0, none⟩ (.slice A l.length c)).setCell ⟨R + 2, 1, none⟩ (.bool false) := ⟨_, rfl⟩
 have hb1 : Below w.heap.size w w1 := by rw [hw1]; exact below_alloc (Below.refl _ _) _
 have hb3 : Below w1.heap.size w1 w3 := by rw [hw3, hw2]; exact below_set9 (below_alloc (Below.refl _ _) _) (by omega) _ _ _ _ _ _ _ _ _
 have hb4 : Below w3.heap.size w3 w4 := by rw [hw4]; exact below_alloc (Below.refl _ _) _
 have hb5 : But (R + 2) w4 w5 := by rw [hw5]; exact but2c _ _ _ _
 have hs4 : w4.heap.size = R + 3 := by rw [hw4, World.size_alloc, hs3]
 have hbw : Below w.heap.size w w4 := below_step (below_step hb1 hb3) hb4
 have hbw5 : Below w.heap.size w w5 := hbw.grown hb5 hbw.size (fun K e => by cases e; omega)
 have HG5 := Aside0.mk (show Rg R ⟨noMs, l, false⟩ A c (.slice none 0 0) (.slice none 0 0) w w5 from
  ⟨(hb5.block (R + 1) (by omega) (fun e => by have := Option.some.inj e; omega)).trans ((hb4.block (R + 1) (by omega)).trans (by rw [hw3]; exact set9 hT2 _ _ _ _ _ _ _ _ _)),
   by rw [hw5]; exact set2 hT4 _ _, h.below hbw5,
   (hb5.block R (by omega) (fun e => by have := Option.some.inj e; omega)).trans ((hb4.block R (by omega)).trans ((hb3.block R (by omega)).trans (by rw [hw1, hR]; exact Own.heap_new _ _))),
   World.ownsRow_nil _ _ _ _, World.ownsRow_nil _ _ _ _, hbw5, by omega⟩)
 have z0 : w2.cell? ⟨R + 1, 0, none⟩ = some (.int .i64 0) := by rw [cell_of_row _ _ 0 _ _ _ hT2]; rfl
 have f0 := frozen_of_row _ _ 0 _ _ hT2
 have z1 : w2.cell? ⟨R + 1, 1, none⟩ = some (.int .i64 0) := by rw [cell_of_row _ _ 1 _ _ _ hT2]; rfl
 have f1 := frozen_of_row _ _ 1 _ _ hT2
 have z2 : w2.cell? ⟨R + 1, 2, none⟩ = some (.int .i64 0) := by rw [cell_of_row _ _ 2 _ _ _ hT2]; rfl
 have f2 := frozen_of_row _ _ 2 _ _ hT2
 have z3 : w2.cell? ⟨R + 1, 3, none⟩ = some (.int .i64 0) := by rw [cell_of_row _ _ 3 _ _ _ hT2]; rfl
 have f3 := frozen_of_row _ _ 3 _ _ hT2
 have z4 : w2.cell? ⟨R + 1, 4, none⟩ = some (.int .i64 0) := by rw [cell_of_row _ _ 4 _ _ _ hT2]; rfl
 have f4 := frozen_of_row _ _ 4 _ _ hT2
 have z5 : w2.cell? ⟨R + 1, 5, none⟩ = some (.int .i64 0) := by rw [cell_of_row _ _ 5 _ _ _ hT2]; rfl
 have f5 := frozen_of_row _ _ 5 _ _ hT2
 have z6 : w2.cell? ⟨R + 1, 6, none⟩ = some (.slice none 0 0) := by rw [cell_of_row _ _ 6 _ _ _ hT2]; rfl
 have f6 := frozen_of_row _ _ 6 _ _ hT2
 have z7 : w2.cell? ⟨R + 1, 7, none⟩ = some (.string ⟨#[]⟩) := by rw [cell_of_row _ _ 7 _ _ _ hT2]; rfl
 have f7 := frozen_of_row _ _ 7 _ _ hT2
 have z8 : w2.cell? ⟨R + 1, 8, none⟩ = some (.slice none 0 0) := by rw [cell_of_row _ _ 8 _ _ _ hT2]; rfl
 have f8 := frozen_of_row _ _ 8 _ _ hT2
 have r0 : w4.cell? ⟨R + 2, 0, none⟩ = some (.slice none 0 0) := by rw [cell_of_row _ _ 0 _ _ _ hT4]; rfl
 have r1 : w4.cell? ⟨R + 2, 1, none⟩ = some (.bool false) := by rw [cell_of_row _ _ 1 _ _ _ hT4]; rfl
 have q0 := frozen_of_row _ _ 0 _ _ hT4
 have q1 := frozen_of_row _ _ 1 _ _ hT4
 have HW1 := Aside0.mk hw1
 have HW2 := Aside0.mk hw2
 have HW3 := Aside0.mk hw3
 have HW4 := Aside0.mk hw4
 have HW5 := Aside0.mk hw5
 have HRE := Aside0.mk hR
 have HS1 := Aside0.mk hs1
 have HS3 := Aside0.mk hs3
 have HOK := Aside0.mk hok
 have HLL := Aside0.mk hl
 have HSV := Aside0.mk h
 have HNM := Aside0.mk (rnum_c w5 A c l false HG5.out.sl hok)
 obtain ⟨k, hk⟩ : ∃ k, k = (numL l).1 := ⟨_, rfl⟩
 obtain ⟨xs, hxs⟩ : ∃ xs, xs = dr l := ⟨_, rfl⟩
 obtain ⟨b, hb⟩ : ∃ b, b = bd l := ⟨_, rfl⟩
 have HREAD := Aside0.mk (show St.all (fieldsL k) ⟨⟨k, 0, 0, 0, 0, 0, [], ⟨#[]⟩, []⟩, xs, b⟩ = rRead l by unfold rRead; rw [hk, hxs, hb])
 have HSM := Aside0.mk (show (St.mk ⟨k, 0, 0, 0, 0, 0, [], ⟨#[]⟩, []⟩ xs b).Small by rw [hk, hxs, hb]; exact start_small hok hl)
 have HEQ := Aside0.mk (rdec_eq l)
 rw [← hk, ← hxs, ← hb, Bool.false_or] at HNM
 obtain ⟨⟨x0, x1, x2, x3, x4, x5⟩, x6, x7, x8⟩ := HG5.out.blk.cells
 obtain ⟨v0, v1, _, _⟩ := HG5.out.cells
 clear hR hw1 hs1 hw2 hs2 hT2 hw3 hs3 hw4 hT4 hw5 hb1 hb3 hb4 hb5 hs4 hbw hbw5 h hok hl hk hxs hb x1 x2 x3 x4 x5 x6 x7 x8
 go_enter Try.func36, Try.ntmps36
 go_wp2_with (first | rw [← HRE.out, ← HW1.out] | rw [← HW2.out, HS1.out] | rw [← HW3.out] | rw [← HW4.out, HS3.out] | rw [← HW5.out])
 refine HNM.out.mono ?_
 rintro e w6 ⟨A1, c1, rfl, hv, hb⟩
 have hg6 := HG5.out.below' hb
 have HG7 := Aside0.mk (hg6.put (s' := ⟨⟨k, 0, 0, 0, 0, 0, [], ⟨#[]⟩, []⟩, xs, b⟩) 0 (.int .i64 k) hv (heap_setCell_same w6 _ _ _ _ _ hg6.blk) (World.ownsRow_nil _ _ _ _) (World.ownsRow_nil _ _ _ _))
 obtain ⟨w7, hw7⟩ : ∃ w7, w7 = ((w6.setCell ⟨R + 1, 0, none⟩ (.int .i64 k)).setCell ⟨R + 2, 0, none⟩ (.slice A1 xs.length c1)).setCell ⟨R + 2, 1, none⟩ (.bool b) := ⟨_, rfl⟩
 obtain ⟨v0_, v1_, g0, g1⟩ := hg6.cells
 have x0_ : w6.cell? ⟨R + 1, 0, none⟩ = some (.int .i64 0) := hg6.blk.cells.1.1
 have g2 := hg6.blk.fz 0
 have HG7' := HG7
 rw [← hw7] at HG7
 have HW7 := Aside0.mk hw7
 have y0 : w7.cell? ⟨R + 1, 0, none⟩ = some (.int .i64 k) := HG7.out.blk.cells.1.1
 obtain ⟨F, hF, hsz, hnm⟩ := fields_names k
 have HFC := Aside0.mk (variorumref11_Fields.calls k F w7 hF)
 have HNMS := Aside0.mk hnm
 have HSZ := Aside0.mk hsz
 clear HG7' hg6 hv hb hw7 hF hsz hnm HNM HG5 v0 v1 x0 r0 r1 q0 q1 HW1 HW2 HW3 HW4 HW5 HRE HS1 HS3 z0 f0 z1 f1 z2 f2 z3 f3 z4 f4 z5 f5 z6 f6 z7 f7 z8 f8
 go_wp2_with (first | rw [← HW7.out])
 refine HFC.out.mono ?_
 rintro e w8 ⟨rfl, nd, rfl⟩
 have HG8 := Aside0.mk (HG7.out.below' (pw_below_drewN (Below.refl _ _) nd))
 clear HFC HG7 HW7 v0_ v1_ g0 g1 g2 x0_ y0
 go_wp2_with fail
 go_loopw [7] (fun iv wr => ∃ (fs : List Int) (i : Int) (s : St) (Ay : Option Addr) (cy : Nat) (ov nv : Value), iv = .int .i64 i ∧ 0 ≤ i ∧ Names F i fs ∧ St.all fs s = rRead l ∧ s.Small ∧ Rg R s Ay cy ov nv w wr) (fun iv _ => ((F.size : Int) - intOf iv).toNat)
 case atStart => exact ⟨fieldsL k, 0, _, _, _, _, _, rfl, Int.le_refl _, HNMS.out, HREAD.out, HSM.out, HG8.out⟩
 case round =>
  obtain ⟨fs, i, s, Ay, cy, ov, nv, rfl, h0, hnm, hall, hsm, hg⟩ := hrel
  have HG := Aside0.mk hg
  have HALL := Aside0.mk hall
  have HS := Aside0.mk hsm
  have HI0 := Aside0.mk h0
  obtain ⟨v0, v1, g0, g1⟩ := hg.cells
  clear hg hall hsm HG8 HNMS HREAD HSM
  cases fs with
  | cons f fs =>
   obtain ⟨hbt, hf0, hf8, hilt, hnm2⟩ := hnm
   have HNM2 := Aside0.mk hnm2
   have HALL2 := Aside0.mk (show St.all fs (s.put f) = rRead l from HALL.out)
   have HS2 := Aside0.mk (put_small HS.out f)
   have hx := bt_at F i
   have hw64 : wrap64 (i + 1) = i + 1 := Byt.wrap_in _ (by have := HSZ.out; omega)
   have HWI := Aside0.mk hw64
   have HIL := Aside0.mk hilt
   have hq : f = 0 ∨ f = 1 ∨ f = 2 ∨ f = 3 ∨ f = 4 ∨ f = 5 ∨ f = 6 ∨ f = 7 := by omega
   clear hf0 hf8 hnm2 HALL
   rcases hq with rfl | rfl | rfl | rfl | rfl | rfl | rfl | rfl
   ·have hbt' : bt F i = 99 := hbt
    have HN1 := Aside0.mk (rnum_c wr Ay cy s.xs s.b HG.out.sl HS.out.ok)
    rw [hbt'] at hx
    clear hbt
    go_wp2_with fail
    refine HN1.out.mono ?_
    rintro e w5 ⟨A1, c1, rfl, hv, hb⟩
    have hg5 := HG.out.below' hb
    have HG7 := Aside0.mk (hg5.put (s' := (s.put 0)) (ov' := ov) (nv' := nv) 1 (.int .i64 (numL s.xs).1) hv (heap_setCell_same w5 _ _ _ _ _ hg5.blk) hg5.o hg5.n)
    obtain ⟨v0_, v1_, k0, k1⟩ := hg5.cells
    have x_ : w5.cell? ⟨R + 1, 1, none⟩ = some (.int .i64 s.m.c) := by obtain ⟨⟨x0, x1, x2, x3, x4, x5⟩, x6, x7, x8⟩ := hg5.blk.cells; exact x1
    have k2 := hg5.blk.fz 1
    obtain ⟨w7, hw7⟩ : ∃ w7, w7 = ((w5.setCell ⟨R + 1, 1, none⟩ (.int .i64 (numL s.xs).1)).setCell ⟨R + 2, 0, none⟩ (.slice A1 (dr s.xs).length c1)).setCell ⟨R + 2, 1, none⟩ (.bool (s.b || bd s.xs)) := ⟨_, rfl⟩
    have HG9 := Aside0.mk (show Rg R (s.put 0) A1 c1 ov nv w w7 from hw7 ▸ HG7.out)
    have HW7 := Aside0.mk hw7
    clear hv hb hg5 hw7 HG7 v0 v1 g0 g1 HN1
    go_wp2_with (first | rw [← HW7.out])
    go_roundw
    case rel => exact ⟨fs, i + 1, _, _, _, _, _, by rw [HWI.out], by have := HI0.out; omega, HNM2.out, HALL2.out, HS2.out, HG9.out⟩
    case measure =>
     show ((F.size : Int) - (wrap64 (i + 1))).toNat < ((F.size : Int) - i).toNat
     rw [HWI.out]
     have := HIL.out
     omega
   ·have hbt' : bt F i = 101 := hbt
    have HN1 := Aside0.mk (rnum_c wr Ay cy s.xs s.b HG.out.sl HS.out.ok)
    rw [hbt'] at hx
    clear hbt
    go_wp2_with fail
    refine HN1.out.mono ?_
    rintro e w5 ⟨A1, c1, rfl, hv, hb⟩
    have hg5 := HG.out.below' hb
    have HG7 := Aside0.mk (hg5.put (s' := (s.put 1)) (ov' := ov) (nv' := nv) 2 (.int .i64 (numL s.xs).1) hv (heap_setCell_same w5 _ _ _ _ _ hg5.blk) hg5.o hg5.n)
    obtain ⟨v0_, v1_, k0, k1⟩ := hg5.cells
    have x_ : w5.cell? ⟨R + 1, 2, none⟩ = some (.int .i64 s.m.e) := by obtain ⟨⟨x0, x1, x2, x3, x4, x5⟩, x6, x7, x8⟩ := hg5.blk.cells; exact x2
    have k2 := hg5.blk.fz 2
    obtain ⟨w7, hw7⟩ : ∃ w7, w7 = ((w5.setCell ⟨R + 1, 2, none⟩ (.int .i64 (numL s.xs).1)).setCell ⟨R + 2, 0, none⟩ (.slice A1 (dr s.xs).length c1)).setCell ⟨R + 2, 1, none⟩ (.bool (s.b || bd s.xs)) := ⟨_, rfl⟩
    have HG9 := Aside0.mk (show Rg R (s.put 1) A1 c1 ov nv w w7 from hw7 ▸ HG7.out)
    have HW7 := Aside0.mk hw7
    clear hv hb hg5 hw7 HG7 v0 v1 g0 g1 HN1
    go_wp2_with (first | rw [← HW7.out])
    go_roundw
    case rel => exact ⟨fs, i + 1, _, _, _, _, _, by rw [HWI.out], by have := HI0.out; omega, HNM2.out, HALL2.out, HS2.out, HG9.out⟩
    case measure =>
     show ((F.size : Int) - (wrap64 (i + 1))).toNat < ((F.size : Int) - i).toNat
     rw [HWI.out]
     have := HIL.out
     omega
   ·have hbt' : bt F i = 114 := hbt
    have HN1 := Aside0.mk (rnum_c wr Ay cy s.xs s.b HG.out.sl HS.out.ok)
    rw [hbt'] at hx
    clear hbt
    go_wp2_with fail
    refine HN1.out.mono ?_
    rintro e w5 ⟨A1, c1, rfl, hv, hb⟩
    have hg5 := HG.out.below' hb
    have HG7 := Aside0.mk (hg5.put (s' := (s.put 2)) (ov' := ov) (nv' := nv) 3 (.int .i64 (numL s.xs).1) hv (heap_setCell_same w5 _ _ _ _ _ hg5.blk) hg5.o hg5.n)
    obtain ⟨v0_, v1_, k0, k1⟩ := hg5.cells
    have x_ : w5.cell? ⟨R + 1, 3, none⟩ = some (.int .i64 s.m.r) := by obtain ⟨⟨x0, x1, x2, x3, x4, x5⟩, x6, x7, x8⟩ := hg5.blk.cells; exact x3
    have k2 := hg5.blk.fz 3
    obtain ⟨w7, hw7⟩ : ∃ w7, w7 = ((w5.setCell ⟨R + 1, 3, none⟩ (.int .i64 (numL s.xs).1)).setCell ⟨R + 2, 0, none⟩ (.slice A1 (dr s.xs).length c1)).setCell ⟨R + 2, 1, none⟩ (.bool (s.b || bd s.xs)) := ⟨_, rfl⟩
    have HG9 := Aside0.mk (show Rg R (s.put 2) A1 c1 ov nv w w7 from hw7 ▸ HG7.out)
    have HW7 := Aside0.mk hw7
    clear hv hb hg5 hw7 HG7 v0 v1 g0 g1 HN1
    go_wp2_with (first | rw [← HW7.out])
    go_roundw
    case rel => exact ⟨fs, i + 1, _, _, _, _, _, by rw [HWI.out], by have := HI0.out; omega, HNM2.out, HALL2.out, HS2.out, HG9.out⟩
    case measure =>
     show ((F.size : Int) - (wrap64 (i + 1))).toNat < ((F.size : Int) - i).toNat
     rw [HWI.out]
     have := HIL.out
     omega
   ·have hbt' : bt F i = 115 := hbt
    have HN1 := Aside0.mk (rnum_c wr Ay cy s.xs s.b HG.out.sl HS.out.ok)
    rw [hbt'] at hx
    clear hbt
    go_wp2_with fail
    refine HN1.out.mono ?_
    rintro e w5 ⟨A1, c1, rfl, hv, hb⟩
    have hg5 := HG.out.below' hb
    have HG7 := Aside0.mk (hg5.put (s' := (s.put 3)) (ov' := ov) (nv' := nv) 4 (.int .i64 (numL s.xs).1) hv (heap_setCell_same w5 _ _ _ _ _ hg5.blk) hg5.o hg5.n)
    obtain ⟨v0_, v1_, k0, k1⟩ := hg5.cells
    have x_ : w5.cell? ⟨R + 1, 4, none⟩ = some (.int .i64 s.m.s) := by obtain ⟨⟨x0, x1, x2, x3, x4, x5⟩, x6, x7, x8⟩ := hg5.blk.cells; exact x4
    have k2 := hg5.blk.fz 4
    obtain ⟨w7, hw7⟩ : ∃ w7, w7 = ((w5.setCell ⟨R + 1, 4, none⟩ (.int .i64 (numL s.xs).1)).setCell ⟨R + 2, 0, none⟩ (.slice A1 (dr s.xs).length c1)).setCell ⟨R + 2, 1, none⟩ (.bool (s.b || bd s.xs)) := ⟨_, rfl⟩
    have HG9 := Aside0.mk (show Rg R (s.put 3) A1 c1 ov nv w w7 from hw7 ▸ HG7.out)
    have HW7 := Aside0.mk hw7
    clear hv hb hg5 hw7 HG7 v0 v1 g0 g1 HN1
    go_wp2_with (first | rw [← HW7.out])
    go_roundw
    case rel => exact ⟨fs, i + 1, _, _, _, _, _, by rw [HWI.out], by have := HI0.out; omega, HNM2.out, HALL2.out, HS2.out, HG9.out⟩
    case measure =>
     show ((F.size : Int) - (wrap64 (i + 1))).toNat < ((F.size : Int) - i).toNat
     rw [HWI.out]
     have := HIL.out
     omega
   ·have hbt' : bt F i = 100 := hbt
    have HN1 := Aside0.mk (rnum_c wr Ay cy s.xs s.b HG.out.sl HS.out.ok)
    rw [hbt'] at hx
    clear hbt
    go_wp2_with fail
    refine HN1.out.mono ?_
    rintro e w5 ⟨A1, c1, rfl, hv, hb⟩
    have hg5 := HG.out.below' hb
    have HG7 := Aside0.mk (hg5.put (s' := (s.put 4)) (ov' := ov) (nv' := nv) 5 (.int .i64 (numL s.xs).1) hv (heap_setCell_same w5 _ _ _ _ _ hg5.blk) hg5.o hg5.n)
    obtain ⟨v0_, v1_, k0, k1⟩ := hg5.cells
    have x_ : w5.cell? ⟨R + 1, 5, none⟩ = some (.int .i64 s.m.d) := by obtain ⟨⟨x0, x1, x2, x3, x4, x5⟩, x6, x7, x8⟩ := hg5.blk.cells; exact x5
    have k2 := hg5.blk.fz 5
    obtain ⟨w7, hw7⟩ : ∃ w7, w7 = ((w5.setCell ⟨R + 1, 5, none⟩ (.int .i64 (numL s.xs).1)).setCell ⟨R + 2, 0, none⟩ (.slice A1 (dr s.xs).length c1)).setCell ⟨R + 2, 1, none⟩ (.bool (s.b || bd s.xs)) := ⟨_, rfl⟩
    have HG9 := Aside0.mk (show Rg R (s.put 4) A1 c1 ov nv w w7 from hw7 ▸ HG7.out)
    have HW7 := Aside0.mk hw7
    clear hv hb hg5 hw7 HG7 v0 v1 g0 g1 HN1
    go_wp2_with (first | rw [← HW7.out])
    go_roundw
    case rel => exact ⟨fs, i + 1, _, _, _, _, _, by rw [HWI.out], by have := HI0.out; omega, HNM2.out, HALL2.out, HS2.out, HG9.out⟩
    case measure =>
     show ((F.size : Int) - (wrap64 (i + 1))).toNat < ((F.size : Int) - i).toNat
     rw [HWI.out]
     have := HIL.out
     omega
   ·have hbt' : bt F i = 111 := hbt
    have HN1 := Aside0.mk (op_c wr Ay cy s.xs s.b HG.out.sl HS.out.ok HS.out.le)
    rw [hbt'] at hx
    clear hbt
    go_wp2_with fail
    refine HN1.out.mono ?_
    rintro e w5 ⟨u, A1, c1, rfl, hu, hv, hb⟩
    obtain ⟨Au, cu, rfl⟩ := RO.form hu
    have hg5 := HG.out.below' hb
    have HG7 := Aside0.mk (hg5.put (s' := (s.put 5)) (ov' := (.slice Au (rOp s.xs s.b).1.length cu)) (nv' := nv) 6 (.slice Au (rOp s.xs s.b).1.length cu) hv (heap_setCell_same w5 _ _ _ _ _ hg5.blk) (World.ownsRow.mono hu (by have := HG.out.lt; omega)) hg5.n)
    obtain ⟨v0_, v1_, k0, k1⟩ := hg5.cells
    have x_ : w5.cell? ⟨R + 1, 6, none⟩ = some ov := by obtain ⟨⟨x0, x1, x2, x3, x4, x5⟩, x6, x7, x8⟩ := hg5.blk.cells; exact x6
    have k2 := hg5.blk.fz 6
    obtain ⟨w7, hw7⟩ : ∃ w7, w7 = ((w5.setCell ⟨R + 1, 6, none⟩ (.slice Au (rOp s.xs s.b).1.length cu)).setCell ⟨R + 2, 0, none⟩ (.slice A1 (rOp s.xs s.b).2.1.length c1)).setCell ⟨R + 2, 1, none⟩ (.bool (rOp s.xs s.b).2.2) := ⟨_, rfl⟩
    have HG9 := Aside0.mk (show Rg R (s.put 5) A1 c1 (.slice Au (rOp s.xs s.b).1.length cu) nv w w7 from hw7 ▸ HG7.out)
    have HW7 := Aside0.mk hw7
    clear hv hb hg5 hw7 HG7 v0 v1 g0 g1 HN1 hu
    go_wp2_with (first | rw [← HW7.out])
    go_roundw
    case rel => exact ⟨fs, i + 1, _, _, _, _, _, by rw [HWI.out], by have := HI0.out; omega, HNM2.out, HALL2.out, HS2.out, HG9.out⟩
    case measure =>
     show ((F.size : Int) - (wrap64 (i + 1))).toNat < ((F.size : Int) - i).toNat
     rw [HWI.out]
     have := HIL.out
     omega
   ·have hbt' : bt F i = 116 := hbt
    have HN1 := Aside0.mk (rtext_c wr Ay cy s.xs s.b HG.out.sl HS.out.ok HS.out.le)
    obtain ⟨zs, hzs⟩ : ∃ zs, zs = s.xs.drop (textL s.xs).2 := ⟨_, rfl⟩
    obtain ⟨zb, hzb⟩ : ∃ zb, zb = (s.b || decide ((textL s.xs).2 = 0)) := ⟨_, rfl⟩
    obtain ⟨zt, hzt⟩ : ∃ zt, zt = strOfNums (textL s.xs).1 := ⟨_, rfl⟩
    have hput : s.put 6 = ⟨{ s.m with t := zt }, zs, zb⟩ := by rw [hzs, hzb, hzt]; rfl
    rw [hput] at HALL2 HS2
    rw [← hzs, ← hzb, ← hzt] at HN1
    clear hzs hzb hzt hput
    rw [hbt'] at hx
    clear hbt
    go_wp2_with fail
    refine HN1.out.mono ?_
    rintro e w5 ⟨A1, c1, rfl, hv, hb⟩
    have hg5 := HG.out.below' hb
    have HG7 := Aside0.mk (hg5.put (s' := ⟨{ s.m with t := zt }, zs, zb⟩) (ov' := ov) (nv' := nv) 7 (.string zt) hv (heap_setCell_same w5 _ _ _ _ _ hg5.blk) hg5.o hg5.n)
    obtain ⟨v0_, v1_, k0, k1⟩ := hg5.cells
    have x_ : w5.cell? ⟨R + 1, 7, none⟩ = some (.string s.m.t) := by obtain ⟨⟨x0, x1, x2, x3, x4, x5⟩, x6, x7, x8⟩ := hg5.blk.cells; exact x7
    have k2 := hg5.blk.fz 7
    obtain ⟨w7, hw7⟩ : ∃ w7, w7 = ((w5.setCell ⟨R + 1, 7, none⟩ (.string zt)).setCell ⟨R + 2, 0, none⟩ (.slice A1 zs.length c1)).setCell ⟨R + 2, 1, none⟩ (.bool zb) := ⟨_, rfl⟩
    have HG9 := Aside0.mk (show Rg R ⟨{ s.m with t := zt }, zs, zb⟩ A1 c1 ov nv w w7 from hw7 ▸ HG7.out)
    have HW7 := Aside0.mk hw7
    clear hv hb hg5 hw7 HG7 v0 v1 g0 g1 HN1
    go_wp2_with (first | rw [← HW7.out])
    go_roundw
    case rel => exact ⟨fs, i + 1, _, _, _, _, _, by rw [HWI.out], by have := HI0.out; omega, HNM2.out, HALL2.out, HS2.out, HG9.out⟩
    case measure =>
     show ((F.size : Int) - (wrap64 (i + 1))).toNat < ((F.size : Int) - i).toNat
     rw [HWI.out]
     have := HIL.out
     omega
   ·have hbt' : bt F i = 110 := hbt
    have HN1 := Aside0.mk (notes_c wr Ay cy s.xs s.b HG.out.sl HS.out.ok HS.out.le)
    rw [hbt'] at hx
    clear hbt
    go_wp2_with fail
    refine HN1.out.mono ?_
    rintro e w5 ⟨u, A1, c1, rfl, hu, hv, hb⟩
    obtain ⟨Au, cu, rfl⟩ := NO.form hu
    have hg5 := HG.out.below' hb
    have HG7 := Aside0.mk (hg5.put (s' := (s.put 7)) (ov' := ov) (nv' := (.slice Au (rNotes s.xs s.b).1.length cu)) 8 (.slice Au (rNotes s.xs s.b).1.length cu) hv (heap_setCell_same w5 _ _ _ _ _ hg5.blk) hg5.o (World.ownsRow.mono hu (by have := HG.out.lt; omega)))
    obtain ⟨v0_, v1_, k0, k1⟩ := hg5.cells
    have x_ : w5.cell? ⟨R + 1, 8, none⟩ = some nv := by obtain ⟨⟨x0, x1, x2, x3, x4, x5⟩, x6, x7, x8⟩ := hg5.blk.cells; exact x8
    have k2 := hg5.blk.fz 8
    obtain ⟨w7, hw7⟩ : ∃ w7, w7 = ((w5.setCell ⟨R + 1, 8, none⟩ (.slice Au (rNotes s.xs s.b).1.length cu)).setCell ⟨R + 2, 0, none⟩ (.slice A1 (rNotes s.xs s.b).2.1.length c1)).setCell ⟨R + 2, 1, none⟩ (.bool (rNotes s.xs s.b).2.2) := ⟨_, rfl⟩
    have HG9 := Aside0.mk (show Rg R (s.put 7) A1 c1 ov (.slice Au (rNotes s.xs s.b).1.length cu) w w7 from hw7 ▸ HG7.out)
    have HW7 := Aside0.mk hw7
    clear hv hb hg5 hw7 HG7 v0 v1 g0 g1 HN1 hu
    go_wp2_with (first | rw [← HW7.out])
    go_roundw
    case rel => exact ⟨fs, i + 1, _, _, _, _, _, by rw [HWI.out], by have := HI0.out; omega, HNM2.out, HALL2.out, HS2.out, HG9.out⟩
    case measure =>
     show ((F.size : Int) - (wrap64 (i + 1))).toNat < ((F.size : Int) - i).toNat
     rw [HWI.out]
     have := HIL.out
     omega
  | nil =>
   have h' : i = (F.size : Int) := hnm
   subst h'
   have hlt' : ¬ ((F.size : Int) < (F.size : Int)) := by omega
   have HE := Aside0.mk (show s = rRead l from HALL.out)
   obtain ⟨A6, c6, rfl⟩ := RO.form HG.out.o
   obtain ⟨A8, c8, rfl⟩ := NO.form HG.out.n
   have HD := Aside0.mk (show decR l = if s.b = false ∧ s.m.good = true ∧ s.m.encL = l then (s.m, 0) else (noMs, 10) by rw [HEQ.out, ← HE.out])
   have HRS := Aside0.mk (show Blk R ⟨0, 0, 0, 0, 0, 0, .slice none 0 0, ⟨#[]⟩, .slice none 0 0⟩ wr from HG.out.res)
   clear hnm HALL HEQ
   obtain ⟨⟨x0, x1, x2, x3, x4, x5⟩, x6, x7, x8⟩ := HG.out.blk.cells
   unfold Mo at x0 x1 x2 x3 x4 x5 x6 x7 x8
   cases hb : s.b with
   | true =>
    have HNO := Aside0.mk (show decR l = (noMs, 10) by rw [HD.out, if_neg (fun h => by rw [hb] at h; exact absurd h.1 (by simp))])
    rw [hb] at v1
    clear x0 x1 x2 x3 x4 x5 x6 x7 x8
    obtain ⟨⟨z0, z1, z2, z3, z4, z5⟩, z6, z7, z8⟩ := HRS.out.cells
    have q0 := HRS.out.fz 0
    have q1 := HRS.out.fz 1
    have q2 := HRS.out.fz 2
    have q3 := HRS.out.fz 3
    have q4 := HRS.out.fz 4
    have q5 := HRS.out.fz 5
    have q6 := HRS.out.fz 6
    have q7 := HRS.out.fz 7
    have q8 := HRS.out.fz 8
    go_wp2_with fail
    refine bodyPost_ret (results_ct rfl _ _ R 44 #[.int .i64 0, .int .i64 0, .int .i64 0, .int .i64 0, .int .i64 0, .int .i64 0, .slice none 0 0, .string ⟨#[]⟩, .slice none 0 0] (0, 0) _ rfl (set9 HRS.out _ _ _ _ _ _ _ _ _) Try.underlying44 rfl (by kernel_rfl)) rfl ?_
    exact post_no HNO.out (below_set9 HG.out.below HG.out.ord _ _ _ _ _ _ _ _ _)
   | false =>
    rw [hb] at v1
    obtain ⟨K0, hK0⟩ : ∃ K0, K0 = 10000000 := ⟨_, rfl⟩
    obtain ⟨X, hX⟩ : ∃ X, X = (if s.m.good then s.m.encL else []) := ⟨_, rfl⟩
    obtain ⟨E, hE⟩ : ∃ E : Int, E = (if s.m.good then 0 else 2) := ⟨_, rfl⟩
    have hre := renc_f s.m HS.out.m K0 (by omega)
    rw [← hX, ← hE] at hre
    have hli := lies_own HG.out.o HG.out.n
    have HEN := Aside0.mk (variorumref11_Encode.calls K0 s.m.k s.m.c s.m.e s.m.r s.m.s s.m.d A6 c6 s.m.o s.m.t A8 c8 s.m.n X E wr hli.o hli.oc hli.n hli.nc hre)
    have HXE := Aside0.mk hX
    have HEE := Aside0.mk hE
    have HSB := Aside0.mk hb
    clear hK0 hX hE hre hli hb
    go_wp2_with fail
    refine HEN.out.mono ?_
    rintro e w5 ⟨v5, rfl, hr5, hb5⟩
    obtain ⟨A5, c5, rfl, hc5, hC5⟩ := Kd.R_reads hr5
    have HS5 := Aside0.mk (show Sl w5 (.slice A5 X.length c5) X from ⟨A5, c5, rfl, hc5, hC5⟩)
    have HG5 := Aside0.mk (HG.out.below' hb5)
    have HRS5 := Aside0.mk (show Blk R ⟨0, 0, 0, 0, 0, 0, .slice none 0 0, ⟨#[]⟩, .slice none 0 0⟩ w5 from HG5.out.res)
    clear hr5 hb5 hc5 hC5 x0 x1 x2 x3 x4 x5 x6 x7 x8 v0 v1 g0 g1 HEN
    cases hgd : s.m.good with
    | false =>
     have hE2 : E = 2 := by rw [HEE.out, hgd]; rfl
     subst hE2
     have HNO := Aside0.mk (show decR l = (noMs, 10) by rw [HD.out, if_neg (fun h => by rw [hgd] at h; exact absurd h.2.1 (by simp))])
     obtain ⟨⟨z0, z1, z2, z3, z4, z5⟩, z6, z7, z8⟩ := HRS5.out.cells
     have q0 := HRS5.out.fz 0
     have q1 := HRS5.out.fz 1
     have q2 := HRS5.out.fz 2
     have q3 := HRS5.out.fz 3
     have q4 := HRS5.out.fz 4
     have q5 := HRS5.out.fz 5
     have q6 := HRS5.out.fz 6
     have q7 := HRS5.out.fz 7
     have q8 := HRS5.out.fz 8
     go_wp2_with fail
     refine bodyPost_ret (results_ct rfl _ _ R 44 #[.int .i64 0, .int .i64 0, .int .i64 0, .int .i64 0, .int .i64 0, .int .i64 0, .slice none 0 0, .string ⟨#[]⟩, .slice none 0 0] (0, 0) _ rfl (set9 HRS5.out _ _ _ _ _ _ _ _ _) Try.underlying44 rfl (by kernel_rfl)) rfl ?_
     exact post_no HNO.out (below_set9 HG5.out.below HG5.out.ord _ _ _ _ _ _ _ _ _)
    | true =>
     have hE2 : E = 0 := by rw [HEE.out, hgd]; rfl
     subst hE2
     have hX2 : X = s.m.encL := by rw [HXE.out, hgd]; rfl
     subst hX2
     have hc1 := Sl.string (P := Try.prog) Try.underlying25 Try.underlying5 Try.underlying9 HS5.out
     have hc2 := Sl.string (P := Try.prog) Try.underlying25 Try.underlying5 Try.underlying9 (HSV.out.below HG5.out.below)
     by_cases hcmp : (strOfNums s.m.encL).toList = (strOfNums l).toList
     ·have HYES := Aside0.mk (show decR l = (s.m, 0) by rw [HD.out, if_pos ⟨HSB.out, hgd, (Byt.str_eq (ok_encL s.m) HOK.out).1 hcmp⟩])
      obtain ⟨⟨x0, x1, x2, x3, x4, x5⟩, x6, x7, x8⟩ := HG5.out.blk.cells
      unfold Mo at x0 x1 x2 x3 x4 x5 x6 x7 x8
      obtain ⟨⟨z0, z1, z2, z3, z4, z5⟩, z6, z7, z8⟩ := HRS5.out.cells
      have q0 := HRS5.out.fz 0
      have q1 := HRS5.out.fz 1
      have q2 := HRS5.out.fz 2
      have q3 := HRS5.out.fz 3
      have q4 := HRS5.out.fz 4
      have q5 := HRS5.out.fz 5
      have q6 := HRS5.out.fz 6
      have q7 := HRS5.out.fz 7
      have q8 := HRS5.out.fz 8
      go_wp2_with fail
      refine bodyPost_ret (results_ct rfl _ _ R 44 #[.int .i64 s.m.k, .int .i64 s.m.c, .int .i64 s.m.e, .int .i64 s.m.r, .int .i64 s.m.s, .int .i64 s.m.d, .slice A6 s.m.o.length c6, .string s.m.t, .slice A8 s.m.n.length c8] (0, 0) _ rfl (set9 HRS5.out _ _ _ _ _ _ _ _ _) Try.underlying44 rfl (by kernel_rfl)) rfl ?_
      exact post_yes HYES.out HG5.out _ _ _ _ _ _ _ _ _
     ·have HNO := Aside0.mk (show decR l = (noMs, 10) by rw [HD.out, if_neg (fun h => hcmp (by rw [h.2.2]))])
      have hcb : ((strOfNums s.m.encL).toList == (strOfNums l).toList) = false := beq_eq_false_iff_ne.2 hcmp
      clear hcmp
      obtain ⟨⟨z0, z1, z2, z3, z4, z5⟩, z6, z7, z8⟩ := HRS5.out.cells
      have q0 := HRS5.out.fz 0
      have q1 := HRS5.out.fz 1
      have q2 := HRS5.out.fz 2
      have q3 := HRS5.out.fz 3
      have q4 := HRS5.out.fz 4
      have q5 := HRS5.out.fz 5
      have q6 := HRS5.out.fz 6
      have q7 := HRS5.out.fz 7
      have q8 := HRS5.out.fz 8
      go_wp2_with fail
      refine bodyPost_ret (results_ct rfl _ _ R 44 #[.int .i64 0, .int .i64 0, .int .i64 0, .int .i64 0, .int .i64 0, .int .i64 0, .slice none 0 0, .string ⟨#[]⟩, .slice none 0 0] (0, 0) _ rfl (set9 HRS5.out _ _ _ _ _ _ _ _ _) Try.underlying44 rfl (by kernel_rfl)) rfl ?_
      exact post_no HNO.out (below_set9 HG5.out.below HG5.out.ord _ _ _ _ _ _ _ _ _)
end Go.Proofs.Ytedfcjcnhgomoaa.RefDec
end
-- MERGED YtedfcjcnhgomoaaMsgDecLaw
section
namespace Go.Proofs.Ytedfcjcnhgomoaa.MsgDecLaw
open Go.RowKit Go.Proofs.Ytedfcjcnhgomoaa.EditK Go.Proofs.Ytedfcjcnhgomoaa.P Go.Proofs.YtedfcjcnhgomoaaW.PrintWords Go.Proofs.YtedfcjcnhgomoaaW.PrintLast Go.Proofs.YtedfcjcnhgomoaaW.PrintMore Go.Proofs.Ytedfcjcnhgomoaa.Own Go.Proofs.Ytedfcjcnhgomoaa.Vy Go.Proofs.Ytedfcjcnhgomoaa.NoteN Go.Proofs.Ytedfcjcnhgomoaa.MsgA Go.Proofs.Ytedfcjcnhgomoaa.MsgD Go.Proofs.Ytedfcjcnhgomoaa.MsgW Go.Proofs.Ytedfcjcnhgomoaa.MsgE Go.Proofs.Ytedfcjcnhgomoaa.MsgR Go.Proofs.Ytedfcjcnhgomoaa.MsgQ Go.Proofs.Ytedfcjcnhgomoaa.MsgS Go.Proofs.Ytedfcjcnhgomoaa.MsgLives Go.Proofs.Ytedfcjcnhgomoaa.MsgLaw Go.Proofs.Ytedfcjcnhgomoaa.DecM Go.Proofs.Ytedfcjcnhgomoaa.DecL Go.Proofs.Ytedfcjcnhgomoaa.MsgDec
set_option linter.unusedSimpArgs false
set_option linter.unusedVariables false
theorem dec_small {l : List Int} (hl : l.length ≤ 500000) : Small (decR l).1 := by
 unfold decR
 split
 ·exact readM_small l hl
 ·exact ⟨Nat.zero_le _, Nat.zero_le _, Nat.zero_le _, Nat.zero_le _⟩
theorem dec_c (w : World) (v : Value) (l : List Int) (h : Sl w v l) (hok : Byt.Ok l) (hl : l.length ≤ 500000) (p : Ms) (c : Int) (hp : decR l = (p, c)) :
  Calls Try.prog 35 #[v] w fun e w' => ∃ A6 c6 A8 c8, e = .returned (.tuple #[.agg #[.int .i64 p.k, .int .i64 p.c, .int .i64 p.e, .int .i64 p.r, .int .i64 p.s, .int .i64 p.d, .slice A6 p.o.length c6, .string p.t, .slice A8 p.n.length c8], .int .i64 c]) ∧ Lies p A6 c6 A8 c8 w' ∧ Below w.heap.size w w' := by
 have h := decode_c w v l h hok hl
 unfold DecPost at h
 rw [hp] at h
 exact h
theorem rdec_c (w : World) (v : Value) (l : List Int) (h : Sl w v l) (hok : Byt.Ok l) (hl : l.length ≤ 500000) (p : Ms) (c : Int) (hp : decR l = (p, c)) :
  Calls Try.prog 36 #[v] w fun e w' => ∃ A6 c6 A8 c8, e = .returned (.tuple #[.agg #[.int .i64 p.k, .int .i64 p.c, .int .i64 p.e, .int .i64 p.r, .int .i64 p.s, .int .i64 p.d, .slice A6 p.o.length c6, .string p.t, .slice A8 p.n.length c8], .int .i64 c]) ∧ Lies p A6 c6 A8 c8 w' ∧ Below w.heap.size w w' := by
 obtain ⟨A, c0, rfl, hc, hC⟩ := h
 have h := RefDec.rdecode_c w A c0 l ⟨A, c0, rfl, hc, hC⟩ hok hl
 unfold RefDec.RdPost at h
 rw [hp] at h
 exact h
theorem rsame_c (a b : Ms) (A6 : Option Addr) (c6 : Nat) (A8 : Option Addr) (c8 : Nat) (B6 : Option Addr) (d6 : Nat) (B8 : Option Addr) (d8 : Nat) (w : World) (ha : Lies a A6 c6 A8 c8 w) (hb : Lies b B6 d6 B8 d8 w) (ho : a.o.length ≤ 1000000) (hn : a.n.length ≤ 1000000) (r : Bool) (hr : r = true ↔ a = b) :
  Calls Try.prog 26 #[.agg #[.int .i64 a.k, .int .i64 a.c, .int .i64 a.e, .int .i64 a.r, .int .i64 a.s, .int .i64 a.d, .slice A6 a.o.length c6, .string a.t, .slice A8 a.n.length c8], .agg #[.int .i64 b.k, .int .i64 b.c, .int .i64 b.e, .int .i64 b.r, .int .i64 b.s, .int .i64 b.d, .slice B6 b.o.length d6, .string b.t, .slice B8 b.n.length d8]] w (fun e w' => e = .returned (.bool r) ∧ Below w.heap.size w w') := by
 obtain ⟨K0, hK0⟩ : ∃ K0, K0 = 20000000 := ⟨_, rfl⟩
 obtain ⟨r', h1, h2⟩ := rsame_f a b ho hn K0 (by omega)
 have e : r' = r := by rw [Bool.eq_iff_iff, h2, hr]
 rw [e] at h1
 exact variorumref11_Same.calls K0 a.k a.c a.e a.r a.s a.d A6 c6 a.o a.t A8 c8 a.n b.k b.c b.e b.r b.s b.d B6 d6 b.o b.t B8 d8 b.n r w ha.o ha.oc ha.n ha.nc hb.o hb.oc hb.n hb.nc h1
set_option maxHeartbeats 16000000 in
set_option maxRecDepth 100000 in
theorem decodes_c (w : World) (v : Value) (l : List Int) (h : Sl w v l) (hok : Byt.Ok l) :
  Calls Try.prog 10 #[v] w fun e w' => e = .returned (.bool true) ∧ Below w.heap.size w w' := by
 by_cases hl : l.length ≤ 4000
 ·obtain ⟨p, c, hp⟩ : ∃ p c, decR l = (p, c) := ⟨_, _, rfl⟩
  have HSM := Aside0.mk (show Small p by have := dec_small (l := l) (by omega); rw [hp] at this; exact this)
  have HD := Aside0.mk (dec_c w v l h hok (by omega) p c hp)
  have HR := Aside0.mk (fun (W : World) (hb : Below w.heap.size w W) => rdec_c W v l (h.below hb) hok (by omega) p c hp)
  obtain ⟨A, c0, rfl, hc0, hC⟩ := h
  have hl' : (l.length : Int) ≤ 4000 := by omega
  clear hp hok hc0 hC hl
  go_enter Try.func10, Try.ntmps10
  go_wp2_with fail
  refine HD.out.mono ?_
  rintro e w1 ⟨A6, c6, A8, c8, rfl, hli, hb⟩
  have HLI := Aside0.mk hli
  have HB1 := Aside0.mk hb
  clear hli hb HD
  obtain ⟨P1, hP⟩ : ∃ P, P = w1.heap.size := ⟨_, rfl⟩
  obtain ⟨wa1, hwa⟩ : ∃ wa, wa = w1.alloc (.cells #[(.int .i64 0), (.int .i64 0), (.int .i64 0), (.int .i64 0), (.int .i64 0), (.int .i64 0), (.slice none 0 0), (.string ⟨#[]⟩), (.slice none 0 0)] 44) := ⟨_, rfl⟩
  have hT : wa1.heap[P1]? = some (.cells #[(.int .i64 0), (.int .i64 0), (.int .i64 0), (.int .i64 0), (.int .i64 0), (.int .i64 0), (.slice none 0 0), (.string ⟨#[]⟩), (.slice none 0 0)] 44 (0, 0)) := by rw [hwa, hP]; exact Own.heap_new _ _
  obtain ⟨wb1, hwb⟩ : ∃ wb, wb = (((((((((wa1.setCell ⟨P1, 0, none⟩ (.int .i64 p.k)).setCell ⟨P1, 1, none⟩ (.int .i64 p.c)).setCell ⟨P1, 2, none⟩ (.int .i64 p.e)).setCell ⟨P1, 3, none⟩ (.int .i64 p.r)).setCell ⟨P1, 4, none⟩ (.int .i64 p.s)).setCell ⟨P1, 5, none⟩ (.int .i64 p.d)).setCell ⟨P1, 6, none⟩ (.slice A6 p.o.length c6)).setCell ⟨P1, 7, none⟩ (.string p.t)).setCell ⟨P1, 8, none⟩ (.slice A8 p.n.length c8)) := ⟨_, rfl⟩
  have HBB1 := Aside0.mk (show Below w1.heap.size w1 wb1 by rw [hwb, hwa]; exact below_set9 (below_alloc (Below.refl _ _) _) (by omega) _ _ _ _ _ _ _ _ _)
  have HBK1 := Aside0.mk (show Blk P1 (p.mg A6 c6 A8 c8) wb1 by unfold Blk; rw [hwb]; exact set9 hT _ _ _ _ _ _ _ _ _)
  have z0 : wa1.cell? ⟨P1, 0, none⟩ = some (.int .i64 0) := by rw [cell_of_row _ _ 0 _ _ _ hT]; rfl
  have f0 := frozen_of_row _ _ 0 _ _ hT
  have z1 : wa1.cell? ⟨P1, 1, none⟩ = some (.int .i64 0) := by rw [cell_of_row _ _ 1 _ _ _ hT]; rfl
  have f1 := frozen_of_row _ _ 1 _ _ hT
  have z2 : wa1.cell? ⟨P1, 2, none⟩ = some (.int .i64 0) := by rw [cell_of_row _ _ 2 _ _ _ hT]; rfl
  have f2 := frozen_of_row _ _ 2 _ _ hT
  have z3 : wa1.cell? ⟨P1, 3, none⟩ = some (.int .i64 0) := by rw [cell_of_row _ _ 3 _ _ _ hT]; rfl
  have f3 := frozen_of_row _ _ 3 _ _ hT
  have z4 : wa1.cell? ⟨P1, 4, none⟩ = some (.int .i64 0) := by rw [cell_of_row _ _ 4 _ _ _ hT]; rfl
  have f4 := frozen_of_row _ _ 4 _ _ hT
  have z5 : wa1.cell? ⟨P1, 5, none⟩ = some (.int .i64 0) := by rw [cell_of_row _ _ 5 _ _ _ hT]; rfl
  have f5 := frozen_of_row _ _ 5 _ _ hT
  have z6 : wa1.cell? ⟨P1, 6, none⟩ = some (.slice none 0 0) := by rw [cell_of_row _ _ 6 _ _ _ hT]; rfl
  have f6 := frozen_of_row _ _ 6 _ _ hT
  have z7 : wa1.cell? ⟨P1, 7, none⟩ = some (.string ⟨#[]⟩) := by rw [cell_of_row _ _ 7 _ _ _ hT]; rfl
  have f7 := frozen_of_row _ _ 7 _ _ hT
  have z8 : wa1.cell? ⟨P1, 8, none⟩ = some (.slice none 0 0) := by rw [cell_of_row _ _ 8 _ _ _ hT]; rfl
  have f8 := frozen_of_row _ _ 8 _ _ hT
  have HWA1 := Aside0.mk hwa
  have HWB1 := Aside0.mk hwb
  have HPE1 := Aside0.mk hP
  clear hT hwa hwb hP
  have HB2 := Aside0.mk (below_step HB1.out HBB1.out)
  clear HB1
  go_wp2_with (first | rw [← HPE1.out, ← HWA1.out] | rw [← HWB1.out])
  refine (HR.out wb1 HB2.out).mono ?_
  rintro e w3 ⟨B6, d6, B8, d8, rfl, hli, hb⟩
  have HLJ := Aside0.mk hli
  have HB3 := Aside0.mk (below_step HB2.out hb)
  have HX3 := Aside0.mk hb
  clear z0 f0 z1 f1 z2 f2 z3 f3 z4 f4 z5 f5 z6 f6 z7 f7 z8 f8
  clear hli hb HR
  obtain ⟨P2, hP⟩ : ∃ P, P = w3.heap.size := ⟨_, rfl⟩
  obtain ⟨wa2, hwa⟩ : ∃ wa, wa = w3.alloc (.cells #[(.int .i64 0), (.int .i64 0), (.int .i64 0), (.int .i64 0), (.int .i64 0), (.int .i64 0), (.slice none 0 0), (.string ⟨#[]⟩), (.slice none 0 0)] 44) := ⟨_, rfl⟩
  have hT : wa2.heap[P2]? = some (.cells #[(.int .i64 0), (.int .i64 0), (.int .i64 0), (.int .i64 0), (.int .i64 0), (.int .i64 0), (.slice none 0 0), (.string ⟨#[]⟩), (.slice none 0 0)] 44 (0, 0)) := by rw [hwa, hP]; exact Own.heap_new _ _
  obtain ⟨wb2, hwb⟩ : ∃ wb, wb = (((((((((wa2.setCell ⟨P2, 0, none⟩ (.int .i64 p.k)).setCell ⟨P2, 1, none⟩ (.int .i64 p.c)).setCell ⟨P2, 2, none⟩ (.int .i64 p.e)).setCell ⟨P2, 3, none⟩ (.int .i64 p.r)).setCell ⟨P2, 4, none⟩ (.int .i64 p.s)).setCell ⟨P2, 5, none⟩ (.int .i64 p.d)).setCell ⟨P2, 6, none⟩ (.slice B6 p.o.length d6)).setCell ⟨P2, 7, none⟩ (.string p.t)).setCell ⟨P2, 8, none⟩ (.slice B8 p.n.length d8)) := ⟨_, rfl⟩
  have HBB2 := Aside0.mk (show Below w3.heap.size w3 wb2 by rw [hwb, hwa]; exact below_set9 (below_alloc (Below.refl _ _) _) (by omega) _ _ _ _ _ _ _ _ _)
  have HBK2 := Aside0.mk (show Blk P2 (p.mg B6 d6 B8 d8) wb2 by unfold Blk; rw [hwb]; exact set9 hT _ _ _ _ _ _ _ _ _)
  have z0 : wa2.cell? ⟨P2, 0, none⟩ = some (.int .i64 0) := by rw [cell_of_row _ _ 0 _ _ _ hT]; rfl
  have f0 := frozen_of_row _ _ 0 _ _ hT
  have z1 : wa2.cell? ⟨P2, 1, none⟩ = some (.int .i64 0) := by rw [cell_of_row _ _ 1 _ _ _ hT]; rfl
  have f1 := frozen_of_row _ _ 1 _ _ hT
  have z2 : wa2.cell? ⟨P2, 2, none⟩ = some (.int .i64 0) := by rw [cell_of_row _ _ 2 _ _ _ hT]; rfl
  have f2 := frozen_of_row _ _ 2 _ _ hT
  have z3 : wa2.cell? ⟨P2, 3, none⟩ = some (.int .i64 0) := by rw [cell_of_row _ _ 3 _ _ _ hT]; rfl
  have f3 := frozen_of_row _ _ 3 _ _ hT
  have z4 : wa2.cell? ⟨P2, 4, none⟩ = some (.int .i64 0) := by rw [cell_of_row _ _ 4 _ _ _ hT]; rfl
  have f4 := frozen_of_row _ _ 4 _ _ hT
  have z5 : wa2.cell? ⟨P2, 5, none⟩ = some (.int .i64 0) := by rw [cell_of_row _ _ 5 _ _ _ hT]; rfl
  have f5 := frozen_of_row _ _ 5 _ _ hT
  have z6 : wa2.cell? ⟨P2, 6, none⟩ = some (.slice none 0 0) := by rw [cell_of_row _ _ 6 _ _ _ hT]; rfl
  have f6 := frozen_of_row _ _ 6 _ _ hT
  have z7 : wa2.cell? ⟨P2, 7, none⟩ = some (.string ⟨#[]⟩) := by rw [cell_of_row _ _ 7 _ _ _ hT]; rfl
  have f7 := frozen_of_row _ _ 7 _ _ hT
  have z8 : wa2.cell? ⟨P2, 8, none⟩ = some (.slice none 0 0) := by rw [cell_of_row _ _ 8 _ _ _ hT]; rfl
  have f8 := frozen_of_row _ _ 8 _ _ hT
  have HWA2 := Aside0.mk hwa
  have HWB2 := Aside0.mk hwb
  have HPE2 := Aside0.mk hP
  clear hT hwa hwb hP
  have HB4 := Aside0.mk (below_step HB3.out HBB2.out)
  clear HB3
  have HLA := Aside0.mk (((HLI.out.below HBB1.out).below HX3.out).below HBB2.out)
  have HLB := Aside0.mk (HLJ.out.below HBB2.out)
  have HSA := Aside0.mk (rsame_c p p A6 c6 A8 c8 B6 d6 B8 d8 wb2 HLA.out HLB.out HSM.out.o HSM.out.n true (by simp))
  obtain ⟨⟨x0, x1, x2, x3, x4, x5⟩, x6, x7, x8⟩ := cells_ms ((HBK1.out.below HX3.out).below HBB2.out)
  obtain ⟨⟨y0, y1, y2, y3, y4, y5⟩, y6, y7, y8⟩ := cells_ms HBK2.out
  go_wp2_with (first | rw [← HPE2.out, ← HWA2.out] | rw [← HWB2.out])
  refine HSA.out.mono ?_
  rintro e w5 ⟨rfl, hb⟩
  have HB5 := Aside0.mk (below_step HB4.out hb)
  clear z0 f0 z1 f1 z2 f2 z3 f3 z4 f4 z5 f5 z6 f6 z7 f7 z8 f8
  clear hb HSA x0 x1 x2 x3 x4 x5 x6 x7 x8 y0 y1 y2 y3 y4 y5 y6 y7 y8
  go_wp2_with fail
  refine (lives_c _).mono ?_
  rintro e w9 ⟨rfl, hb⟩
  have HB9 := Aside0.mk (below_step HB5.out hb)
  clear hb
  go_wp2_with fail
  go_ret
  exact ⟨rfl, HB9.out⟩
 ·obtain ⟨A, c0, rfl, hc0, hC⟩ := h
  have hl' : ¬ (l.length : Int) ≤ 4000 := by omega
  clear hok hc0 hC hl
  go_enter Try.func10, Try.ntmps10
  go_wp2_with fail
  refine (lives_c _).mono ?_
  rintro e w9 ⟨rfl, hb⟩
  have HB9 := Aside0.mk hb
  clear hb
  go_wp2_with fail
  go_ret
  exact ⟨rfl, HB9.out⟩
theorem row (A : Option Addr) (c : Nat) (x : List Int) (w : World) (hC : Kd.C (Kd.int .u8) w A x.length x) (hc : x.length ≤ c) (ok : x.length ≤ maxLen ∧ ∀ y ∈ x, (Lit.int .u8 y).wf = true) (_ : x.length * 1 ≤ 140737488351232) :
  Calls Try.prog 10 #[.slice A x.length c] w fun e w' => e = .returned (.bool true) ∧ Below w.heap.size w w' :=
 decodes_c w _ x (Sl.mk hC hc) (Byt.ok_of_wf ok.2)
end Go.Proofs.Ytedfcjcnhgomoaa.MsgDecLaw
end
-- MERGED YtedfcjcnhgomoaaOpens
section
namespace Go.Proofs.Ytedfcjcnhgomoaa.Opens
open Go.ChangeShapes Go.WideShapes Go.Deep Go.RowKit Go.Proofs.YtedfcjcnhgomoaaW.PrintWords
def Opens {α : Type} (P : Program) (t : TypeId) (d : Kd α) (ok : α → Prop) : Prop :=
 P.cellsOf t = d.sz ∧ ∀ (H : Type) (enc : TypeId × Value → H) (w : World) (base : Nat) (sp : Nat → Bool) (held : Bool) (fuel : Nat) (cs : List Value) (x : DataW H × List MemPlace),
  DataW.trod enc P w base sp held fuel t cs = some x → ∃ a : α, d.K w a cs ∧ ok a
theorem list_of {α : Type} (Q : Nat → α → Prop) : ∀ len : Nat, (∀ i, i < len → ∃ x, Q i x) → ∃ l : List α, l.length = len ∧ ∀ i x, l[i]? = some x → Q i x
 | 0, _ => ⟨[], rfl, fun i x hx => by simp at hx⟩
 | k + 1, each => by
  obtain ⟨l, hl, hf⟩ := list_of Q k (fun i hi => each i (by omega))
  obtain ⟨x, h1⟩ := each k (by omega)
  refine ⟨l ++ [x], by simp [hl], fun i y hy => ?_⟩
  by_cases hik : i < l.length
  ·rw [List.getElem?_append_left hik] at hy
   exact hf i y hy
  ·rw [List.getElem?_append_right (by omega)] at hy
   have hi0 : i - l.length = 0 := by
    rcases Nat.eq_zero_or_pos (i - l.length) with h | h
    ·exact h
    ·rw [List.getElem?_eq_none (by simp; omega)] at hy; cases hy
   rw [hi0] at hy
   obtain rfl : x = y := by simpa using hy
   obtain rfl : i = k := by omega
   exact h1
section
variable {P : Program} {t e : TypeId} {α β γ δ : Type}
theorem int_ {k : IntKind} (ht : P.underlying t = some (.int k)) (hc : P.cellsOf t = 1) : Opens P t (Kd.int k) (fun n => (Lit.int k n).wf = true) :=
 ⟨hc, fun _ _ _ _ _ _ _ _ _ h => by
  obtain ⟨n, rfl, _, hw⟩ := DataW.trod_int ht h
  exact ⟨n, rfl, hw⟩⟩
theorem slice_ {d : Kd α} {ok : α → Prop} (ht : P.underlying t = some (.slice e)) (hc : P.cellsOf t = 1) (he : Opens P e d ok) : Opens P t (Kd.slice e d) (fun l => l.length ≤ maxLen ∧ ∀ x ∈ l, ok x) := by
 refine ⟨hc, fun H enc w base sp held fuel cs x h => ?_⟩
 rcases open_slice ht h with ⟨rfl, _⟩ | ⟨a, len, cap, m, n, D, Pl, rfl, hb, hl, hm, hmm, _, hi⟩
 ·refine ⟨[], ⟨none, 0, rfl, Nat.le_refl _, rfl, Nat.zero_le _, fun h => absurd h (by simp)⟩, Nat.zero_le _, fun _ h => by cases h⟩
 ·have hlm : len ≤ m := by rw [hmm]; split <;> omega
  have each : ∀ i, i < len → ∃ (x : α) (cs' : List Value), w.cells? base (a.add (i * P.cellsOf e)) (P.cellsOf e) = some cs' ∧ d.K w x cs' ∧ ok x := by
   intro i hlt
   obtain ⟨cs', h1, h2⟩ := hi i (by omega)
   obtain ⟨x, h3, h4⟩ := he.2 H enc w base sp held n cs' _ h2
   exact ⟨x, cs', h1, h3, h4⟩
  have hex := list_of (fun i x => ∃ cs' : List Value, w.cells? base (a.add (i * P.cellsOf e)) (P.cellsOf e) = some cs' ∧ d.K w x cs' ∧ ok x) len each
  obtain ⟨l, hll, hf⟩ := hex
  subst hll
  refine ⟨l, ⟨some a, cap, rfl, hl, rfl, ?_, fun _ => ⟨a, rfl, fun j p hj => ?_⟩⟩, by omega, fun x hx => ?_⟩
  ·unfold maxLen at hm; omega
  ·obtain ⟨cs', h1, h2, _⟩ := hf j p hj
   obtain ⟨_, h3, h4⟩ := World.cells?_some h1
   refine ⟨cs', d.K_len h2, h2, fun i u hu => ?_⟩
   have hil : i < P.cellsOf e := by
    have := (List.getElem?_eq_some_iff.1 hu).1
    omega
   rw [← Go.Deep.add_add, ← he.1, h4 i hil, hu]
  ·obtain ⟨i, hi⟩ := List.getElem?_of_mem hx
   obtain ⟨_, _, _, h⟩ := hf i x hi
   exact h
theorem arg_ {d : Kd α} {ok : α → Prop} (ho : Opens P t d ok) {H : Type} {enc : TypeId × Value → H} {w : World} {base : Nat} {sp : Nat → Bool} {held : Bool} {v : Value} {x : DataW H} {ps : List MemPlace} (h : DataW.Trod enc P w base sp held t v x ps) : ∃ a : α, d.K w a v.cells.toList ∧ ok a := by
 obtain ⟨fuel, hf⟩ := h
 exact ho.2 _ _ _ _ _ _ _ _ _ hf
end
theorem slice_shape {α : Type} {e : Nat} {d : Kd α} {w : World} {a : Option Addr} {n c : Nat} {l : List α} (h : (Kd.slice e d).K w l (Value.slice a n c).cells.toList) : n = l.length ∧ l.length ≤ c ∧ Kd.C d w a l.length l := by
 obtain ⟨A, c', e1, hc, hC⟩ := h
 simp only [Value.cells, List.cons.injEq, Value.slice.injEq] at e1
 obtain ⟨⟨rfl, rfl, rfl⟩, _⟩ := e1
 exact ⟨rfl, hc, hC⟩
end Go.Proofs.Ytedfcjcnhgomoaa.Opens
end
-- MERGED YtedfcjcnhgomoaaWSized
section
namespace Go.Proofs.YtedfcjcnhgomoaaW.PrintWords
open Go.ChangeShapes Go.WideShapes
theorem sized_ints {H : Type} {enc : TypeId × Value → H} {P : Program} {W : World} {base : Nat} {spare : Nat → Bool} {held : Bool} {t e : TypeId} {k : IntKind} {a : Option Addr} {len cap : Nat} {d : DataW H} {ps : List MemPlace} {ts : List TypeId} {ds : List (DataW H)} {j : Nat}
  (hsz : (DataW.weightsEach P ts ds).all (· ≤ reachBytes) = true) (ht : ts[j]? = some t) (hd : ds[j]? = some d) (hu : P.underlying t = some (.slice e)) (he : P.underlying e = some (.int k)) (hc : P.cellsOf e = 1) {B : Nat} (hB : P.bytesOf e = B)
  (h : DataW.Trod enc P W base spare held t (.slice a len cap) d ps) : len * B ≤ 140737488351232 := by
 obtain ⟨fuel, hf⟩ := h
 rcases open_ints hu he hc hf with ⟨hcs, _⟩ | ⟨x, l, c, zs, hcs, _, hl, _, hz, hx, _, _⟩
 ·simp [Value.cells] at hcs
  obtain ⟨rfl, rfl, rfl⟩ := hcs
  simp
 ·simp [Value.cells] at hcs
  obtain ⟨rfl, rfl, rfl⟩ := hcs
  obtain ⟨hx, _⟩ := Prod.mk.inj hx
  subst hx
  have z := sized_slice hsz ht hd hu
  rw [hB] at z
  have hl2 : len ≤ zs.length := by
   rw [hz]
   split
   ·exact hl
   ·exact Nat.le_refl _
  have h1 : (lits (H := H) k (zs.take len)).length + (lits (H := H) k (zs.drop len)).length = zs.length := by
   simp [lits]
   omega
  rw [h1] at z
  exact Nat.le_trans (Nat.mul_le_mul_right _ hl2) z
end Go.Proofs.YtedfcjcnhgomoaaW.PrintWords
end
-- MERGED YtedfcjcnhgomoaaLawMessageDecodes
section
namespace Go.Proofs.Ytedfcjcnhgomoaa.messageDecodes
open Go.ChangeShapes Go.WideShapes Go.ChangeAt Go.RowKit Go.Proofs.YtedfcjcnhgomoaaW.PrintWords
open Go.ChangeMaps (open_string shut_string)
set_option linter.unusedVariables false
theorem own : ownKnob Try.prog.godebug = none := by kernel_rfl
theorem laidOut : laidOutB Try.prog = true := by kernel_rfl
theorem o5 : Opens.Opens Try.prog 5 (Kd.int .u8) (fun n => (Lit.int .u8 n).wf = true) := Opens.int_ (t := 5) Try.underlying5 (by kernel_rfl)
theorem o25 : Opens.Opens Try.prog 25 (Kd.slice 5 (Kd.int .u8)) (fun l => l.length ≤ maxLen ∧ ∀ x ∈ l, (fun n => (Lit.int .u8 n).wf = true) x) := Opens.slice_ (t := 25) (e := 5) Try.underlying25 (by kernel_rfl) o5
set_option maxRecDepth 100000 in
theorem lifted (os : Os) (started : os.Started) (H : Type) (enc : TypeId × Value → H) :
  ReturnsInHanded {} Try.checked os 10 .any (Rows.messageDecodesSpec.pre6 enc Try.prog Try.f10 Rows.messageDecodesRow.domain false) (Rows.messageDecodesSpec.post enc Try.prog Try.f10 false true false false) := by
 refine returnsInHanded_of_change_sized (C := Try.checked) own started (by kernel_rfl) Try.func10
  (ChangeSpec.witness6 (enc := enc) (C := Try.checked) false ⟨#[], #[(.slice none 0 0)], []⟩ 8 (by kernel_rfl) (by kernel_rfl) (by kernel_rfl) (by kernel_rfl)) ?_
 intro W base args ds gs before hval0 hW hcnd hsz0 _
 have hsz : (DataW.weightsEach Try.prog (Try.f10.params.toList ++ Rows.messageDecodesSpec.plain.varTypes Try.prog) (ds ++ gs)).all (· ≤ reachBytes) = true := hsz0
 have hval : ∀ (j : Nat) t v, Try.f10.params[j]? = some t → args[j]? = some v → Value.okWide Try.prog W .any base t v := hval0
 have hW' := hW
 obtain ⟨p, q, hA0, hV, rfl, hfz, hnd⟩ := hW
 have hA : DataW.TrodAll enc Try.prog W 0 (fun _ => true) true Try.f10.params.toList args.toList ds p := hA0
 rw [Try.params10] at hA hval hsz
 obtain ⟨v0, vs0, d0, ds0, p0, q0, hargs, rfl, rfl, h0, r0⟩ := trodAll_cons hA
 obtain ⟨rfl, rfl, rfl⟩ := trodAll_nil r0
 obtain rfl : args = #[v0] := by cases args; simp_all
 obtain ⟨rfl, rfl⟩ := trodVars_none hV
 obtain ⟨a0, len0, cap0, rfl⟩ := okWide_slice Try.underlying25 (hval 0 25 v0 rfl rfl)
 have k0 := h0
 have lt0 : ∀ x ∈ p0, x.block < W.heap.size := by obtain ⟨m, hm⟩ := k0; exact DataW.trod_lt m _ _ _ hm
 obtain ⟨x0, hK0, ok0⟩ := Opens.arg_ o25 h0
 obtain ⟨rfl, hc0, hC0⟩ := Opens.slice_shape hK0
 have y0 : x0.length * 1 ≤ 140737488351232 := Go.Proofs.YtedfcjcnhgomoaaW.PrintWords.sized_ints hsz (j := 0) (t := 25) rfl rfl Try.underlying25 Try.underlying5 (by kernel_rfl) (by kernel_rfl) k0
 clear hA0 hval0 hsz0 hsz
 refine (MsgDecLaw.row a0 cap0 x0 W hC0 hc0 ok0 y0).mono fun e W' ⟨he, bel⟩ => ?_
 subst he
 exact ⟨_, rfl, _, _, _, [], _, [], hW', trodAll_mk1 (shut_bool Try.underlying4 _), (trodAll_cons_mk (Below.trod laidOut (by kernel_rfl) (of_decide_eq_true (by kernel_rfl)) k0 bel lt0) trodAll_mk0), rfl, bel.frame _, fun h => by cases h⟩
theorem over : Rows.messageDecodesRow.holds Try.pinned (OpenSpec.ofChange Rows.messageDecodesSpec) :=
 OpenClaim.holds_of_wide 10 Try.f10 rfl rfl rfl rfl rfl rfl rfl ⟨rfl, rfl, rfl, rfl, rfl⟩ rfl rfl rfl rfl rfl (by kernel_rfl) Try.func10 (by kernel_rfl)
  (of_decide_eq_true (by kernel_rfl)) (by unfold Func.isWrapper; first | (rw [if_pos (by decide +kernel)]; kernel_rfl) | (rw [if_neg (by decide +kernel)]; exact ⟨rfl, rfl⟩))
  (fun os started H enc _ => lifted os started H enc)
theorem proved : Rows.MessageDecodesSaid := over
#print axioms proved
end Go.Proofs.Ytedfcjcnhgomoaa.messageDecodes
namespace Go.Proofs.Ytedfcjcnhgomoaa
theorem messageDecodes_holds : Rows.MessageDecodesSaid := messageDecodes.proved
end Go.Proofs.Ytedfcjcnhgomoaa
end

/- Shaken: what the claim's theorem needs of our texts, of the printed ones and of the print's words. -/
import Derived.Test.YtedfcjcnhgomoaaXMessageBackD
import Derived.Deep.QuietTactic
import Derived.BigQuiet
import Derived.Deep.Slices
import Derived.ChangeArms
import Derived.OpenShut
import Derived.ShutString
import Derived.SizedLaws
import Derived.ChangeSlices
import Derived.Test.YtedfcjcnhgomoaaRows
import Derived.WalkKit
import Derived.ProofKit
import Derived.ChangeOld
import Derived.Below
-- MERGED YtedfcjcnhgomoaaMsgDec
section
namespace Go.Proofs.Ytedfcjcnhgomoaa.MsgDec
open Go.RowKit Go.Proofs.Ytedfcjcnhgomoaa.P Go.Proofs.YtedfcjcnhgomoaaW.PrintWords Go.Proofs.YtedfcjcnhgomoaaW.PrintLast Go.Proofs.YtedfcjcnhgomoaaW.PrintMore Go.Proofs.Ytedfcjcnhgomoaa.Own Go.Proofs.Ytedfcjcnhgomoaa.Vy Go.Proofs.Ytedfcjcnhgomoaa.VaryR Go.Proofs.Ytedfcjcnhgomoaa.NoteN Go.Proofs.Ytedfcjcnhgomoaa.MsgA Go.Proofs.Ytedfcjcnhgomoaa.MsgD Go.Proofs.Ytedfcjcnhgomoaa.MsgE Go.Proofs.Ytedfcjcnhgomoaa.MsgW Go.Proofs.Ytedfcjcnhgomoaa.DecA Go.Proofs.Ytedfcjcnhgomoaa.RowRn Go.Proofs.Ytedfcjcnhgomoaa.RowNt Go.Proofs.Ytedfcjcnhgomoaa.DecB Go.Proofs.Ytedfcjcnhgomoaa.DecC Go.Proofs.Ytedfcjcnhgomoaa.DecM Go.Proofs.Ytedfcjcnhgomoaa.DecL
set_option linter.unusedSimpArgs false
set_option linter.unusedVariables false
def DecPost (l : List Int) (w : World) (e : Ending) (w' : World) : Prop :=
 ∃ A6 c6 A8 c8, e = .returned (.tuple #[((decR l).1.mg A6 c6 A8 c8).val, .int .i64 (decR l).2]) ∧ Lies (decR l).1 A6 c6 A8 c8 w' ∧ Below w.heap.size w w'
theorem text_a (g : Nat) (v : Value) (l : List Int) (hok : Byt.Ok l) (s : At) (W : World) (h : Rd g W v l s.a s.bad) : Calls Try.prog 51 #[.pointer (some ⟨g, 0, none⟩)] W fun e W' => e = .returned (.string (s.text l).1) ∧ Rd g W' v l (s.text l).2.a (s.text l).2.bad ∧ But g W W' := VaryR.nText g W v l s.a s.bad h hok
def Mo (m : Ms) (ov nv : Value) : Mg := ⟨m.k, m.c, m.e, m.r, m.s, m.d, ov, m.t, nv⟩
def zero9 : Array Value := (Mo noMs (.slice none 0 0) (.slice none 0 0)).cs
structure Got (g B R N : Nat) (v : Value) (l : List Int) (m : Ms) (s : At) (ov nv : Value) (w0 w : World) : Prop where
 rd : Rd g w v l s.a s.bad
 blk : Blk B (Mo m ov nv) w
 res : w.heap[R]? = some (.cells zero9 44 (0, 0))
 o : RowRn.RO w N ov m.o
 n : NO w N nv m.n
 below : Below w0.heap.size w0 w
 size : N ≤ w.heap.size
 ord : w0.heap.size ≤ R ∧ R < g ∧ g < B ∧ B < N
theorem Got.below' {g B R N : Nat} {v : Value} {l : List Int} {m : Ms} {s : At} {ov nv : Value} {w0 w w' : World} (h : Got g B R N v l m s ov nv w0 w) (hb : Below w.heap.size w w') : Got g B R N v l m s ov nv w0 w' :=
 ⟨h.rd.below hb, h.blk.below hb, (hb.block _ (Array.getElem?_eq_some_iff.1 h.res).1).trans h.res, h.o.below hb, h.n.below hb, below_step h.below hb, Nat.le_trans h.size hb.size, h.ord⟩
theorem Got.read {g B R N : Nat} {v : Value} {l : List Int} {m : Ms} {s s' : At} {ov nv : Value} {w0 w w' : World} (h : Got g B R N v l m s ov nv w0 w) (hb : But g w w') (hr : Rd g w' v l s'.a s'.bad) : Got g B R N v l m s' ov nv w0 w' := by
 obtain ⟨o1, o2, o3, o4⟩ := h.ord
 refine ⟨hr, (hb.block B h.blk.lt (fun e => by have := Option.some.inj e; omega)).trans h.blk, (hb.block R (Array.getElem?_eq_some_iff.1 h.res).1 (fun e => by have := Option.some.inj e; omega)).trans h.res, ?_, ?_, h.below.grown hb h.below.size (fun K e => by cases e; omega), Nat.le_trans h.size hb.size, h.ord⟩
 ·exact own_move h.o fun k hk => hb.block k (own_lt h.o k hk) (fun e => by have h1 := own_base h.o k hk; have := Option.some.inj e; omega)
 ·exact own_move h.n fun k hk => hb.block k (own_lt h.n k hk) (fun e => by have h1 := own_base h.n k hk; have := Option.some.inj e; omega)
theorem RO.form {w : World} {N : Nat} {u : Value} {xs : List EditL.Rn} (h : RowRn.RO w N u xs) : ∃ A c, u = .slice A xs.length c := by
 obtain ⟨A, c, e⟩ := Kd.R_slice (RO.R h)
 exact ⟨A, c, e⟩
theorem NO.form {w : World} {N : Nat} {u : Value} {xs : List Nt} (h : NO w N u xs) : ∃ A c, u = .slice A xs.length c := by
 obtain ⟨A, c, e⟩ := Kd.R_slice (NC.of_own h)
 exact ⟨A, c, e⟩
theorem Got.put {g B R N : Nat} {v : Value} {l : List Int} {m m' : Ms} {s : At} {ov nv ov' nv' : Value} {w0 w : World} (h : Got g B R N v l m s ov nv w0 w) (o : Nat) (u : Value) (hB : Blk B (Mo m' ov' nv') (w.setCell ⟨B, o, none⟩ u)) (ho : RowRn.RO w N ov' m'.o) (hn : NO w N nv' m'.n) : Got g B R N v l m' s ov' nv' w0 (w.setCell ⟨B, o, none⟩ u) := by
 obtain ⟨o1, o2, o3, o4⟩ := h.ord
 have hb := But.setCell B o w u
 have hno : ∀ o x, w.cell? ⟨B, o, none⟩ ≠ some (.int .u8 x) := by
  intro o x hx
  obtain ⟨A, c, e1⟩ := RO.form h.o
  obtain ⟨A2, c2, e2⟩ := NO.form h.n
  have hq := h.blk
  unfold Blk Mo Mg.cs at hq
  rw [e1, e2] at hq
  rw [cell_of_row w _ o _ _ _ hq] at hx
  rcases o with _ | _ | _ | _ | _ | _ | _ | _ | _ | o <;> simp at hx
 refine ⟨h.rd.but hb (by omega) hno, hB, (hb.block R (Array.getElem?_eq_some_iff.1 h.res).1 (fun e => by have := Option.some.inj e; omega)).trans h.res, ?_, ?_, h.below.grown hb h.below.size (fun K e => by cases e; omega), Nat.le_trans h.size hb.size, h.ord⟩
 ·exact own_move ho fun k hk => hb.block k (own_lt ho k hk) (fun e => by have h1 := own_base ho k hk; have := Option.some.inj e; omega)
 ·exact own_move hn fun k hk => hb.block k (own_lt hn k hk) (fun e => by have h1 := own_base hn k hk; have := Option.some.inj e; omega)
theorem Got.num {g B R N : Nat} {v : Value} {l : List Int} {m : Ms} {s s' : At} {ov nv : Value} {w0 w w' : World} (h : Got g B R N v l m s ov nv w0 w) (hb : But g w w') (hr : Rd g w' v l s'.a s'.bad) (f : Nat) (hf : f < 5) (x : Int) : Got g B R N v l (Ms.setN m f x) s' ov nv w0 (w'.setCell ⟨B, f + 1, none⟩ (.int .i64 x)) := by
 have h2 := h.read hb hr
 have hq : f = 0 ∨ f = 1 ∨ f = 2 ∨ f = 3 ∨ f = 4 := by omega
 rcases hq with rfl | rfl | rfl | rfl | rfl <;>
 ·exact h2.put _ _ (heap_setCell_same w' B _ _ _ _ h2.blk) h2.o h2.n
theorem Got.op {g B R N : Nat} {v u : Value} {l : List Int} {m : Ms} {s s' : At} {ov nv : Value} {w0 w w' : World} {xs : List EditL.Rn} (h : Got g B R N v l m s ov nv w0 w) (hb : But g w w') (hr : Rd g w' v l s'.a s'.bad) (hu : RowRn.RO w' w.heap.size u xs) : Got g B R N v l { m with o := xs } s' u nv w0 (w'.setCell ⟨B, 6, none⟩ u) := by
 have h2 := h.read hb hr
 exact h2.put _ _ (heap_setCell_same w' B _ _ _ _ h2.blk) (World.ownsRow.mono hu h.size) h2.n
theorem Got.text {g B R N : Nat} {v : Value} {l : List Int} {m : Ms} {s s' : At} {ov nv : Value} {w0 w w' : World} (h : Got g B R N v l m s ov nv w0 w) (hb : But g w w') (hr : Rd g w' v l s'.a s'.bad) (t : ByteArray) : Got g B R N v l { m with t := t } s' ov nv w0 (w'.setCell ⟨B, 7, none⟩ (.string t)) := by
 have h2 := h.read hb hr
 exact h2.put _ _ (heap_setCell_same w' B _ _ _ _ h2.blk) h2.o h2.n
theorem Got.notes {g B R N : Nat} {v u : Value} {l : List Int} {m : Ms} {s s' : At} {ov nv : Value} {w0 w w' : World} {xs : List Nt} (h : Got g B R N v l m s ov nv w0 w) (hb : But g w w') (hr : Rd g w' v l s'.a s'.bad) (hu : NO w' w.heap.size u xs) : Got g B R N v l { m with n := xs } s' ov u w0 (w'.setCell ⟨B, 8, none⟩ u) := by
 have h2 := h.read hb hr
 exact h2.put _ _ (heap_setCell_same w' B _ _ _ _ h2.blk) h2.o (World.ownsRow.mono hu h.size)
theorem lies_own {w : World} {N : Nat} {m : Ms} {A6 A8 : Option Addr} {c6 c8 : Nat} (ho : RowRn.RO w N (.slice A6 m.o.length c6) m.o) (hn : NO w N (.slice A8 m.n.length c8) m.n) : Lies m A6 c6 A8 c8 w := by
 obtain ⟨A, c, e, h1, h2⟩ := Kd.R_reads (RO.R ho)
 obtain ⟨A', c', e', h3, h4⟩ := Kd.R_reads (NC.of_own hn)
 injection e with e1 e2 e3
 injection e' with e4 e5 e6
 subst e1 e3 e4 e6
 exact ⟨h2, h1, h4, h3⟩
theorem but9 (R : Nat) (w : World) (y0 y1 y2 y3 y4 y5 y6 y7 y8 : Value) : But R w (((((((((w.setCell ⟨R, 0, none⟩ y0).setCell ⟨R, 1, none⟩ y1).setCell ⟨R, 2, none⟩ y2).setCell ⟨R, 3, none⟩ y3).setCell ⟨R, 4, none⟩ y4).setCell ⟨R, 5, none⟩ y5).setCell ⟨R, 6, none⟩ y6).setCell ⟨R, 7, none⟩ y7).setCell ⟨R, 8, none⟩ y8) :=
 ((((((((But.setCell R 0 _ _).trans (But.setCell R 1 _ _)).trans (But.setCell R 2 _ _)).trans (But.setCell R 3 _ _)).trans (But.setCell R 4 _ _)).trans (But.setCell R 5 _ _)).trans (But.setCell R 6 _ _)).trans (But.setCell R 7 _ _)).trans (But.setCell R 8 _ _)
theorem post_no {l : List Int} {w w' : World} (h : decOk l = false) (hb : Below w.heap.size w w') : DecPost l w (.returned (.tuple #[.agg #[.int .i64 0, .int .i64 0, .int .i64 0, .int .i64 0, .int .i64 0, .int .i64 0, .slice none 0 0, .string ⟨#[]⟩, .slice none 0 0], .int .i64 10])) w' := by
 have e : decR l = (noMs, 10) := by unfold decR; rw [h]; rfl
 unfold DecPost
 rw [e]
 exact ⟨none, 0, none, 0, rfl, ⟨Kd.C_nil _ _, Nat.le_refl _, Kd.C_nil _ _, Nat.le_refl _⟩, hb⟩
theorem post_yes {g B R N : Nat} {v : Value} {l : List Int} {m : Ms} {s : At} {A6 A8 : Option Addr} {c6 c8 : Nat} {w0 w : World} (h : decOk l = true) (hm : (readM l).1 = m) (hg : Got g B R N v l m s (.slice A6 m.o.length c6) (.slice A8 m.n.length c8) w0 w) (y0 y1 y2 y3 y4 y5 y6 y7 y8 : Value) :
  DecPost l w0 (.returned (.tuple #[.agg #[.int .i64 m.k, .int .i64 m.c, .int .i64 m.e, .int .i64 m.r, .int .i64 m.s, .int .i64 m.d, .slice A6 m.o.length c6, .string m.t, .slice A8 m.n.length c8], .int .i64 0])) (((((((((w.setCell ⟨R, 0, none⟩ y0).setCell ⟨R, 1, none⟩ y1).setCell ⟨R, 2, none⟩ y2).setCell ⟨R, 3, none⟩ y3).setCell ⟨R, 4, none⟩ y4).setCell ⟨R, 5, none⟩ y5).setCell ⟨R, 6, none⟩ y6).setCell ⟨R, 7, none⟩ y7).setCell ⟨R, 8, none⟩ y8) := by
 have e : decR l = (m, 0) := by unfold decR; rw [h, ← hm]; rfl
 obtain ⟨o1, o2, o3, o4⟩ := hg.ord
 have hb := but9 R w y0 y1 y2 y3 y4 y5 y6 y7 y8
 unfold DecPost
 rw [e]
 refine ⟨A6, c6, A8, c8, rfl, lies_own (N := N) (own_move hg.o fun k hk => hb.block k (own_lt hg.o k hk) (fun e => ?_)) (own_move hg.n fun k hk => hb.block k (own_lt hg.n k hk) (fun e => ?_)), below_set9 hg.below o1 _ _ _ _ _ _ _ _ _⟩
 ·have h1 := own_base hg.o k hk; have := Option.some.inj e; omega
 ·have h1 := own_base hg.n k hk; have := Option.some.inj e; omega
set_option maxHeartbeats 16000000 in
set_option maxRecDepth 100000 in
theorem decode_c (w : World) (v : Value) (l : List Int) (h : Sl w v l) (hok : Byt.Ok l) (hl : l.length ≤ 500000) : Calls Try.prog 35 #[v] w (DecPost l w) := by
 obtain ⟨R, hR⟩ : ∃ R, R = w.heap.size := ⟨_, rfl⟩
 obtain ⟨w1, hw1⟩ : ∃ w1, w1 = w.alloc (.cells #[.int .i64 0, .int .i64 0, .int .i64 0, .int .i64 0, .int .i64 0, .int .i64 0, .slice none 0 0, .string ⟨#[]⟩, .slice none 0 0] 44) := ⟨_, rfl⟩
 have hb1 : Below w.heap.size w w1 := by rw [hw1]; exact below_alloc (Below.refl _ _) _
 have HR1 := Aside0.mk (show w1.heap[R]? = some (.cells zero9 44 (0, 0)) by rw [hw1, hR]; exact Own.heap_new _ _)
 obtain ⟨g, hg⟩ : ∃ g, g = w1.heap.size := ⟨_, rfl⟩
 have hrg : R < g := by have := (Array.getElem?_eq_some_iff.1 HR1.out).1; omega
 have HRG := Aside0.mk hrg
 have HGE := Aside0.mk hg
 have HRW := Aside0.mk (show w.heap.size ≤ R by omega)
 have HRD0 := Aside0.mk (nRead w1 v l (h.below hb1) (by omega))
 rw [← hg] at HRD0
 have HB1 := Aside0.mk hb1
 have HW1 := Aside0.mk hw1
 have HRE := Aside0.mk hR
 have HOK := Aside0.mk hok
 have HL := Aside0.mk hl
 have HS := Aside0.mk h
 clear h hok hl hb1 hw1 hR hg hrg
 go_enter Try.func35, Try.ntmps35
 go_wp2_with (first | rw [← HRE.out, ← HW1.out])
 refine HRD0.out.mono ?_
 rintro e w2 ⟨rfl, hrd, hb, hsz⟩
 rw [HGE.out] at hb
 have hb : Below w1.heap.size w1 w2 := hb
 have HRD2 := Aside0.mk hrd
 have HB2 := Aside0.mk (below_step HB1.out hb)
 have HR2 := Aside0.mk ((hb.block R (Array.getElem?_eq_some_iff.1 HR1.out).1).trans HR1.out)
 have HNM := Aside0.mk (num_a g v l HOK.out ⟨0, false⟩ w2 hrd)
 clear hrd hb hsz HRD0 HR1 HB1
 go_wp2_with fail
 refine HNM.out.mono ?_
 rintro e w3 ⟨rfl, hrd, hb⟩
 obtain ⟨k, hk⟩ : ∃ k, k = (At.num l ⟨0, false⟩).1 := ⟨_, rfl⟩
 obtain ⟨s1, hs1⟩ : ∃ s1, s1 = (At.num l ⟨0, false⟩).2 := ⟨_, rfl⟩
 rw [← hs1] at hrd
 rw [← hk]
 have HREAD := Aside0.mk (show putAll l (fieldsL k) (⟨k, 0, 0, 0, 0, 0, [], ⟨#[]⟩, []⟩, s1) = readM l by unfold readM; rw [hk, hs1])
 have HGW := Aside0.mk (show g < w2.heap.size by
  obtain ⟨a', h1, _⟩ := HRD2.out
  exact (Array.getElem?_eq_some_iff.1 h1.heap).1)
 have HR3 := Aside0.mk ((hb.block R (Nat.lt_trans HRG.out HGW.out) (fun e => by have h1 := HRG.out; have := Option.some.inj e; omega)).trans HR2.out)
 have HB3 := Aside0.mk (show Below w.heap.size w w3 from HB2.out.grown hb HB2.out.size (fun K e => by cases e; have h1 := HRG.out; have h2 := HRW.out; omega))
 obtain ⟨B, hB⟩ : ∃ B, B = w3.heap.size := ⟨_, rfl⟩
 obtain ⟨w4, hw4⟩ : ∃ w4, w4 = w3.alloc (.cells #[.int .i64 0, .int .i64 0, .int .i64 0, .int .i64 0, .int .i64 0, .int .i64 0, .slice none 0 0, .string ⟨#[]⟩, .slice none 0 0] 44) := ⟨_, rfl⟩
 have hT4 : w4.heap[B]? = some (.cells #[.int .i64 0, .int .i64 0, .int .i64 0, .int .i64 0, .int .i64 0, .int .i64 0, .slice none 0 0, .string ⟨#[]⟩, .slice none 0 0] 44 (0, 0)) := by rw [hw4, hB]; exact Own.heap_new _ _
 obtain ⟨w5, hw5⟩ : ∃ w5, w5 = ((((((((w4.setCell ⟨B, 0, none⟩ (.int .i64 k)).setCell ⟨B, 1, none⟩ (.int .i64 0)).setCell ⟨B, 2, none⟩ (.int .i64 0)).setCell ⟨B, 3, none⟩ (.int .i64 0)).setCell ⟨B, 4, none⟩ (.int .i64 0)).setCell ⟨B, 5, none⟩ (.int .i64 0)).setCell ⟨B, 6, none⟩ (.slice none 0 0)).setCell ⟨B, 7, none⟩ (.string ⟨#[]⟩)).setCell ⟨B, 8, none⟩ (.slice none 0 0) := ⟨_, rfl⟩
 have hbx : But B w4 w5 := by
  rw [hw5]
  exact ((((((((But.setCell B 0 _ _).trans (But.setCell B 1 _ _)).trans (But.setCell B 2 _ _)).trans (But.setCell B 3 _ _)).trans (But.setCell B 4 _ _)).trans (But.setCell B 5 _ _)).trans (But.setCell B 6 _ _)).trans (But.setCell B 7 _ _)).trans (But.setCell B 8 _ _)
 have hb34 : Below w3.heap.size w3 w4 := by rw [hw4]; exact below_alloc (Below.refl _ _) _
 have hb35 : Below w3.heap.size w3 w5 := hb34.grown hbx hb34.size (fun K e => by cases e; omega)
 have hBl := (Array.getElem?_eq_some_iff.1 hT4).1
 have hGB : g < B := by have h1 := HGW.out; have h2 := hb.size; omega
 have HGB := Aside0.mk hGB
 obtain ⟨N, hN⟩ : ∃ N, N = w5.heap.size := ⟨_, rfl⟩
 have HBN := Aside0.mk (show B < N by have := hbx.size; omega)
 have HG5 := Aside0.mk (show Got g B R N v l ⟨k, 0, 0, 0, 0, 0, [], ⟨#[]⟩, []⟩ s1 (.slice none 0 0) (.slice none 0 0) w w5 from
  ⟨hrd.below hb35, by unfold Blk; rw [hw5]; exact set9 hT4 _ _ _ _ _ _ _ _ _, (hb35.block R (by have h1 := HRG.out; omega)).trans HR3.out, World.ownsRow_nil _ _ _ _, World.ownsRow_nil _ _ _ _, below_step HB3.out hb35, by omega, HRW.out, HRG.out, hGB, HBN.out⟩)
 have x0 : w4.cell? ⟨B, 0, none⟩ = some (.int .i64 0) := by rw [cell_of_row _ _ 0 _ _ _ hT4]; rfl
 have x1 : w4.cell? ⟨B, 1, none⟩ = some (.int .i64 0) := by rw [cell_of_row _ _ 1 _ _ _ hT4]; rfl
 have x2 : w4.cell? ⟨B, 2, none⟩ = some (.int .i64 0) := by rw [cell_of_row _ _ 2 _ _ _ hT4]; rfl
 have x3 : w4.cell? ⟨B, 3, none⟩ = some (.int .i64 0) := by rw [cell_of_row _ _ 3 _ _ _ hT4]; rfl
 have x4 : w4.cell? ⟨B, 4, none⟩ = some (.int .i64 0) := by rw [cell_of_row _ _ 4 _ _ _ hT4]; rfl
 have x5 : w4.cell? ⟨B, 5, none⟩ = some (.int .i64 0) := by rw [cell_of_row _ _ 5 _ _ _ hT4]; rfl
 have x6 : w4.cell? ⟨B, 6, none⟩ = some (.slice none 0 0) := by rw [cell_of_row _ _ 6 _ _ _ hT4]; rfl
 have x7 : w4.cell? ⟨B, 7, none⟩ = some (.string ⟨#[]⟩) := by rw [cell_of_row _ _ 7 _ _ _ hT4]; rfl
 have x8 : w4.cell? ⟨B, 8, none⟩ = some (.slice none 0 0) := by rw [cell_of_row _ _ 8 _ _ _ hT4]; rfl
 have f0 := frozen_of_row _ _ 0 _ _ hT4
 have f1 := frozen_of_row _ _ 1 _ _ hT4
 have f2 := frozen_of_row _ _ 2 _ _ hT4
 have f3 := frozen_of_row _ _ 3 _ _ hT4
 have f4 := frozen_of_row _ _ 4 _ _ hT4
 have f5 := frozen_of_row _ _ 5 _ _ hT4
 have f6 := frozen_of_row _ _ 6 _ _ hT4
 have f7 := frozen_of_row _ _ 7 _ _ hT4
 have f8 := frozen_of_row _ _ 8 _ _ hT4
 have HW4 := Aside0.mk hw4
 have HW5 := Aside0.mk hw5
 have HBE := Aside0.mk hB
 have HNE := Aside0.mk hN
 have y0 : w5.cell? ⟨B, 0, none⟩ = some (.int .i64 k) := HG5.out.blk.cells.1.1
 clear hrd hb hw4 hw5 hB hT4 hbx hb34 hb35 hBl hGB hN hk hs1 HRD2 HNM HW1 HR2 HR3 HB2 HB3
 go_wp2_with (first | rw [← HBE.out, ← HW4.out] | rw [← HW5.out])
 refine (message_fields.calls k _ _ (fields_f k)).mono ?_
 rintro e w6 ⟨v', rfl, hr, hb⟩
 have hr' := Kd.R_mono (ok' := fun K => N ≤ K) (Kd.R_bound hr) (fun K hK => by
  have h1 := HNE.out
  have h2 := hK.2.1
  omega)
 obtain ⟨F, cF, rfl⟩ := Kd.R_slice hr'
 obtain ⟨fs, hfs⟩ : ∃ fs, fs = fieldsL k := ⟨_, rfl⟩
 have HFO := Aside0.mk (fields_ok k)
 rw [← hfs] at hr' HFO HREAD ⊢
 have HRF := Aside0.mk hr'
 have HG6 := Aside0.mk (HG5.out.below' hb)
 obtain ⟨bs, hbs⟩ : ∃ bs, bs = w5.heap.size := ⟨_, rfl⟩
 rw [← hbs] at HRF
 clear hbs hr hr' hb hfs x0 x1 x2 x3 x4 x5 x6 x7 x8 f0 f1 f2 f3 f4 f5 f6 f7 f8 y0 HG5 HW4 HW5 HBE HNE
 go_wp2_with fail
 go_loopw [21] (fun iv wr => ∃ (j : Nat) (m : Ms) (s : At) (ov nv : Value), j ≤ fs.length ∧ iv = .int .i64 (j : Int) ∧ putAll l (fs.drop j) (m, s) = readM l ∧ Got g B R N v l m s ov nv w wr ∧ Kd.R (Kd.int .i64) 92 wr bs (fun K => N ≤ K) (.slice F fs.length cF) fs) (fun iv _ => fs.length - (intOf iv).toNat)
 case atStart => exact ⟨0, _, _, _, _, Nat.zero_le _, rfl, HREAD.out, HG6.out, HRF.out⟩
 case round =>
  obtain ⟨j, m, s, ov, nv, hj, rfl, ho, hgot, hrow⟩ := hrel
  have HGT := Aside0.mk hgot
  have HO := Aside0.mk ho
  have HRJ := Aside0.mk hrow
  clear hgot ho hrow
  by_cases hlt : j < fs.length
  ·obtain ⟨f, hf⟩ : ∃ f, f = rd fs (j : Int) := ⟨_, rfl⟩
   have h4 : j < 4 := by have := HFO.out.2.2; omega
   have hdr := drop_rd hlt
   rw [← hf] at hdr
   have hmem : f ∈ fs := List.mem_of_mem_drop (i := j) (by rw [hdr]; exact List.mem_cons_self)
   have h08 := HFO.out.2.1 f hmem
   obtain ⟨ad, rfl, y⟩ := Kd.at_int (Kd.R_reads' HRJ.out).2.2 (j : Int) (by omega) (by omega)
   rw [Int.toNat_natCast, ← hf] at y
   have HO2 := Aside0.mk (show putAll l (fs.drop (j + 1)) (putF l f (m, s)) = readM l by rw [← HO.out, hdr]; rfl)
   have HLT := Aside0.mk hlt
   have hlt' : (j : Int) < (fs.length : Int) := by omega
   clear hf hdr hmem hlt
   have hq : f = 0 ∨ f = 1 ∨ f = 2 ∨ f = 3 ∨ f = 4 ∨ f = 5 ∨ f = 6 ∨ f = 7 := by omega
   clear h08
   rcases hq with rfl | rfl | rfl | rfl | rfl | rfl | rfl | rfl
   ·have HN1 := Aside0.mk (num_a g v l HOK.out s wr HGT.out.rd)
    obtain ⟨⟨x0, x1, x2, x3, x4, x5⟩, x6, x7, x8⟩ := HGT.out.blk.cells
    clear x0 x1 x2 x3 x4 x5 x6 x7 x8
    go_wp2_with fail
    refine (num_c B 0 (by decide) wr).mono ?_
    rintro e w6 ⟨rfl, rfl⟩
    go_wp2_with fail
    refine HN1.out.mono ?_
    rintro e w7 ⟨rfl, hrd, hb7⟩
    have HG7 := Aside0.mk (HGT.out.read hb7 hrd)
    have HG8 := Aside0.mk (HGT.out.num hb7 hrd 0 (by decide) (s.num l).1)
    have HR7 := Aside0.mk (Kd.R_grown (Kd.R_grown HRJ.out hb7 (fun K hK e => by have h1 := HGT.out.ord; have := Option.some.inj e; omega)) (But.setCell B 1 w7 (.int .i64 (s.num l).1)) (fun K hK e => by have h1 := HGT.out.ord; have := Option.some.inj e; omega))
    have c7 : w7.cell? ⟨B, 1, none⟩ = some (.int .i64 m.c) := by obtain ⟨⟨x0, x1, x2, x3, x4, x5⟩, x6, x7, x8⟩ := HG7.out.blk.cells; exact x1
    have f7 := HG7.out.blk.fz 1
    clear hrd hb7 y HN1
    go_wp2_with fail
    go_roundw
    case rel => exact ⟨j + 1, _, _, _, _, HLT.out, by go_num, HO2.out, HG8.out, HR7.out⟩
    case measure => simp [intOf]; have := HLT.out; omega
   ·have HN1 := Aside0.mk (num_a g v l HOK.out s wr HGT.out.rd)
    obtain ⟨⟨x0, x1, x2, x3, x4, x5⟩, x6, x7, x8⟩ := HGT.out.blk.cells
    clear x0 x1 x2 x3 x4 x5 x6 x7 x8
    go_wp2_with fail
    refine (num_c B 1 (by decide) wr).mono ?_
    rintro e w6 ⟨rfl, rfl⟩
    go_wp2_with fail
    refine HN1.out.mono ?_
    rintro e w7 ⟨rfl, hrd, hb7⟩
    have HG7 := Aside0.mk (HGT.out.read hb7 hrd)
    have HG8 := Aside0.mk (HGT.out.num hb7 hrd 1 (by decide) (s.num l).1)
    have HR7 := Aside0.mk (Kd.R_grown (Kd.R_grown HRJ.out hb7 (fun K hK e => by have h1 := HGT.out.ord; have := Option.some.inj e; omega)) (But.setCell B 2 w7 (.int .i64 (s.num l).1)) (fun K hK e => by have h1 := HGT.out.ord; have := Option.some.inj e; omega))
    have c7 : w7.cell? ⟨B, 2, none⟩ = some (.int .i64 m.e) := by obtain ⟨⟨x0, x1, x2, x3, x4, x5⟩, x6, x7, x8⟩ := HG7.out.blk.cells; exact x2
    have f7 := HG7.out.blk.fz 2
    clear hrd hb7 y HN1
    go_wp2_with fail
    go_roundw
    case rel => exact ⟨j + 1, _, _, _, _, HLT.out, by go_num, HO2.out, HG8.out, HR7.out⟩
    case measure => simp [intOf]; have := HLT.out; omega
   ·have HN1 := Aside0.mk (num_a g v l HOK.out s wr HGT.out.rd)
    obtain ⟨⟨x0, x1, x2, x3, x4, x5⟩, x6, x7, x8⟩ := HGT.out.blk.cells
    clear x0 x1 x2 x3 x4 x5 x6 x7 x8
    go_wp2_with fail
    refine (num_c B 2 (by decide) wr).mono ?_
    rintro e w6 ⟨rfl, rfl⟩
    go_wp2_with fail
    refine HN1.out.mono ?_
    rintro e w7 ⟨rfl, hrd, hb7⟩
    have HG7 := Aside0.mk (HGT.out.read hb7 hrd)
    have HG8 := Aside0.mk (HGT.out.num hb7 hrd 2 (by decide) (s.num l).1)
    have HR7 := Aside0.mk (Kd.R_grown (Kd.R_grown HRJ.out hb7 (fun K hK e => by have h1 := HGT.out.ord; have := Option.some.inj e; omega)) (But.setCell B 3 w7 (.int .i64 (s.num l).1)) (fun K hK e => by have h1 := HGT.out.ord; have := Option.some.inj e; omega))
    have c7 : w7.cell? ⟨B, 3, none⟩ = some (.int .i64 m.r) := by obtain ⟨⟨x0, x1, x2, x3, x4, x5⟩, x6, x7, x8⟩ := HG7.out.blk.cells; exact x3
    have f7 := HG7.out.blk.fz 3
    clear hrd hb7 y HN1
    go_wp2_with fail
    go_roundw
    case rel => exact ⟨j + 1, _, _, _, _, HLT.out, by go_num, HO2.out, HG8.out, HR7.out⟩
    case measure => simp [intOf]; have := HLT.out; omega
   ·have HN1 := Aside0.mk (num_a g v l HOK.out s wr HGT.out.rd)
    obtain ⟨⟨x0, x1, x2, x3, x4, x5⟩, x6, x7, x8⟩ := HGT.out.blk.cells
    clear x0 x1 x2 x3 x4 x5 x6 x7 x8
    go_wp2_with fail
    refine (num_c B 3 (by decide) wr).mono ?_
    rintro e w6 ⟨rfl, rfl⟩
    go_wp2_with fail
    refine HN1.out.mono ?_
    rintro e w7 ⟨rfl, hrd, hb7⟩
    have HG7 := Aside0.mk (HGT.out.read hb7 hrd)
    have HG8 := Aside0.mk (HGT.out.num hb7 hrd 3 (by decide) (s.num l).1)
    have HR7 := Aside0.mk (Kd.R_grown (Kd.R_grown HRJ.out hb7 (fun K hK e => by have h1 := HGT.out.ord; have := Option.some.inj e; omega)) (But.setCell B 4 w7 (.int .i64 (s.num l).1)) (fun K hK e => by have h1 := HGT.out.ord; have := Option.some.inj e; omega))
    have c7 : w7.cell? ⟨B, 4, none⟩ = some (.int .i64 m.s) := by obtain ⟨⟨x0, x1, x2, x3, x4, x5⟩, x6, x7, x8⟩ := HG7.out.blk.cells; exact x4
    have f7 := HG7.out.blk.fz 4
    clear hrd hb7 y HN1
    go_wp2_with fail
    go_roundw
    case rel => exact ⟨j + 1, _, _, _, _, HLT.out, by go_num, HO2.out, HG8.out, HR7.out⟩
    case measure => simp [intOf]; have := HLT.out; omega
   ·have HN1 := Aside0.mk (num_a g v l HOK.out s wr HGT.out.rd)
    obtain ⟨⟨x0, x1, x2, x3, x4, x5⟩, x6, x7, x8⟩ := HGT.out.blk.cells
    clear x0 x1 x2 x3 x4 x5 x6 x7 x8
    go_wp2_with fail
    refine (num_c B 4 (by decide) wr).mono ?_
    rintro e w6 ⟨rfl, rfl⟩
    go_wp2_with fail
    refine HN1.out.mono ?_
    rintro e w7 ⟨rfl, hrd, hb7⟩
    have HG7 := Aside0.mk (HGT.out.read hb7 hrd)
    have HG8 := Aside0.mk (HGT.out.num hb7 hrd 4 (by decide) (s.num l).1)
    have HR7 := Aside0.mk (Kd.R_grown (Kd.R_grown HRJ.out hb7 (fun K hK e => by have h1 := HGT.out.ord; have := Option.some.inj e; omega)) (But.setCell B 5 w7 (.int .i64 (s.num l).1)) (fun K hK e => by have h1 := HGT.out.ord; have := Option.some.inj e; omega))
    have c7 : w7.cell? ⟨B, 5, none⟩ = some (.int .i64 m.d) := by obtain ⟨⟨x0, x1, x2, x3, x4, x5⟩, x6, x7, x8⟩ := HG7.out.blk.cells; exact x5
    have f7 := HG7.out.blk.fz 5
    clear hrd hb7 y HN1
    go_wp2_with fail
    go_roundw
    case rel => exact ⟨j + 1, _, _, _, _, HLT.out, by go_num, HO2.out, HG8.out, HR7.out⟩
    case measure => simp [intOf]; have := HLT.out; omega
   ·have HN1 := Aside0.mk (runs_c g wr v l s HGT.out.rd HOK.out (by have := HL.out; omega))
    go_wp2_with fail
    refine HN1.out.mono ?_
    rintro e w7 ⟨u, rfl, hu, hrd, hb7⟩
    obtain ⟨A9, c9, rfl⟩ := RO.form hu
    have HG7 := Aside0.mk (HGT.out.read hb7 hrd)
    have HG8 := Aside0.mk (HGT.out.op hb7 hrd hu)
    have HR7 := Aside0.mk (Kd.R_grown (Kd.R_grown HRJ.out hb7 (fun K hK e => by have h1 := HGT.out.ord; have := Option.some.inj e; omega)) (But.setCell B 6 w7 (.slice A9 (runsP l s).1.length c9)) (fun K hK e => by have h1 := HGT.out.ord; have := Option.some.inj e; omega))
    have c7 : w7.cell? ⟨B, 6, none⟩ = some ov := by obtain ⟨⟨x0, x1, x2, x3, x4, x5⟩, x6, x7, x8⟩ := HG7.out.blk.cells; exact x6
    have f7 := HG7.out.blk.fz 6
    clear hrd hb7 y HN1
    go_wp2_with fail
    go_roundw
    case rel => exact ⟨j + 1, _, _, _, _, HLT.out, by go_num, HO2.out, HG8.out, HR7.out⟩
    case measure => simp [intOf]; have := HLT.out; omega
   ·have HN1 := Aside0.mk (text_a g v l HOK.out s wr HGT.out.rd)
    go_wp2_with fail
    refine HN1.out.mono ?_
    rintro e w7 ⟨rfl, hrd, hb7⟩
    have HG7 := Aside0.mk (HGT.out.read hb7 hrd)
    have HG8 := Aside0.mk (HGT.out.text hb7 hrd (s.text l).1)
    have HR7 := Aside0.mk (Kd.R_grown (Kd.R_grown HRJ.out hb7 (fun K hK e => by have h1 := HGT.out.ord; have := Option.some.inj e; omega)) (But.setCell B 7 w7 (.string (s.text l).1)) (fun K hK e => by have h1 := HGT.out.ord; have := Option.some.inj e; omega))
    have c7 : w7.cell? ⟨B, 7, none⟩ = some (.string m.t) := by obtain ⟨⟨x0, x1, x2, x3, x4, x5⟩, x6, x7, x8⟩ := HG7.out.blk.cells; exact x7
    have f7 := HG7.out.blk.fz 7
    clear hrd hb7 y HN1
    go_wp2_with fail
    go_roundw
    case rel => exact ⟨j + 1, _, _, _, _, HLT.out, by go_num, HO2.out, HG8.out, HR7.out⟩
    case measure => simp [intOf]; have := HLT.out; omega
   ·have HN1 := Aside0.mk (spots_c g wr v l s HGT.out.rd HOK.out (by have := HL.out; omega))
    go_wp2_with fail
    refine HN1.out.mono ?_
    rintro e w7 ⟨u, rfl, hu, hrd, hb7⟩
    obtain ⟨A9, c9, rfl⟩ := NO.form hu
    have HG7 := Aside0.mk (HGT.out.read hb7 hrd)
    have HG8 := Aside0.mk (HGT.out.notes hb7 hrd hu)
    have HR7 := Aside0.mk (Kd.R_grown (Kd.R_grown HRJ.out hb7 (fun K hK e => by have h1 := HGT.out.ord; have := Option.some.inj e; omega)) (But.setCell B 8 w7 (.slice A9 (notesP l s).1.length c9)) (fun K hK e => by have h1 := HGT.out.ord; have := Option.some.inj e; omega))
    have c7 : w7.cell? ⟨B, 8, none⟩ = some nv := by obtain ⟨⟨x0, x1, x2, x3, x4, x5⟩, x6, x7, x8⟩ := HG7.out.blk.cells; exact x8
    have f7 := HG7.out.blk.fz 8
    clear hrd hb7 y HN1
    go_wp2_with fail
    go_roundw
    case rel => exact ⟨j + 1, _, _, _, _, HLT.out, by go_num, HO2.out, HG8.out, HR7.out⟩
    case measure => simp [intOf]; have := HLT.out; omega
  ·obtain rfl : j = fs.length := by omega
   have hlt' : ¬ ((fs.length : Int) < (fs.length : Int)) := by omega
   have HE := Aside0.mk (show (m, s) = readM l by have h := HO.out; rwa [List.drop_eq_nil_of_le (Nat.le_refl _)] at h)
   obtain ⟨A6, c6, rfl⟩ := RO.form HGT.out.o
   obtain ⟨A8, c8, rfl⟩ := NO.form HGT.out.n
   have HM := Aside0.mk (show (readM l).1 = m by rw [← HE.out])
   have HSM := Aside0.mk (show Small m by rw [← HM.out]; exact readM_small l HL.out)
   have HEN := Aside0.mk (encode_c m A6 c6 A8 c8 wr (lies_own HGT.out.o HGT.out.n) HSM.out)
   have HDEC := Aside0.mk (show decOk l = (m.good && ((!s.bad && decide (l.length - s.a = 0)) && decide (m.encL = l))) by unfold decOk; rw [← HE.out])
   unfold EncPost at HEN
   obtain ⟨⟨x0, x1, x2, x3, x4, x5⟩, x6, x7, x8⟩ := HGT.out.blk.cells
   unfold Mo at x0 x1 x2 x3 x4 x5 x6 x7 x8
   unfold Ms.mg Mg.val Mg.cs at HEN
   clear HO HRJ HRF HG6 HFO
   go_wp2_with fail
   refine HEN.out.mono ?_
   rintro e w7 ⟨v7, rfl, hsl, hb7⟩
   have HSL := Aside0.mk hsl
   have HG7 := Aside0.mk (HGT.out.below' hb7)
   have HRS := Aside0.mk (show Blk R ⟨0, 0, 0, 0, 0, 0, .slice none 0 0, ⟨#[]⟩, .slice none 0 0⟩ w7 from HG7.out.res)
   have HIN := Aside0.mk (HS.out.below HG7.out.below)
   have HDN := Aside0.mk (VaryR.nDone g w7 v l s.a s.bad HG7.out.rd)
   clear hsl hb7 x0 x1 x2 x3 x4 x5 x6 x7 x8 HEN
   cases hgd : m.good with
   | false =>
    have HNO := Aside0.mk (show decOk l = false by rw [HDEC.out, hgd]; rfl)
    obtain ⟨⟨z0, z1, z2, z3, z4, z5⟩, z6, z7, z8⟩ := HRS.out.cells
    have g0 := HRS.out.fz 0
    have g1 := HRS.out.fz 1
    have g2 := HRS.out.fz 2
    have g3 := HRS.out.fz 3
    have g4 := HRS.out.fz 4
    have g5 := HRS.out.fz 5
    have g6 := HRS.out.fz 6
    have g7 := HRS.out.fz 7
    have g8 := HRS.out.fz 8
    go_wp2_with fail
    refine bodyPost_ret (results_ct rfl _ _ R 44 #[.int .i64 0, .int .i64 0, .int .i64 0, .int .i64 0, .int .i64 0, .int .i64 0, .slice none 0 0, .string ⟨#[]⟩, .slice none 0 0] (0, 0) _ rfl (set9 HRS.out _ _ _ _ _ _ _ _ _) Try.underlying44 rfl (by kernel_rfl)) rfl ?_
    exact post_no HNO.out (below_set9 HG7.out.below HRW.out _ _ _ _ _ _ _ _ _)
   | true =>
    have HSL2 := Aside0.mk (show Sl w7 v7 m.encL by have h := HSL.out; rw [if_pos hgd] at h; exact h)
    go_wp2_with fail
    refine HDN.out.mono ?_
    rintro e w8 ⟨rfl, nd, rfl⟩
    obtain ⟨dn, hdn⟩ : ∃ dn, dn = (!s.bad && decide (l.length - s.a = 0)) := ⟨_, rfl⟩
    have HG8 := Aside0.mk (HG7.out.below' (pw_below_drewN (Below.refl _ _) nd))
    have HRS8 := Aside0.mk (show Blk R ⟨0, 0, 0, 0, 0, 0, .slice none 0 0, ⟨#[]⟩, .slice none 0 0⟩ (w7.drewN nd) from HG8.out.res)
    have hcv7 := (HSL2.out.drewN nd).string (P := Try.prog) Try.underlying25 Try.underlying5 Try.underlying9
    have hcvv := (HIN.out.drewN nd).string (P := Try.prog) Try.underlying25 Try.underlying5 Try.underlying9
    rw [hgd, ← hdn, Bool.true_and] at HDEC
    have HDEC := HDEC
    rw [← hdn]
    clear hdn HDN
    cases dn with
    | false =>
     have HNO := Aside0.mk (show decOk l = false by rw [HDEC.out]; rfl)
     obtain ⟨⟨z0, z1, z2, z3, z4, z5⟩, z6, z7, z8⟩ := HRS8.out.cells
     have g0 := HRS8.out.fz 0
     have g1 := HRS8.out.fz 1
     have g2 := HRS8.out.fz 2
     have g3 := HRS8.out.fz 3
     have g4 := HRS8.out.fz 4
     have g5 := HRS8.out.fz 5
     have g6 := HRS8.out.fz 6
     have g7 := HRS8.out.fz 7
     have g8 := HRS8.out.fz 8
     go_wp2_with fail
     refine bodyPost_ret (results_ct rfl _ _ R 44 #[.int .i64 0, .int .i64 0, .int .i64 0, .int .i64 0, .int .i64 0, .int .i64 0, .slice none 0 0, .string ⟨#[]⟩, .slice none 0 0] (0, 0) _ rfl (set9 HRS8.out _ _ _ _ _ _ _ _ _) Try.underlying44 rfl (by kernel_rfl)) rfl ?_
     exact post_no HNO.out (below_set9 HG8.out.below HRW.out _ _ _ _ _ _ _ _ _)
    | true =>
     by_cases hcmp : (strOfNums m.encL).toList = (strOfNums l).toList
     ·have HYES := Aside0.mk (show decOk l = true by rw [HDEC.out, Bool.true_and]; exact decide_eq_true ((Byt.str_eq (ok_encL m) HOK.out).1 hcmp))
      obtain ⟨⟨x0, x1, x2, x3, x4, x5⟩, x6, x7, x8⟩ := HG7.out.blk.cells
      unfold Mo at x0 x1 x2 x3 x4 x5 x6 x7 x8
      obtain ⟨⟨z0, z1, z2, z3, z4, z5⟩, z6, z7, z8⟩ := HRS8.out.cells
      have g0 := HRS8.out.fz 0
      have g1 := HRS8.out.fz 1
      have g2 := HRS8.out.fz 2
      have g3 := HRS8.out.fz 3
      have g4 := HRS8.out.fz 4
      have g5 := HRS8.out.fz 5
      have g6 := HRS8.out.fz 6
      have g7 := HRS8.out.fz 7
      have g8 := HRS8.out.fz 8
      go_wp2_with fail
      refine bodyPost_ret (results_ct rfl _ _ R 44 #[.int .i64 m.k, .int .i64 m.c, .int .i64 m.e, .int .i64 m.r, .int .i64 m.s, .int .i64 m.d, .slice A6 m.o.length c6, .string m.t, .slice A8 m.n.length c8] (0, 0) _ rfl (set9 HRS8.out _ _ _ _ _ _ _ _ _) Try.underlying44 rfl (by kernel_rfl)) rfl ?_
      exact post_yes HYES.out HM.out HG8.out _ _ _ _ _ _ _ _ _
     ·have HNO := Aside0.mk (show decOk l = false by rw [HDEC.out, Bool.true_and]; exact decide_eq_false (fun e => hcmp (by rw [e])))
      have hcb : ((strOfNums m.encL).toList == (strOfNums l).toList) = false := beq_eq_false_iff_ne.2 hcmp
      clear hcmp
      obtain ⟨⟨z0, z1, z2, z3, z4, z5⟩, z6, z7, z8⟩ := HRS8.out.cells
      have g0 := HRS8.out.fz 0
      have g1 := HRS8.out.fz 1
      have g2 := HRS8.out.fz 2
      have g3 := HRS8.out.fz 3
      have g4 := HRS8.out.fz 4
      have g5 := HRS8.out.fz 5
      have g6 := HRS8.out.fz 6
      have g7 := HRS8.out.fz 7
      have g8 := HRS8.out.fz 8
      go_wp2_with fail
      refine bodyPost_ret (results_ct rfl _ _ R 44 #[.int .i64 0, .int .i64 0, .int .i64 0, .int .i64 0, .int .i64 0, .int .i64 0, .slice none 0 0, .string ⟨#[]⟩, .slice none 0 0] (0, 0) _ rfl (set9 HRS8.out _ _ _ _ _ _ _ _ _) Try.underlying44 rfl (by kernel_rfl)) rfl ?_
      exact post_no HNO.out (below_set9 HG8.out.below HRW.out _ _ _ _ _ _ _ _ _)
end Go.Proofs.Ytedfcjcnhgomoaa.MsgDec
end
-- MERGED YtedfcjcnhgomoaaMsgDecLaw
section
namespace Go.Proofs.Ytedfcjcnhgomoaa.MsgDecLaw
open Go.RowKit Go.Proofs.Ytedfcjcnhgomoaa.EditK Go.Proofs.Ytedfcjcnhgomoaa.P Go.Proofs.YtedfcjcnhgomoaaW.PrintWords Go.Proofs.YtedfcjcnhgomoaaW.PrintLast Go.Proofs.YtedfcjcnhgomoaaW.PrintMore Go.Proofs.Ytedfcjcnhgomoaa.Own Go.Proofs.Ytedfcjcnhgomoaa.Vy Go.Proofs.Ytedfcjcnhgomoaa.NoteN Go.Proofs.Ytedfcjcnhgomoaa.MsgA Go.Proofs.Ytedfcjcnhgomoaa.MsgD Go.Proofs.Ytedfcjcnhgomoaa.MsgW Go.Proofs.Ytedfcjcnhgomoaa.MsgE Go.Proofs.Ytedfcjcnhgomoaa.MsgR Go.Proofs.Ytedfcjcnhgomoaa.MsgQ Go.Proofs.Ytedfcjcnhgomoaa.MsgS Go.Proofs.Ytedfcjcnhgomoaa.MsgLives Go.Proofs.Ytedfcjcnhgomoaa.MsgLaw Go.Proofs.Ytedfcjcnhgomoaa.DecM Go.Proofs.Ytedfcjcnhgomoaa.DecL Go.Proofs.Ytedfcjcnhgomoaa.DecRf Go.Proofs.Ytedfcjcnhgomoaa.MsgDec
set_option linter.unusedSimpArgs false
set_option linter.unusedVariables false
theorem dec_small {l : List Int} (hl : l.length ≤ 500000) : Small (decR l).1 := by
 unfold decR
 split
 ·exact readM_small l hl
 ·exact ⟨Nat.zero_le _, Nat.zero_le _, Nat.zero_le _, Nat.zero_le _⟩
theorem dec_c (w : World) (v : Value) (l : List Int) (h : Sl w v l) (hok : Byt.Ok l) (hl : l.length ≤ 500000) (p : Ms) (c : Int) (hp : decR l = (p, c)) :
  Calls Try.prog 35 #[v] w fun e w' => ∃ A6 c6 A8 c8, e = .returned (.tuple #[.agg #[.int .i64 p.k, .int .i64 p.c, .int .i64 p.e, .int .i64 p.r, .int .i64 p.s, .int .i64 p.d, .slice A6 p.o.length c6, .string p.t, .slice A8 p.n.length c8], .int .i64 c]) ∧ Lies p A6 c6 A8 c8 w' ∧ Below w.heap.size w w' := by
 have h := decode_c w v l h hok hl
 unfold DecPost at h
 rw [hp] at h
 exact h
theorem rsame_c (a b : Ms) (A6 : Option Addr) (c6 : Nat) (A8 : Option Addr) (c8 : Nat) (B6 : Option Addr) (d6 : Nat) (B8 : Option Addr) (d8 : Nat) (w : World) (ha : Lies a A6 c6 A8 c8 w) (hb : Lies b B6 d6 B8 d8 w) (ho : a.o.length ≤ 1000000) (hn : a.n.length ≤ 1000000) (r : Bool) (hr : r = true ↔ a = b) :
  Calls Try.prog 26 #[.agg #[.int .i64 a.k, .int .i64 a.c, .int .i64 a.e, .int .i64 a.r, .int .i64 a.s, .int .i64 a.d, .slice A6 a.o.length c6, .string a.t, .slice A8 a.n.length c8], .agg #[.int .i64 b.k, .int .i64 b.c, .int .i64 b.e, .int .i64 b.r, .int .i64 b.s, .int .i64 b.d, .slice B6 b.o.length d6, .string b.t, .slice B8 b.n.length d8]] w (fun e w' => e = .returned (.bool r) ∧ Below w.heap.size w w') := by
 obtain ⟨K0, hK0⟩ : ∃ K0, K0 = 20000000 := ⟨_, rfl⟩
 obtain ⟨r', h1, h2⟩ := rsame_f a b ho hn K0 (by omega)
 have e : r' = r := by rw [Bool.eq_iff_iff, h2, hr]
 rw [e] at h1
 exact variorumref11_Same.calls K0 a.k a.c a.e a.r a.s a.d A6 c6 a.o a.t A8 c8 a.n b.k b.c b.e b.r b.s b.d B6 d6 b.o b.t B8 d8 b.n r w ha.o ha.oc ha.n ha.nc hb.o hb.oc hb.n hb.nc h1
end Go.Proofs.Ytedfcjcnhgomoaa.MsgDecLaw
end
-- MERGED YtedfcjcnhgomoaaMsgBackLaw
section
namespace Go.Proofs.Ytedfcjcnhgomoaa.MsgBackLaw
open Go.RowKit Go.Proofs.Ytedfcjcnhgomoaa.EditK Go.Proofs.Ytedfcjcnhgomoaa.P Go.Proofs.YtedfcjcnhgomoaaW.PrintWords Go.Proofs.YtedfcjcnhgomoaaW.PrintLast Go.Proofs.YtedfcjcnhgomoaaW.PrintMore Go.Proofs.Ytedfcjcnhgomoaa.Own Go.Proofs.Ytedfcjcnhgomoaa.Vy Go.Proofs.Ytedfcjcnhgomoaa.NoteN Go.Proofs.Ytedfcjcnhgomoaa.MsgA Go.Proofs.Ytedfcjcnhgomoaa.MsgD Go.Proofs.Ytedfcjcnhgomoaa.MsgW Go.Proofs.Ytedfcjcnhgomoaa.MsgE Go.Proofs.Ytedfcjcnhgomoaa.MsgR Go.Proofs.Ytedfcjcnhgomoaa.MsgQ Go.Proofs.Ytedfcjcnhgomoaa.MsgS Go.Proofs.Ytedfcjcnhgomoaa.MsgLives Go.Proofs.Ytedfcjcnhgomoaa.MsgLaw Go.Proofs.Ytedfcjcnhgomoaa.DecM Go.Proofs.Ytedfcjcnhgomoaa.DecL Go.Proofs.Ytedfcjcnhgomoaa.DecRf Go.Proofs.Ytedfcjcnhgomoaa.MsgDec Go.Proofs.Ytedfcjcnhgomoaa.MsgDecLaw
set_option linter.unusedSimpArgs false
set_option linter.unusedVariables false
structure Lite (m : Ms) : Prop where
 o : m.o.length ≤ 100
 w : wgt m.o ≤ 21800
 t : m.t.size ≤ 4000
 n : m.n.length ≤ 200
theorem Lite.small {m : Ms} (h : Lite m) : Small m := ⟨by have := h.o; omega, by have := h.w; omega, by have := h.t; omega, by have := h.n; omega⟩
theorem lite_f (m : Ms) (k : Nat) (hk : 200 ≤ k) : ∃ b, variorumlaw11_Light.f k m.k m.c m.e m.r m.s m.d m.o m.t m.n = some b ∧ (b = true → Lite m) := by
 unfold variorumlaw11_Light.f variorumlaw06_Light.f
 by_cases h : (m.o.length : Int) > 100
 ·rw [if_pos h]; exact ⟨false, rfl, fun h => by cases h⟩
 ·rw [if_neg h]
  obtain ⟨b, h1, h2⟩ := light_l m.o (by omega) m.o [] k rfl (by omega)
  rw [show ((([] : List EditL.Rn).length : Nat) : Int) = 0 from rfl] at h1
  rw [h1, Option.bind_some]
  cases b with
  | false => exact ⟨false, rfl, fun h => by cases h⟩
  | true =>
   have hw := h2 rfl
   rw [if_pos rfl]
   by_cases ht : (m.t.size : Int) ≤ 4000
   ·rw [if_pos ht]
    refine ⟨_, rfl, fun e => ?_⟩
    have hn := of_decide_eq_true e
    exact ⟨by omega, by omega, by omega, by omega⟩
   ·rw [if_neg ht]; exact ⟨false, rfl, fun h => by cases h⟩
theorem lite_field {m : Ms} (h : Lite m) (f : Int) (b : List Int) : (m.fieldB f b).length ≤ b.length + 30000 := by
 have h1 := h.w
 have h2 := h.t
 have h3 := h.n
 unfold Ms.fieldB
 repeat' split
 ·have := opR_len m.o (putL b (m.o.length : Int)); have := putL_len b (m.o.length : Int); omega
 ·have := putTL_len b (numsOf m.t); rw [numsOf_length] at this; omega
 ·have := noteR_len m.n 0 (putL b (m.n.length : Int)); have := putL_len b (m.n.length : Int); omega
 ·have := putL_len b (m.get f); omega
theorem lite_encR {m : Ms} (h : Lite m) : ∀ (fs b : List Int), (m.encR fs b).length ≤ b.length + 30000 * fs.length := by
 intro fs
 induction fs with
 | nil => intro b; exact Nat.le_refl _
 | cons f fs ih =>
  intro b
  have h1 := ih (m.fieldB f b)
  have h2 := lite_field h f b
  simp only [Ms.encR, List.length_cons]
  omega
theorem lite_len {m : Ms} (h : Lite m) : m.encL.length ≤ 500000 := by
 have h1 := lite_encR h (fieldsL m.k) (putL [] m.k)
 have h2 := putL_len [] m.k
 have h3 := (fields_ok m.k).2.2
 unfold Ms.encL
 simp only [List.length_nil] at h2
 omega
theorem enc_same {p q : Ms} (hp : p.good = true) (hq : q.good = true) (sm : Bool) (hs : sm = true ↔ p = q) : ((strOfNums p.encL).toList == (strOfNums q.encL).toList) = sm := by
 rw [Bool.eq_iff_iff, beq_iff_eq, Byt.str_eq (ok_encL p) (ok_encL q), hs]
 exact ⟨fun h => enc_inj hp hq h, fun h => by rw [h]⟩
theorem enc_c (m : Ms) (A6 : Option Addr) (c6 : Nat) (A8 : Option Addr) (c8 : Nat) (w : World) (h : Lies m A6 c6 A8 c8 w) (hs : Small m) (X : List Int) (E : Int) (hX : X = if m.good then m.encL else []) (hE : E = if m.good then 0 else 2) :
  Calls Try.prog 21 #[.agg #[.int .i64 m.k, .int .i64 m.c, .int .i64 m.e, .int .i64 m.r, .int .i64 m.s, .int .i64 m.d, .slice A6 m.o.length c6, .string m.t, .slice A8 m.n.length c8]] w fun e w' => ∃ A c, e = .returned (.tuple #[.slice A X.length c, .int .i64 E]) ∧ Sl w' (.slice A X.length c) X ∧ Below w.heap.size w w' := by
 refine (encode_c m A6 c6 A8 c8 w h hs).mono ?_
 rintro e w' ⟨v, he, hv, hb⟩
 rw [← hX] at hv
 rw [← hE] at he
 obtain ⟨A, c, rfl, hc, hC⟩ := hv
 exact ⟨A, c, he, ⟨A, c, rfl, hc, hC⟩, hb⟩
def R9.T9 : Bool × List (List Nat × List Nat) := (true, [([], []), ([0], [0]), ([1], [1]), ([2], [2]), ([2], [2]), ([3, 4, 2, 2], [2, 3, 4]), ([5, 2], [2, 5]), ([2, 6], [2, 6]), ([7, 5], [7]), ([8], [8]), ([9, 8], [8, 9]), ([10, 8, 8], [8, 10]), ([11], [11]), ([12, 11], [11, 12]), ([11], [11]), ([14, 11], [11, 14]), ([13, 15, 11], [11, 13, 15]), ([11], [11]), ([11], [11]), ([17, 18, 11, 11], [11, 17, 18]), ([16, 19, 11], [11, 16, 19]), ([11, 20, 8], [8, 11, 20]), ([8, 21], [8, 21])])
def R9.B9 : List Nat := [0, 1, 3, 7, 7, 31, 63, 127, 255, 511, 1023, 2047, 4095, 8191, 4095, 20479, 65535, 4095, 4095, 397311, 1048575, 2097151, 4194303]
theorem R9.tab9 : rtab .any (opsOf Try.f11 9) = R9.T9 := by kernel_rfl
theorem R9.bits9 : waitsOk R9.T9.2 R9.B9 = true := by kernel_rfl
set_option maxHeartbeats 64000000 in
set_option maxRecDepth 100000 in
theorem back_c (p q : Ms) (A6 : Option Addr) (c6 : Nat) (A8 : Option Addr) (c8 : Nat) (B6 : Option Addr) (d6 : Nat) (B8 : Option Addr) (d8 : Nat) (v : Value) (l : List Int) (w : World) (hp : Lies p A6 c6 A8 c8 w) (hq : Lies q B6 d6 B8 d8 w) (hs : Sl w v l) (hok : Byt.Ok l) :
  Calls Try.prog 11 #[(p.mg A6 c6 A8 c8).val, (q.mg B6 d6 B8 d8).val, v] w fun e w' => e = .returned (.bool true) ∧ Below w.heap.size w w' := by
 obtain ⟨K0, hK0⟩ : ∃ K0, K0 = 20000000 := ⟨_, rfl⟩
 obtain ⟨tp, htp, hsp⟩ := lite_f p K0 (by omega)
 obtain ⟨tq, htq, hsq⟩ := lite_f q K0 (by omega)
 obtain ⟨P, hP⟩ : ∃ P, P = w.heap.size := ⟨_, rfl⟩
 obtain ⟨w1, hw1⟩ : ∃ w1, w1 = (w.alloc (.cells (p.mg A6 c6 A8 c8).cs 44)).alloc (.cells (q.mg B6 d6 B8 d8).cs 44) := ⟨_, rfl⟩
 have HLO := Aside0.mk (show Below w.heap.size w w1 by rw [hw1]; exact below_alloc (below_alloc (Below.refl _ _) _) _)
 have HBP := Aside0.mk (show Blk P (p.mg A6 c6 A8 c8) w1 by unfold Blk; rw [hw1, hP, Own.heap_old _ _ _ (by simp)]; exact Own.heap_new _ _)
 have HBQ := Aside0.mk (show Blk (P + 1) (q.mg B6 d6 B8 d8) w1 by unfold Blk; rw [hw1, hP]; have := Own.heap_new (w.alloc (.cells (p.mg A6 c6 A8 c8).cs 44)) (.cells (q.mg B6 d6 B8 d8).cs 44); rw [World.size_alloc] at this; exact this)
 have HLP := Aside0.mk (hp.below HLO.out)
 have HLQ := Aside0.mk (hq.below HLO.out)
 have HTP := Aside0.mk (variorumlaw11_Light.calls K0 p.k p.c p.e p.r p.s p.d A6 c6 p.o p.t A8 c8 p.n tp w1 HLP.out.o HLP.out.oc HLP.out.n HLP.out.nc htp)
 have HTQ := Aside0.mk (fun W (hb : Below w1.heap.size w1 W) => variorumlaw11_Light.calls K0 q.k q.c q.e q.r q.s q.d B6 d6 q.o q.t B8 d8 q.n tq W (HLQ.out.below hb).o HLQ.out.oc (HLQ.out.below hb).n HLQ.out.nc htq)
 have HW1 := Aside0.mk hw1
 have HPE := Aside0.mk hP
 obtain ⟨A, c0, rfl, hc0, hC⟩ := hs
 have HSV := Aside0.mk (show Sl w (.slice A l.length c0) l from ⟨A, c0, rfl, hc0, hC⟩)
 have HOK := Aside0.mk hok
 have HDR := Aside0.mk (show decR l = ((decR l).1, 0) ∨ decR l = (noMs, 10) by
  by_cases h : decOk l = true
  ·left; unfold decR; rw [if_pos h]
  ·right; unfold decR; rw [if_neg h])
 clear hp hq hw1 hP htp htq hK0 hc0 hC hok
 obtain ⟨⟨x0, x1, x2, x3, x4, x5⟩, x6, x7, x8⟩ := HBP.out.cells
 obtain ⟨⟨y0, y1, y2, y3, y4, y5⟩, y6, y7, y8⟩ := HBQ.out.cells
 unfold Ms.mg at x0 x1 x2 x3 x4 x5 x6 x7 x8 y0 y1 y2 y3 y4 y5 y6 y7 y8
 unfold Ms.mg Mg.cs at HW1
 go_enter Try.func11, Try.ntmps11
 unfold Ms.mg Mg.val Mg.cs
 go_wp2_with (first | rw [← HPE.out, ← HW1.out])
 refine HTP.out.mono ?_
 rintro e w2 ⟨rfl, hb⟩
 have HX2 := Aside0.mk hb
 have HL2 := Aside0.mk (below_step HLO.out hb)
 clear hb HTP HW1 x0 x1 x2 x3 x4 x5 x6 x7 x8 y0 y1 y2 y3 y4 y5 y6 y7 y8
 cases tp with
 | false =>
  go_wp2_with fail
  refine (lives_c _).mono ?_
  rintro e w9 ⟨rfl, hb⟩
  have HB9 := Aside0.mk (below_step HL2.out hb)
  clear hb
  go_wp2_with fail
  go_ret
  exact ⟨rfl, HB9.out⟩
 | true =>
  have SP := Aside0.mk (hsp rfl)
  obtain ⟨⟨y0, y1, y2, y3, y4, y5⟩, y6, y7, y8⟩ := cells_ms (HBQ.out.below HX2.out)
  clear hsp
  go_wp2_with fail
  refine (HTQ.out w2 HX2.out).mono ?_
  rintro e w3 ⟨rfl, hb⟩
  have HX3 := Aside0.mk (below_step HX2.out hb)
  have HL3 := Aside0.mk (below_step HL2.out hb)
  clear hb HTQ y0 y1 y2 y3 y4 y5 y6 y7 y8
  cases tq with
  | false =>
   go_wp2_with fail
   refine (lives_c _).mono ?_
   rintro e w9 ⟨rfl, hb⟩
   have HB9 := Aside0.mk (below_step HL3.out hb)
   clear hb
   go_wp2_with fail
   go_ret
   exact ⟨rfl, HB9.out⟩
  | true =>
   have SQ := Aside0.mk (hsq rfl)
   clear hsq
   by_cases hl : l.length ≤ 4000
   ·have hl' : (l.length : Int) ≤ 4000 := by omega
    have HLL := Aside0.mk hl
    clear hl
    obtain ⟨F, hF⟩ : ∃ F : Int, F = (if q.good then 0 else 2) := ⟨_, rfl⟩
    obtain ⟨Y, hY⟩ : ∃ Y, Y = (if q.good then q.encL else []) := ⟨_, rfl⟩
    have HFE := Aside0.mk hF
    have HYE := Aside0.mk hY
    have HGDP := Aside0.mk (fun W (hb : Below w1.heap.size w1 W) => (show Calls Try.prog 23 #[(.agg #[.int .i64 p.k, .int .i64 p.c, .int .i64 p.e, .int .i64 p.r, .int .i64 p.s, .int .i64 p.d, .slice A6 p.o.length c6, .string p.t, .slice A8 p.n.length c8])] W fun e W' => e = .returned (.bool p.good) ∧ Below W.heap.size W W' from good_m p A6 c6 A8 c8 W (HLP.out.below hb) SP.out.small))
    have HEQ := Aside0.mk (fun W (hb : Below w1.heap.size w1 W) => enc_c q B6 d6 B8 d8 W (HLQ.out.below hb) SQ.out.small Y F hY hF)
    clear hF hY
    cases hgp : p.good with
    | false =>
     rw [hgp] at HGDP
     have HEP := Aside0.mk (enc_c p A6 c6 A8 c8 w3 (HLP.out.below HX3.out) SP.out.small [] 2 (by rw [hgp]; rfl) (by rw [hgp]; rfl))
     obtain ⟨⟨x0, x1, x2, x3, x4, x5⟩, x6, x7, x8⟩ := cells_ms (HBP.out.below HX3.out)
     go_wp2_with fail
     refine HEP.out.mono ?_
     rintro e w4 ⟨A5, c5, rfl, hs5, hb⟩
     have HX4 := Aside0.mk (below_step HX3.out hb)
     have HL4 := Aside0.mk (below_step HL3.out hb)
     have HS5 := Aside0.mk hs5
     clear hb hs5 HEP x0 x1 x2 x3 x4 x5 x6 x7 x8
     obtain ⟨⟨y0, y1, y2, y3, y4, y5⟩, y6, y7, y8⟩ := cells_ms (HBQ.out.below HX4.out)
     go_wp2_with fail
     refine (HEQ.out w4 HX4.out).mono ?_
     rintro e w5 ⟨A7, c7, rfl, hs7, hb⟩
     have HX5 := Aside0.mk (below_step HX4.out hb)
     have HL5 := Aside0.mk (below_step HL4.out hb)
     have HS7 := Aside0.mk hs7
     have HS55 := Aside0.mk (HS5.out.below hb)
     clear hb hs7 HEQ y0 y1 y2 y3 y4 y5 y6 y7 y8
     obtain ⟨⟨x0, x1, x2, x3, x4, x5⟩, x6, x7, x8⟩ := cells_ms (HBP.out.below HX5.out)
     go_wp2_with fail
     refine (HGDP.out w5 HX5.out).mono ?_
     rintro e w6 ⟨rfl, hb⟩
     have HBW := Aside0.mk (below_step HL5.out hb)
     clear hb hgp HGDP x0 x1 x2 x3 x4 x5 x6 x7 x8
     rcases HDR.out with hdr | hdr
     ·have HD := Aside0.mk (dec_c w6 _ l (HSV.out.below HBW.out) HOK.out (by have := HLL.out; omega) _ _ hdr)
      obtain ⟨m, hm⟩ : ∃ m, m = (decR l).1 := ⟨_, rfl⟩
      rw [← hm] at HD hdr
      have HMG := Aside0.mk (dec_ok (l := l) (by rw [hdr]))
      have HMS := Aside0.mk (show Small m by rw [hm]; exact dec_small (by have := HLL.out; omega))
      rw [← hm] at HMG
      clear hm hdr
      go_wp2_with fail
      refine HD.out.mono ?_
      rintro e wd ⟨D6, e6, D8, e8, rfl, hli, hb⟩
      have HLM := Aside0.mk hli
      have HBD := Aside0.mk (below_step HBW.out hb)
      clear hli hb HD
      obtain ⟨P13, hP⟩ : ∃ P, P = wd.heap.size := ⟨_, rfl⟩
      obtain ⟨wa13, hwa⟩ : ∃ wa, wa = wd.alloc (.cells #[(.int .i64 0), (.int .i64 0), (.int .i64 0), (.int .i64 0), (.int .i64 0), (.int .i64 0), (.slice none 0 0), (.string ⟨#[]⟩), (.slice none 0 0)] 44) := ⟨_, rfl⟩
      have hT : wa13.heap[P13]? = some (.cells #[(.int .i64 0), (.int .i64 0), (.int .i64 0), (.int .i64 0), (.int .i64 0), (.int .i64 0), (.slice none 0 0), (.string ⟨#[]⟩), (.slice none 0 0)] 44 (0, 0)) := by rw [hwa, hP]; exact Own.heap_new _ _
      obtain ⟨wb13, hwb⟩ : ∃ wb, wb = (((((((((wa13.setCell ⟨P13, 0, none⟩ (.int .i64 m.k)).setCell ⟨P13, 1, none⟩ (.int .i64 m.c)).setCell ⟨P13, 2, none⟩ (.int .i64 m.e)).setCell ⟨P13, 3, none⟩ (.int .i64 m.r)).setCell ⟨P13, 4, none⟩ (.int .i64 m.s)).setCell ⟨P13, 5, none⟩ (.int .i64 m.d)).setCell ⟨P13, 6, none⟩ (.slice D6 m.o.length e6)).setCell ⟨P13, 7, none⟩ (.string m.t)).setCell ⟨P13, 8, none⟩ (.slice D8 m.n.length e8)) := ⟨_, rfl⟩
      have HBB13 := Aside0.mk (show Below wd.heap.size wd wb13 by rw [hwb, hwa]; exact below_set9 (below_alloc (Below.refl _ _) _) (by omega) _ _ _ _ _ _ _ _ _)
      have HBK13 := Aside0.mk (show Blk P13 (m.mg D6 e6 D8 e8) wb13 by unfold Blk; rw [hwb]; exact set9 hT _ _ _ _ _ _ _ _ _)
      have z0 : wa13.cell? ⟨P13, 0, none⟩ = some (.int .i64 0) := by rw [cell_of_row _ _ 0 _ _ _ hT]; rfl
      have f0 := frozen_of_row _ _ 0 _ _ hT
      have z1 : wa13.cell? ⟨P13, 1, none⟩ = some (.int .i64 0) := by rw [cell_of_row _ _ 1 _ _ _ hT]; rfl
      have f1 := frozen_of_row _ _ 1 _ _ hT
      have z2 : wa13.cell? ⟨P13, 2, none⟩ = some (.int .i64 0) := by rw [cell_of_row _ _ 2 _ _ _ hT]; rfl
      have f2 := frozen_of_row _ _ 2 _ _ hT
      have z3 : wa13.cell? ⟨P13, 3, none⟩ = some (.int .i64 0) := by rw [cell_of_row _ _ 3 _ _ _ hT]; rfl
      have f3 := frozen_of_row _ _ 3 _ _ hT
      have z4 : wa13.cell? ⟨P13, 4, none⟩ = some (.int .i64 0) := by rw [cell_of_row _ _ 4 _ _ _ hT]; rfl
      have f4 := frozen_of_row _ _ 4 _ _ hT
      have z5 : wa13.cell? ⟨P13, 5, none⟩ = some (.int .i64 0) := by rw [cell_of_row _ _ 5 _ _ _ hT]; rfl
      have f5 := frozen_of_row _ _ 5 _ _ hT
      have z6 : wa13.cell? ⟨P13, 6, none⟩ = some (.slice none 0 0) := by rw [cell_of_row _ _ 6 _ _ _ hT]; rfl
      have f6 := frozen_of_row _ _ 6 _ _ hT
      have z7 : wa13.cell? ⟨P13, 7, none⟩ = some (.string ⟨#[]⟩) := by rw [cell_of_row _ _ 7 _ _ _ hT]; rfl
      have f7 := frozen_of_row _ _ 7 _ _ hT
      have z8 : wa13.cell? ⟨P13, 8, none⟩ = some (.slice none 0 0) := by rw [cell_of_row _ _ 8 _ _ _ hT]; rfl
      have f8 := frozen_of_row _ _ 8 _ _ hT
      have HWA13 := Aside0.mk hwa
      have HWB13 := Aside0.mk hwb
      have HPE13 := Aside0.mk hP
      clear hT hwa hwb hP
      have HBE := Aside0.mk (below_step HBD.out HBB13.out)
      have HEM := Aside0.mk (enc_c m D6 e6 D8 e8 wb13 (HLM.out.below HBB13.out) HMS.out l 0 (by rw [if_pos HMG.out.1, HMG.out.2]) (by rw [if_pos HMG.out.1]))
      obtain ⟨⟨x0, x1, x2, x3, x4, x5⟩, x6, x7, x8⟩ := cells_ms HBK13.out
      go_wp2_with (first | rw [← HPE13.out, ← HWA13.out] | rw [← HWB13.out])
      refine HEM.out.mono ?_
      rintro e wf ⟨Z, z, rfl, hz, hb⟩
      have HZ := Aside0.mk hz
      have HBF := Aside0.mk (below_step HBE.out hb)
      have hc1 := Sl.string (P := Try.prog) Try.underlying25 Try.underlying5 Try.underlying9 HZ.out
      have hc2 := Sl.string (P := Try.prog) Try.underlying25 Try.underlying5 Try.underlying9 (HSV.out.below HBF.out)
      clear z0 f0 z1 f1 z2 f2 z3 f3 z4 f4 z5 f5 z6 f6 z7 f7 z8 f8
      clear hz hb HEM x0 x1 x2 x3 x4 x5 x6 x7 x8
      go_wp2_with fail
      refine (lives_c _).mono ?_
      rintro e wg ⟨rfl, hb⟩
      have HBG := Aside0.mk (below_step HBF.out hb)
      clear hb hc1 hc2
      go_wp2_with fail
      go_ret
      exact ⟨rfl, HBG.out⟩
     ·have HD := Aside0.mk (dec_c w6 _ l (HSV.out.below HBW.out) HOK.out (by have := HLL.out; omega) _ _ hdr)
      obtain ⟨m, hm⟩ : ∃ m, m = noMs := ⟨_, rfl⟩
      rw [← hm] at HD
      clear hm hdr
      go_wp2_with fail
      refine HD.out.mono ?_
      rintro e wd ⟨D6, e6, D8, e8, rfl, hli, hb⟩
      have HLM := Aside0.mk hli
      have HBD := Aside0.mk (below_step HBW.out hb)
      clear hli hb HD
      obtain ⟨P13, hP⟩ : ∃ P, P = wd.heap.size := ⟨_, rfl⟩
      obtain ⟨wa13, hwa⟩ : ∃ wa, wa = wd.alloc (.cells #[(.int .i64 0), (.int .i64 0), (.int .i64 0), (.int .i64 0), (.int .i64 0), (.int .i64 0), (.slice none 0 0), (.string ⟨#[]⟩), (.slice none 0 0)] 44) := ⟨_, rfl⟩
      have hT : wa13.heap[P13]? = some (.cells #[(.int .i64 0), (.int .i64 0), (.int .i64 0), (.int .i64 0), (.int .i64 0), (.int .i64 0), (.slice none 0 0), (.string ⟨#[]⟩), (.slice none 0 0)] 44 (0, 0)) := by rw [hwa, hP]; exact Own.heap_new _ _
      obtain ⟨wb13, hwb⟩ : ∃ wb, wb = (((((((((wa13.setCell ⟨P13, 0, none⟩ (.int .i64 m.k)).setCell ⟨P13, 1, none⟩ (.int .i64 m.c)).setCell ⟨P13, 2, none⟩ (.int .i64 m.e)).setCell ⟨P13, 3, none⟩ (.int .i64 m.r)).setCell ⟨P13, 4, none⟩ (.int .i64 m.s)).setCell ⟨P13, 5, none⟩ (.int .i64 m.d)).setCell ⟨P13, 6, none⟩ (.slice D6 m.o.length e6)).setCell ⟨P13, 7, none⟩ (.string m.t)).setCell ⟨P13, 8, none⟩ (.slice D8 m.n.length e8)) := ⟨_, rfl⟩
      have HBB13 := Aside0.mk (show Below wd.heap.size wd wb13 by rw [hwb, hwa]; exact below_set9 (below_alloc (Below.refl _ _) _) (by omega) _ _ _ _ _ _ _ _ _)
      have HBK13 := Aside0.mk (show Blk P13 (m.mg D6 e6 D8 e8) wb13 by unfold Blk; rw [hwb]; exact set9 hT _ _ _ _ _ _ _ _ _)
      have z0 : wa13.cell? ⟨P13, 0, none⟩ = some (.int .i64 0) := by rw [cell_of_row _ _ 0 _ _ _ hT]; rfl
      have f0 := frozen_of_row _ _ 0 _ _ hT
      have z1 : wa13.cell? ⟨P13, 1, none⟩ = some (.int .i64 0) := by rw [cell_of_row _ _ 1 _ _ _ hT]; rfl
      have f1 := frozen_of_row _ _ 1 _ _ hT
      have z2 : wa13.cell? ⟨P13, 2, none⟩ = some (.int .i64 0) := by rw [cell_of_row _ _ 2 _ _ _ hT]; rfl
      have f2 := frozen_of_row _ _ 2 _ _ hT
      have z3 : wa13.cell? ⟨P13, 3, none⟩ = some (.int .i64 0) := by rw [cell_of_row _ _ 3 _ _ _ hT]; rfl
      have f3 := frozen_of_row _ _ 3 _ _ hT
      have z4 : wa13.cell? ⟨P13, 4, none⟩ = some (.int .i64 0) := by rw [cell_of_row _ _ 4 _ _ _ hT]; rfl
      have f4 := frozen_of_row _ _ 4 _ _ hT
      have z5 : wa13.cell? ⟨P13, 5, none⟩ = some (.int .i64 0) := by rw [cell_of_row _ _ 5 _ _ _ hT]; rfl
      have f5 := frozen_of_row _ _ 5 _ _ hT
      have z6 : wa13.cell? ⟨P13, 6, none⟩ = some (.slice none 0 0) := by rw [cell_of_row _ _ 6 _ _ _ hT]; rfl
      have f6 := frozen_of_row _ _ 6 _ _ hT
      have z7 : wa13.cell? ⟨P13, 7, none⟩ = some (.string ⟨#[]⟩) := by rw [cell_of_row _ _ 7 _ _ _ hT]; rfl
      have f7 := frozen_of_row _ _ 7 _ _ hT
      have z8 : wa13.cell? ⟨P13, 8, none⟩ = some (.slice none 0 0) := by rw [cell_of_row _ _ 8 _ _ _ hT]; rfl
      have f8 := frozen_of_row _ _ 8 _ _ hT
      have HWA13 := Aside0.mk hwa
      have HWB13 := Aside0.mk hwb
      have HPE13 := Aside0.mk hP
      clear hT hwa hwb hP
      have HBE := Aside0.mk (below_step HBD.out HBB13.out)
      go_wp2_with (first | rw [← HPE13.out, ← HWA13.out] | rw [← HWB13.out])
      refine (lives_c _).mono ?_
      rintro e wg ⟨rfl, hb⟩
      have HBG := Aside0.mk (below_step HBE.out hb)
      clear z0 f0 z1 f1 z2 f2 z3 f3 z4 f4 z5 f5 z6 f6 z7 f7 z8 f8
      clear hb
      go_wp2_with fail
      go_ret
      exact ⟨rfl, HBG.out⟩
    | true =>
     rw [hgp] at HGDP
     have HEP := Aside0.mk (enc_c p A6 c6 A8 c8 w3 (HLP.out.below HX3.out) SP.out.small p.encL 0 (by rw [hgp]; rfl) (by rw [hgp]; rfl))
     obtain ⟨⟨x0, x1, x2, x3, x4, x5⟩, x6, x7, x8⟩ := cells_ms (HBP.out.below HX3.out)
     go_wp2_with fail
     refine HEP.out.mono ?_
     rintro e w4 ⟨A5, c5, rfl, hs5, hb⟩
     have HX4 := Aside0.mk (below_step HX3.out hb)
     have HL4 := Aside0.mk (below_step HL3.out hb)
     have HS5 := Aside0.mk hs5
     clear hb hs5 HEP x0 x1 x2 x3 x4 x5 x6 x7 x8
     obtain ⟨⟨y0, y1, y2, y3, y4, y5⟩, y6, y7, y8⟩ := cells_ms (HBQ.out.below HX4.out)
     go_wp2_with fail
     refine (HEQ.out w4 HX4.out).mono ?_
     rintro e w5 ⟨A7, c7, rfl, hs7, hb⟩
     have HX5 := Aside0.mk (below_step HX4.out hb)
     have HL5 := Aside0.mk (below_step HL4.out hb)
     have HS7 := Aside0.mk hs7
     have HS55 := Aside0.mk (HS5.out.below hb)
     clear hb hs7 HEQ y0 y1 y2 y3 y4 y5 y6 y7 y8
     obtain ⟨⟨x0, x1, x2, x3, x4, x5⟩, x6, x7, x8⟩ := cells_ms (HBP.out.below HX5.out)
     go_wp2_with fail
     refine (HGDP.out w5 HX5.out).mono ?_
     rintro e w6 ⟨rfl, hb⟩
     have HX6 := Aside0.mk (below_step HX5.out hb)
     have HL6 := Aside0.mk (below_step HL5.out hb)
     have HS56 := Aside0.mk (HS55.out.below hb)
     have HS76 := Aside0.mk (HS7.out.below hb)
     have HD1 := Aside0.mk (dec_c w6 _ p.encL HS56.out (ok_encL p) (lite_len SP.out) p 0 (dec_enc hgp))
     clear hb HGDP x0 x1 x2 x3 x4 x5 x6 x7 x8
     go_wp2_with fail
     refine HD1.out.mono ?_
     rintro e w7 ⟨G6, g6, G8, g8, rfl, hli, hb⟩
     have HLG := Aside0.mk hli
     have HX7 := Aside0.mk (below_step HX6.out hb)
     have HL7 := Aside0.mk (below_step HL6.out hb)
     have HS57 := Aside0.mk (HS56.out.below hb)
     have HS77 := Aside0.mk (HS76.out.below hb)
     clear hli hb HD1
     obtain ⟨P11, hP⟩ : ∃ P, P = w7.heap.size := ⟨_, rfl⟩
     obtain ⟨wa11, hwa⟩ : ∃ wa, wa = w7.alloc (.cells #[(.int .i64 0), (.int .i64 0), (.int .i64 0), (.int .i64 0), (.int .i64 0), (.int .i64 0), (.slice none 0 0), (.string ⟨#[]⟩), (.slice none 0 0)] 44) := ⟨_, rfl⟩
     have hT : wa11.heap[P11]? = some (.cells #[(.int .i64 0), (.int .i64 0), (.int .i64 0), (.int .i64 0), (.int .i64 0), (.int .i64 0), (.slice none 0 0), (.string ⟨#[]⟩), (.slice none 0 0)] 44 (0, 0)) := by rw [hwa, hP]; exact Own.heap_new _ _
     obtain ⟨wb11, hwb⟩ : ∃ wb, wb = (((((((((wa11.setCell ⟨P11, 0, none⟩ (.int .i64 p.k)).setCell ⟨P11, 1, none⟩ (.int .i64 p.c)).setCell ⟨P11, 2, none⟩ (.int .i64 p.e)).setCell ⟨P11, 3, none⟩ (.int .i64 p.r)).setCell ⟨P11, 4, none⟩ (.int .i64 p.s)).setCell ⟨P11, 5, none⟩ (.int .i64 p.d)).setCell ⟨P11, 6, none⟩ (.slice G6 p.o.length g6)).setCell ⟨P11, 7, none⟩ (.string p.t)).setCell ⟨P11, 8, none⟩ (.slice G8 p.n.length g8)) := ⟨_, rfl⟩
     have HBB11 := Aside0.mk (show Below w7.heap.size w7 wb11 by rw [hwb, hwa]; exact below_set9 (below_alloc (Below.refl _ _) _) (by omega) _ _ _ _ _ _ _ _ _)
     have HBK11 := Aside0.mk (show Blk P11 (p.mg G6 g6 G8 g8) wb11 by unfold Blk; rw [hwb]; exact set9 hT _ _ _ _ _ _ _ _ _)
     have z0 : wa11.cell? ⟨P11, 0, none⟩ = some (.int .i64 0) := by rw [cell_of_row _ _ 0 _ _ _ hT]; rfl
     have f0 := frozen_of_row _ _ 0 _ _ hT
     have z1 : wa11.cell? ⟨P11, 1, none⟩ = some (.int .i64 0) := by rw [cell_of_row _ _ 1 _ _ _ hT]; rfl
     have f1 := frozen_of_row _ _ 1 _ _ hT
     have z2 : wa11.cell? ⟨P11, 2, none⟩ = some (.int .i64 0) := by rw [cell_of_row _ _ 2 _ _ _ hT]; rfl
     have f2 := frozen_of_row _ _ 2 _ _ hT
     have z3 : wa11.cell? ⟨P11, 3, none⟩ = some (.int .i64 0) := by rw [cell_of_row _ _ 3 _ _ _ hT]; rfl
     have f3 := frozen_of_row _ _ 3 _ _ hT
     have z4 : wa11.cell? ⟨P11, 4, none⟩ = some (.int .i64 0) := by rw [cell_of_row _ _ 4 _ _ _ hT]; rfl
     have f4 := frozen_of_row _ _ 4 _ _ hT
     have z5 : wa11.cell? ⟨P11, 5, none⟩ = some (.int .i64 0) := by rw [cell_of_row _ _ 5 _ _ _ hT]; rfl
     have f5 := frozen_of_row _ _ 5 _ _ hT
     have z6 : wa11.cell? ⟨P11, 6, none⟩ = some (.slice none 0 0) := by rw [cell_of_row _ _ 6 _ _ _ hT]; rfl
     have f6 := frozen_of_row _ _ 6 _ _ hT
     have z7 : wa11.cell? ⟨P11, 7, none⟩ = some (.string ⟨#[]⟩) := by rw [cell_of_row _ _ 7 _ _ _ hT]; rfl
     have f7 := frozen_of_row _ _ 7 _ _ hT
     have z8 : wa11.cell? ⟨P11, 8, none⟩ = some (.slice none 0 0) := by rw [cell_of_row _ _ 8 _ _ _ hT]; rfl
     have f8 := frozen_of_row _ _ 8 _ _ hT
     have HWA11 := Aside0.mk hwa
     have HWB11 := Aside0.mk hwb
     have HPE11 := Aside0.mk hP
     clear hT hwa hwb hP
     have HX8 := Aside0.mk (below_step HX7.out HBB11.out)
     have HL8 := Aside0.mk (below_step HL7.out HBB11.out)
     have HS58 := Aside0.mk (HS57.out.below HBB11.out)
     have HS78 := Aside0.mk (HS77.out.below HBB11.out)
     have HLG8 := Aside0.mk (HLG.out.below HBB11.out)
     have HALG := Aside0.mk (fun W (hb : Below wb11.heap.size wb11 W) => cells_ms (HBK11.out.below hb))
     have HALP := Aside0.mk (fun W (hb : Below wb11.heap.size wb11 W) => cells_ms (HBP.out.below (below_step HX8.out hb)))
     have HALQ := Aside0.mk (fun W (hb : Below wb11.heap.size wb11 W) => cells_ms (HBQ.out.below (below_step HX8.out hb)))
     obtain ⟨sm, hsm⟩ : ∃ sm : Bool, (sm = true ↔ p = q) := by
      by_cases h : p = q
      ·exact ⟨true, by simp [h]⟩
      ·exact ⟨false, by simp [h]⟩
     have HSMI := Aside0.mk hsm
     have HSM1 := Aside0.mk (fun W (hb : Below wb11.heap.size wb11 W) => rsame_c p p G6 g6 G8 g8 A6 c6 A8 c8 W (HLG8.out.below hb) (HLP.out.below (below_step HX8.out hb)) SP.out.small.o SP.out.small.n true (by simp))
     have HSM2 := Aside0.mk (fun W (hb : Below wb11.heap.size wb11 W) => rsame_c p q A6 c6 A8 c8 B6 d6 B8 d8 W (HLP.out.below (below_step HX8.out hb)) (HLQ.out.below (below_step HX8.out hb)) SP.out.small.o SP.out.small.n sm hsm)
     have HB := Aside0.mk (Below.refl wb11.heap.size wb11)
     clear hsm
     cases hgq : q.good with
     | false =>
      have hF2 : F = 2 := by rw [HFE.out, hgq]; rfl
      subst hF2
      go_wp2_with (first | rw [← HPE11.out, ← HWA11.out] | rw [← HWB11.out])
      clear z0 f0 z1 f1 z2 f2 z3 f3 z4 f4 z5 f5 z6 f6 z7 f7 z8 f8
      clear hgp hgq
      refine start_ (n := 23) (S := fun w' => True) (ds := []) #[false, false, false, false, false, false, false, false, false, false, false, false, false, false, false, false, false, false, false, false, false, false, false] (by kernel_rfl) rfl rfl trivial (fun hHeld => ?_); refine with_tabW R9.tab9 R9.bits9 (fun HT_ HW_ => ?_)
      refine inv_at [0, 1, 2, 3, 4, 5, 6, 7, 8, 9, 10, 11, 12, 13, 14, 15, 16, 17, 18, 19, 20, 21, 22] (fun a0_ b a w' => a = putSel a0_ b [(0, 53, (.int .i64 0)), (1, 54, (.bool false)), (2, 55, (.bool false)), (3, 56, (.agg #[.int .i64 p.k, .int .i64 p.c, .int .i64 p.e, .int .i64 p.r, .int .i64 p.s, .int .i64 p.d, .slice G6 p.o.length g6, .string p.t, .slice G8 p.n.length g8])), (4, 57, (.agg #[.int .i64 p.k, .int .i64 p.c, .int .i64 p.e, .int .i64 p.r, .int .i64 p.s, .int .i64 p.d, .slice A6 p.o.length c6, .string p.t, .slice A8 p.n.length c8])), (5, 58, (.bool true)), (6, 59, (.bool false)), (7, 60, (.bool false)), (8, 61, (.bool false)), (9, 62, (.int .i64 2)), (10, 63, (.bool false)), (11, 64, (.bool false)), (12, 65, undef), (13, 66, undef), (14, 67, undef), (15, 68, undef), (16, 69, undef), (17, 70, undef), (18, 71, undef), (19, 72, undef), (20, 73, undef), (21, 74, (.bool false)), (22, 75, (.bool false))] ∧ (Below wb11.heap.size wb11 w')) HT_.out HW_.out (by kernel_rfl) (by kernel_rfl) ?_ ?_ ?_
      ·exact ⟨by simp only [putSel, Bool.false_eq_true, if_false], below_drew1 HB.out⟩
      ·skip
       clear HB
       refine steps_cons ?_ ?_
       ·rintro b a w' ⟨ha, Q_HB⟩ hb_ hon hoff
        refine ⟨_, rfl, fun K hK => ?_⟩
        have e12 : a.tmps[12]? = some ((.int .i64 0)) := by rw [ha]; exact (putSel_off rfl).trans rfl
        replace ha := Aside0.mk ha
        have HB := Aside0.mk Q_HB
        refine value_ (w1 := w') (v := (.int .i64 0)) (by rfl) rfl ?_ ?_
        ·go_simp
         (try simp only [i64_w])
         try (first | rfl | assumption)
        refine hK.out _ _ ⟨(by rw [ha.out]; exact putSel_upk 0 hb_ rfl rfl rfl), Q_HB⟩
       refine steps_cons ?_ ?_
       ·rintro b a w' ⟨ha, Q_HB⟩ hb_ hon hoff
        refine ⟨_, rfl, fun K hK => ?_⟩
        have e53 : a.tmps[53]? = some ((.int .i64 0)) := by rw [ha]; exact putSel_on (e := (0, 53, (.int .i64 0))) 0 rfl rfl (hon 0 (by kernel_rfl)) rfl
        replace ha := Aside0.mk ha
        have HB := Aside0.mk Q_HB
        refine value_ (w1 := w') (v := (.bool false)) (by rfl) rfl ?_ ?_
        ·go_simp
         (try simp only [i64_w])
         try (first | rfl | assumption)
        refine hK.out _ _ ⟨(by rw [ha.out]; exact putSel_upk 1 hb_ rfl rfl rfl), Q_HB⟩
       refine steps_cons ?_ ?_
       ·rintro b a w' ⟨ha, Q_HB⟩ hb_ hon hoff
        refine ⟨_, rfl, fun K hK => ?_⟩
        have e54 : a.tmps[54]? = some ((.bool false)) := by rw [ha]; exact putSel_on (e := (1, 54, (.bool false))) 1 rfl rfl (hon 1 (by kernel_rfl)) rfl
        replace ha := Aside0.mk ha
        have HB := Aside0.mk Q_HB
        refine value_ (w1 := w') (v := (.bool false)) (by rfl) rfl ?_ ?_
        ·go_simp
         (try simp only [i64_w])
         try (first | rfl | assumption)
        refine hK.out _ _ ⟨(by rw [ha.out]; exact putSel_upk 2 hb_ rfl rfl rfl), Q_HB⟩
       refine steps_cons ?_ ?_
       ·rintro b a w' ⟨ha, Q_HB⟩ hb_ hon hoff
        refine ⟨_, rfl, fun K hK => ?_⟩
        have e11 : a.tmps[11]? = some ((.pointer (some ⟨P11, 0, none⟩))) := by rw [ha]; exact (putSel_off rfl).trans rfl
        have e55 : a.tmps[55]? = some ((.bool false)) := by rw [ha]; exact putSel_on (e := (2, 55, (.bool false))) 2 rfl rfl (hon 2 (by kernel_rfl)) rfl
        replace ha := Aside0.mk ha
        have HB := Aside0.mk Q_HB
        obtain ⟨⟨x0_, x1_, x2_, x3_, x4_, x5_⟩, x6_, x7_, x8_⟩ := HALG.out _ HB.out
        refine value_ (w1 := w') (v := (.agg #[.int .i64 p.k, .int .i64 p.c, .int .i64 p.e, .int .i64 p.r, .int .i64 p.s, .int .i64 p.d, .slice G6 p.o.length g6, .string p.t, .slice G8 p.n.length g8])) (wanted_on rfl rfl rfl (e55.trans (by first | rfl | (simp [*]; done)))) rfl ?_ ?_
        ·go_simp
         (try simp only [i64_w])
         try (first | rfl | assumption)
        refine hK.out _ _ ⟨(by rw [ha.out]; exact putSel_upk 3 hb_ rfl rfl rfl), Q_HB⟩
       refine steps_cons ?_ ?_
       ·rintro b a w' ⟨ha, Q_HB⟩ hb_ hon hoff
        refine ⟨_, rfl, fun K hK => ?_⟩
        have e3 : a.tmps[3]? = some ((.pointer (some ⟨P, 0, none⟩))) := by rw [ha]; exact (putSel_off rfl).trans rfl
        have e55 : a.tmps[55]? = some ((.bool false)) := by rw [ha]; exact putSel_on (e := (2, 55, (.bool false))) 2 rfl rfl (hon 2 (by kernel_rfl)) rfl
        replace ha := Aside0.mk ha
        have HB := Aside0.mk Q_HB
        obtain ⟨⟨x0_, x1_, x2_, x3_, x4_, x5_⟩, x6_, x7_, x8_⟩ := HALP.out _ HB.out
        refine value_ (w1 := w') (v := (.agg #[.int .i64 p.k, .int .i64 p.c, .int .i64 p.e, .int .i64 p.r, .int .i64 p.s, .int .i64 p.d, .slice A6 p.o.length c6, .string p.t, .slice A8 p.n.length c8])) (wanted_on rfl rfl rfl (e55.trans (by first | rfl | (simp [*]; done)))) rfl ?_ ?_
        ·go_simp
         (try simp only [i64_w])
         try (first | rfl | assumption)
        refine hK.out _ _ ⟨(by rw [ha.out]; exact putSel_upk 4 hb_ rfl rfl rfl), Q_HB⟩
       refine steps_cons ?_ ?_
       ·rintro b a w' ⟨ha, Q_HB⟩ hb_ hon hoff
        refine ⟨_, rfl, fun K hK => ?_⟩
        have e56 : a.tmps[56]? = some ((.agg #[.int .i64 p.k, .int .i64 p.c, .int .i64 p.e, .int .i64 p.r, .int .i64 p.s, .int .i64 p.d, .slice G6 p.o.length g6, .string p.t, .slice G8 p.n.length g8])) := by rw [ha]; exact putSel_on (e := (3, 56, (.agg #[.int .i64 p.k, .int .i64 p.c, .int .i64 p.e, .int .i64 p.r, .int .i64 p.s, .int .i64 p.d, .slice G6 p.o.length g6, .string p.t, .slice G8 p.n.length g8]))) 3 rfl rfl (hon 3 (by kernel_rfl)) rfl
        have e57 : a.tmps[57]? = some ((.agg #[.int .i64 p.k, .int .i64 p.c, .int .i64 p.e, .int .i64 p.r, .int .i64 p.s, .int .i64 p.d, .slice A6 p.o.length c6, .string p.t, .slice A8 p.n.length c8])) := by rw [ha]; exact putSel_on (e := (4, 57, (.agg #[.int .i64 p.k, .int .i64 p.c, .int .i64 p.e, .int .i64 p.r, .int .i64 p.s, .int .i64 p.d, .slice A6 p.o.length c6, .string p.t, .slice A8 p.n.length c8]))) 4 rfl rfl (hon 4 (by kernel_rfl)) rfl
        have e55 : a.tmps[55]? = some ((.bool false)) := by rw [ha]; exact putSel_on (e := (2, 55, (.bool false))) 2 rfl rfl (hon 2 (by kernel_rfl)) rfl
        replace ha := Aside0.mk ha
        have HB := Aside0.mk Q_HB
        refine goes_ Try.func26 (by kernel_rfl) rfl #[.agg #[.int .i64 p.k, .int .i64 p.c, .int .i64 p.e, .int .i64 p.r, .int .i64 p.s, .int .i64 p.d, .slice G6 p.o.length g6, .string p.t, .slice G8 p.n.length g8], .agg #[.int .i64 p.k, .int .i64 p.c, .int .i64 p.e, .int .i64 p.r, .int .i64 p.s, .int .i64 p.d, .slice A6 p.o.length c6, .string p.t, .slice A8 p.n.length c8]] (wanted_on rfl rfl rfl (e55.trans (by first | rfl | (simp [*]; done)))) rfl rfl (by first | (simp only [List.map_toArray, List.map_cons, List.map_nil, Act.eval, Array.getD_eq_getD_getElem?, Option.getD_some, e56, e57, e55]; done) | (simp only [List.map_toArray, List.map_cons, List.map_nil, Act.eval, Array.getD_eq_getD_getElem?, Option.getD_some, e56, e57, e55]; rfl)) ?_
        refine (HSM1.out _ HB.out).mono ?_
        rintro e w1_ ⟨rfl, hb⟩
        refine ⟨_, rfl, ?_⟩
        refine hK.out _ _ ⟨(by rw [ha.out]; exact putSel_upk 5 hb_ rfl rfl rfl), below_step HB.out hb⟩
       refine steps_cons ?_ ?_
       ·rintro b a w' ⟨ha, Q_HB⟩ hb_ hon hoff
        refine ⟨_, rfl, fun K hK => ?_⟩
        have e58 : a.tmps[58]? = some ((.bool true)) := by rw [ha]; exact putSel_on (e := (5, 58, (.bool true))) 5 rfl rfl (hon 5 (by kernel_rfl)) rfl
        have e55 : a.tmps[55]? = some ((.bool false)) := by rw [ha]; exact putSel_on (e := (2, 55, (.bool false))) 2 rfl rfl (hon 2 (by kernel_rfl)) rfl
        replace ha := Aside0.mk ha
        have HB := Aside0.mk Q_HB
        refine value_ (w1 := w') (v := (.bool false)) (wanted_on rfl rfl rfl (e55.trans (by first | rfl | (simp [*]; done)))) rfl ?_ ?_
        ·go_simp
         (try simp only [i64_w])
         try (first | rfl | assumption)
        refine hK.out _ _ ⟨(by rw [ha.out]; exact putSel_upk 6 hb_ rfl rfl rfl), Q_HB⟩
       refine steps_cons ?_ ?_
       ·rintro b a w' ⟨ha, Q_HB⟩ hb_ hon hoff
        refine ⟨_, rfl, fun K hK => ?_⟩
        have e55 : a.tmps[55]? = some ((.bool false)) := by rw [ha]; exact putSel_on (e := (2, 55, (.bool false))) 2 rfl rfl (hon 2 (by kernel_rfl)) rfl
        have e59 : a.tmps[59]? = some ((.bool false)) := by rw [ha]; exact putSel_on (e := (6, 59, (.bool false))) 6 rfl rfl (hon 6 (by kernel_rfl)) rfl
        replace ha := Aside0.mk ha
        have HB := Aside0.mk Q_HB
        refine value_ (w1 := w') (v := (.bool false)) (by rfl) rfl ?_ ?_
        ·go_simp
         (try simp only [i64_w])
         try (first | rfl | assumption)
        refine hK.out _ _ ⟨(by rw [ha.out]; exact putSel_upk 7 hb_ rfl rfl rfl), Q_HB⟩
       refine steps_cons ?_ ?_
       ·rintro b a w' ⟨ha, Q_HB⟩ hb_ hon hoff
        refine ⟨_, rfl, fun K hK => ?_⟩
        have e60 : a.tmps[60]? = some ((.bool false)) := by rw [ha]; exact putSel_on (e := (7, 60, (.bool false))) 7 rfl rfl (hon 7 (by kernel_rfl)) rfl
        replace ha := Aside0.mk ha
        have HB := Aside0.mk Q_HB
        refine value_ (w1 := w') (v := (.bool false)) (by rfl) rfl ?_ ?_
        ·go_simp
         (try simp only [i64_w])
         try (first | rfl | assumption)
        refine hK.out _ _ ⟨(by rw [ha.out]; exact putSel_upk 8 hb_ rfl rfl rfl), Q_HB⟩
       refine steps_cons ?_ ?_
       ·rintro b a w' ⟨ha, Q_HB⟩ hb_ hon hoff
        refine ⟨_, rfl, fun K hK => ?_⟩
        have e10 : a.tmps[10]? = some ((.int .i64 2)) := by rw [ha]; exact (putSel_off rfl).trans rfl
        have e61 : a.tmps[61]? = some ((.bool false)) := by rw [ha]; exact putSel_on (e := (8, 61, (.bool false))) 8 rfl rfl (hon 8 (by kernel_rfl)) rfl
        replace ha := Aside0.mk ha
        have HB := Aside0.mk Q_HB
        refine value_ (w1 := w') (v := (.int .i64 2)) (wanted_on rfl rfl rfl (e61.trans (by first | rfl | (simp [*]; done)))) rfl ?_ ?_
        ·go_simp
         (try simp only [i64_w])
         try (first | rfl | assumption)
        refine hK.out _ _ ⟨(by rw [ha.out]; exact putSel_upk 9 hb_ rfl rfl rfl), Q_HB⟩
       refine steps_cons ?_ ?_
       ·rintro b a w' ⟨ha, Q_HB⟩ hb_ hon hoff
        refine ⟨_, rfl, fun K hK => ?_⟩
        have e62 : a.tmps[62]? = some ((.int .i64 2)) := by rw [ha]; exact putSel_on (e := (9, 62, (.int .i64 2))) 9 rfl rfl (hon 9 (by kernel_rfl)) rfl
        have e61 : a.tmps[61]? = some ((.bool false)) := by rw [ha]; exact putSel_on (e := (8, 61, (.bool false))) 8 rfl rfl (hon 8 (by kernel_rfl)) rfl
        replace ha := Aside0.mk ha
        have HB := Aside0.mk Q_HB
        refine value_ (w1 := w') (v := (.bool false)) (wanted_on rfl rfl rfl (e61.trans (by first | rfl | (simp [*]; done)))) rfl ?_ ?_
        ·go_simp
         (try simp only [i64_w])
         try (first | rfl | assumption)
        refine hK.out _ _ ⟨(by rw [ha.out]; exact putSel_upk 10 hb_ rfl rfl rfl), Q_HB⟩
       refine steps_cons ?_ ?_
       ·rintro b a w' ⟨ha, Q_HB⟩ hb_ hon hoff
        refine ⟨_, rfl, fun K hK => ?_⟩
        have e63 : a.tmps[63]? = some ((.bool false)) := by rw [ha]; exact putSel_on (e := (10, 63, (.bool false))) 10 rfl rfl (hon 10 (by kernel_rfl)) rfl
        have e61 : a.tmps[61]? = some ((.bool false)) := by rw [ha]; exact putSel_on (e := (8, 61, (.bool false))) 8 rfl rfl (hon 8 (by kernel_rfl)) rfl
        replace ha := Aside0.mk ha
        have HB := Aside0.mk Q_HB
        refine value_ (w1 := w') (v := (.bool false)) (wanted_on rfl rfl rfl (e61.trans (by first | rfl | (simp [*]; done)))) rfl ?_ ?_
        ·go_simp
         (try simp only [i64_w])
         try (first | rfl | assumption)
        refine hK.out _ _ ⟨(by rw [ha.out]; exact putSel_upk 11 hb_ rfl rfl rfl), Q_HB⟩
       refine steps_cons ?_ ?_
       ·rintro b a w' ⟨ha, Q_HB⟩ hb_ hon hoff
        refine ⟨_, rfl, fun K hK => ?_⟩
        have e64 : a.tmps[64]? = some ((.bool false)) := by rw [ha]; exact putSel_on (e := (11, 64, (.bool false))) 11 rfl rfl (hon 11 (by kernel_rfl)) rfl
        replace ha := Aside0.mk ha
        have HB := Aside0.mk Q_HB
        refine off_ (wanted_off rfl rfl rfl (e64.trans (by first | rfl | (simp [*]; done)))) ?_
        refine hK.out _ _ ⟨(by rw [ha.out]; exact putSel_upk 12 hb_ rfl rfl rfl), Q_HB⟩
       refine steps_cons ?_ ?_
       ·rintro b a w' ⟨ha, Q_HB⟩ hb_ hon hoff
        refine ⟨_, rfl, fun K hK => ?_⟩
        have e64 : a.tmps[64]? = some ((.bool false)) := by rw [ha]; exact putSel_on (e := (11, 64, (.bool false))) 11 rfl rfl (hon 11 (by kernel_rfl)) rfl
        replace ha := Aside0.mk ha
        have HB := Aside0.mk Q_HB
        refine off_ (wanted_off rfl rfl rfl (e64.trans (by first | rfl | (simp [*]; done)))) ?_
        refine hK.out _ _ ⟨(by rw [ha.out]; exact putSel_upk 13 hb_ rfl rfl rfl), Q_HB⟩
       refine steps_cons ?_ ?_
       ·rintro b a w' ⟨ha, Q_HB⟩ hb_ hon hoff
        refine ⟨_, rfl, fun K hK => ?_⟩
        have e64 : a.tmps[64]? = some ((.bool false)) := by rw [ha]; exact putSel_on (e := (11, 64, (.bool false))) 11 rfl rfl (hon 11 (by kernel_rfl)) rfl
        replace ha := Aside0.mk ha
        have HB := Aside0.mk Q_HB
        refine off_ (wanted_off rfl rfl rfl (e64.trans (by first | rfl | (simp [*]; done)))) ?_
        refine hK.out _ _ ⟨(by rw [ha.out]; exact putSel_upk 14 hb_ rfl rfl rfl), Q_HB⟩
       refine steps_cons ?_ ?_
       ·rintro b a w' ⟨ha, Q_HB⟩ hb_ hon hoff
        refine ⟨_, rfl, fun K hK => ?_⟩
        have e64 : a.tmps[64]? = some ((.bool false)) := by rw [ha]; exact putSel_on (e := (11, 64, (.bool false))) 11 rfl rfl (hon 11 (by kernel_rfl)) rfl
        replace ha := Aside0.mk ha
        have HB := Aside0.mk Q_HB
        refine off_ (wanted_off rfl rfl rfl (e64.trans (by first | rfl | (simp [*]; done)))) ?_
        refine hK.out _ _ ⟨(by rw [ha.out]; exact putSel_upk 15 hb_ rfl rfl rfl), Q_HB⟩
       refine steps_cons ?_ ?_
       ·rintro b a w' ⟨ha, Q_HB⟩ hb_ hon hoff
        refine ⟨_, rfl, fun K hK => ?_⟩
        have e64 : a.tmps[64]? = some ((.bool false)) := by rw [ha]; exact putSel_on (e := (11, 64, (.bool false))) 11 rfl rfl (hon 11 (by kernel_rfl)) rfl
        replace ha := Aside0.mk ha
        have HB := Aside0.mk Q_HB
        refine off_ (wanted_off rfl rfl rfl (e64.trans (by first | rfl | (simp [*]; done)))) ?_
        refine hK.out _ _ ⟨(by rw [ha.out]; exact putSel_upk 16 hb_ rfl rfl rfl), Q_HB⟩
       refine steps_cons ?_ ?_
       ·rintro b a w' ⟨ha, Q_HB⟩ hb_ hon hoff
        refine ⟨_, rfl, fun K hK => ?_⟩
        have e64 : a.tmps[64]? = some ((.bool false)) := by rw [ha]; exact putSel_on (e := (11, 64, (.bool false))) 11 rfl rfl (hon 11 (by kernel_rfl)) rfl
        replace ha := Aside0.mk ha
        have HB := Aside0.mk Q_HB
        refine off_ (wanted_off rfl rfl rfl (e64.trans (by first | rfl | (simp [*]; done)))) ?_
        refine hK.out _ _ ⟨(by rw [ha.out]; exact putSel_upk 17 hb_ rfl rfl rfl), Q_HB⟩
       refine steps_cons ?_ ?_
       ·rintro b a w' ⟨ha, Q_HB⟩ hb_ hon hoff
        refine ⟨_, rfl, fun K hK => ?_⟩
        have e64 : a.tmps[64]? = some ((.bool false)) := by rw [ha]; exact putSel_on (e := (11, 64, (.bool false))) 11 rfl rfl (hon 11 (by kernel_rfl)) rfl
        replace ha := Aside0.mk ha
        have HB := Aside0.mk Q_HB
        refine off_ (wanted_off rfl rfl rfl (e64.trans (by first | rfl | (simp [*]; done)))) ?_
        refine hK.out _ _ ⟨(by rw [ha.out]; exact putSel_upk 18 hb_ rfl rfl rfl), Q_HB⟩
       refine steps_cons ?_ ?_
       ·rintro b a w' ⟨ha, Q_HB⟩ hb_ hon hoff
        refine ⟨_, rfl, fun K hK => ?_⟩
        have e64 : a.tmps[64]? = some ((.bool false)) := by rw [ha]; exact putSel_on (e := (11, 64, (.bool false))) 11 rfl rfl (hon 11 (by kernel_rfl)) rfl
        replace ha := Aside0.mk ha
        have HB := Aside0.mk Q_HB
        refine off_ (wanted_off rfl rfl rfl (e64.trans (by first | rfl | (simp [*]; done)))) ?_
        refine hK.out _ _ ⟨(by rw [ha.out]; exact putSel_upk 19 hb_ rfl rfl rfl), Q_HB⟩
       refine steps_cons ?_ ?_
       ·rintro b a w' ⟨ha, Q_HB⟩ hb_ hon hoff
        refine ⟨_, rfl, fun K hK => ?_⟩
        have e64 : a.tmps[64]? = some ((.bool false)) := by rw [ha]; exact putSel_on (e := (11, 64, (.bool false))) 11 rfl rfl (hon 11 (by kernel_rfl)) rfl
        replace ha := Aside0.mk ha
        have HB := Aside0.mk Q_HB
        refine off_ (wanted_off rfl rfl rfl (e64.trans (by first | rfl | (simp [*]; done)))) ?_
        refine hK.out _ _ ⟨(by rw [ha.out]; exact putSel_upk 20 hb_ rfl rfl rfl), Q_HB⟩
       refine steps_cons ?_ ?_
       ·rintro b a w' ⟨ha, Q_HB⟩ hb_ hon hoff
        refine ⟨_, rfl, fun K hK => ?_⟩
        have e64 : a.tmps[64]? = some ((.bool false)) := by rw [ha]; exact putSel_on (e := (11, 64, (.bool false))) 11 rfl rfl (hon 11 (by kernel_rfl)) rfl
        have e73 : a.tmps[73]? = some (undef) := by rw [ha]; exact putSel_on (e := (20, 73, undef)) 20 rfl rfl (hon 20 (by kernel_rfl)) rfl
        have e61 : a.tmps[61]? = some ((.bool false)) := by rw [ha]; exact putSel_on (e := (8, 61, (.bool false))) 8 rfl rfl (hon 8 (by kernel_rfl)) rfl
        replace ha := Aside0.mk ha
        have HB := Aside0.mk Q_HB
        refine value_ (w1 := w') (v := (.bool false)) (wanted_on rfl rfl rfl (e61.trans (by first | rfl | (simp [*]; done)))) rfl ?_ ?_
        ·go_simp
         (try simp only [i64_w])
         try (first | rfl | assumption)
        refine hK.out _ _ ⟨(by rw [ha.out]; exact putSel_upk 21 hb_ rfl rfl rfl), Q_HB⟩
       refine steps_cons ?_ ?_
       ·rintro b a w' ⟨ha, Q_HB⟩ hb_ hon hoff
        refine ⟨_, rfl, fun K hK => ?_⟩
        have e61 : a.tmps[61]? = some ((.bool false)) := by rw [ha]; exact putSel_on (e := (8, 61, (.bool false))) 8 rfl rfl (hon 8 (by kernel_rfl)) rfl
        have e74 : a.tmps[74]? = some ((.bool false)) := by rw [ha]; exact putSel_on (e := (21, 74, (.bool false))) 21 rfl rfl (hon 21 (by kernel_rfl)) rfl
        replace ha := Aside0.mk ha
        have HB := Aside0.mk Q_HB
        refine value_ (w1 := w') (v := (.bool false)) (by rfl) rfl ?_ ?_
        ·go_simp
         (try simp only [i64_w])
         try (first | rfl | assumption)
        refine hK.out _ _ ⟨(by rw [ha.out]; exact putSel_upk 22 hb_ rfl rfl rfl), Q_HB⟩
       exact steps_nil
      rintro b a we hall ⟨ha, Q_HB⟩
      clear HB
      have hb0_ := hall 0 (by kernel_rfl)
      have hb1_ := hall 1 (by kernel_rfl)
      have hb2_ := hall 2 (by kernel_rfl)
      have hb3_ := hall 3 (by kernel_rfl)
      have hb4_ := hall 4 (by kernel_rfl)
      have hb5_ := hall 5 (by kernel_rfl)
      have hb6_ := hall 6 (by kernel_rfl)
      have hb7_ := hall 7 (by kernel_rfl)
      have hb8_ := hall 8 (by kernel_rfl)
      have hb9_ := hall 9 (by kernel_rfl)
      have hb10_ := hall 10 (by kernel_rfl)
      have hb11_ := hall 11 (by kernel_rfl)
      have hb12_ := hall 12 (by kernel_rfl)
      have hb13_ := hall 13 (by kernel_rfl)
      have hb14_ := hall 14 (by kernel_rfl)
      have hb15_ := hall 15 (by kernel_rfl)
      have hb16_ := hall 16 (by kernel_rfl)
      have hb17_ := hall 17 (by kernel_rfl)
      have hb18_ := hall 18 (by kernel_rfl)
      have hb19_ := hall 19 (by kernel_rfl)
      have hb20_ := hall 20 (by kernel_rfl)
      have hb21_ := hall 21 (by kernel_rfl)
      have hb22_ := hall 22 (by kernel_rfl)
      subst ha
      simp only [putSel, hb0_, hb1_, hb2_, hb3_, hb4_, hb5_, hb6_, hb7_, hb8_, hb9_, hb10_, hb11_, hb12_, hb13_, hb14_, hb15_, hb16_, hb17_, hb18_, hb19_, hb20_, hb21_, hb22_, if_true, Act.put, List.setIfInBounds_toArray, List.set_cons_zero, List.set_cons_succ]
      have HB := Aside0.mk Q_HB
      clear Q_HB
      clear hall hb0_ hb1_ hb2_ hb3_ hb4_ hb5_ hb6_ hb7_ hb8_ hb9_ hb10_ hb11_ hb12_ hb13_ hb14_ hb15_ hb16_ hb17_ hb18_ hb19_ hb20_ hb21_ hb22_
      have HBW := Aside0.mk (below_step HL8.out HB.out)
      go_wp2_with fail
      rcases HDR.out with hdr | hdr
      ·have HD := Aside0.mk (dec_c we _ l (HSV.out.below HBW.out) HOK.out (by have := HLL.out; omega) _ _ hdr)
       obtain ⟨m, hm⟩ : ∃ m, m = (decR l).1 := ⟨_, rfl⟩
       rw [← hm] at HD hdr
       have HMG := Aside0.mk (dec_ok (l := l) (by rw [hdr]))
       have HMS := Aside0.mk (show Small m by rw [hm]; exact dec_small (by have := HLL.out; omega))
       rw [← hm] at HMG
       clear hm hdr
       go_wp2_with fail
       refine HD.out.mono ?_
       rintro e wd ⟨D6, e6, D8, e8, rfl, hli, hb⟩
       have HLM := Aside0.mk hli
       have HBD := Aside0.mk (below_step HBW.out hb)
       clear hli hb HD
       obtain ⟨P13, hP⟩ : ∃ P, P = wd.heap.size := ⟨_, rfl⟩
       obtain ⟨wa13, hwa⟩ : ∃ wa, wa = wd.alloc (.cells #[(.int .i64 0), (.int .i64 0), (.int .i64 0), (.int .i64 0), (.int .i64 0), (.int .i64 0), (.slice none 0 0), (.string ⟨#[]⟩), (.slice none 0 0)] 44) := ⟨_, rfl⟩
       have hT : wa13.heap[P13]? = some (.cells #[(.int .i64 0), (.int .i64 0), (.int .i64 0), (.int .i64 0), (.int .i64 0), (.int .i64 0), (.slice none 0 0), (.string ⟨#[]⟩), (.slice none 0 0)] 44 (0, 0)) := by rw [hwa, hP]; exact Own.heap_new _ _
       obtain ⟨wb13, hwb⟩ : ∃ wb, wb = (((((((((wa13.setCell ⟨P13, 0, none⟩ (.int .i64 m.k)).setCell ⟨P13, 1, none⟩ (.int .i64 m.c)).setCell ⟨P13, 2, none⟩ (.int .i64 m.e)).setCell ⟨P13, 3, none⟩ (.int .i64 m.r)).setCell ⟨P13, 4, none⟩ (.int .i64 m.s)).setCell ⟨P13, 5, none⟩ (.int .i64 m.d)).setCell ⟨P13, 6, none⟩ (.slice D6 m.o.length e6)).setCell ⟨P13, 7, none⟩ (.string m.t)).setCell ⟨P13, 8, none⟩ (.slice D8 m.n.length e8)) := ⟨_, rfl⟩
       have HBB13 := Aside0.mk (show Below wd.heap.size wd wb13 by rw [hwb, hwa]; exact below_set9 (below_alloc (Below.refl _ _) _) (by omega) _ _ _ _ _ _ _ _ _)
       have HBK13 := Aside0.mk (show Blk P13 (m.mg D6 e6 D8 e8) wb13 by unfold Blk; rw [hwb]; exact set9 hT _ _ _ _ _ _ _ _ _)
       have z0 : wa13.cell? ⟨P13, 0, none⟩ = some (.int .i64 0) := by rw [cell_of_row _ _ 0 _ _ _ hT]; rfl
       have f0 := frozen_of_row _ _ 0 _ _ hT
       have z1 : wa13.cell? ⟨P13, 1, none⟩ = some (.int .i64 0) := by rw [cell_of_row _ _ 1 _ _ _ hT]; rfl
       have f1 := frozen_of_row _ _ 1 _ _ hT
       have z2 : wa13.cell? ⟨P13, 2, none⟩ = some (.int .i64 0) := by rw [cell_of_row _ _ 2 _ _ _ hT]; rfl
       have f2 := frozen_of_row _ _ 2 _ _ hT
       have z3 : wa13.cell? ⟨P13, 3, none⟩ = some (.int .i64 0) := by rw [cell_of_row _ _ 3 _ _ _ hT]; rfl
       have f3 := frozen_of_row _ _ 3 _ _ hT
       have z4 : wa13.cell? ⟨P13, 4, none⟩ = some (.int .i64 0) := by rw [cell_of_row _ _ 4 _ _ _ hT]; rfl
       have f4 := frozen_of_row _ _ 4 _ _ hT
       have z5 : wa13.cell? ⟨P13, 5, none⟩ = some (.int .i64 0) := by rw [cell_of_row _ _ 5 _ _ _ hT]; rfl
       have f5 := frozen_of_row _ _ 5 _ _ hT
       have z6 : wa13.cell? ⟨P13, 6, none⟩ = some (.slice none 0 0) := by rw [cell_of_row _ _ 6 _ _ _ hT]; rfl
       have f6 := frozen_of_row _ _ 6 _ _ hT
       have z7 : wa13.cell? ⟨P13, 7, none⟩ = some (.string ⟨#[]⟩) := by rw [cell_of_row _ _ 7 _ _ _ hT]; rfl
       have f7 := frozen_of_row _ _ 7 _ _ hT
       have z8 : wa13.cell? ⟨P13, 8, none⟩ = some (.slice none 0 0) := by rw [cell_of_row _ _ 8 _ _ _ hT]; rfl
       have f8 := frozen_of_row _ _ 8 _ _ hT
       have HWA13 := Aside0.mk hwa
       have HWB13 := Aside0.mk hwb
       have HPE13 := Aside0.mk hP
       clear hT hwa hwb hP
       have HBE := Aside0.mk (below_step HBD.out HBB13.out)
       have HEM := Aside0.mk (enc_c m D6 e6 D8 e8 wb13 (HLM.out.below HBB13.out) HMS.out l 0 (by rw [if_pos HMG.out.1, HMG.out.2]) (by rw [if_pos HMG.out.1]))
       obtain ⟨⟨x0, x1, x2, x3, x4, x5⟩, x6, x7, x8⟩ := cells_ms HBK13.out
       go_wp2_with (first | rw [← HPE13.out, ← HWA13.out] | rw [← HWB13.out])
       refine HEM.out.mono ?_
       rintro e wf ⟨Z, z, rfl, hz, hb⟩
       have HZ := Aside0.mk hz
       have HBF := Aside0.mk (below_step HBE.out hb)
       have hc1 := Sl.string (P := Try.prog) Try.underlying25 Try.underlying5 Try.underlying9 HZ.out
       have hc2 := Sl.string (P := Try.prog) Try.underlying25 Try.underlying5 Try.underlying9 (HSV.out.below HBF.out)
       clear z0 f0 z1 f1 z2 f2 z3 f3 z4 f4 z5 f5 z6 f6 z7 f7 z8 f8
       clear hz hb HEM x0 x1 x2 x3 x4 x5 x6 x7 x8
       go_wp2_with fail
       refine (lives_c _).mono ?_
       rintro e wg ⟨rfl, hb⟩
       have HBG := Aside0.mk (below_step HBF.out hb)
       clear hb hc1 hc2
       go_wp2_with fail
       go_ret
       exact ⟨rfl, HBG.out⟩
      ·have HD := Aside0.mk (dec_c we _ l (HSV.out.below HBW.out) HOK.out (by have := HLL.out; omega) _ _ hdr)
       obtain ⟨m, hm⟩ : ∃ m, m = noMs := ⟨_, rfl⟩
       rw [← hm] at HD
       clear hm hdr
       go_wp2_with fail
       refine HD.out.mono ?_
       rintro e wd ⟨D6, e6, D8, e8, rfl, hli, hb⟩
       have HLM := Aside0.mk hli
       have HBD := Aside0.mk (below_step HBW.out hb)
       clear hli hb HD
       obtain ⟨P13, hP⟩ : ∃ P, P = wd.heap.size := ⟨_, rfl⟩
       obtain ⟨wa13, hwa⟩ : ∃ wa, wa = wd.alloc (.cells #[(.int .i64 0), (.int .i64 0), (.int .i64 0), (.int .i64 0), (.int .i64 0), (.int .i64 0), (.slice none 0 0), (.string ⟨#[]⟩), (.slice none 0 0)] 44) := ⟨_, rfl⟩
       have hT : wa13.heap[P13]? = some (.cells #[(.int .i64 0), (.int .i64 0), (.int .i64 0), (.int .i64 0), (.int .i64 0), (.int .i64 0), (.slice none 0 0), (.string ⟨#[]⟩), (.slice none 0 0)] 44 (0, 0)) := by rw [hwa, hP]; exact Own.heap_new _ _
       obtain ⟨wb13, hwb⟩ : ∃ wb, wb = (((((((((wa13.setCell ⟨P13, 0, none⟩ (.int .i64 m.k)).setCell ⟨P13, 1, none⟩ (.int .i64 m.c)).setCell ⟨P13, 2, none⟩ (.int .i64 m.e)).setCell ⟨P13, 3, none⟩ (.int .i64 m.r)).setCell ⟨P13, 4, none⟩ (.int .i64 m.s)).setCell ⟨P13, 5, none⟩ (.int .i64 m.d)).setCell ⟨P13, 6, none⟩ (.slice D6 m.o.length e6)).setCell ⟨P13, 7, none⟩ (.string m.t)).setCell ⟨P13, 8, none⟩ (.slice D8 m.n.length e8)) := ⟨_, rfl⟩
       have HBB13 := Aside0.mk (show Below wd.heap.size wd wb13 by rw [hwb, hwa]; exact below_set9 (below_alloc (Below.refl _ _) _) (by omega) _ _ _ _ _ _ _ _ _)
       have HBK13 := Aside0.mk (show Blk P13 (m.mg D6 e6 D8 e8) wb13 by unfold Blk; rw [hwb]; exact set9 hT _ _ _ _ _ _ _ _ _)
       have z0 : wa13.cell? ⟨P13, 0, none⟩ = some (.int .i64 0) := by rw [cell_of_row _ _ 0 _ _ _ hT]; rfl
       have f0 := frozen_of_row _ _ 0 _ _ hT
       have z1 : wa13.cell? ⟨P13, 1, none⟩ = some (.int .i64 0) := by rw [cell_of_row _ _ 1 _ _ _ hT]; rfl
       have f1 := frozen_of_row _ _ 1 _ _ hT
       have z2 : wa13.cell? ⟨P13, 2, none⟩ = some (.int .i64 0) := by rw [cell_of_row _ _ 2 _ _ _ hT]; rfl
       have f2 := frozen_of_row _ _ 2 _ _ hT
       have z3 : wa13.cell? ⟨P13, 3, none⟩ = some (.int .i64 0) := by rw [cell_of_row _ _ 3 _ _ _ hT]; rfl
       have f3 := frozen_of_row _ _ 3 _ _ hT
       have z4 : wa13.cell? ⟨P13, 4, none⟩ = some (.int .i64 0) := by rw [cell_of_row _ _ 4 _ _ _ hT]; rfl
       have f4 := frozen_of_row _ _ 4 _ _ hT
       have z5 : wa13.cell? ⟨P13, 5, none⟩ = some (.int .i64 0) := by rw [cell_of_row _ _ 5 _ _ _ hT]; rfl
       have f5 := frozen_of_row _ _ 5 _ _ hT
       have z6 : wa13.cell? ⟨P13, 6, none⟩ = some (.slice none 0 0) := by rw [cell_of_row _ _ 6 _ _ _ hT]; rfl
       have f6 := frozen_of_row _ _ 6 _ _ hT
       have z7 : wa13.cell? ⟨P13, 7, none⟩ = some (.string ⟨#[]⟩) := by rw [cell_of_row _ _ 7 _ _ _ hT]; rfl
       have f7 := frozen_of_row _ _ 7 _ _ hT
       have z8 : wa13.cell? ⟨P13, 8, none⟩ = some (.slice none 0 0) := by rw [cell_of_row _ _ 8 _ _ _ hT]; rfl
       have f8 := frozen_of_row _ _ 8 _ _ hT
       have HWA13 := Aside0.mk hwa
       have HWB13 := Aside0.mk hwb
       have HPE13 := Aside0.mk hP
       clear hT hwa hwb hP
       have HBE := Aside0.mk (below_step HBD.out HBB13.out)
       go_wp2_with (first | rw [← HPE13.out, ← HWA13.out] | rw [← HWB13.out])
       refine (lives_c _).mono ?_
       rintro e wg ⟨rfl, hb⟩
       have HBG := Aside0.mk (below_step HBE.out hb)
       clear z0 f0 z1 f1 z2 f2 z3 f3 z4 f4 z5 f5 z6 f6 z7 f7 z8 f8
       clear hb
       go_wp2_with fail
       go_ret
       exact ⟨rfl, HBG.out⟩
     | true =>
      have hF2 : F = 0 := by rw [HFE.out, hgq]; rfl
      subst hF2
      have hY2 : Y = q.encL := by rw [HYE.out, hgq]; rfl
      subst hY2
      have hstr := enc_same hgp hgq sm HSMI.out
      go_wp2_with (first | rw [← HPE11.out, ← HWA11.out] | rw [← HWB11.out])
      clear z0 f0 z1 f1 z2 f2 z3 f3 z4 f4 z5 f5 z6 f6 z7 f7 z8 f8
      clear hgp hgq
      refine start_ (n := 23) (S := fun w' => True) (ds := []) #[false, false, false, false, false, false, false, false, false, false, false, false, false, false, false, false, false, false, false, false, false, false, false] (by kernel_rfl) rfl rfl trivial (fun hHeld => ?_); refine with_tabW R9.tab9 R9.bits9 (fun HT_ HW_ => ?_)
      refine inv_at [0, 1, 2, 3, 4, 5, 6, 7, 8, 9, 10, 11, 12, 13, 14, 15, 16, 17, 18, 19, 20, 21, 22] (fun a0_ b a w' => a = putSel a0_ b [(0, 53, (.int .i64 0)), (1, 54, (.bool false)), (2, 55, (.bool false)), (3, 56, (.agg #[.int .i64 p.k, .int .i64 p.c, .int .i64 p.e, .int .i64 p.r, .int .i64 p.s, .int .i64 p.d, .slice G6 p.o.length g6, .string p.t, .slice G8 p.n.length g8])), (4, 57, (.agg #[.int .i64 p.k, .int .i64 p.c, .int .i64 p.e, .int .i64 p.r, .int .i64 p.s, .int .i64 p.d, .slice A6 p.o.length c6, .string p.t, .slice A8 p.n.length c8])), (5, 58, (.bool true)), (6, 59, (.bool false)), (7, 60, (.bool false)), (8, 61, (.bool false)), (9, 62, (.int .i64 0)), (10, 63, (.bool true)), (11, 64, (.bool true)), (12, 65, (.slice A5 p.encL.length c5)), (13, 66, (.string (strOfNums p.encL))), (14, 67, (.slice A7 q.encL.length c7)), (15, 68, (.string (strOfNums q.encL))), (16, 69, (.bool sm)), (17, 70, (.agg #[.int .i64 p.k, .int .i64 p.c, .int .i64 p.e, .int .i64 p.r, .int .i64 p.s, .int .i64 p.d, .slice A6 p.o.length c6, .string p.t, .slice A8 p.n.length c8])), (18, 71, (.agg #[.int .i64 q.k, .int .i64 q.c, .int .i64 q.e, .int .i64 q.r, .int .i64 q.s, .int .i64 q.d, .slice B6 q.o.length d6, .string q.t, .slice B8 q.n.length d8])), (19, 72, (.bool sm)), (20, 73, (.bool false)), (21, 74, (.bool false)), (22, 75, (.bool false))] ∧ (Below wb11.heap.size wb11 w')) HT_.out HW_.out (by kernel_rfl) (by kernel_rfl) ?_ ?_ ?_
      ·exact ⟨by simp only [putSel, Bool.false_eq_true, if_false], below_drew1 HB.out⟩
      ·skip
       clear HB
       refine steps_cons ?_ ?_
       ·rintro b a w' ⟨ha, Q_HB⟩ hb_ hon hoff
        refine ⟨_, rfl, fun K hK => ?_⟩
        have e12 : a.tmps[12]? = some ((.int .i64 0)) := by rw [ha]; exact (putSel_off rfl).trans rfl
        replace ha := Aside0.mk ha
        have HB := Aside0.mk Q_HB
        refine value_ (w1 := w') (v := (.int .i64 0)) (by rfl) rfl ?_ ?_
        ·go_simp
         (try simp only [i64_w])
         try (first | rfl | assumption)
        refine hK.out _ _ ⟨(by rw [ha.out]; exact putSel_upk 0 hb_ rfl rfl rfl), Q_HB⟩
       refine steps_cons ?_ ?_
       ·rintro b a w' ⟨ha, Q_HB⟩ hb_ hon hoff
        refine ⟨_, rfl, fun K hK => ?_⟩
        have e53 : a.tmps[53]? = some ((.int .i64 0)) := by rw [ha]; exact putSel_on (e := (0, 53, (.int .i64 0))) 0 rfl rfl (hon 0 (by kernel_rfl)) rfl
        replace ha := Aside0.mk ha
        have HB := Aside0.mk Q_HB
        refine value_ (w1 := w') (v := (.bool false)) (by rfl) rfl ?_ ?_
        ·go_simp
         (try simp only [i64_w])
         try (first | rfl | assumption)
        refine hK.out _ _ ⟨(by rw [ha.out]; exact putSel_upk 1 hb_ rfl rfl rfl), Q_HB⟩
       refine steps_cons ?_ ?_
       ·rintro b a w' ⟨ha, Q_HB⟩ hb_ hon hoff
        refine ⟨_, rfl, fun K hK => ?_⟩
        have e54 : a.tmps[54]? = some ((.bool false)) := by rw [ha]; exact putSel_on (e := (1, 54, (.bool false))) 1 rfl rfl (hon 1 (by kernel_rfl)) rfl
        replace ha := Aside0.mk ha
        have HB := Aside0.mk Q_HB
        refine value_ (w1 := w') (v := (.bool false)) (by rfl) rfl ?_ ?_
        ·go_simp
         (try simp only [i64_w])
         try (first | rfl | assumption)
        refine hK.out _ _ ⟨(by rw [ha.out]; exact putSel_upk 2 hb_ rfl rfl rfl), Q_HB⟩
       refine steps_cons ?_ ?_
       ·rintro b a w' ⟨ha, Q_HB⟩ hb_ hon hoff
        refine ⟨_, rfl, fun K hK => ?_⟩
        have e11 : a.tmps[11]? = some ((.pointer (some ⟨P11, 0, none⟩))) := by rw [ha]; exact (putSel_off rfl).trans rfl
        have e55 : a.tmps[55]? = some ((.bool false)) := by rw [ha]; exact putSel_on (e := (2, 55, (.bool false))) 2 rfl rfl (hon 2 (by kernel_rfl)) rfl
        replace ha := Aside0.mk ha
        have HB := Aside0.mk Q_HB
        obtain ⟨⟨x0_, x1_, x2_, x3_, x4_, x5_⟩, x6_, x7_, x8_⟩ := HALG.out _ HB.out
        refine value_ (w1 := w') (v := (.agg #[.int .i64 p.k, .int .i64 p.c, .int .i64 p.e, .int .i64 p.r, .int .i64 p.s, .int .i64 p.d, .slice G6 p.o.length g6, .string p.t, .slice G8 p.n.length g8])) (wanted_on rfl rfl rfl (e55.trans (by first | rfl | (simp [*]; done)))) rfl ?_ ?_
        ·go_simp
         (try simp only [i64_w])
         try (first | rfl | assumption)
        refine hK.out _ _ ⟨(by rw [ha.out]; exact putSel_upk 3 hb_ rfl rfl rfl), Q_HB⟩
       refine steps_cons ?_ ?_
       ·rintro b a w' ⟨ha, Q_HB⟩ hb_ hon hoff
        refine ⟨_, rfl, fun K hK => ?_⟩
        have e3 : a.tmps[3]? = some ((.pointer (some ⟨P, 0, none⟩))) := by rw [ha]; exact (putSel_off rfl).trans rfl
        have e55 : a.tmps[55]? = some ((.bool false)) := by rw [ha]; exact putSel_on (e := (2, 55, (.bool false))) 2 rfl rfl (hon 2 (by kernel_rfl)) rfl
        replace ha := Aside0.mk ha
        have HB := Aside0.mk Q_HB
        obtain ⟨⟨x0_, x1_, x2_, x3_, x4_, x5_⟩, x6_, x7_, x8_⟩ := HALP.out _ HB.out
        refine value_ (w1 := w') (v := (.agg #[.int .i64 p.k, .int .i64 p.c, .int .i64 p.e, .int .i64 p.r, .int .i64 p.s, .int .i64 p.d, .slice A6 p.o.length c6, .string p.t, .slice A8 p.n.length c8])) (wanted_on rfl rfl rfl (e55.trans (by first | rfl | (simp [*]; done)))) rfl ?_ ?_
        ·go_simp
         (try simp only [i64_w])
         try (first | rfl | assumption)
        refine hK.out _ _ ⟨(by rw [ha.out]; exact putSel_upk 4 hb_ rfl rfl rfl), Q_HB⟩
       refine steps_cons ?_ ?_
       ·rintro b a w' ⟨ha, Q_HB⟩ hb_ hon hoff
        refine ⟨_, rfl, fun K hK => ?_⟩
        have e56 : a.tmps[56]? = some ((.agg #[.int .i64 p.k, .int .i64 p.c, .int .i64 p.e, .int .i64 p.r, .int .i64 p.s, .int .i64 p.d, .slice G6 p.o.length g6, .string p.t, .slice G8 p.n.length g8])) := by rw [ha]; exact putSel_on (e := (3, 56, (.agg #[.int .i64 p.k, .int .i64 p.c, .int .i64 p.e, .int .i64 p.r, .int .i64 p.s, .int .i64 p.d, .slice G6 p.o.length g6, .string p.t, .slice G8 p.n.length g8]))) 3 rfl rfl (hon 3 (by kernel_rfl)) rfl
        have e57 : a.tmps[57]? = some ((.agg #[.int .i64 p.k, .int .i64 p.c, .int .i64 p.e, .int .i64 p.r, .int .i64 p.s, .int .i64 p.d, .slice A6 p.o.length c6, .string p.t, .slice A8 p.n.length c8])) := by rw [ha]; exact putSel_on (e := (4, 57, (.agg #[.int .i64 p.k, .int .i64 p.c, .int .i64 p.e, .int .i64 p.r, .int .i64 p.s, .int .i64 p.d, .slice A6 p.o.length c6, .string p.t, .slice A8 p.n.length c8]))) 4 rfl rfl (hon 4 (by kernel_rfl)) rfl
        have e55 : a.tmps[55]? = some ((.bool false)) := by rw [ha]; exact putSel_on (e := (2, 55, (.bool false))) 2 rfl rfl (hon 2 (by kernel_rfl)) rfl
        replace ha := Aside0.mk ha
        have HB := Aside0.mk Q_HB
        refine goes_ Try.func26 (by kernel_rfl) rfl #[.agg #[.int .i64 p.k, .int .i64 p.c, .int .i64 p.e, .int .i64 p.r, .int .i64 p.s, .int .i64 p.d, .slice G6 p.o.length g6, .string p.t, .slice G8 p.n.length g8], .agg #[.int .i64 p.k, .int .i64 p.c, .int .i64 p.e, .int .i64 p.r, .int .i64 p.s, .int .i64 p.d, .slice A6 p.o.length c6, .string p.t, .slice A8 p.n.length c8]] (wanted_on rfl rfl rfl (e55.trans (by first | rfl | (simp [*]; done)))) rfl rfl (by first | (simp only [List.map_toArray, List.map_cons, List.map_nil, Act.eval, Array.getD_eq_getD_getElem?, Option.getD_some, e56, e57, e55]; done) | (simp only [List.map_toArray, List.map_cons, List.map_nil, Act.eval, Array.getD_eq_getD_getElem?, Option.getD_some, e56, e57, e55]; rfl)) ?_
        refine (HSM1.out _ HB.out).mono ?_
        rintro e w1_ ⟨rfl, hb⟩
        refine ⟨_, rfl, ?_⟩
        refine hK.out _ _ ⟨(by rw [ha.out]; exact putSel_upk 5 hb_ rfl rfl rfl), below_step HB.out hb⟩
       refine steps_cons ?_ ?_
       ·rintro b a w' ⟨ha, Q_HB⟩ hb_ hon hoff
        refine ⟨_, rfl, fun K hK => ?_⟩
        have e58 : a.tmps[58]? = some ((.bool true)) := by rw [ha]; exact putSel_on (e := (5, 58, (.bool true))) 5 rfl rfl (hon 5 (by kernel_rfl)) rfl
        have e55 : a.tmps[55]? = some ((.bool false)) := by rw [ha]; exact putSel_on (e := (2, 55, (.bool false))) 2 rfl rfl (hon 2 (by kernel_rfl)) rfl
        replace ha := Aside0.mk ha
        have HB := Aside0.mk Q_HB
        refine value_ (w1 := w') (v := (.bool false)) (wanted_on rfl rfl rfl (e55.trans (by first | rfl | (simp [*]; done)))) rfl ?_ ?_
        ·go_simp
         (try simp only [i64_w])
         try (first | rfl | assumption)
        refine hK.out _ _ ⟨(by rw [ha.out]; exact putSel_upk 6 hb_ rfl rfl rfl), Q_HB⟩
       refine steps_cons ?_ ?_
       ·rintro b a w' ⟨ha, Q_HB⟩ hb_ hon hoff
        refine ⟨_, rfl, fun K hK => ?_⟩
        have e55 : a.tmps[55]? = some ((.bool false)) := by rw [ha]; exact putSel_on (e := (2, 55, (.bool false))) 2 rfl rfl (hon 2 (by kernel_rfl)) rfl
        have e59 : a.tmps[59]? = some ((.bool false)) := by rw [ha]; exact putSel_on (e := (6, 59, (.bool false))) 6 rfl rfl (hon 6 (by kernel_rfl)) rfl
        replace ha := Aside0.mk ha
        have HB := Aside0.mk Q_HB
        refine value_ (w1 := w') (v := (.bool false)) (by rfl) rfl ?_ ?_
        ·go_simp
         (try simp only [i64_w])
         try (first | rfl | assumption)
        refine hK.out _ _ ⟨(by rw [ha.out]; exact putSel_upk 7 hb_ rfl rfl rfl), Q_HB⟩
       refine steps_cons ?_ ?_
       ·rintro b a w' ⟨ha, Q_HB⟩ hb_ hon hoff
        refine ⟨_, rfl, fun K hK => ?_⟩
        have e60 : a.tmps[60]? = some ((.bool false)) := by rw [ha]; exact putSel_on (e := (7, 60, (.bool false))) 7 rfl rfl (hon 7 (by kernel_rfl)) rfl
        replace ha := Aside0.mk ha
        have HB := Aside0.mk Q_HB
        refine value_ (w1 := w') (v := (.bool false)) (by rfl) rfl ?_ ?_
        ·go_simp
         (try simp only [i64_w])
         try (first | rfl | assumption)
        refine hK.out _ _ ⟨(by rw [ha.out]; exact putSel_upk 8 hb_ rfl rfl rfl), Q_HB⟩
       refine steps_cons ?_ ?_
       ·rintro b a w' ⟨ha, Q_HB⟩ hb_ hon hoff
        refine ⟨_, rfl, fun K hK => ?_⟩
        have e10 : a.tmps[10]? = some ((.int .i64 0)) := by rw [ha]; exact (putSel_off rfl).trans rfl
        have e61 : a.tmps[61]? = some ((.bool false)) := by rw [ha]; exact putSel_on (e := (8, 61, (.bool false))) 8 rfl rfl (hon 8 (by kernel_rfl)) rfl
        replace ha := Aside0.mk ha
        have HB := Aside0.mk Q_HB
        refine value_ (w1 := w') (v := (.int .i64 0)) (wanted_on rfl rfl rfl (e61.trans (by first | rfl | (simp [*]; done)))) rfl ?_ ?_
        ·go_simp
         (try simp only [i64_w])
         try (first | rfl | assumption)
        refine hK.out _ _ ⟨(by rw [ha.out]; exact putSel_upk 9 hb_ rfl rfl rfl), Q_HB⟩
       refine steps_cons ?_ ?_
       ·rintro b a w' ⟨ha, Q_HB⟩ hb_ hon hoff
        refine ⟨_, rfl, fun K hK => ?_⟩
        have e62 : a.tmps[62]? = some ((.int .i64 0)) := by rw [ha]; exact putSel_on (e := (9, 62, (.int .i64 0))) 9 rfl rfl (hon 9 (by kernel_rfl)) rfl
        have e61 : a.tmps[61]? = some ((.bool false)) := by rw [ha]; exact putSel_on (e := (8, 61, (.bool false))) 8 rfl rfl (hon 8 (by kernel_rfl)) rfl
        replace ha := Aside0.mk ha
        have HB := Aside0.mk Q_HB
        refine value_ (w1 := w') (v := (.bool true)) (wanted_on rfl rfl rfl (e61.trans (by first | rfl | (simp [*]; done)))) rfl ?_ ?_
        ·go_simp
         (try simp only [i64_w])
         try (first | rfl | assumption)
        refine hK.out _ _ ⟨(by rw [ha.out]; exact putSel_upk 10 hb_ rfl rfl rfl), Q_HB⟩
       refine steps_cons ?_ ?_
       ·rintro b a w' ⟨ha, Q_HB⟩ hb_ hon hoff
        refine ⟨_, rfl, fun K hK => ?_⟩
        have e63 : a.tmps[63]? = some ((.bool true)) := by rw [ha]; exact putSel_on (e := (10, 63, (.bool true))) 10 rfl rfl (hon 10 (by kernel_rfl)) rfl
        have e61 : a.tmps[61]? = some ((.bool false)) := by rw [ha]; exact putSel_on (e := (8, 61, (.bool false))) 8 rfl rfl (hon 8 (by kernel_rfl)) rfl
        replace ha := Aside0.mk ha
        have HB := Aside0.mk Q_HB
        refine value_ (w1 := w') (v := (.bool true)) (wanted_on rfl rfl rfl (e61.trans (by first | rfl | (simp [*]; done)))) rfl ?_ ?_
        ·go_simp
         (try simp only [i64_w])
         try (first | rfl | assumption)
        refine hK.out _ _ ⟨(by rw [ha.out]; exact putSel_upk 11 hb_ rfl rfl rfl), Q_HB⟩
       refine steps_cons ?_ ?_
       ·rintro b a w' ⟨ha, Q_HB⟩ hb_ hon hoff
        refine ⟨_, rfl, fun K hK => ?_⟩
        have e7 : a.tmps[7]? = some ((.slice A5 p.encL.length c5)) := by rw [ha]; exact (putSel_off rfl).trans rfl
        have e64 : a.tmps[64]? = some ((.bool true)) := by rw [ha]; exact putSel_on (e := (11, 64, (.bool true))) 11 rfl rfl (hon 11 (by kernel_rfl)) rfl
        replace ha := Aside0.mk ha
        have HB := Aside0.mk Q_HB
        refine value_ (w1 := w') (v := (.slice A5 p.encL.length c5)) (wanted_on rfl rfl rfl (e64.trans (by first | rfl | (simp [*]; done)))) rfl ?_ ?_
        ·go_simp
         (try simp only [i64_w])
         try (first | rfl | assumption)
        refine hK.out _ _ ⟨(by rw [ha.out]; exact putSel_upk 12 hb_ rfl rfl rfl), Q_HB⟩
       refine steps_cons ?_ ?_
       ·rintro b a w' ⟨ha, Q_HB⟩ hb_ hon hoff
        refine ⟨_, rfl, fun K hK => ?_⟩
        have e65 : a.tmps[65]? = some ((.slice A5 p.encL.length c5)) := by rw [ha]; exact putSel_on (e := (12, 65, (.slice A5 p.encL.length c5))) 12 rfl rfl (hon 12 (by kernel_rfl)) rfl
        have e64 : a.tmps[64]? = some ((.bool true)) := by rw [ha]; exact putSel_on (e := (11, 64, (.bool true))) 11 rfl rfl (hon 11 (by kernel_rfl)) rfl
        replace ha := Aside0.mk ha
        have HB := Aside0.mk Q_HB
        have hc_ := Sl.string (P := Try.prog) Try.underlying25 Try.underlying5 Try.underlying9 (HS58.out.below HB.out)
        refine value_ (w1 := w') (v := (.string (strOfNums p.encL))) (wanted_on rfl rfl rfl (e64.trans (by first | rfl | (simp [*]; done)))) rfl ?_ ?_
        ·go_simp
         (try simp only [i64_w])
         try (first | rfl | assumption)
        refine hK.out _ _ ⟨(by rw [ha.out]; exact putSel_upk 13 hb_ rfl rfl rfl), Q_HB⟩
       refine steps_cons ?_ ?_
       ·rintro b a w' ⟨ha, Q_HB⟩ hb_ hon hoff
        refine ⟨_, rfl, fun K hK => ?_⟩
        have e9 : a.tmps[9]? = some ((.slice A7 q.encL.length c7)) := by rw [ha]; exact (putSel_off rfl).trans rfl
        have e64 : a.tmps[64]? = some ((.bool true)) := by rw [ha]; exact putSel_on (e := (11, 64, (.bool true))) 11 rfl rfl (hon 11 (by kernel_rfl)) rfl
        replace ha := Aside0.mk ha
        have HB := Aside0.mk Q_HB
        refine value_ (w1 := w') (v := (.slice A7 q.encL.length c7)) (wanted_on rfl rfl rfl (e64.trans (by first | rfl | (simp [*]; done)))) rfl ?_ ?_
        ·go_simp
         (try simp only [i64_w])
         try (first | rfl | assumption)
        refine hK.out _ _ ⟨(by rw [ha.out]; exact putSel_upk 14 hb_ rfl rfl rfl), Q_HB⟩
       refine steps_cons ?_ ?_
       ·rintro b a w' ⟨ha, Q_HB⟩ hb_ hon hoff
        refine ⟨_, rfl, fun K hK => ?_⟩
        have e67 : a.tmps[67]? = some ((.slice A7 q.encL.length c7)) := by rw [ha]; exact putSel_on (e := (14, 67, (.slice A7 q.encL.length c7))) 14 rfl rfl (hon 14 (by kernel_rfl)) rfl
        have e64 : a.tmps[64]? = some ((.bool true)) := by rw [ha]; exact putSel_on (e := (11, 64, (.bool true))) 11 rfl rfl (hon 11 (by kernel_rfl)) rfl
        replace ha := Aside0.mk ha
        have HB := Aside0.mk Q_HB
        have hc_ := Sl.string (P := Try.prog) Try.underlying25 Try.underlying5 Try.underlying9 (HS78.out.below HB.out)
        refine value_ (w1 := w') (v := (.string (strOfNums q.encL))) (wanted_on rfl rfl rfl (e64.trans (by first | rfl | (simp [*]; done)))) rfl ?_ ?_
        ·go_simp
         (try simp only [i64_w])
         try (first | rfl | assumption)
        refine hK.out _ _ ⟨(by rw [ha.out]; exact putSel_upk 15 hb_ rfl rfl rfl), Q_HB⟩
       refine steps_cons ?_ ?_
       ·rintro b a w' ⟨ha, Q_HB⟩ hb_ hon hoff
        refine ⟨_, rfl, fun K hK => ?_⟩
        have e66 : a.tmps[66]? = some ((.string (strOfNums p.encL))) := by rw [ha]; exact putSel_on (e := (13, 66, (.string (strOfNums p.encL)))) 13 rfl rfl (hon 13 (by kernel_rfl)) rfl
        have e68 : a.tmps[68]? = some ((.string (strOfNums q.encL))) := by rw [ha]; exact putSel_on (e := (15, 68, (.string (strOfNums q.encL)))) 15 rfl rfl (hon 15 (by kernel_rfl)) rfl
        have e64 : a.tmps[64]? = some ((.bool true)) := by rw [ha]; exact putSel_on (e := (11, 64, (.bool true))) 11 rfl rfl (hon 11 (by kernel_rfl)) rfl
        replace ha := Aside0.mk ha
        have HB := Aside0.mk Q_HB
        refine value_ (w1 := w') (v := (.bool sm)) (wanted_on rfl rfl rfl (e64.trans (by first | rfl | (simp [*]; done)))) rfl ?_ ?_
        ·go_simp
         (try simp only [i64_w])
         try (first | rfl | assumption)
        refine hK.out _ _ ⟨(by rw [ha.out]; exact putSel_upk 16 hb_ rfl rfl rfl), Q_HB⟩
       refine steps_cons ?_ ?_
       ·rintro b a w' ⟨ha, Q_HB⟩ hb_ hon hoff
        refine ⟨_, rfl, fun K hK => ?_⟩
        have e3 : a.tmps[3]? = some ((.pointer (some ⟨P, 0, none⟩))) := by rw [ha]; exact (putSel_off rfl).trans rfl
        have e64 : a.tmps[64]? = some ((.bool true)) := by rw [ha]; exact putSel_on (e := (11, 64, (.bool true))) 11 rfl rfl (hon 11 (by kernel_rfl)) rfl
        replace ha := Aside0.mk ha
        have HB := Aside0.mk Q_HB
        obtain ⟨⟨x0_, x1_, x2_, x3_, x4_, x5_⟩, x6_, x7_, x8_⟩ := HALP.out _ HB.out
        refine value_ (w1 := w') (v := (.agg #[.int .i64 p.k, .int .i64 p.c, .int .i64 p.e, .int .i64 p.r, .int .i64 p.s, .int .i64 p.d, .slice A6 p.o.length c6, .string p.t, .slice A8 p.n.length c8])) (wanted_on rfl rfl rfl (e64.trans (by first | rfl | (simp [*]; done)))) rfl ?_ ?_
        ·go_simp
         (try simp only [i64_w])
         try (first | rfl | assumption)
        refine hK.out _ _ ⟨(by rw [ha.out]; exact putSel_upk 17 hb_ rfl rfl rfl), Q_HB⟩
       refine steps_cons ?_ ?_
       ·rintro b a w' ⟨ha, Q_HB⟩ hb_ hon hoff
        refine ⟨_, rfl, fun K hK => ?_⟩
        have e4 : a.tmps[4]? = some ((.pointer (some ⟨P + 1, 0, none⟩))) := by rw [ha]; exact (putSel_off rfl).trans rfl
        have e64 : a.tmps[64]? = some ((.bool true)) := by rw [ha]; exact putSel_on (e := (11, 64, (.bool true))) 11 rfl rfl (hon 11 (by kernel_rfl)) rfl
        replace ha := Aside0.mk ha
        have HB := Aside0.mk Q_HB
        obtain ⟨⟨x0_, x1_, x2_, x3_, x4_, x5_⟩, x6_, x7_, x8_⟩ := HALQ.out _ HB.out
        refine value_ (w1 := w') (v := (.agg #[.int .i64 q.k, .int .i64 q.c, .int .i64 q.e, .int .i64 q.r, .int .i64 q.s, .int .i64 q.d, .slice B6 q.o.length d6, .string q.t, .slice B8 q.n.length d8])) (wanted_on rfl rfl rfl (e64.trans (by first | rfl | (simp [*]; done)))) rfl ?_ ?_
        ·go_simp
         (try simp only [i64_w])
         try (first | rfl | assumption)
        refine hK.out _ _ ⟨(by rw [ha.out]; exact putSel_upk 18 hb_ rfl rfl rfl), Q_HB⟩
       refine steps_cons ?_ ?_
       ·rintro b a w' ⟨ha, Q_HB⟩ hb_ hon hoff
        refine ⟨_, rfl, fun K hK => ?_⟩
        have e70 : a.tmps[70]? = some ((.agg #[.int .i64 p.k, .int .i64 p.c, .int .i64 p.e, .int .i64 p.r, .int .i64 p.s, .int .i64 p.d, .slice A6 p.o.length c6, .string p.t, .slice A8 p.n.length c8])) := by rw [ha]; exact putSel_on (e := (17, 70, (.agg #[.int .i64 p.k, .int .i64 p.c, .int .i64 p.e, .int .i64 p.r, .int .i64 p.s, .int .i64 p.d, .slice A6 p.o.length c6, .string p.t, .slice A8 p.n.length c8]))) 17 rfl rfl (hon 17 (by kernel_rfl)) rfl
        have e71 : a.tmps[71]? = some ((.agg #[.int .i64 q.k, .int .i64 q.c, .int .i64 q.e, .int .i64 q.r, .int .i64 q.s, .int .i64 q.d, .slice B6 q.o.length d6, .string q.t, .slice B8 q.n.length d8])) := by rw [ha]; exact putSel_on (e := (18, 71, (.agg #[.int .i64 q.k, .int .i64 q.c, .int .i64 q.e, .int .i64 q.r, .int .i64 q.s, .int .i64 q.d, .slice B6 q.o.length d6, .string q.t, .slice B8 q.n.length d8]))) 18 rfl rfl (hon 18 (by kernel_rfl)) rfl
        have e64 : a.tmps[64]? = some ((.bool true)) := by rw [ha]; exact putSel_on (e := (11, 64, (.bool true))) 11 rfl rfl (hon 11 (by kernel_rfl)) rfl
        replace ha := Aside0.mk ha
        have HB := Aside0.mk Q_HB
        refine goes_ Try.func26 (by kernel_rfl) rfl #[.agg #[.int .i64 p.k, .int .i64 p.c, .int .i64 p.e, .int .i64 p.r, .int .i64 p.s, .int .i64 p.d, .slice A6 p.o.length c6, .string p.t, .slice A8 p.n.length c8], .agg #[.int .i64 q.k, .int .i64 q.c, .int .i64 q.e, .int .i64 q.r, .int .i64 q.s, .int .i64 q.d, .slice B6 q.o.length d6, .string q.t, .slice B8 q.n.length d8]] (wanted_on rfl rfl rfl (e64.trans (by first | rfl | (simp [*]; done)))) rfl rfl (by first | (simp only [List.map_toArray, List.map_cons, List.map_nil, Act.eval, Array.getD_eq_getD_getElem?, Option.getD_some, e70, e71, e64]; done) | (simp only [List.map_toArray, List.map_cons, List.map_nil, Act.eval, Array.getD_eq_getD_getElem?, Option.getD_some, e70, e71, e64]; rfl)) ?_
        refine (HSM2.out _ HB.out).mono ?_
        rintro e w1_ ⟨rfl, hb⟩
        refine ⟨_, rfl, ?_⟩
        refine hK.out _ _ ⟨(by rw [ha.out]; exact putSel_upk 19 hb_ rfl rfl rfl), below_step HB.out hb⟩
       refine steps_cons ?_ ?_
       ·rintro b a w' ⟨ha, Q_HB⟩ hb_ hon hoff
        refine ⟨_, rfl, fun K hK => ?_⟩
        have e69 : a.tmps[69]? = some ((.bool sm)) := by rw [ha]; exact putSel_on (e := (16, 69, (.bool sm))) 16 rfl rfl (hon 16 (by kernel_rfl)) rfl
        have e72 : a.tmps[72]? = some ((.bool sm)) := by rw [ha]; exact putSel_on (e := (19, 72, (.bool sm))) 19 rfl rfl (hon 19 (by kernel_rfl)) rfl
        have e64 : a.tmps[64]? = some ((.bool true)) := by rw [ha]; exact putSel_on (e := (11, 64, (.bool true))) 11 rfl rfl (hon 11 (by kernel_rfl)) rfl
        replace ha := Aside0.mk ha
        have HB := Aside0.mk Q_HB
        refine value_ (w1 := w') (v := (.bool false)) (wanted_on rfl rfl rfl (e64.trans (by first | rfl | (simp [*]; done)))) rfl ?_ ?_
        ·go_simp
         (try simp only [i64_w])
         try (first | rfl | assumption)
        refine hK.out _ _ ⟨(by rw [ha.out]; exact putSel_upk 20 hb_ rfl rfl rfl), Q_HB⟩
       refine steps_cons ?_ ?_
       ·rintro b a w' ⟨ha, Q_HB⟩ hb_ hon hoff
        refine ⟨_, rfl, fun K hK => ?_⟩
        have e64 : a.tmps[64]? = some ((.bool true)) := by rw [ha]; exact putSel_on (e := (11, 64, (.bool true))) 11 rfl rfl (hon 11 (by kernel_rfl)) rfl
        have e73 : a.tmps[73]? = some ((.bool false)) := by rw [ha]; exact putSel_on (e := (20, 73, (.bool false))) 20 rfl rfl (hon 20 (by kernel_rfl)) rfl
        have e61 : a.tmps[61]? = some ((.bool false)) := by rw [ha]; exact putSel_on (e := (8, 61, (.bool false))) 8 rfl rfl (hon 8 (by kernel_rfl)) rfl
        replace ha := Aside0.mk ha
        have HB := Aside0.mk Q_HB
        refine value_ (w1 := w') (v := (.bool false)) (wanted_on rfl rfl rfl (e61.trans (by first | rfl | (simp [*]; done)))) rfl ?_ ?_
        ·go_simp
         (try simp only [i64_w])
         try (first | rfl | assumption)
        refine hK.out _ _ ⟨(by rw [ha.out]; exact putSel_upk 21 hb_ rfl rfl rfl), Q_HB⟩
       refine steps_cons ?_ ?_
       ·rintro b a w' ⟨ha, Q_HB⟩ hb_ hon hoff
        refine ⟨_, rfl, fun K hK => ?_⟩
        have e61 : a.tmps[61]? = some ((.bool false)) := by rw [ha]; exact putSel_on (e := (8, 61, (.bool false))) 8 rfl rfl (hon 8 (by kernel_rfl)) rfl
        have e74 : a.tmps[74]? = some ((.bool false)) := by rw [ha]; exact putSel_on (e := (21, 74, (.bool false))) 21 rfl rfl (hon 21 (by kernel_rfl)) rfl
        replace ha := Aside0.mk ha
        have HB := Aside0.mk Q_HB
        refine value_ (w1 := w') (v := (.bool false)) (by rfl) rfl ?_ ?_
        ·go_simp
         (try simp only [i64_w])
         try (first | rfl | assumption)
        refine hK.out _ _ ⟨(by rw [ha.out]; exact putSel_upk 22 hb_ rfl rfl rfl), Q_HB⟩
       exact steps_nil
      rintro b a we hall ⟨ha, Q_HB⟩
      clear HB
      have hb0_ := hall 0 (by kernel_rfl)
      have hb1_ := hall 1 (by kernel_rfl)
      have hb2_ := hall 2 (by kernel_rfl)
      have hb3_ := hall 3 (by kernel_rfl)
      have hb4_ := hall 4 (by kernel_rfl)
      have hb5_ := hall 5 (by kernel_rfl)
      have hb6_ := hall 6 (by kernel_rfl)
      have hb7_ := hall 7 (by kernel_rfl)
      have hb8_ := hall 8 (by kernel_rfl)
      have hb9_ := hall 9 (by kernel_rfl)
      have hb10_ := hall 10 (by kernel_rfl)
      have hb11_ := hall 11 (by kernel_rfl)
      have hb12_ := hall 12 (by kernel_rfl)
      have hb13_ := hall 13 (by kernel_rfl)
      have hb14_ := hall 14 (by kernel_rfl)
      have hb15_ := hall 15 (by kernel_rfl)
      have hb16_ := hall 16 (by kernel_rfl)
      have hb17_ := hall 17 (by kernel_rfl)
      have hb18_ := hall 18 (by kernel_rfl)
      have hb19_ := hall 19 (by kernel_rfl)
      have hb20_ := hall 20 (by kernel_rfl)
      have hb21_ := hall 21 (by kernel_rfl)
      have hb22_ := hall 22 (by kernel_rfl)
      subst ha
      simp only [putSel, hb0_, hb1_, hb2_, hb3_, hb4_, hb5_, hb6_, hb7_, hb8_, hb9_, hb10_, hb11_, hb12_, hb13_, hb14_, hb15_, hb16_, hb17_, hb18_, hb19_, hb20_, hb21_, hb22_, if_true, Act.put, List.setIfInBounds_toArray, List.set_cons_zero, List.set_cons_succ]
      have HB := Aside0.mk Q_HB
      clear Q_HB
      clear hall hb0_ hb1_ hb2_ hb3_ hb4_ hb5_ hb6_ hb7_ hb8_ hb9_ hb10_ hb11_ hb12_ hb13_ hb14_ hb15_ hb16_ hb17_ hb18_ hb19_ hb20_ hb21_ hb22_
      have HBW := Aside0.mk (below_step HL8.out HB.out)
      clear hstr
      go_wp2_with fail
      rcases HDR.out with hdr | hdr
      ·have HD := Aside0.mk (dec_c we _ l (HSV.out.below HBW.out) HOK.out (by have := HLL.out; omega) _ _ hdr)
       obtain ⟨m, hm⟩ : ∃ m, m = (decR l).1 := ⟨_, rfl⟩
       rw [← hm] at HD hdr
       have HMG := Aside0.mk (dec_ok (l := l) (by rw [hdr]))
       have HMS := Aside0.mk (show Small m by rw [hm]; exact dec_small (by have := HLL.out; omega))
       rw [← hm] at HMG
       clear hm hdr
       go_wp2_with fail
       refine HD.out.mono ?_
       rintro e wd ⟨D6, e6, D8, e8, rfl, hli, hb⟩
       have HLM := Aside0.mk hli
       have HBD := Aside0.mk (below_step HBW.out hb)
       clear hli hb HD
       obtain ⟨P13, hP⟩ : ∃ P, P = wd.heap.size := ⟨_, rfl⟩
       obtain ⟨wa13, hwa⟩ : ∃ wa, wa = wd.alloc (.cells #[(.int .i64 0), (.int .i64 0), (.int .i64 0), (.int .i64 0), (.int .i64 0), (.int .i64 0), (.slice none 0 0), (.string ⟨#[]⟩), (.slice none 0 0)] 44) := ⟨_, rfl⟩
       have hT : wa13.heap[P13]? = some (.cells #[(.int .i64 0), (.int .i64 0), (.int .i64 0), (.int .i64 0), (.int .i64 0), (.int .i64 0), (.slice none 0 0), (.string ⟨#[]⟩), (.slice none 0 0)] 44 (0, 0)) := by rw [hwa, hP]; exact Own.heap_new _ _
       obtain ⟨wb13, hwb⟩ : ∃ wb, wb = (((((((((wa13.setCell ⟨P13, 0, none⟩ (.int .i64 m.k)).setCell ⟨P13, 1, none⟩ (.int .i64 m.c)).setCell ⟨P13, 2, none⟩ (.int .i64 m.e)).setCell ⟨P13, 3, none⟩ (.int .i64 m.r)).setCell ⟨P13, 4, none⟩ (.int .i64 m.s)).setCell ⟨P13, 5, none⟩ (.int .i64 m.d)).setCell ⟨P13, 6, none⟩ (.slice D6 m.o.length e6)).setCell ⟨P13, 7, none⟩ (.string m.t)).setCell ⟨P13, 8, none⟩ (.slice D8 m.n.length e8)) := ⟨_, rfl⟩
       have HBB13 := Aside0.mk (show Below wd.heap.size wd wb13 by rw [hwb, hwa]; exact below_set9 (below_alloc (Below.refl _ _) _) (by omega) _ _ _ _ _ _ _ _ _)
       have HBK13 := Aside0.mk (show Blk P13 (m.mg D6 e6 D8 e8) wb13 by unfold Blk; rw [hwb]; exact set9 hT _ _ _ _ _ _ _ _ _)
       have z0 : wa13.cell? ⟨P13, 0, none⟩ = some (.int .i64 0) := by rw [cell_of_row _ _ 0 _ _ _ hT]; rfl
       have f0 := frozen_of_row _ _ 0 _ _ hT
       have z1 : wa13.cell? ⟨P13, 1, none⟩ = some (.int .i64 0) := by rw [cell_of_row _ _ 1 _ _ _ hT]; rfl
       have f1 := frozen_of_row _ _ 1 _ _ hT
       have z2 : wa13.cell? ⟨P13, 2, none⟩ = some (.int .i64 0) := by rw [cell_of_row _ _ 2 _ _ _ hT]; rfl
       have f2 := frozen_of_row _ _ 2 _ _ hT
       have z3 : wa13.cell? ⟨P13, 3, none⟩ = some (.int .i64 0) := by rw [cell_of_row _ _ 3 _ _ _ hT]; rfl
       have f3 := frozen_of_row _ _ 3 _ _ hT
       have z4 : wa13.cell? ⟨P13, 4, none⟩ = some (.int .i64 0) := by rw [cell_of_row _ _ 4 _ _ _ hT]; rfl
       have f4 := frozen_of_row _ _ 4 _ _ hT
       have z5 : wa13.cell? ⟨P13, 5, none⟩ = some (.int .i64 0) := by rw [cell_of_row _ _ 5 _ _ _ hT]; rfl
       have f5 := frozen_of_row _ _ 5 _ _ hT
       have z6 : wa13.cell? ⟨P13, 6, none⟩ = some (.slice none 0 0) := by rw [cell_of_row _ _ 6 _ _ _ hT]; rfl
       have f6 := frozen_of_row _ _ 6 _ _ hT
       have z7 : wa13.cell? ⟨P13, 7, none⟩ = some (.string ⟨#[]⟩) := by rw [cell_of_row _ _ 7 _ _ _ hT]; rfl
       have f7 := frozen_of_row _ _ 7 _ _ hT
       have z8 : wa13.cell? ⟨P13, 8, none⟩ = some (.slice none 0 0) := by rw [cell_of_row _ _ 8 _ _ _ hT]; rfl
       have f8 := frozen_of_row _ _ 8 _ _ hT
       have HWA13 := Aside0.mk hwa
       have HWB13 := Aside0.mk hwb
       have HPE13 := Aside0.mk hP
       clear hT hwa hwb hP
       have HBE := Aside0.mk (below_step HBD.out HBB13.out)
       have HEM := Aside0.mk (enc_c m D6 e6 D8 e8 wb13 (HLM.out.below HBB13.out) HMS.out l 0 (by rw [if_pos HMG.out.1, HMG.out.2]) (by rw [if_pos HMG.out.1]))
       obtain ⟨⟨x0, x1, x2, x3, x4, x5⟩, x6, x7, x8⟩ := cells_ms HBK13.out
       go_wp2_with (first | rw [← HPE13.out, ← HWA13.out] | rw [← HWB13.out])
       refine HEM.out.mono ?_
       rintro e wf ⟨Z, z, rfl, hz, hb⟩
       have HZ := Aside0.mk hz
       have HBF := Aside0.mk (below_step HBE.out hb)
       have hc1 := Sl.string (P := Try.prog) Try.underlying25 Try.underlying5 Try.underlying9 HZ.out
       have hc2 := Sl.string (P := Try.prog) Try.underlying25 Try.underlying5 Try.underlying9 (HSV.out.below HBF.out)
       clear z0 f0 z1 f1 z2 f2 z3 f3 z4 f4 z5 f5 z6 f6 z7 f7 z8 f8
       clear hz hb HEM x0 x1 x2 x3 x4 x5 x6 x7 x8
       go_wp2_with fail
       refine (lives_c _).mono ?_
       rintro e wg ⟨rfl, hb⟩
       have HBG := Aside0.mk (below_step HBF.out hb)
       clear hb hc1 hc2
       go_wp2_with fail
       go_ret
       exact ⟨rfl, HBG.out⟩
      ·have HD := Aside0.mk (dec_c we _ l (HSV.out.below HBW.out) HOK.out (by have := HLL.out; omega) _ _ hdr)
       obtain ⟨m, hm⟩ : ∃ m, m = noMs := ⟨_, rfl⟩
       rw [← hm] at HD
       clear hm hdr
       go_wp2_with fail
       refine HD.out.mono ?_
       rintro e wd ⟨D6, e6, D8, e8, rfl, hli, hb⟩
       have HLM := Aside0.mk hli
       have HBD := Aside0.mk (below_step HBW.out hb)
       clear hli hb HD
       obtain ⟨P13, hP⟩ : ∃ P, P = wd.heap.size := ⟨_, rfl⟩
       obtain ⟨wa13, hwa⟩ : ∃ wa, wa = wd.alloc (.cells #[(.int .i64 0), (.int .i64 0), (.int .i64 0), (.int .i64 0), (.int .i64 0), (.int .i64 0), (.slice none 0 0), (.string ⟨#[]⟩), (.slice none 0 0)] 44) := ⟨_, rfl⟩
       have hT : wa13.heap[P13]? = some (.cells #[(.int .i64 0), (.int .i64 0), (.int .i64 0), (.int .i64 0), (.int .i64 0), (.int .i64 0), (.slice none 0 0), (.string ⟨#[]⟩), (.slice none 0 0)] 44 (0, 0)) := by rw [hwa, hP]; exact Own.heap_new _ _
       obtain ⟨wb13, hwb⟩ : ∃ wb, wb = (((((((((wa13.setCell ⟨P13, 0, none⟩ (.int .i64 m.k)).setCell ⟨P13, 1, none⟩ (.int .i64 m.c)).setCell ⟨P13, 2, none⟩ (.int .i64 m.e)).setCell ⟨P13, 3, none⟩ (.int .i64 m.r)).setCell ⟨P13, 4, none⟩ (.int .i64 m.s)).setCell ⟨P13, 5, none⟩ (.int .i64 m.d)).setCell ⟨P13, 6, none⟩ (.slice D6 m.o.length e6)).setCell ⟨P13, 7, none⟩ (.string m.t)).setCell ⟨P13, 8, none⟩ (.slice D8 m.n.length e8)) := ⟨_, rfl⟩
       have HBB13 := Aside0.mk (show Below wd.heap.size wd wb13 by rw [hwb, hwa]; exact below_set9 (below_alloc (Below.refl _ _) _) (by omega) _ _ _ _ _ _ _ _ _)
       have HBK13 := Aside0.mk (show Blk P13 (m.mg D6 e6 D8 e8) wb13 by unfold Blk; rw [hwb]; exact set9 hT _ _ _ _ _ _ _ _ _)
       have z0 : wa13.cell? ⟨P13, 0, none⟩ = some (.int .i64 0) := by rw [cell_of_row _ _ 0 _ _ _ hT]; rfl
       have f0 := frozen_of_row _ _ 0 _ _ hT
       have z1 : wa13.cell? ⟨P13, 1, none⟩ = some (.int .i64 0) := by rw [cell_of_row _ _ 1 _ _ _ hT]; rfl
       have f1 := frozen_of_row _ _ 1 _ _ hT
       have z2 : wa13.cell? ⟨P13, 2, none⟩ = some (.int .i64 0) := by rw [cell_of_row _ _ 2 _ _ _ hT]; rfl
       have f2 := frozen_of_row _ _ 2 _ _ hT
       have z3 : wa13.cell? ⟨P13, 3, none⟩ = some (.int .i64 0) := by rw [cell_of_row _ _ 3 _ _ _ hT]; rfl
       have f3 := frozen_of_row _ _ 3 _ _ hT
       have z4 : wa13.cell? ⟨P13, 4, none⟩ = some (.int .i64 0) := by rw [cell_of_row _ _ 4 _ _ _ hT]; rfl
       have f4 := frozen_of_row _ _ 4 _ _ hT
       have z5 : wa13.cell? ⟨P13, 5, none⟩ = some (.int .i64 0) := by rw [cell_of_row _ _ 5 _ _ _ hT]; rfl
       have f5 := frozen_of_row _ _ 5 _ _ hT
       have z6 : wa13.cell? ⟨P13, 6, none⟩ = some (.slice none 0 0) := by rw [cell_of_row _ _ 6 _ _ _ hT]; rfl
       have f6 := frozen_of_row _ _ 6 _ _ hT
       have z7 : wa13.cell? ⟨P13, 7, none⟩ = some (.string ⟨#[]⟩) := by rw [cell_of_row _ _ 7 _ _ _ hT]; rfl
       have f7 := frozen_of_row _ _ 7 _ _ hT
       have z8 : wa13.cell? ⟨P13, 8, none⟩ = some (.slice none 0 0) := by rw [cell_of_row _ _ 8 _ _ _ hT]; rfl
       have f8 := frozen_of_row _ _ 8 _ _ hT
       have HWA13 := Aside0.mk hwa
       have HWB13 := Aside0.mk hwb
       have HPE13 := Aside0.mk hP
       clear hT hwa hwb hP
       have HBE := Aside0.mk (below_step HBD.out HBB13.out)
       go_wp2_with (first | rw [← HPE13.out, ← HWA13.out] | rw [← HWB13.out])
       refine (lives_c _).mono ?_
       rintro e wg ⟨rfl, hb⟩
       have HBG := Aside0.mk (below_step HBE.out hb)
       clear z0 f0 z1 f1 z2 f2 z3 f3 z4 f4 z5 f5 z6 f6 z7 f7 z8 f8
       clear hb
       go_wp2_with fail
       go_ret
       exact ⟨rfl, HBG.out⟩
   ·have hl' : ¬ (l.length : Int) ≤ 4000 := by omega
    clear hl
    go_wp2_with fail
    refine (lives_c _).mono ?_
    rintro e w9 ⟨rfl, hb⟩
    have HB9 := Aside0.mk (below_step HL3.out hb)
    clear hb
    go_wp2_with fail
    go_ret
    exact ⟨rfl, HB9.out⟩
end Go.Proofs.Ytedfcjcnhgomoaa.MsgBackLaw
end
-- MERGED YtedfcjcnhgomoaaOpens
section
namespace Go.Proofs.Ytedfcjcnhgomoaa.Opens
open Go.ChangeShapes Go.WideShapes Go.Deep Go.RowKit Go.Proofs.YtedfcjcnhgomoaaW.PrintWords
def Opens {α : Type} (P : Program) (t : TypeId) (d : Kd α) (ok : α → Prop) : Prop :=
 P.cellsOf t = d.sz ∧ ∀ (H : Type) (enc : TypeId × Value → H) (w : World) (base : Nat) (sp : Nat → Bool) (held : Bool) (fuel : Nat) (cs : List Value) (x : DataW H × List MemPlace),
  DataW.trod enc P w base sp held fuel t cs = some x → ∃ a : α, d.K w a cs ∧ ok a
theorem list_of {α : Type} (Q : Nat → α → Prop) : ∀ len : Nat, (∀ i, i < len → ∃ x, Q i x) → ∃ l : List α, l.length = len ∧ ∀ i x, l[i]? = some x → Q i x
 | 0, _ => ⟨[], rfl, fun i x hx => by simp at hx⟩
 | k + 1, each => by
  obtain ⟨l, hl, hf⟩ := list_of Q k (fun i hi => each i (by omega))
  obtain ⟨x, h1⟩ := each k (by omega)
  refine ⟨l ++ [x], by simp [hl], fun i y hy => ?_⟩
  by_cases hik : i < l.length
  ·rw [List.getElem?_append_left hik] at hy
   exact hf i y hy
  ·rw [List.getElem?_append_right (by omega)] at hy
   have hi0 : i - l.length = 0 := by
    rcases Nat.eq_zero_or_pos (i - l.length) with h | h
    ·exact h
    ·rw [List.getElem?_eq_none (by simp; omega)] at hy; cases hy
   rw [hi0] at hy
   obtain rfl : x = y := by simpa using hy
   obtain rfl : i = k := by omega
   exact h1
section
variable {P : Program} {t e : TypeId} {α β γ δ : Type}
theorem int_ {k : IntKind} (ht : P.underlying t = some (.int k)) (hc : P.cellsOf t = 1) : Opens P t (Kd.int k) (fun n => (Lit.int k n).wf = true) :=
 ⟨hc, fun _ _ _ _ _ _ _ _ _ h => by
  obtain ⟨n, rfl, _, hw⟩ := DataW.trod_int ht h
  exact ⟨n, rfl, hw⟩⟩
theorem string_ (ht : P.underlying t = some .string) (hc : P.cellsOf t = 1) : Opens P t Kd.string (fun s => s.size ≤ maxLen) :=
 ⟨hc, fun _ _ _ _ _ _ _ _ _ h => by
  obtain ⟨n, rfl, _, hw⟩ := DataW.trod_string ht h
  exact ⟨n, rfl, hw⟩⟩
theorem slice_ {d : Kd α} {ok : α → Prop} (ht : P.underlying t = some (.slice e)) (hc : P.cellsOf t = 1) (he : Opens P e d ok) : Opens P t (Kd.slice e d) (fun l => l.length ≤ maxLen ∧ ∀ x ∈ l, ok x) := by
 refine ⟨hc, fun H enc w base sp held fuel cs x h => ?_⟩
 rcases open_slice ht h with ⟨rfl, _⟩ | ⟨a, len, cap, m, n, D, Pl, rfl, hb, hl, hm, hmm, _, hi⟩
 ·refine ⟨[], ⟨none, 0, rfl, Nat.le_refl _, rfl, Nat.zero_le _, fun h => absurd h (by simp)⟩, Nat.zero_le _, fun _ h => by cases h⟩
 ·have hlm : len ≤ m := by rw [hmm]; split <;> omega
  have each : ∀ i, i < len → ∃ (x : α) (cs' : List Value), w.cells? base (a.add (i * P.cellsOf e)) (P.cellsOf e) = some cs' ∧ d.K w x cs' ∧ ok x := by
   intro i hlt
   obtain ⟨cs', h1, h2⟩ := hi i (by omega)
   obtain ⟨x, h3, h4⟩ := he.2 H enc w base sp held n cs' _ h2
   exact ⟨x, cs', h1, h3, h4⟩
  have hex := list_of (fun i x => ∃ cs' : List Value, w.cells? base (a.add (i * P.cellsOf e)) (P.cellsOf e) = some cs' ∧ d.K w x cs' ∧ ok x) len each
  obtain ⟨l, hll, hf⟩ := hex
  subst hll
  refine ⟨l, ⟨some a, cap, rfl, hl, rfl, ?_, fun _ => ⟨a, rfl, fun j p hj => ?_⟩⟩, by omega, fun x hx => ?_⟩
  ·unfold maxLen at hm; omega
  ·obtain ⟨cs', h1, h2, _⟩ := hf j p hj
   obtain ⟨_, h3, h4⟩ := World.cells?_some h1
   refine ⟨cs', d.K_len h2, h2, fun i u hu => ?_⟩
   have hil : i < P.cellsOf e := by
    have := (List.getElem?_eq_some_iff.1 hu).1
    omega
   rw [← Go.Deep.add_add, ← he.1, h4 i hil, hu]
  ·obtain ⟨i, hi⟩ := List.getElem?_of_mem hx
   obtain ⟨_, _, _, h⟩ := hf i x hi
   exact h
theorem struct2_ {d0 : Kd α} {d1 : Kd β} {ok0 : α → Prop} {ok1 : β → Prop} {f0 f1 : Field} (ht : P.underlying t = some (.struct #[f0, f1])) (hc : P.cellsOf t = d0.sz + d1.sz) (h0 : Opens P f0.type d0 ok0) (h1 : Opens P f1.type d1 ok1) (o0 : f0.offset = 0) (o1 : f1.offset = d0.sz) :
  Opens P t (Kd.pair d0 d1) (fun x => ok0 x.1 ∧ ok1 x.2) := by
 refine ⟨hc, fun H enc w base sp held fuel cs x h => ?_⟩
 obtain ⟨ys, n, _, _, hl, hyl, hf⟩ := DataW.trod_struct ht h
 have g0 := hf 0 f0 rfl
 have g1 := hf 1 f1 rfl
 simp only [List.size_toArray, List.length_cons, List.length_nil] at hyl
 rw [List.getElem?_eq_getElem (by omega)] at g0 g1
 obtain ⟨a, ka, oa⟩ := h0.2 _ _ _ _ _ _ _ _ _ g0
 obtain ⟨b, kb, ob⟩ := h1.2 _ _ _ _ _ _ _ _ _ g1
 refine ⟨(a, b), ⟨_, _, ?_, ka, kb⟩, oa, ob⟩
 rw [o0, o1, h0.1, h1.1, List.drop_zero]
 rw [hc] at hl
 have e1 : (cs.drop d0.sz).take d1.sz = cs.drop d0.sz := List.take_of_length_le (by rw [List.length_drop]; omega)
 rw [e1, List.take_append_drop]
theorem struct3_ {d0 : Kd α} {d1 : Kd β} {d2 : Kd γ} {ok0 : α → Prop} {ok1 : β → Prop} {ok2 : γ → Prop} {f0 f1 f2 : Field} (ht : P.underlying t = some (.struct #[f0, f1, f2])) (hc : P.cellsOf t = d0.sz + (d1.sz + d2.sz)) (h0 : Opens P f0.type d0 ok0) (h1 : Opens P f1.type d1 ok1) (h2 : Opens P f2.type d2 ok2)
  (o0 : f0.offset = 0) (o1 : f1.offset = d0.sz) (o2 : f2.offset = d0.sz + d1.sz) : Opens P t (Kd.pair d0 (Kd.pair d1 d2)) (fun x => ok0 x.1 ∧ ok1 x.2.1 ∧ ok2 x.2.2) := by
 refine ⟨hc, fun H enc w base sp held fuel cs x h => ?_⟩
 obtain ⟨ys, n, _, _, hl, hyl, hf⟩ := DataW.trod_struct ht h
 have g0 := hf 0 f0 rfl
 have g1 := hf 1 f1 rfl
 have g2 := hf 2 f2 rfl
 simp only [List.size_toArray, List.length_cons, List.length_nil] at hyl
 rw [List.getElem?_eq_getElem (by omega)] at g0 g1 g2
 obtain ⟨a, ka, oa⟩ := h0.2 _ _ _ _ _ _ _ _ _ g0
 obtain ⟨b, kb, ob⟩ := h1.2 _ _ _ _ _ _ _ _ _ g1
 obtain ⟨c, kc, oc⟩ := h2.2 _ _ _ _ _ _ _ _ _ g2
 refine ⟨(a, b, c), ⟨_, _, ?_, ka, _, _, rfl, kb, kc⟩, oa, ob, oc⟩
 rw [o0, o1, o2, h0.1, h1.1, h2.1, List.drop_zero]
 rw [hc] at hl
 have e1 : (cs.drop (d0.sz + d1.sz)).take d2.sz = cs.drop (d0.sz + d1.sz) := List.take_of_length_le (by rw [List.length_drop]; omega)
 rw [e1, ← List.drop_drop, List.take_append_drop, List.take_append_drop]
theorem arg_ {d : Kd α} {ok : α → Prop} (ho : Opens P t d ok) {H : Type} {enc : TypeId × Value → H} {w : World} {base : Nat} {sp : Nat → Bool} {held : Bool} {v : Value} {x : DataW H} {ps : List MemPlace} (h : DataW.Trod enc P w base sp held t v x ps) : ∃ a : α, d.K w a v.cells.toList ∧ ok a := by
 obtain ⟨fuel, hf⟩ := h
 exact ho.2 _ _ _ _ _ _ _ _ _ hf
end
theorem slice_shape {α : Type} {e : Nat} {d : Kd α} {w : World} {a : Option Addr} {n c : Nat} {l : List α} (h : (Kd.slice e d).K w l (Value.slice a n c).cells.toList) : n = l.length ∧ l.length ≤ c ∧ Kd.C d w a l.length l := by
 obtain ⟨A, c', e1, hc, hC⟩ := h
 simp only [Value.cells, List.cons.injEq, Value.slice.injEq] at e1
 obtain ⟨⟨rfl, rfl, rfl⟩, _⟩ := e1
 exact ⟨rfl, hc, hC⟩
end Go.Proofs.Ytedfcjcnhgomoaa.Opens
end
-- MERGED YtedfcjcnhgomoaaOpens9
section
namespace Go.Proofs.Ytedfcjcnhgomoaa.Opens
open Go.ChangeShapes Go.WideShapes Go.Deep Go.RowKit Go.Proofs.YtedfcjcnhgomoaaW.PrintWords
theorem struct9_ {α0 α1 α2 α3 α4 α5 α6 α7 α8 : Type} {P : Program} {t : TypeId} {d0 : Kd α0} {d1 : Kd α1} {d2 : Kd α2} {d3 : Kd α3} {d4 : Kd α4} {d5 : Kd α5} {d6 : Kd α6} {d7 : Kd α7} {d8 : Kd α8} {ok0 : α0 → Prop} {ok1 : α1 → Prop} {ok2 : α2 → Prop} {ok3 : α3 → Prop} {ok4 : α4 → Prop} {ok5 : α5 → Prop} {ok6 : α6 → Prop} {ok7 : α7 → Prop} {ok8 : α8 → Prop} {f0 f1 f2 f3 f4 f5 f6 f7 f8 : Field} (ht : P.underlying t = some (.struct #[f0, f1, f2, f3, f4, f5, f6, f7, f8])) (hc : P.cellsOf t = d0.sz + (d1.sz + (d2.sz + (d3.sz + (d4.sz + (d5.sz + (d6.sz + (d7.sz + d8.sz)))))))) (h0 : Opens P f0.type d0 ok0) (h1 : Opens P f1.type d1 ok1) (h2 : Opens P f2.type d2 ok2) (h3 : Opens P f3.type d3 ok3) (h4 : Opens P f4.type d4 ok4) (h5 : Opens P f5.type d5 ok5) (h6 : Opens P f6.type d6 ok6) (h7 : Opens P f7.type d7 ok7) (h8 : Opens P f8.type d8 ok8) (o0 : f0.offset = 0) (o1 : f1.offset = d0.sz) (o2 : f2.offset = d0.sz + d1.sz) (o3 : f3.offset = d0.sz + d1.sz + d2.sz) (o4 : f4.offset = d0.sz + d1.sz + d2.sz + d3.sz) (o5 : f5.offset = d0.sz + d1.sz + d2.sz + d3.sz + d4.sz) (o6 : f6.offset = d0.sz + d1.sz + d2.sz + d3.sz + d4.sz + d5.sz) (o7 : f7.offset = d0.sz + d1.sz + d2.sz + d3.sz + d4.sz + d5.sz + d6.sz) (o8 : f8.offset = d0.sz + d1.sz + d2.sz + d3.sz + d4.sz + d5.sz + d6.sz + d7.sz) :
  Opens P t (Kd.pair d0 (Kd.pair d1 (Kd.pair d2 (Kd.pair d3 (Kd.pair d4 (Kd.pair d5 (Kd.pair d6 (Kd.pair d7 d8)))))))) (fun x => ok0 x.1 ∧ ok1 x.2.1 ∧ ok2 x.2.2.1 ∧ ok3 x.2.2.2.1 ∧ ok4 x.2.2.2.2.1 ∧ ok5 x.2.2.2.2.2.1 ∧ ok6 x.2.2.2.2.2.2.1 ∧ ok7 x.2.2.2.2.2.2.2.1 ∧ ok8 x.2.2.2.2.2.2.2.2) := by
 refine ⟨hc, fun H enc w base sp held fuel cs x h => ?_⟩
 obtain ⟨ys, n, _, _, hl, hyl, hf⟩ := DataW.trod_struct ht h
 have g0 := hf 0 f0 rfl
 have g1 := hf 1 f1 rfl
 have g2 := hf 2 f2 rfl
 have g3 := hf 3 f3 rfl
 have g4 := hf 4 f4 rfl
 have g5 := hf 5 f5 rfl
 have g6 := hf 6 f6 rfl
 have g7 := hf 7 f7 rfl
 have g8 := hf 8 f8 rfl
 simp only [List.size_toArray, List.length_cons, List.length_nil] at hyl
 rw [List.getElem?_eq_getElem (by omega)] at g0 g1 g2 g3 g4 g5 g6 g7 g8
 obtain ⟨a0, k0, q0⟩ := h0.2 _ _ _ _ _ _ _ _ _ g0
 obtain ⟨a1, k1, q1⟩ := h1.2 _ _ _ _ _ _ _ _ _ g1
 obtain ⟨a2, k2, q2⟩ := h2.2 _ _ _ _ _ _ _ _ _ g2
 obtain ⟨a3, k3, q3⟩ := h3.2 _ _ _ _ _ _ _ _ _ g3
 obtain ⟨a4, k4, q4⟩ := h4.2 _ _ _ _ _ _ _ _ _ g4
 obtain ⟨a5, k5, q5⟩ := h5.2 _ _ _ _ _ _ _ _ _ g5
 obtain ⟨a6, k6, q6⟩ := h6.2 _ _ _ _ _ _ _ _ _ g6
 obtain ⟨a7, k7, q7⟩ := h7.2 _ _ _ _ _ _ _ _ _ g7
 obtain ⟨a8, k8, q8⟩ := h8.2 _ _ _ _ _ _ _ _ _ g8
 refine ⟨(a0, a1, a2, a3, a4, a5, a6, a7, a8), ⟨_, _, ?_, k0, _, _, rfl, k1, _, _, rfl, k2, _, _, rfl, k3, _, _, rfl, k4, _, _, rfl, k5, _, _, rfl, k6, _, _, rfl, k7, k8⟩, q0, q1, q2, q3, q4, q5, q6, q7, q8⟩
 rw [o0, o1, o2, o3, o4, o5, o6, o7, o8, h0.1, h1.1, h2.1, h3.1, h4.1, h5.1, h6.1, h7.1, h8.1, List.drop_zero]
 rw [hc] at hl
 have key : ∀ (o m : Nat), (cs.drop o).take m ++ cs.drop (o + m) = cs.drop o := fun o m => by rw [← List.drop_drop, List.take_append_drop]
 have e1 : (cs.drop (d0.sz + d1.sz + d2.sz + d3.sz + d4.sz + d5.sz + d6.sz + d7.sz)).take d8.sz = cs.drop (d0.sz + d1.sz + d2.sz + d3.sz + d4.sz + d5.sz + d6.sz + d7.sz) := List.take_of_length_le (by rw [List.length_drop]; omega)
 rw [e1, key (d0.sz + d1.sz + d2.sz + d3.sz + d4.sz + d5.sz + d6.sz) d7.sz, key (d0.sz + d1.sz + d2.sz + d3.sz + d4.sz + d5.sz) d6.sz, key (d0.sz + d1.sz + d2.sz + d3.sz + d4.sz) d5.sz, key (d0.sz + d1.sz + d2.sz + d3.sz) d4.sz, key (d0.sz + d1.sz + d2.sz) d3.sz, key (d0.sz + d1.sz) d2.sz, key (d0.sz) d1.sz, List.take_append_drop]
end Go.Proofs.Ytedfcjcnhgomoaa.Opens
end
-- MERGED YtedfcjcnhgomoaaMaps1
section
namespace Go.Proofs.Ytedfcjcnhgomoaa.Maps1
open Go.RowKit Go.Proofs.YtedfcjcnhgomoaaW.PrintWords Go.Proofs.YtedfcjcnhgomoaaW.PrintLast Go.Proofs.YtedfcjcnhgomoaaW.PrintMore
theorem C_map {α β : Type} {d : Kd α} {d' : Kd β} {w : World} {A : Option Addr} {n : Nat} {xs : List α} (hs : d.sz = d'.sz) (f : α → β) (hK : ∀ x cs, d.K w x cs → d'.K w (f x) cs) (h : Kd.C d w A n xs) : Kd.C d' w A n (xs.map f) := by
 refine ⟨by rw [List.length_map]; exact h.1, h.2.1, fun hp => ?_⟩
 obtain ⟨ad, e, hr⟩ := h.2.2 hp
 refine ⟨ad, e, fun j p hj => ?_⟩
 rw [List.getElem?_map] at hj
 cases hx : xs[j]? with
 | none => rw [hx] at hj; cases hj
 | some x =>
  rw [hx] at hj
  obtain rfl := Option.some.inj hj
  obtain ⟨c, h1, h2, h3⟩ := hr j x hx
  exact ⟨c, by rw [h1, hs], hK x c h2, fun i u hu => by rw [← hs]; exact h3 i u hu⟩
end Go.Proofs.Ytedfcjcnhgomoaa.Maps1
end
-- MERGED YtedfcjcnhgomoaaMsgRow
section
namespace Go.Proofs.Ytedfcjcnhgomoaa.MsgRow
open Go.RowKit Go.Proofs.Ytedfcjcnhgomoaa.P Go.Proofs.YtedfcjcnhgomoaaW.PrintWords Go.Proofs.YtedfcjcnhgomoaaW.PrintLast Go.Proofs.YtedfcjcnhgomoaaW.PrintMore Go.Proofs.Ytedfcjcnhgomoaa.NoteN Go.Proofs.Ytedfcjcnhgomoaa.MsgA Go.Proofs.Ytedfcjcnhgomoaa.MsgW Go.Proofs.Ytedfcjcnhgomoaa.MsgE
set_option linter.unusedVariables false
abbrev Tm : Type := Int × Int × Int × Int × Int × Int × List (Int × ByteArray × Int) × ByteArray × List ((Int × Int) × Int)
abbrev dR : Kd (Int × ByteArray × Int) := Kd.pair (Kd.int .i64) (Kd.pair Kd.string (Kd.int .i64))
abbrev dN : Kd ((Int × Int) × Int) := Kd.pair (Kd.pair (Kd.int .i64) (Kd.int .i64)) (Kd.int .i64)
def mkR (x : Int × ByteArray × Int) : EditL.Rn := ⟨x.1, x.2.1, x.2.2⟩
def mkN (x : (Int × Int) × Int) : Nt := ⟨⟨x.1.1, x.1.2⟩, x.2⟩
def mkM (x : Tm) : Ms := ⟨x.1, x.2.1, x.2.2.1, x.2.2.2.1, x.2.2.2.2.1, x.2.2.2.2.2.1, x.2.2.2.2.2.2.1.map mkR, x.2.2.2.2.2.2.2.1, x.2.2.2.2.2.2.2.2.map mkN⟩
theorem lies_of {w : World} {x : Tm} {cs : Array Value} (h : (Kd.pair (Kd.int .i64) (Kd.pair (Kd.int .i64) (Kd.pair (Kd.int .i64) (Kd.pair (Kd.int .i64) (Kd.pair (Kd.int .i64) (Kd.pair (Kd.int .i64) (Kd.pair (Kd.slice 85 dR) (Kd.pair Kd.string (Kd.slice 104 dN))))))))).K w x cs.toList) :
  ∃ A6 c6 A8 c8, Value.agg cs = ((mkM x).mg A6 c6 A8 c8).val ∧ Lies (mkM x) A6 c6 A8 c8 w := by
 obtain ⟨_, _, he, rfl, _, _, rfl, rfl, _, _, rfl, rfl, _, _, rfl, rfl, _, _, rfl, rfl, _, _, rfl, rfl, _, _, rfl, ⟨A6, c6, rfl, hc6, hC6⟩, _, _, rfl, rfl, ⟨A8, c8, rfl, hc8, hC8⟩⟩ := h
 refine ⟨A6, c6, A8, c8, ?_, ?_⟩
 ·rw [show cs = ((mkM x).mg A6 c6 A8 c8).cs from by
   apply Array.toList_inj.1
   rw [he]
   simp [Ms.mg, Mg.cs, mkM]]
  rfl
 ·refine ⟨?_, by simpa [mkM] using hc6, ?_, by simpa [mkM] using hc8⟩
  ·have := Maps1.C_map (d := dR) (d' := k85) rfl mkR (fun x cs hx => hx) hC6
   show Kd.C k85 w A6 (x.2.2.2.2.2.2.1.map mkR).length (x.2.2.2.2.2.2.1.map mkR)
   rw [List.length_map]; exact this
  ·have := Maps1.C_map (d := dN) (d' := k104) rfl mkN (fun x cs hx => hx) hC8
   show Kd.C k104 w A8 (x.2.2.2.2.2.2.2.2.map mkN).length (x.2.2.2.2.2.2.2.2.map mkN)
   rw [List.length_map]; exact this
end Go.Proofs.Ytedfcjcnhgomoaa.MsgRow
end
-- MERGED YtedfcjcnhgomoaaMsgBackRow
section
namespace Go.Proofs.Ytedfcjcnhgomoaa.MsgBackRow
open Go.RowKit Go.Proofs.Ytedfcjcnhgomoaa.P Go.Proofs.YtedfcjcnhgomoaaW.PrintWords Go.Proofs.YtedfcjcnhgomoaaW.PrintLast Go.Proofs.YtedfcjcnhgomoaaW.PrintMore Go.Proofs.Ytedfcjcnhgomoaa.Own Go.Proofs.Ytedfcjcnhgomoaa.MsgRow
set_option linter.unusedVariables false
theorem row (cs : Array Value) (x : Tm) (cs2 : Array Value) (x2 : Tm) (A : Option Addr) (c : Nat) (l : List Int) (w : World) {p1 p2 : Prop} (h1 : (Kd.pair (Kd.int .i64) (Kd.pair (Kd.int .i64) (Kd.pair (Kd.int .i64) (Kd.pair (Kd.int .i64) (Kd.pair (Kd.int .i64) (Kd.pair (Kd.int .i64) (Kd.pair (Kd.slice 85 MsgRow.dR) (Kd.pair Kd.string (Kd.slice 104 MsgRow.dN))))))))).K w x cs.toList) (_ : p1) (h2 : (Kd.pair (Kd.int .i64) (Kd.pair (Kd.int .i64) (Kd.pair (Kd.int .i64) (Kd.pair (Kd.int .i64) (Kd.pair (Kd.int .i64) (Kd.pair (Kd.int .i64) (Kd.pair (Kd.slice 85 MsgRow.dR) (Kd.pair Kd.string (Kd.slice 104 MsgRow.dN))))))))).K w x2 cs2.toList) (_ : p2)
  (hC : Kd.C (Kd.int .u8) w A l.length l) (hc : l.length ≤ c) (ok : l.length ≤ maxLen ∧ ∀ y ∈ l, (Lit.int .u8 y).wf = true) (_ : l.length * 1 ≤ 140737488351232) :
  Calls Try.prog 11 #[.agg cs, .agg cs2, .slice A l.length c] w fun e w' => e = .returned (.bool true) ∧ Below w.heap.size w w' := by
 obtain ⟨A6, c6, A8, c8, e1, l1⟩ := lies_of h1
 obtain ⟨B6, d6, B8, d8, e2, l2⟩ := lies_of h2
 rw [e1, e2]
 exact MsgBackLaw.back_c (mkM x) (mkM x2) A6 c6 A8 c8 B6 d6 B8 d8 _ l w l1 l2 (Sl.mk hC hc) (Byt.ok_of_wf ok.2)
end Go.Proofs.Ytedfcjcnhgomoaa.MsgBackRow
end
-- MERGED YtedfcjcnhgomoaaWSized
section
namespace Go.Proofs.YtedfcjcnhgomoaaW.PrintWords
open Go.ChangeShapes Go.WideShapes
theorem sized_ints {H : Type} {enc : TypeId × Value → H} {P : Program} {W : World} {base : Nat} {spare : Nat → Bool} {held : Bool} {t e : TypeId} {k : IntKind} {a : Option Addr} {len cap : Nat} {d : DataW H} {ps : List MemPlace} {ts : List TypeId} {ds : List (DataW H)} {j : Nat}
  (hsz : (DataW.weightsEach P ts ds).all (· ≤ reachBytes) = true) (ht : ts[j]? = some t) (hd : ds[j]? = some d) (hu : P.underlying t = some (.slice e)) (he : P.underlying e = some (.int k)) (hc : P.cellsOf e = 1) {B : Nat} (hB : P.bytesOf e = B)
  (h : DataW.Trod enc P W base spare held t (.slice a len cap) d ps) : len * B ≤ 140737488351232 := by
 obtain ⟨fuel, hf⟩ := h
 rcases open_ints hu he hc hf with ⟨hcs, _⟩ | ⟨x, l, c, zs, hcs, _, hl, _, hz, hx, _, _⟩
 ·simp [Value.cells] at hcs
  obtain ⟨rfl, rfl, rfl⟩ := hcs
  simp
 ·simp [Value.cells] at hcs
  obtain ⟨rfl, rfl, rfl⟩ := hcs
  obtain ⟨hx, _⟩ := Prod.mk.inj hx
  subst hx
  have z := sized_slice hsz ht hd hu
  rw [hB] at z
  have hl2 : len ≤ zs.length := by
   rw [hz]
   split
   ·exact hl
   ·exact Nat.le_refl _
  have h1 : (lits (H := H) k (zs.take len)).length + (lits (H := H) k (zs.drop len)).length = zs.length := by
   simp [lits]
   omega
  rw [h1] at z
  exact Nat.le_trans (Nat.mul_le_mul_right _ hl2) z
end Go.Proofs.YtedfcjcnhgomoaaW.PrintWords
end
-- MERGED YtedfcjcnhgomoaaLawMessageBack
section
namespace Go.Proofs.Ytedfcjcnhgomoaa.messageBack
open Go.ChangeShapes Go.WideShapes Go.ChangeAt Go.RowKit Go.Proofs.YtedfcjcnhgomoaaW.PrintWords
open Go.ChangeMaps (open_string shut_string)
set_option linter.unusedVariables false
theorem own : ownKnob Try.prog.godebug = none := by kernel_rfl
theorem laidOut : laidOutB Try.prog = true := by kernel_rfl
theorem o3 : Opens.Opens Try.prog 3 (Kd.int .i64) (fun n => (Lit.int .i64 n).wf = true) := Opens.int_ (t := 3) Try.underlying3 (by kernel_rfl)
theorem o9 : Opens.Opens Try.prog 9 Kd.string (fun s => s.size ≤ maxLen) := Opens.string_ (t := 9) Try.underlying9 (by kernel_rfl)
theorem o85 : Opens.Opens Try.prog 85 (Kd.pair (Kd.int .i64) (Kd.pair Kd.string (Kd.int .i64))) (fun x => (fun n => (Lit.int .i64 n).wf = true) x.1 ∧ (fun s => s.size ≤ maxLen) x.2.1 ∧ (fun n => (Lit.int .i64 n).wf = true) x.2.2) := Opens.struct3_ (t := 85) Try.underlying85 (by kernel_rfl) o3 o9 o3 rfl rfl rfl
theorem o41 : Opens.Opens Try.prog 41 (Kd.slice 85 (Kd.pair (Kd.int .i64) (Kd.pair Kd.string (Kd.int .i64)))) (fun l => l.length ≤ maxLen ∧ ∀ x ∈ l, (fun x => (fun n => (Lit.int .i64 n).wf = true) x.1 ∧ (fun s => s.size ≤ maxLen) x.2.1 ∧ (fun n => (Lit.int .i64 n).wf = true) x.2.2) x) := Opens.slice_ (t := 41) (e := 85) Try.underlying41 (by kernel_rfl) o85
theorem o102 : Opens.Opens Try.prog 102 (Kd.pair (Kd.int .i64) (Kd.int .i64)) (fun x => (fun n => (Lit.int .i64 n).wf = true) x.1 ∧ (fun n => (Lit.int .i64 n).wf = true) x.2) := Opens.struct2_ (t := 102) Try.underlying102 (by kernel_rfl) o3 o3 rfl rfl
theorem o104 : Opens.Opens Try.prog 104 (Kd.pair (Kd.pair (Kd.int .i64) (Kd.int .i64)) (Kd.int .i64)) (fun x => (fun x => (fun n => (Lit.int .i64 n).wf = true) x.1 ∧ (fun n => (Lit.int .i64 n).wf = true) x.2) x.1 ∧ (fun n => (Lit.int .i64 n).wf = true) x.2) := Opens.struct2_ (t := 104) Try.underlying104 (by kernel_rfl) o102 o3 rfl rfl
theorem o42 : Opens.Opens Try.prog 42 (Kd.slice 104 (Kd.pair (Kd.pair (Kd.int .i64) (Kd.int .i64)) (Kd.int .i64))) (fun l => l.length ≤ maxLen ∧ ∀ x ∈ l, (fun x => (fun x => (fun n => (Lit.int .i64 n).wf = true) x.1 ∧ (fun n => (Lit.int .i64 n).wf = true) x.2) x.1 ∧ (fun n => (Lit.int .i64 n).wf = true) x.2) x) := Opens.slice_ (t := 42) (e := 104) Try.underlying42 (by kernel_rfl) o104
theorem o44 : Opens.Opens Try.prog 44 (Kd.pair (Kd.int .i64) (Kd.pair (Kd.int .i64) (Kd.pair (Kd.int .i64) (Kd.pair (Kd.int .i64) (Kd.pair (Kd.int .i64) (Kd.pair (Kd.int .i64) (Kd.pair (Kd.slice 85 (Kd.pair (Kd.int .i64) (Kd.pair Kd.string (Kd.int .i64)))) (Kd.pair Kd.string (Kd.slice 104 (Kd.pair (Kd.pair (Kd.int .i64) (Kd.int .i64)) (Kd.int .i64))))))))))) (fun x => (fun n => (Lit.int .i64 n).wf = true) x.1 ∧ (fun n => (Lit.int .i64 n).wf = true) x.2.1 ∧ (fun n => (Lit.int .i64 n).wf = true) x.2.2.1 ∧ (fun n => (Lit.int .i64 n).wf = true) x.2.2.2.1 ∧ (fun n => (Lit.int .i64 n).wf = true) x.2.2.2.2.1 ∧ (fun n => (Lit.int .i64 n).wf = true) x.2.2.2.2.2.1 ∧ (fun l => l.length ≤ maxLen ∧ ∀ x ∈ l, (fun x => (fun n => (Lit.int .i64 n).wf = true) x.1 ∧ (fun s => s.size ≤ maxLen) x.2.1 ∧ (fun n => (Lit.int .i64 n).wf = true) x.2.2) x) x.2.2.2.2.2.2.1 ∧ (fun s => s.size ≤ maxLen) x.2.2.2.2.2.2.2.1 ∧ (fun l => l.length ≤ maxLen ∧ ∀ x ∈ l, (fun x => (fun x => (fun n => (Lit.int .i64 n).wf = true) x.1 ∧ (fun n => (Lit.int .i64 n).wf = true) x.2) x.1 ∧ (fun n => (Lit.int .i64 n).wf = true) x.2) x) x.2.2.2.2.2.2.2.2) := Opens.struct9_ (t := 44) Try.underlying44 (by kernel_rfl) o3 o3 o3 o3 o3 o3 o41 o9 o42 rfl rfl rfl rfl rfl rfl rfl rfl rfl
theorem o5 : Opens.Opens Try.prog 5 (Kd.int .u8) (fun n => (Lit.int .u8 n).wf = true) := Opens.int_ (t := 5) Try.underlying5 (by kernel_rfl)
theorem o25 : Opens.Opens Try.prog 25 (Kd.slice 5 (Kd.int .u8)) (fun l => l.length ≤ maxLen ∧ ∀ x ∈ l, (fun n => (Lit.int .u8 n).wf = true) x) := Opens.slice_ (t := 25) (e := 5) Try.underlying25 (by kernel_rfl) o5
set_option maxRecDepth 100000 in
theorem lifted (os : Os) (started : os.Started) (H : Type) (enc : TypeId × Value → H) :
  ReturnsInHanded {} Try.checked os 11 .any (Rows.messageBackSpec.pre6 enc Try.prog Try.f11 Rows.messageBackRow.domain false) (Rows.messageBackSpec.post enc Try.prog Try.f11 false true false false) := by
 refine returnsInHanded_of_change_sized (C := Try.checked) own started (by kernel_rfl) Try.func11
  (ChangeSpec.witness6 (enc := enc) (C := Try.checked) false ⟨#[], #[(.agg #[(.int .i64 0), (.int .i64 0), (.int .i64 0), (.int .i64 0), (.int .i64 0), (.int .i64 0), (.slice none 0 0), (.string ByteArray.empty), (.slice none 0 0)]), (.agg #[(.int .i64 0), (.int .i64 0), (.int .i64 0), (.int .i64 0), (.int .i64 0), (.int .i64 0), (.slice none 0 0), (.string ByteArray.empty), (.slice none 0 0)]), (.slice none 0 0)], []⟩ 8 (by kernel_rfl) (by kernel_rfl) (by kernel_rfl) (by kernel_rfl)) ?_
 intro W base args ds gs before hval0 hW hcnd hsz0 _
 have hsz : (DataW.weightsEach Try.prog (Try.f11.params.toList ++ Rows.messageBackSpec.plain.varTypes Try.prog) (ds ++ gs)).all (· ≤ reachBytes) = true := hsz0
 have hval : ∀ (j : Nat) t v, Try.f11.params[j]? = some t → args[j]? = some v → Value.okWide Try.prog W .any base t v := hval0
 have hW' := hW
 obtain ⟨p, q, hA0, hV, rfl, hfz, hnd⟩ := hW
 have hA : DataW.TrodAll enc Try.prog W 0 (fun _ => true) true Try.f11.params.toList args.toList ds p := hA0
 rw [Try.params11] at hA hval hsz
 obtain ⟨v0, vs0, d0, ds0, p0, q0, hargs, rfl, rfl, h0, r0⟩ := trodAll_cons hA
 obtain ⟨v1, vs1, d1, ds1, p1, q1, rfl, rfl, rfl, h1, r1⟩ := trodAll_cons r0
 obtain ⟨v2, vs2, d2, ds2, p2, q2, rfl, rfl, rfl, h2, r2⟩ := trodAll_cons r1
 obtain ⟨rfl, rfl, rfl⟩ := trodAll_nil r2
 obtain rfl : args = #[v0, v1, v2] := by cases args; simp_all
 obtain ⟨rfl, rfl⟩ := trodVars_none hV
 obtain ⟨cs0, rfl, hcs0⟩ := okWide_struct Try.underlying44 (hval 0 44 v0 rfl rfl)
 have k0 := h0
 have lt0 : ∀ x ∈ p0, x.block < W.heap.size := by obtain ⟨m, hm⟩ := k0; exact DataW.trod_lt m _ _ _ hm
 obtain ⟨x0, hK0, ok0⟩ := Opens.arg_ o44 h0
 obtain ⟨cs1, rfl, hcs1⟩ := okWide_struct Try.underlying44 (hval 1 44 v1 rfl rfl)
 have k1 := h1
 have lt1 : ∀ x ∈ p1, x.block < W.heap.size := by obtain ⟨m, hm⟩ := k1; exact DataW.trod_lt m _ _ _ hm
 obtain ⟨x1, hK1, ok1⟩ := Opens.arg_ o44 h1
 obtain ⟨a2, len2, cap2, rfl⟩ := okWide_slice Try.underlying25 (hval 2 25 v2 rfl rfl)
 have k2 := h2
 have lt2 : ∀ x ∈ p2, x.block < W.heap.size := by obtain ⟨m, hm⟩ := k2; exact DataW.trod_lt m _ _ _ hm
 obtain ⟨x2, hK2, ok2⟩ := Opens.arg_ o25 h2
 obtain ⟨rfl, hc2, hC2⟩ := Opens.slice_shape hK2
 have y2 : x2.length * 1 ≤ 140737488351232 := Go.Proofs.YtedfcjcnhgomoaaW.PrintWords.sized_ints hsz (j := 2) (t := 25) rfl rfl Try.underlying25 Try.underlying5 (by kernel_rfl) (by kernel_rfl) k2
 clear hA0 hval0 hsz0 hsz
 refine (MsgBackRow.row cs0 x0 cs1 x1 a2 cap2 x2 W hK0 ok0 hK1 ok1 hC2 hc2 ok2 y2).mono fun e W' ⟨he, bel⟩ => ?_
 subst he
 exact ⟨_, rfl, _, _, _, [], _, [], hW', trodAll_mk1 (shut_bool Try.underlying4 _), (trodAll_cons_mk (Below.trod laidOut (by kernel_rfl) (of_decide_eq_true (by kernel_rfl)) k0 bel lt0) (trodAll_cons_mk (Below.trod laidOut (by kernel_rfl) (of_decide_eq_true (by kernel_rfl)) k1 bel lt1) (trodAll_cons_mk (Below.trod laidOut (by kernel_rfl) (of_decide_eq_true (by kernel_rfl)) k2 bel lt2) trodAll_mk0))), rfl, bel.frame _, fun h => by cases h⟩
theorem over : Rows.messageBackRow.holds Try.pinned (OpenSpec.ofChange Rows.messageBackSpec) :=
 OpenClaim.holds_of_wide 11 Try.f11 rfl rfl rfl rfl rfl rfl rfl ⟨rfl, rfl, rfl, rfl, rfl⟩ rfl rfl rfl rfl rfl (by kernel_rfl) Try.func11 (by kernel_rfl)
  (of_decide_eq_true (by kernel_rfl)) (by unfold Func.isWrapper; first | (rw [if_pos (by decide +kernel)]; kernel_rfl) | (rw [if_neg (by decide +kernel)]; exact ⟨rfl, rfl⟩))
  (fun os started H enc _ => lifted os started H enc)
theorem proved : Rows.MessageBackSaid := over
#print axioms proved
end Go.Proofs.Ytedfcjcnhgomoaa.messageBack
namespace Go.Proofs.Ytedfcjcnhgomoaa
theorem messageBack_holds : Rows.MessageBackSaid := messageBack.proved
end Go.Proofs.Ytedfcjcnhgomoaa
end

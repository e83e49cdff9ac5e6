/- Shaken: what the claim's theorem needs of our texts, of the printed ones and of the print's words. -/
import Derived.Test.YtjbnffadfohofaaXCarryWithinD
import Derived.Deep.QuietTactic
import Derived.BigQuiet
import Derived.Deep.Slices
import Derived.ChangeArms
import Derived.OpenShut
import Derived.ShutString
import Derived.SizedLaws
import Derived.ChangeSlices
import Derived.Test.YtjbnffadfohofaaRows
import Derived.WalkKit
import Derived.ProofKit
import Derived.ChangeOld
import Derived.Below
-- MERGED YtjbnffadfohofaaCarryS
section
namespace Go.Proofs.Ytjbnffadfohofaa.CarryS
open Go.RowKit Go.Proofs.Ytjbnffadfohofaa.P Go.Proofs.YtjbnffadfohofaaW.PrintWords Go.Proofs.YtjbnffadfohofaaW.PrintLast Go.Proofs.YtjbnffadfohofaaW.PrintMore Go.Proofs.Ytjbnffadfohofaa.Own Go.Proofs.Ytjbnffadfohofaa.NoteN Go.Proofs.Ytjbnffadfohofaa.CarryN Go.Proofs.Ytjbnffadfohofaa.MsgA
set_option linter.unusedSimpArgs false
set_option linter.unusedVariables false
def Sh (g : Nat) (rev : Int) (v : Value) (ops : Int) (b : Bool) (w : World) : Prop := w.heap[g]? = some (.cells #[.int .i64 rev, v, .int .i64 ops, .bool b] 53 (0, 0))
theorem Sh.cells {g : Nat} {rev ops : Int} {v : Value} {b : Bool} {w : World} (h : Sh g rev v ops b w) : w.cell? ⟨g, 0, none⟩ = some (.int .i64 rev) ∧ w.cell? ⟨g, 1, none⟩ = some v ∧ w.cell? ⟨g, 2, none⟩ = some (.int .i64 ops) ∧ w.cell? ⟨g, 3, none⟩ = some (.bool b) := by
 unfold Sh at h
 exact ⟨by rw [cell_of_row w _ 0 _ _ _ h]; rfl, by rw [cell_of_row w _ 1 _ _ _ h]; rfl, by rw [cell_of_row w _ 2 _ _ _ h]; rfl, by rw [cell_of_row w _ 3 _ _ _ h]; rfl⟩
theorem Sh.lt {g : Nat} {rev ops : Int} {v : Value} {b : Bool} {w : World} (h : Sh g rev v ops b w) : g < w.heap.size := (Array.getElem?_eq_some_iff.1 h).1
theorem Sh.fz {g : Nat} {rev ops : Int} {v : Value} {b : Bool} {w : World} (h : Sh g rev v ops b w) (o : Nat) : w.frozen? ⟨g, o, none⟩ = false := frozen_of_row w _ o _ _ h
theorem Sh.below {g : Nat} {rev ops : Int} {v : Value} {b : Bool} {w w' : World} (h : Sh g rev v ops b w) (hb : Below w.heap.size w w') : Sh g rev v ops b w' := (hb.block _ h.lt).trans h
theorem Sh.new (w : World) (rev ops : Int) (v : Value) (b : Bool) : Sh w.heap.size rev v ops b (w.alloc (.cells #[.int .i64 rev, v, .int .i64 ops, .bool b] 53)) := Own.heap_new w _
theorem Sh.set1 {g : Nat} {rev ops : Int} {v : Value} {b : Bool} {w : World} (h : Sh g rev v ops b w) (u : Value) : Sh g rev u ops b (w.setCell ⟨g, 1, none⟩ u) := heap_setCell_same w g 1 _ _ u h
theorem Sh.set2 {g : Nat} {rev ops : Int} {v : Value} {b : Bool} {w : World} (h : Sh g rev v ops b w) (u : Int) : Sh g rev v u b (w.setCell ⟨g, 2, none⟩ (.int .i64 u)) := heap_setCell_same w g 2 _ _ (.int .i64 u) h
set_option maxHeartbeats 2000000 in
set_option maxRecDepth 100000 in
theorem none_c (g : Nat) (rev ops : Int) (v : Value) (b : Bool) (w : World) (h : Sh g rev v ops b w) : Calls Try.prog 29 #[.pointer (some ⟨g, 0, none⟩)] w fun e w' => e = .returned (.bool (!b)) ∧ w' = w := by
 obtain ⟨x0, x1, x2, x3⟩ := h.cells
 clear h
 go_enter Try.func29, Try.ntmps29
 go_wp2_with fail
 go_ret
 exact ⟨by cases b <;> rfl, rfl⟩
set_option maxHeartbeats 2000000 in
set_option maxRecDepth 100000 in
theorem rev_c (g : Nat) (rev ops : Int) (v : Value) (w : World) (h : Sh g rev v ops true w) : Calls Try.prog 16 #[.pointer (some ⟨g, 0, none⟩)] w fun e w' => e = .returned (.int .i64 rev) ∧ w' = w := by
 have HN := Aside0.mk (none_c g rev ops v true w h)
 obtain ⟨x0, x1, x2, x3⟩ := h.cells
 clear h
 go_enter Try.func16, Try.ntmps16
 go_wp2_with fail
 refine HN.out.mono ?_
 rintro e w1 ⟨rfl, rfl⟩
 go_wp2_with fail
 go_ret
 exact ⟨rfl, rfl⟩
set_option maxHeartbeats 2000000 in
set_option maxRecDepth 100000 in
theorem ops_c (g : Nat) (rev ops : Int) (v : Value) (w : World) (h : Sh g rev v ops true w) : Calls Try.prog 17 #[.pointer (some ⟨g, 0, none⟩)] w fun e w' => e = .returned (.int .i64 ops) ∧ w' = w := by
 have HN := Aside0.mk (none_c g rev ops v true w h)
 obtain ⟨x0, x1, x2, x3⟩ := h.cells
 clear h
 go_enter Try.func17, Try.ntmps17
 go_wp2_with fail
 refine HN.out.mono ?_
 rintro e w1 ⟨rfl, rfl⟩
 go_wp2_with fail
 go_ret
 exact ⟨rfl, rfl⟩
set_option maxHeartbeats 2000000 in
set_option maxRecDepth 100000 in
theorem notes_c (g : Nat) (rev ops : Int) (A : Option Addr) (c : Nat) (l : List Nt) (w : World) (h : Sh g rev (.slice A l.length c) ops true w) (hC : NC w A l) (hl : l.length ≤ 1000000) : Calls Try.prog 18 #[.pointer (some ⟨g, 0, none⟩)] w fun e w' => ∃ u, e = .returned u ∧ Nr w.heap.size w' u l ∧ Below w.heap.size w w' := by
 have HN := Aside0.mk (none_c g rev ops _ true w h)
 have HC := Aside0.mk (clone_n A c l w hC hl)
 obtain ⟨x0, x1, x2, x3⟩ := h.cells
 clear h hC hl
 go_enter Try.func18, Try.ntmps18
 go_wp2_with fail
 refine HN.out.mono ?_
 rintro e w1 ⟨rfl, rfl⟩
 go_wp2_with fail
 refine HC.out.mono ?_
 rintro e w2 ⟨u, rfl, hu, hb⟩
 have HU := Aside0.mk hu
 have HB := Aside0.mk hb
 clear hu hb x0 x1 x2 x3
 go_wp2_with fail
 go_ret
 exact ⟨_, rfl, HU.out, HB.out⟩
def Made (rev : Int) (A : Option Addr) (c : Nat) (l : List Nt) (ok : Bool) (w : World) (e : Ending) (w' : World) : Prop :=
 Below w.heap.size w w' ∧ ((ok = false ∧ e = .returned (.pointer none)) ∨ (ok = true ∧ ∃ g, e = .returned (.pointer (some ⟨g, 0, none⟩)) ∧ w.heap.size ≤ g ∧ Sh g rev (.slice A l.length c) 0 true w'))
def notesM (A : Option Addr) (n c : Nat) : Mg := ⟨5, 0, 0, 0, 0, 0, .slice none 0 0, ⟨#[]⟩, .slice A n c⟩
theorem good_notes (A : Option Addr) (n c : Nat) (gn : Bool) : MsgD.goodM (notesM A n c) true gn = gn := by
 cases gn
 ·rfl
 ·show (!(MsgD.fieldsL 5).isEmpty && MsgC.Mg.same (MsgD.kindM 5) (MsgD.kindM 5) true true) = true
  unfold MsgC.Mg.same MsgC.Mg.nums MsgD.kindM
  simp only [beq_self_eq_true, Bool.and_self, Bool.and_true, Bool.true_and]
  rfl
set_option maxHeartbeats 4000000 in
set_option maxRecDepth 100000 in
theorem new_c (rev : Int) (A : Option Addr) (c : Nat) (l : List Nt) (w : World) (hC : NC w A l) (hc : l.length ≤ c) (hl : l.length ≤ 1000000) :
  Calls Try.prog 12 #[.int .i64 rev, .slice A l.length c] w (Made rev A c l (fineL l && decide (0 ≤ rev)) w) := by
 obtain ⟨gn, hf⟩ : ∃ gn, gn = fineL l := ⟨_, rfl⟩
 rw [← hf]
 have HG := Aside0.mk (MsgD.good_c (notesM A l.length c) true gn w ⟨_, _, _, rfl, by decide⟩ ⟨_, _, _, rfl, by omega⟩
  (fun W _ => edit_Good.calls 10 none 0 [] true W (Kd.C_nil _ _) (by simp) (by rfl))
  (fun W hb => by rw [hf]; exact MsgF.fine_c A c l W (NC.below hC hb) hc hl))
 rw [good_notes] at HG
 clear hC hc hl hf
 go_enter Try.func12, Try.ntmps12
 go_wp2_with fail
 refine HG.out.mono ?_
 rintro e w1 ⟨rfl, hb⟩
 have HB := Aside0.mk hb
 clear hb HG
 cases gn with
 | false =>
  go_wp2_with fail
  go_ret
  exact ⟨HB.out, .inl ⟨rfl, rfl⟩⟩
 | true =>
  by_cases hr : rev < 0
  ·have hr' : rev < 0 := hr
   go_wp2_with fail
   go_ret
   exact ⟨HB.out, .inl ⟨by rw [decide_eq_false (show ¬ (0 ≤ rev) by omega)]; rfl, rfl⟩⟩
  ·have hr' : 0 ≤ rev := by omega
   have HS := Aside0.mk (Sh.new w1 rev 0 (.slice A l.length c) true)
   have HB2 := Aside0.mk (below_alloc HB.out (.cells #[.int .i64 rev, .slice A l.length c, .int .i64 0, .bool true] 53))
   go_wp2_with fail
   go_ret
   exact ⟨HB2.out, .inr ⟨by rw [decide_eq_true (show 0 ≤ rev by omega)]; rfl, _, rfl, HB.out.size, HS.out⟩⟩
theorem one_op {w : World} {A : Option Addr} {c : Nat} {op : List S49} (hC : Kd.C k49 w A op.length op) (hc : op.length ≤ c) :
  Kd.C (Kd.slice 49 k49) (w.alloc (.cells #[.slice A op.length c] 34)) (some ⟨w.heap.size, 0, none⟩) ([op] : List (List S49)).length [op] := by
 refine ⟨rfl, by simp, fun _ => ⟨_, rfl, fun j p hj => ?_⟩⟩
 cases j with
 | succ j => simp at hj
 | zero =>
  obtain rfl : op = p := by simpa using hj
  refine ⟨[.slice A op.length c], rfl, ?_, fun i u hu => ?_⟩
  ·exact ⟨A, c, rfl, hc, Kd.C_below hC (below_alloc (Below.refl _ _) _)⟩
  ·have e : ((⟨w.heap.size, 0, none⟩ : Addr).add (0 * 1 + i)) = ⟨w.heap.size, i, none⟩ := by simp [Addr.add]; exact fun h => h.symm
   show World.cell? _ ((⟨w.heap.size, 0, none⟩ : Addr).add (0 * 1 + i)) = _
   rw [e, cell_of_row _ _ i _ _ _ (Own.heap_new w (.cells #[.slice A op.length c] 34))]
   simpa using hu
def Went (g : Nat) (rev ops : Int) (l' : List Nt) (v : Value) (good : Bool) (w : World) (e : Ending) (w' : World) : Prop :=
 w.grownBy w' (some g) ∧ ((good = false ∧ e = .returned (.int .i64 60) ∧ Sh g rev v ops true w') ∨
  (good = true ∧ e = .returned (.int .i64 0) ∧ ∃ A c, l'.length ≤ c ∧ NC w' A l' ∧ (∀ ad, A = some ad → 0 < l'.length → w.heap.size ≤ ad.block) ∧ Sh g rev (.slice A l'.length c) (ops + 1) true w'))
theorem grownBy_setCell (W : World) (b o : Nat) (v : Value) : W.grownBy (W.setCell ⟨b, o, none⟩ v) (some b) :=
 EditR.grownBy_setCell W b o v
theorem NC.far {w w' : World} {A : Option Addr} {l : List Nt} (h : NC w A l) (hs : ∀ ad, A = some ad → 0 < l.length → w'.heap[ad.block]? = w.heap[ad.block]?) : NC w' A l := by
 refine ⟨h.1, h.2.1, fun hp => ?_⟩
 obtain ⟨ad, e, hr⟩ := h.2.2 hp
 refine ⟨ad, e, fun j p hj => ?_⟩
 obtain ⟨c, h1, h2, h3⟩ := hr j p hj
 refine ⟨c, h1, ?_, fun i u hu => ?_⟩
 ·obtain rfl := k44_open h2
  exact k44_mk _ p
 ·refine (World.cell?_of_block ?_).trans (h3 i u hu)
  have hb : ∀ m, (ad.add m).block = ad.block := fun m => by unfold Addr.add; split <;> rfl
  rw [hb]
  exact hs ad e hp
set_option maxHeartbeats 8000000 in
set_option maxRecDepth 100000 in
theorem own_c (g : Nat) (rev ops : Int) (A : Option Addr) (c : Nat) (l : List Nt) (Ao : Option Addr) (co : Nat) (op : List S49) (w : World) (hs : Sh g rev (.slice A l.length c) ops true w) (hC : NC w A l) (hc : l.length ≤ c)
  (hO : Kd.C k49 w Ao op.length op) (hco : op.length ≤ co) (k : Nat) (l' : List Nt) (ok : Bool) (hm : carry_Move.f k l [op] = some (l', ok)) (gd : Bool) (hg : edit_Good.f k op = some gd) (ho : 0 ≤ ops ∧ ops ≤ 1000000) :
  Calls Try.prog 15 #[.pointer (some ⟨g, 0, none⟩), .slice Ao op.length co] w (Went g rev ops l' (.slice A l.length c) (ok && gd) w) := by
 have HN := Aside0.mk (none_c g rev ops _ true w hs)
 have HS := Aside0.mk hs
 have HM := Aside0.mk (carry_Move.calls k A c l (some ⟨w.heap.size, 0, none⟩) 1 [op] l' ok (w.alloc (.cells #[.slice Ao op.length co] 34)) (hC.below (below_alloc (Below.refl _ _) _)) hc (one_op hO hco) (by simp) hm)
 have HG := Aside0.mk (fun W (hb : Below w.heap.size w W) => edit_Good.calls k Ao co op gd W (Kd.C_below hO hb) hco hg)
 have HO := Aside0.mk ho
 have HWA := Aside0.mk (below_alloc (Below.refl w.heap.size w) (.cells #[.slice Ao op.length co] 34))
 obtain ⟨x0, x1, x2, x3⟩ := hs.cells
 clear hs hC hc hO hco hm hg ho
 go_enter Try.func15, Try.ntmps15
 go_wp2_with fail
 refine HN.out.mono ?_
 rintro e w1 ⟨rfl, rfl⟩
 go_wp2_with fail
 refine HM.out.mono ?_
 rintro e w2 ⟨v, rfl, hr, hb⟩
 have HB2 := Aside0.mk (HWA.out.trans (hb.mono HWA.out.size))
 have HR2 := Aside0.mk (Nr.of_R (B' := w1.heap.size) hr (by simp))
 have HS2 := Aside0.mk (HS.out.below HB2.out)
 clear hr hb x0 x1 x2 x3 HM HN HWA
 obtain ⟨A', c', rfl, hc', hC', hfar⟩ := HR2.out
 have HC' := Aside0.mk hC'
 have HF' := Aside0.mk hfar
 have HE' := Aside0.mk hc'
 clear hC' hfar hc'
 cases ok with
 | false =>
  go_wp2_with fail
  go_ret
  exact ⟨grown_of_below HB2.out _, .inl ⟨rfl, rfl, HS2.out⟩⟩
 | true =>
  have HG2 := Aside0.mk (HG.out w2 HB2.out)
  clear HG
  go_wp2_with fail
  refine HG2.out.mono ?_
  rintro e w3 ⟨rfl, hb⟩
  have HB3 := Aside0.mk (below_step HB2.out hb)
  have HS3 := Aside0.mk (HS2.out.below hb)
  have HC3 := Aside0.mk (HC'.out.below hb)
  clear hb HG2
  cases gd with
  | false =>
   go_wp2_with fail
   go_ret
   exact ⟨grown_of_below HB3.out _, .inl ⟨rfl, rfl, HS3.out⟩⟩
  | true =>
   have ho := HO.out
   have hgl := HS.out.lt
   have HS4 := Aside0.mk (HS3.out.set1 (.slice A' l'.length c'))
   have HS5 := Aside0.mk (HS4.out.set2 (ops + 1))
   have HW := Aside0.mk (show wrap64 (ops + 1) = ops + 1 by unfold wrap64; omega)
   have HGR := Aside0.mk (((grown_of_below HB3.out (some g)).trans (grownBy_setCell w3 g 1 (.slice A' l'.length c'))).trans (grownBy_setCell (w3.setCell ⟨g, 1, none⟩ (.slice A' l'.length c')) g 2 (.int .i64 (ops + 1))))
   have HC5 := Aside0.mk (NC.far HC3.out (w' := (w3.setCell ⟨g, 1, none⟩ (.slice A' l'.length c')).setCell ⟨g, 2, none⟩ (.int .i64 (ops + 1))) (fun ad e hp => by
    have := HF'.out ad e hp
    rw [Below.heap_setCell _ _ _ _ (show ad.block ≠ g by omega), Below.heap_setCell _ _ _ _ (show ad.block ≠ g by omega)]))
   obtain ⟨x0, x1, x2, x3⟩ := HS3.out.cells
   have f1 := HS3.out.fz 1
   have f2 := HS3.out.fz 2
   have f2' := HS4.out.fz 2
   obtain ⟨y0, y1, y2, y3⟩ := HS4.out.cells
   clear ho hgl
   go_wp2_with (first | rw [HW.out])
   go_ret
   exact ⟨HGR.out, .inr ⟨rfl, rfl, A', c', HE'.out, HC5.out, HF'.out, HS5.out⟩⟩
end Go.Proofs.Ytjbnffadfohofaa.CarryS
end
-- MERGED YtjbnffadfohofaaCarryLives
section
namespace Go.Proofs.Ytjbnffadfohofaa.CarryLives
open Go.RowKit Go.Proofs.Ytjbnffadfohofaa.P Go.Proofs.YtjbnffadfohofaaW.PrintWords Go.Proofs.YtjbnffadfohofaaW.PrintLast Go.Proofs.YtjbnffadfohofaaW.PrintMore Go.Proofs.Ytjbnffadfohofaa.Own Go.Proofs.Ytjbnffadfohofaa.NoteN Go.Proofs.Ytjbnffadfohofaa.CarryN Go.Proofs.Ytjbnffadfohofaa.MsgA Go.Proofs.Ytjbnffadfohofaa.CarryS
set_option linter.unusedSimpArgs false
set_option linter.unusedVariables false
abbrev Rn := S49
def n0 : Nt := ⟨⟨1, 3⟩, 7⟩
def n1 : Nt := ⟨⟨3, 5⟩, 7⟩
def p0 : List Rn := [⟨0, ⟨#[120, 121]⟩, 0⟩, ⟨5, ⟨#[]⟩, 0⟩]
set_option maxRecDepth 100000 in
theorem fine_0 : fineL [n0] = true := by kernel_rfl
set_option maxRecDepth 100000 in
theorem good_0 : edit_Good.f 100 p0 = some true := by kernel_rfl
set_option maxRecDepth 100000 in
theorem move_0 : carry_Move.f 100 [n0] [p0] = some ([n1], true) := by kernel_rfl
theorem addr0 (b i : Nat) : ((⟨b, 0, none⟩ : Addr).add i) = ⟨b, i, none⟩ := by simp [Addr.add]; exact fun h => h.symm
theorem lit_n (w : World) (x : Nt) : NC (w.alloc (.cells #[.int .i64 x.f0.f0, .int .i64 x.f0.f1, .int .i64 x.f1] 44)) (some ⟨w.heap.size, 0, none⟩) [x] := by
 refine ⟨rfl, by simp, fun _ => ⟨_, rfl, fun j p hj => ?_⟩⟩
 cases j with
 | succ j => simp at hj
 | zero =>
  obtain rfl : x = p := by simpa using hj
  refine ⟨_, rfl, k44_mk _ x, fun i u hu => ?_⟩
  rw [show (0 * k44.sz + i) = i by omega, addr0, cell_of_row _ _ i _ _ _ (Own.heap_new w _)]
  simpa using hu
theorem lit_r2 (w : World) (x y : Rn) : Kd.C k49 (w.alloc (.cells #[.int .i64 x.f0, .string x.f1, .int .i64 x.f2, .int .i64 y.f0, .string y.f1, .int .i64 y.f2] 49)) (some ⟨w.heap.size, 0, none⟩) ([x, y] : List Rn).length [x, y] := by
 refine ⟨rfl, by simp, fun _ => ⟨_, rfl, fun j p hj => ?_⟩⟩
 cases j with
 | zero =>
  obtain rfl : x = p := by simpa using hj
  refine ⟨_, rfl, k49_mk _ x, fun i u hu => ?_⟩
  rw [show (0 * k49.sz + i) = i by omega, addr0, cell_of_row _ _ i _ _ _ (Own.heap_new w _)]
  rcases i with _ | _ | _ | i
  ·simpa using hu
  ·simpa using hu
  ·simpa using hu
  ·simp at hu
 | succ j =>
  cases j with
  | succ j => simp at hj
  | zero =>
   obtain rfl : y = p := by simpa using hj
   refine ⟨_, rfl, k49_mk _ y, fun i u hu => ?_⟩
   rw [show ((0 + 1) * k49.sz + i) = 3 + i by show (0 + 1) * 3 + i = _; omega, addr0, cell_of_row _ _ (3 + i) _ _ _ (Own.heap_new w _)]
   rcases i with _ | _ | _ | i
   ·simpa using hu
   ·simpa using hu
   ·simpa using hu
   ·simp at hu
set_option maxHeartbeats 8000000 in
set_option maxRecDepth 100000 in
theorem lives_c (w : World) : Calls Try.prog 8 #[] w fun e w' => e = .returned (.bool true) ∧ Below w.heap.size w w' := by
 have HA := Aside0.mk (below_alloc (Below.refl w.heap.size w) (.cells #[.int .i64 1, .int .i64 3, .int .i64 7] 44))
 have HN := Aside0.mk (new_c 3 (some ⟨w.heap.size, 0, none⟩) 1 [n0] _ (lit_n w n0) (by simp) (by simp))
 rw [fine_0] at HN
 have HC := Aside0.mk (lit_n w n0)
 have e0 : n0.f0.f0 = 1 := rfl
 have e1 : n0.f0.f1 = 3 := rfl
 have e2 : n0.f1 = 7 := rfl
 rw [e0, e1, e2] at HN HC
 clear e0 e1 e2
 go_enter Try.func8, Try.ntmps8
 go_wp2_with fail
 refine HN.out.mono ?_
 rintro e w1 ⟨hb, h | ⟨_, g, rfl, hg, hs⟩⟩
 ·cases h.1
 have HB1 := Aside0.mk (HA.out.trans (hb.mono HA.out.size))
 have HC1 := Aside0.mk (HC.out.below hb)
 have HS1 := Aside0.mk hs
 have HGE := Aside0.mk (show w.heap.size ≤ g by simp at hg; omega)
 clear hb hs hg HN HC HA
 have HB2 := Aside0.mk (below_alloc HB1.out (.cells #[.int .i64 0, .string ⟨#[120, 121]⟩, .int .i64 0, .int .i64 5, .string ⟨#[]⟩, .int .i64 0] 49))
 have HAL := Aside0.mk (below_alloc (Below.refl w1.heap.size w1) (.cells #[.int .i64 0, .string ⟨#[120, 121]⟩, .int .i64 0, .int .i64 5, .string ⟨#[]⟩, .int .i64 0] 49))
 have HO := Aside0.mk (own_c g 3 0 (some ⟨w.heap.size, 0, none⟩) 1 [n0] (some ⟨w1.heap.size, 0, none⟩) 2 p0 _ (HS1.out.below HAL.out) (HC1.out.below HAL.out) (by simp) (lit_r2 w1 ⟨0, ⟨#[120, 121]⟩, 0⟩ ⟨5, ⟨#[]⟩, 0⟩) (by decide) 100 [n1] true move_0 true good_0 (by omega))
 go_wp2_with fail
 refine HO.out.mono ?_
 rintro e w2 ⟨hgr, h | ⟨_, rfl, A, c, hc, hC, _, hs⟩⟩
 ·cases h.1
 have HB3 := Aside0.mk (HB2.out.grown hgr HB2.out.size (fun k e => by cases e; exact HGE.out))
 have HS3 := Aside0.mk hs
 have HNN := Aside0.mk (notes_c g 3 (0 + 1) A c [n1] w2 hs hC (by simp))
 clear hgr hs hC hc HO HAL HB2 HS1 HC1 HB1
 go_wp2_with fail
 refine HNN.out.mono ?_
 rintro e w3 ⟨u, rfl, ⟨Au, cu, rfl, hcu, hCu, _⟩, hb⟩
 have HB4 := Aside0.mk (below_step HB3.out hb)
 have HS4 := Aside0.mk (HS3.out.below hb)
 obtain ⟨ad, rfl, y0, y1, y2⟩ := at_nt hCu 0 (by simp)
 rw [show ([n1] : List Nt).getD 0 z44 = n1 from rfl] at y0 y1 y2
 rw [show n1.f0.f0 = 3 from rfl] at y0
 rw [show n1.f0.f1 = 5 from rfl] at y1
 rw [show n1.f1 = 7 from rfl] at y2
 rw [show ad.add (0 * 3) = ad from by simp [Addr.add]] at y0 y1 y2
 clear hb hCu hcu HNN HS3 HB3
 have HR := Aside0.mk (rev_c g 3 _ _ w3 HS4.out)
 have HP := Aside0.mk (ops_c g 3 _ _ w3 HS4.out)
 go_wp2_with (first | (go_at_call 16; refine HR.out.mono ?_; rintro e w4 ⟨rfl, rfl⟩) | (go_at_call 17; refine HP.out.mono ?_; rintro e w4 ⟨rfl, rfl⟩))
 go_ret
 exact ⟨rfl, HB4.out⟩
end Go.Proofs.Ytjbnffadfohofaa.CarryLives
end
-- MERGED YtjbnffadfohofaaWithB
section
namespace Go.Proofs.Ytjbnffadfohofaa.WithB
open Go.RowKit Go.Proofs.Ytjbnffadfohofaa.P Go.Proofs.YtjbnffadfohofaaW.PrintWords Go.Proofs.YtjbnffadfohofaaW.PrintLast Go.Proofs.YtjbnffadfohofaaW.PrintMore Go.Proofs.Ytjbnffadfohofaa.Own Go.Proofs.Ytjbnffadfohofaa.EditL Go.Proofs.Ytjbnffadfohofaa.EditK Go.Proofs.Ytjbnffadfohofaa.EditG Go.Proofs.Ytjbnffadfohofaa.EditH Go.Proofs.Ytjbnffadfohofaa.RunA Go.Proofs.Ytjbnffadfohofaa.RunL Go.Proofs.Ytjbnffadfohofaa.PlaceS Go.Proofs.Ytjbnffadfohofaa.PlaceOv Go.Proofs.Ytjbnffadfohofaa.NoteN Go.Proofs.Ytjbnffadfohofaa.CarryN Go.Proofs.Ytjbnffadfohofaa.CarryM Go.Proofs.Ytjbnffadfohofaa.CarryR Go.Proofs.Ytjbnffadfohofaa.CarryS Go.Proofs.Ytjbnffadfohofaa.CarryLives Go.Proofs.Ytjbnffadfohofaa.WithA
set_option linter.unusedSimpArgs false
set_option linter.unusedVariables false
def Rw (w : World) (v : Value) (op : List EditL.Rn) : Prop := ∃ A c, v = .slice A op.length c ∧ op.length ≤ c ∧ Kd.C k49 w A op.length op
theorem Rw.below {w w' : World} {v : Value} {op : List EditL.Rn} (h : Rw w v op) (hb : Below w.heap.size w w') : Rw w' v op := by
 obtain ⟨A, c, e, hc, hC⟩ := h
 exact ⟨A, c, e, hc, Kd.C_below hC hb⟩
def Rl (w : World) (v : Value) (ops : List (List EditL.Rn)) : Prop := ∃ A c, v = .slice A ops.length c ∧ ops.length ≤ c ∧ Kd.C (Kd.slice 49 k49) w A ops.length ops
theorem Rl.below {w w' : World} {v : Value} {ops : List (List EditL.Rn)} (h : Rl w v ops) (hb : Below w.heap.size w w') : Rl w' v ops := by
 obtain ⟨A, c, e, hc, hC⟩ := h
 exact ⟨A, c, e, hc, Kd.C_below hC hb⟩
theorem lit_r3 (w : World) (x y z : EditL.Rn) : Kd.C k49 (w.alloc (.cells #[.int .i64 x.f0, .string x.f1, .int .i64 x.f2, .int .i64 y.f0, .string y.f1, .int .i64 y.f2, .int .i64 z.f0, .string z.f1, .int .i64 z.f2] 49)) (some ⟨w.heap.size, 0, none⟩) ([x, y, z] : List EditL.Rn).length [x, y, z] := by
 refine ⟨rfl, by simp, fun _ => ⟨_, rfl, fun j p hj => ?_⟩⟩
 rcases j with _ | _ | _ | j
 ·obtain rfl : x = p := by simpa using hj
  refine ⟨_, rfl, k49_mk _ x, fun i u hu => ?_⟩
  rw [show (0 * k49.sz + i) = i by omega, addr0, cell_of_row _ _ i _ _ _ (Own.heap_new w _)]
  rcases i with _ | _ | _ | i
  ·simpa using hu
  ·simpa using hu
  ·simpa using hu
  ·simp at hu
 ·obtain rfl : y = p := by simpa using hj
  refine ⟨_, rfl, k49_mk _ y, fun i u hu => ?_⟩
  rw [show ((0 + 1) * k49.sz + i) = 3 + i by show (0 + 1) * 3 + i = _; omega, addr0, cell_of_row _ _ (3 + i) _ _ _ (Own.heap_new w _)]
  rcases i with _ | _ | _ | i
  ·simpa using hu
  ·simpa using hu
  ·simpa using hu
  ·simp at hu
 ·obtain rfl : z = p := by simpa using hj
  refine ⟨_, rfl, k49_mk _ z, fun i u hu => ?_⟩
  rw [show ((0 + 1 + 1) * k49.sz + i) = 6 + i by show (0 + 1 + 1) * 3 + i = _; omega, addr0, cell_of_row _ _ (6 + i) _ _ _ (Own.heap_new w _)]
  rcases i with _ | _ | _ | i
  ·simpa using hu
  ·simpa using hu
  ·simpa using hu
  ·simp at hu
 ·simp at hj
theorem norm_v (K : Nat) (l : List EditL.Rn) (hl : l.length ≤ 100) (hK : 1000 ≤ K) (v : Value) (w : World) (h : Rw w v l) : Calls Try.prog 21 #[v] w fun e w' => ∃ u, e = .returned u ∧ Rw w' u (norm l) ∧ Below w.heap.size w w' := by
 obtain ⟨A, c, rfl, hc, hC⟩ := h
 refine (variorumref06_Norm.calls K A c l (norm l) w hC hc (rnorm_f (by omega) K (by omega))).mono ?_
 rintro e w' ⟨u, rfl, hr, hb⟩
 obtain ⟨A2, c2, rfl, hc2, hC2⟩ := Kd.R_reads hr
 exact ⟨_, rfl, ⟨A2, c2, rfl, hc2, hC2⟩, hb⟩
theorem one_opv {w : World} {v : Value} {op : List EditL.Rn} (h : Rw w v op) : Rl (w.alloc (.cells #[v] 34)) (.slice (some ⟨w.heap.size, 0, none⟩) 1 1) [op] := by
 obtain ⟨A, c, rfl, hc, hC⟩ := h
 exact ⟨_, _, rfl, by simp, one_op hC hc⟩
def Wi (n : Int) (l : List Nt) : Prop := ∀ x ∈ l, 0 ≤ x.f0.f0 ∧ x.f0.f0 ≤ x.f0.f1 ∧ x.f0.f1 ≤ n
theorem wi_ok {op : List EditL.Rn} (hg : good op = true) {x : Nt} (h : 0 ≤ x.f0.f0 ∧ x.f0.f0 ≤ x.f0.f1 ∧ x.f0.f1 ≤ inL op) : okN [op] x = true ∧ 0 ≤ (mv [op] x).f0.f0 ∧ (mv [op] x).f0.f0 ≤ (mv [op] x).f0.f1 ∧ (mv [op] x).f0.f1 ≤ outL op := by
 obtain ⟨h1, h2⟩ := span_in hg h.1 h.2.1 h.2.2
 unfold okN mv
 simp only [overS]
 rw [if_pos h1]
 exact ⟨rfl, h2⟩
theorem wi_move {op : List EditL.Rn} (hg : good op = true) {l : List Nt} (h : Wi (inL op) l) : moveS [op] l = (l.map (mv [op]), true) ∧ Wi (outL op) (l.map (mv [op])) := by
 constructor
 ·unfold moveS
  rw [List.all_eq_true.2 (fun x hx => (wi_ok hg (h x hx)).1)]; rfl
 ·intro y hy
  obtain ⟨x, hx, rfl⟩ := List.mem_map.1 hy
  exact (wi_ok hg (h x hx)).2
theorem gone_move {x : Nt} {n : Int} (h0 : 0 ≤ x.f0.f0) (h1 : x.f0.f0 ≤ x.f0.f1) (h2 : x.f0.f1 ≤ n) (h3 : n ≤ 3000) : moveS [norm (goneL x.f0.f0 x.f0.f1 n)] [x] = ([⟨⟨x.f0.f0, x.f0.f0⟩, x.f1⟩], true) := by
 have e := gone_span h0 h1 h2 h3
 rw [gone_norm h0 h1 h2 h3]
 unfold moveS okN mv
 simp only [overS, List.all_cons, List.all_nil, e, if_true, Bool.and_true, cond_true, List.map_cons, List.map_nil]
theorem gone_fw {x : Nt} {n : Int} (h0 : 0 ≤ x.f0.f0) (h1 : x.f0.f0 ≤ x.f0.f1) (h2 : x.f0.f1 ≤ n) (h3 : n ≤ 3000) : Fw (norm (goneL x.f0.f0 x.f0.f1 n)) := by
 rw [gone_norm h0 h1 h2 h3]
 obtain ⟨g1, g2, g3, g4⟩ := goneN_good h0 h1 h2 h3
 exact ⟨g4, fun _ => ⟨by omega, g3⟩⟩
theorem move_v (K : Nat) (hK : 11000 ≤ K) (ops : List (List EditL.Rn)) (ho : ops.length ≤ 12) (hf : ∀ op ∈ ops, Fw op) (l : List Nt) (hl : l.length ≤ 1000) (A : Option Addr) (c : Nat) (v : Value) (w : World) (hC : NC w A l) (hc : l.length ≤ c) (h : Rl w v ops) :
  Calls Try.prog 9 #[.slice A l.length c, v] w fun e w' => ∃ u, e = .returned (.tuple #[u, .bool (moveS ops l).2]) ∧ Nr 0 w' u (moveS ops l).1 ∧ Below w.heap.size w w' := by
 obtain ⟨A1, c1, rfl, hc1, hC1⟩ := h
 refine (carry_Move.calls K A c l A1 c1 ops (moveS ops l).1 (moveS ops l).2 w hC hc hC1 hc1 (move_f ops ho hf l hl K hK)).mono ?_
 rintro e w' ⟨u, rfl, hr, hb⟩
 exact ⟨u, rfl, Nr.of_R hr (Nat.zero_le _), hb⟩
theorem Nr.forms {w : World} {v : Value} {l : List Nt} (h : Nr 0 w v l) : ∃ A c, v = .slice A l.length c ∧ l.length ≤ c ∧ NC w A l := by
 obtain ⟨A, c, e, hc, hC, _⟩ := h
 exact ⟨A, c, e, hc, hC⟩
theorem one_note {w : World} {A : Option Addr} {l : List Nt} {c i : Nat} (hC : NC w A l) (hc : l.length ≤ c) (hi : i < l.length) {ad : Addr} (hA : A = some ad) : NC w (some (ad.add (i * 3))) [l.getD i z44] := by
 have h := Kd.C_mid (lo := i) (hi := i + 1) hC (by omega) (by omega) hc
 rw [if_neg (show ¬ c = i by omega), hA] at h
 have e : (l.take (i + 1)).drop i = [l.getD i z44] := by
  rw [List.drop_take, Nat.add_sub_cancel_left, drop_nt hi]; rfl
 rw [e] at h
 exact h
theorem cut_note (A : Addr) (n c i : Nat) (hi : i < n) (hc : n ≤ c) : ∀ W : World, (Instr.slice 22 (.slice (some A) n c) (some (.int .i64 (i : Int))) (some (.int .i64 ((i : Int) + 1))) none).run Try.prog W = .ok (.slice (some (A.add (i * 3))) 1 (c - i)) W := by
 obtain ⟨i0, hi0, hz0, hz1, hz2⟩ := info_parts infoNt
 intro W
 have h := cut_mid (P := Try.prog) 22 44 .i64 .i64 Try.underlying22 hi0 3 hz1 (some A) n c (i : Int) ((i : Int) + 1) (by omega) (by omega) (by omega) hc W
 rw [Int.toNat_natCast, if_neg (show ¬ c = i by omega), show ((i : Int) + 1).toNat - i = 1 by omega] at h
 exact h
end Go.Proofs.Ytjbnffadfohofaa.WithB
end
-- MERGED YtjbnffadfohofaaCarryWithinL
section
namespace Go.Proofs.Ytjbnffadfohofaa.CarryWithinL
open Go.RowKit Go.Proofs.Ytjbnffadfohofaa.P Go.Proofs.YtjbnffadfohofaaW.PrintWords Go.Proofs.YtjbnffadfohofaaW.PrintLast Go.Proofs.YtjbnffadfohofaaW.PrintMore Go.Proofs.Ytjbnffadfohofaa.Own Go.Proofs.Ytjbnffadfohofaa.EditL Go.Proofs.Ytjbnffadfohofaa.EditK Go.Proofs.Ytjbnffadfohofaa.EditG Go.Proofs.Ytjbnffadfohofaa.RunA Go.Proofs.Ytjbnffadfohofaa.RunL Go.Proofs.Ytjbnffadfohofaa.PlaceOv Go.Proofs.Ytjbnffadfohofaa.NoteN Go.Proofs.Ytjbnffadfohofaa.CarryN Go.Proofs.Ytjbnffadfohofaa.CarryM Go.Proofs.Ytjbnffadfohofaa.CarryR Go.Proofs.Ytjbnffadfohofaa.CarryS Go.Proofs.Ytjbnffadfohofaa.CarryLives Go.Proofs.Ytjbnffadfohofaa.WithA Go.Proofs.Ytjbnffadfohofaa.WithB
set_option linter.unusedSimpArgs false
set_option linter.unusedVariables false
theorem at_op {w : World} {A : Option Addr} {l : List (List EditL.Rn)} (h : Kd.C (Kd.slice 49 k49) w A l.length l) (j : Nat) (hj : j < l.length) : ∃ ad Ao co, A = some ad ∧ w.cell? (ad.add j) = some (.slice Ao (l.getD j []).length co) ∧ (l.getD j []).length ≤ co ∧ Kd.C k49 w Ao (l.getD j []).length (l.getD j []) := by
 obtain ⟨ad, e, hr⟩ := h.2.2 (by omega)
 obtain ⟨c, h1, ⟨Ao, co, rfl, hco, hC⟩, h3⟩ := hr j _ (List.getElem?_eq_getElem hj)
 have eg : l.getD j [] = l[j] := by rw [List.getD_eq_getElem?_getD, List.getElem?_eq_getElem hj]; rfl
 rw [eg]
 refine ⟨ad, Ao, co, e, ?_, hco, hC⟩
 have := h3 0 _ rfl
 rwa [show j * (Kd.slice 49 k49).sz + 0 = j by show j * 1 + 0 = j; omega] at this
structure Ww (n : Nat) (w : World) (s : ByteArray) (l : List Nt) (A : Option Addr) (c : Nat) (W : World) : Prop where
 len : l.length = n
 s_ : s.size ≤ 3000
 wi : Wi s.size l
 c_ : l.length ≤ c
 row : NC W A l
 lo : Below w.heap.size w W
theorem note0 {w : World} {Q : Addr} {x y z : Int} (h : NC w (some Q) [⟨⟨x, y⟩, z⟩]) : w.cell? Q = some (.int .i64 x) ∧ w.cell? ⟨Q.block, Q.off + 1, none⟩ = some (.int .i64 y) := by
 obtain ⟨ad, e, q0, q1, _⟩ := at_nt h 0 (by simp)
 obtain rfl := Option.some.inj e
 rw [show Q.add (0 * 3) = Q from by simp [Addr.add]] at q0 q1
 exact ⟨q0, q1⟩
def R21.T21 : Bool × List (List Nat × List Nat) := (true, [([], []), ([0], [0]), ([], []), ([], []), ([2, 3], [2, 3]), ([4], [4]), ([5], [5]), ([1, 6], [1, 6]), ([7], [7]), ([8], [8]), ([9, 8], [8, 9]), ([10, 8], [8, 10]), ([11, 8], [8, 11]), ([8, 12], [8, 12]), ([13, 8], [13]), ([14], [14]), ([15, 14], [14, 15]), ([16, 14], [14, 16]), ([14], [14]), ([18, 14], [14, 18]), ([19, 14], [14, 19]), ([17, 20, 14], [14, 17, 20]), ([14, 21], [14, 21]), ([22, 14], [22]), ([23], [23]), ([24, 23], [23, 24]), ([25, 23], [23, 25]), ([23], [23]), ([27, 23], [23, 27]), ([26, 28, 23], [23, 26, 28]), ([23, 29], [23, 29])])
def R21.B21 : List Nat := [0, 1, 0, 0, 12, 28, 60, 127, 255, 511, 1023, 2047, 4095, 8191, 16383, 32767, 65535, 131071, 32767, 294911, 819199, 2097151, 4194303, 8388607, 16777215, 33554431, 67108863, 16777215, 150994943, 536870911, 1073741823]
theorem R21.tab21 : rtab .any (opsOf Try.f5 21) = R21.T21 := by kernel_rfl
theorem R21.bits21 : waitsOk R21.T21.2 R21.B21 = true := by kernel_rfl
def R23.T23 : Bool × List (List Nat × List Nat) := (true, [([], []), ([], []), ([0, 1], [0, 1]), ([2], [2]), ([3], [3]), ([4], [4]), ([5], [5]), ([], []), ([], []), ([7, 8], [7, 8]), ([9], [9]), ([10], [10]), ([11], [11]), ([], []), ([], []), ([13, 14], [13, 14]), ([15], [15]), ([16], [16]), ([17], [17]), ([12, 18], [12, 18]), ([19], [19]), ([], []), ([21], [21]), ([], []), ([], []), ([23, 24], [23, 24]), ([25], [25]), ([26], [26]), ([27], [27]), ([22, 28], [22, 28]), ([29], [29]), ([6, 20, 30], [6, 20, 30]), ([31, 0, 1, 2, 3, 4, 5, 6, 7, 8, 9, 10, 11, 12, 13, 14, 15, 16, 17, 18, 19, 20, 21, 22, 23, 24, 25, 26, 27, 28, 29, 30, 31], [31])])
def R23.B23 : List Nat := [0, 0, 3, 7, 15, 31, 63, 0, 0, 384, 896, 1920, 3968, 0, 0, 24576, 57344, 122880, 253952, 524160, 1048448, 0, 2097152, 0, 0, 25165824, 58720256, 125829120, 260046848, 534773760, 1071644672, 2147483647, 4294967295]
theorem R23.tab23 : rtab .any (opsOf Try.f5 23) = R23.T23 := by kernel_rfl
theorem R23.bits23 : waitsOk R23.T23.2 R23.B23 = true := by kernel_rfl
def R24.T24 : Bool × List (List Nat × List Nat) := (true, [([], []), ([], []), ([], []), ([2], [2]), ([0, 1, 3], [0, 1, 3]), ([], []), ([5], [5]), ([6], [6]), ([4, 7, 6], [4, 7]), ([8], [8]), ([9], [9]), ([9], [9]), ([10, 8, 0, 1, 2, 3, 4, 5, 6, 7, 8, 9, 10], [10]), ([11, 12, 0, 1, 2, 3, 4, 5, 6, 7, 8, 9, 10, 11, 12], [11])])
def R24.B24 : List Nat := [0, 0, 0, 4, 15, 0, 32, 96, 255, 511, 1023, 1023, 2047, 8191]
theorem R24.tab24 : rtab .any (opsOf Try.f5 24) = R24.T24 := by kernel_rfl
theorem R24.bits24 : waitsOk R24.T24.2 R24.B24 = true := by kernel_rfl
def R25.T25 : Bool × List (List Nat × List Nat) := (true, [([], []), ([0], [0]), ([1], [1]), ([2], [2]), ([3, 2], [2, 3]), ([4, 2], [2, 4]), ([5, 2], [2, 5]), ([2], [2]), ([2], [2]), ([7, 8, 2], [2, 7, 8]), ([9, 2], [2, 9]), ([10, 2], [2, 10]), ([11, 2], [2, 11]), ([2], [2]), ([2], [2]), ([13, 14, 2], [2, 13, 14]), ([15, 2], [2, 15]), ([16, 2], [2, 16]), ([17, 2], [2, 17]), ([12, 18, 2], [2, 12, 18]), ([6, 19, 2], [2, 6, 19]), ([2, 20], [2, 20])])
def R25.B25 : List Nat := [0, 1, 3, 7, 15, 31, 63, 7, 7, 391, 903, 1927, 3975, 7, 7, 24583, 57351, 122887, 253959, 524167, 1048575, 2097151]
theorem R25.tab25 : rtab .any (opsOf Try.f5 25) = R25.T25 := by kernel_rfl
theorem R25.bits25 : waitsOk R25.T25.2 R25.B25 = true := by kernel_rfl
set_option maxHeartbeats 32000000 in
set_option maxRecDepth 100000 in
theorem within_c (s : ByteArray) (A : Option Addr) (c : Nat) (l : List Nt) (A1 : Option Addr) (c1 : Nat) (ops : List (List EditL.Rn)) (w : World) (hC : NC w A l) (hc : l.length ≤ c) (hO : Kd.C (Kd.slice 49 k49) w A1 ops.length ops) (hc1 : ops.length ≤ c1) :
  Calls Try.prog 5 #[.string s, .slice A l.length c, .slice A1 ops.length c1] w fun e w' => e = .returned (.bool true) ∧ Below w.heap.size w w' := by
 obtain ⟨K0, hK0⟩ : ∃ K0, K0 = 20000 := ⟨_, rfl⟩
 by_cases h500 : 500 < s.size
 ·have h500' : (500 : Int) < (s.size : Int) := by omega
  go_enter Try.func5, Try.ntmps5
  go_wp2_with fail
  refine (lives_c _).mono ?_
  rintro e w1 ⟨rfl, hb⟩
  go_wp2_with fail
  go_ret
  exact ⟨rfl, hb⟩
 have h500' : ¬ (500 : Int) < (s.size : Int) := by omega
 by_cases h40 : 40 < l.length
 ·have h40' : (40 : Int) < (l.length : Int) := by omega
  go_enter Try.func5, Try.ntmps5
  go_wp2_with fail
  refine (lives_c _).mono ?_
  rintro e w1 ⟨rfl, hb⟩
  go_wp2_with fail
  go_ret
  exact ⟨rfl, hb⟩
 have h40' : ¬ (40 : Int) < (l.length : Int) := by omega
 obtain ⟨t, ht, hli⟩ := CarryM.light_f ops K0 (by omega)
 have HLI := Aside0.mk (variorumlaw36_light.calls K0 A1 c1 ops t w hO hc1 ht)
 cases t with
 | false =>
  clear hC hO hc hc1 ht hli
  go_enter Try.func5, Try.ntmps5
  go_wp2_with fail
  refine HLI.out.mono ?_
  rintro e w0 ⟨rfl, hb0⟩
  have HB0 := Aside0.mk hb0
  clear hb0
  go_wp2_with fail
  refine (lives_c _).mono ?_
  rintro e w1 ⟨rfl, hb⟩
  have HB1 := Aside0.mk (below_step HB0.out hb)
  clear hb
  go_wp2_with fail
  go_ret
  exact ⟨rfl, HB1.out⟩
 | true =>
  obtain ⟨hol, hfw⟩ := hli rfl
  have HOL := Aside0.mk hol
  have HFW := Aside0.mk hfw
  have HC := Aside0.mk hC
  have HCC := Aside0.mk hc
  have HO := Aside0.mk hO
  have H40 := Aside0.mk (show l.length ≤ 40 by omega)
  have H500 := Aside0.mk (show s.size ≤ 500 by omega)
  have HKK := Aside0.mk hK0
  clear hC hO hc hc1 ht hli hol hfw hK0 h40 h500
  go_enter Try.func5, Try.ntmps5
  go_wp2_with fail
  refine HLI.out.mono ?_
  rintro e w0 ⟨rfl, hb0⟩
  have HB0 := Aside0.mk hb0
  clear hb0 HLI
  go_wp2_with fail
  go_loopw [36] (fun iv wr => ∃ j : Nat, j ≤ l.length ∧ iv = .int .i64 (j : Int) ∧ Wi s.size (l.take j) ∧ Below w.heap.size w wr) (fun iv _ => l.length - (intOf iv).toNat)
  case atStart => exact ⟨0, Nat.zero_le _, rfl, fun x hx => by simp at hx, HB0.out⟩
  case round =>
   clear HB0
   obtain ⟨j, hj, rfl, hwi, hb⟩ := hrel
   have HB := Aside0.mk hb
   have HWI := Aside0.mk hwi
   clear hb hwi
   by_cases hlt : j < l.length
   ·have hlt' : (j : Int) < (l.length : Int) := by omega
    have h40j : j < 40 := by have := H40.out; omega
    obtain ⟨ad, rfl, y0, y1, y2⟩ := at_nt (NC.below HC.out HB.out) j hlt
    obtain ⟨x, hx⟩ : ∃ x, x = l.getD j z44 := ⟨_, rfl⟩
    rw [← hx] at y0 y1 y2
    obtain ⟨g, hg⟩ : ∃ g, g = wr.heap.size := ⟨_, rfl⟩
    obtain ⟨w1, hw1⟩ : ∃ w1, w1 = wr.alloc (.cells #[.int .i64 0, .int .i64 0, .int .i64 0] 44) := ⟨_, rfl⟩
    obtain ⟨w2, hw2⟩ : ∃ w2, w2 = ((w1.setCell ⟨g, 0, none⟩ (.int .i64 x.f0.f0)).setCell ⟨g, 1, none⟩ (.int .i64 x.f0.f1)).setCell ⟨g, 2, none⟩ (.int .i64 x.f1) := ⟨_, rfl⟩
    have HT1 := Aside0.mk (show w1.heap[g]? = some (.cells #[.int .i64 0, .int .i64 0, .int .i64 0] 44 (0, 0)) by rw [hw1, hg]; exact Own.heap_new _ _)
    have HGE := Aside0.mk (show w.heap.size ≤ g by rw [hg]; exact HB.out.size)
    have HB2 := Aside0.mk (show Below w.heap.size w w2 by rw [hw2]; exact below_set3 (by rw [hw1]; exact below_alloc HB.out _) HGE.out _ _ _)
    have ht2 : w2.heap[g]? = some (.cells #[.int .i64 x.f0.f0, .int .i64 x.f0.f1, .int .i64 x.f1] 44 (0, 0)) := by rw [hw2]; exact set3 HT1.out _ _ _
    have HW1 := Aside0.mk hw1
    have HG1 := Aside0.mk hg
    have HW2 := Aside0.mk hw2
    have a0 : w1.cell? ⟨g, 0, none⟩ = some (.int .i64 0) := by rw [cell_of_row _ _ 0 _ _ _ HT1.out]; rfl
    have a1 : w1.cell? ⟨g, 1, none⟩ = some (.int .i64 0) := by rw [cell_of_row _ _ 1 _ _ _ HT1.out]; rfl
    have a2 : w1.cell? ⟨g, 2, none⟩ = some (.int .i64 0) := by rw [cell_of_row _ _ 2 _ _ _ HT1.out]; rfl
    have b0 : w1.frozen? ⟨g, 0, none⟩ = false := frozen_of_row _ _ 0 _ _ HT1.out
    have b1 : w1.frozen? ⟨g, 1, none⟩ = false := frozen_of_row _ _ 1 _ _ HT1.out
    have b2 : w1.frozen? ⟨g, 2, none⟩ = false := frozen_of_row _ _ 2 _ _ HT1.out
    have t0 : w2.cell? ⟨g, 0, none⟩ = some (.int .i64 x.f0.f0) := by rw [cell_of_row _ _ 0 _ _ _ ht2]; rfl
    have t1 : w2.cell? ⟨g, 1, none⟩ = some (.int .i64 x.f0.f1) := by rw [cell_of_row _ _ 1 _ _ _ ht2]; rfl
    have t2 : w2.cell? ⟨g, 2, none⟩ = some (.int .i64 x.f1) := by rw [cell_of_row _ _ 2 _ _ _ ht2]; rfl
    have HX := Aside0.mk hx
    have HLT := Aside0.mk hlt
    clear hw1 hg hx hlt ht2 hw2
    by_cases h1 : 0 ≤ x.f0.f0
    ·by_cases h2 : x.f0.f0 ≤ x.f0.f1
     ·by_cases h3 : x.f0.f1 ≤ (s.size : Int)
      ·have HWN := Aside0.mk (show Wi s.size (l.take (j + 1)) from fun y hy => by
        rw [List.take_add_one, List.mem_append] at hy
        rcases hy with hy | hy
        ·exact HWI.out y hy
        ·have hl := HLT.out
         rw [List.getElem?_eq_getElem hl] at hy
         have e : y = x := by
          rw [HX.out, List.getD_eq_getElem?_getD, List.getElem?_eq_getElem hl]
          simpa using hy
         rw [e]
         exact ⟨h1, h2, h3⟩)
       go_wp2_with (first | rw [← HG1.out, ← HW1.out] | rw [← HW2.out])
       go_roundw
       case rel => exact ⟨j + 1, by have := HLT.out; omega, by go_num, HWN.out, HB2.out⟩
       case measure => simp [intOf]; have := HLT.out; omega
      ·go_wp2_with (first | rw [← HG1.out, ← HW1.out] | rw [← HW2.out])
       refine (lives_c _).mono ?_
       rintro e w3 ⟨rfl, hb⟩
       have HB3 := Aside0.mk (below_step HB2.out hb)
       clear hb
       go_wp2_with fail
       go_ret
       exact ⟨rfl, HB3.out⟩
     ·go_wp2_with (first | rw [← HG1.out, ← HW1.out] | rw [← HW2.out])
      refine (lives_c _).mono ?_
      rintro e w3 ⟨rfl, hb⟩
      have HB3 := Aside0.mk (below_step HB2.out hb)
      clear hb
      go_wp2_with fail
      go_ret
      exact ⟨rfl, HB3.out⟩
    ·go_wp2_with (first | rw [← HG1.out, ← HW1.out] | rw [← HW2.out])
     refine (lives_c _).mono ?_
     rintro e w3 ⟨rfl, hb⟩
     have HB3 := Aside0.mk (below_step HB2.out hb)
     clear hb
     go_wp2_with fail
     go_ret
     exact ⟨rfl, HB3.out⟩
   ·obtain rfl : j = l.length := by omega
    have hlt' : ¬ ((l.length : Int) < (l.length : Int)) := by omega
    have HWW0 := Aside0.mk (show Ww l.length w s l A c wr from ⟨rfl, by have := H500.out; omega, by have h := HWI.out; rwa [List.take_length] at h, HCC.out, NC.below HC.out HB.out, HB.out⟩)
    clear HB HWI
    go_wp2_with fail
    go_loopw [0, 1, 65] (fun sv lv iv wz => ∃ (j : Nat) (s' : ByteArray) (l' : List Nt) (A' : Option Addr) (c' : Nat), j ≤ ops.length ∧ sv = .string s' ∧ lv = .slice A' l'.length c' ∧ iv = .int .i64 (j : Int) ∧ Ww l.length w s' l' A' c' wz) (fun _ _ iv _ => ops.length - (intOf iv).toNat)
    case atStart => exact ⟨0, s, l, A, c, Nat.zero_le _, rfl, rfl, rfl, HWW0.out⟩
    case round =>
     clear HWW0
     obtain ⟨j, s', l', A', c', hj, rfl, rfl, rfl, hww⟩ := hrel
     have HW := Aside0.mk hww
     clear hww
     by_cases hlt : j < ops.length
     ·have hltj : (j : Int) < (ops.length : Int) := by omega
      have h12 : j < 12 := by have := HOL.out; omega
      obtain ⟨ado, Ao, co, rfl, y, hco, hCo⟩ := at_op (Kd.C_below HO.out HW.out.lo) j hlt
      obtain ⟨op, hop⟩ : ∃ op, op = ops.getD j [] := ⟨_, rfl⟩
      rw [← hop] at y hco hCo
      have hfo : Fw op := HFW.out op (by rw [hop, List.getD_eq_getElem?_getD, List.getElem?_eq_getElem hlt]; exact List.getElem_mem hlt)
      have HFI := Aside0.mk (fun W (hb : Below wr.heap.size wr W) => variorumref07_Fits.calls K0 Ao co op s' (fitsL op s'.size) W (Kd.C_below hCo hb) hco (rfits_f (by have := hfo.1; omega) s' K0 (by have := hfo.1; have := HKK.out; omega)))
      have HAP := Aside0.mk (fun W (hb : Below wr.heap.size wr W) => variorumref07_Apply.calls K0 Ao co op s' (app op s').1 (app op s').2 W (Kd.C_below hCo hb) hco (rapply_f (by have := hfo.1; omega) (by have := HW.out.s_; omega) K0 (by have := hfo.1; have := HKK.out; omega)))
      have HCO := Aside0.mk hCo
      have HCB := Aside0.mk hco
      have HFO := Aside0.mk hfo
      clear hop hfo hCo hco
      cases hfit : fitsL op s'.size with
      | false =>
       have HFI1 := Aside0.mk (HFI.out wr (Below.refl _ _))
       rw [hfit] at HFI1
       clear hfit HFI HAP
       go_wp2_with fail
       refine HFI1.out.mono ?_
       rintro e w2 ⟨rfl, hb⟩
       have HB2 := Aside0.mk (below_step HW.out.lo hb)
       clear hb
       go_wp2_with fail
       refine (lives_c _).mono ?_
       rintro e w3 ⟨rfl, hb⟩
       have HB3 := Aside0.mk (below_step HB2.out hb)
       clear hb
       go_wp2_with fail
       go_ret
       exact ⟨rfl, HB3.out⟩
      | true =>
       obtain ⟨hgd, hin⟩ := fitsL_iff.1 hfit
       have hsz := ap_size hgd hin
       have hap := app_yes hfit
       obtain ⟨hm1, hm2⟩ := wi_move hgd (l := l') (by rw [hin]; exact HW.out.wi)
       obtain ⟨t', ht'⟩ : ∃ t', t' = apL op s' := ⟨_, rfl⟩
       rw [← ht'] at hsz hap
       obtain ⟨m, hm⟩ : ∃ m, m = l'.map (mv [op]) := ⟨_, rfl⟩
       rw [← hm] at hm1 hm2
       have hml : m.length = l'.length := by rw [hm, List.length_map]
       have HFI1 := Aside0.mk (HFI.out wr (Below.refl _ _))
       rw [hfit] at HFI1
       have HAP1 := Aside0.mk (HAP.out)
       rw [hap] at HAP1
       have HM1 := Aside0.mk hm1
       have HM2 := Aside0.mk (show Wi t'.size m by rw [hsz]; exact hm2)
       have HTS := Aside0.mk (show t'.size ≤ 3000 by have := (HFO.out.2 hgd).2; omega)
       have HMM := Aside0.mk hm
       have HML := Aside0.mk hml
       have hn40 : l'.length ≤ 40 := by have := HW.out.len; have := H40.out; omega
       have HN40 := Aside0.mk hn40
       clear hfit hgd hin hsz hap hm1 hm2 ht' hm HFI HAP hn40
       go_wp2_with fail
       refine HFI1.out.mono ?_
       rintro e w2 ⟨rfl, hb2⟩
       have HX2 := Aside0.mk hb2
       have HAP2 := Aside0.mk (HAP1.out w2 HX2.out)
       clear hb2 HAP1 HFI1
       go_wp2_with fail
       refine HAP2.out.mono ?_
       rintro e w3 ⟨rfl, hb3⟩
       have HX3 := Aside0.mk (below_step HX2.out hb3)
       clear hb3 HAP2
       have HX4 := Aside0.mk (below_alloc HX3.out (.cells #[.slice Ao op.length co] 34))
       have HMV := Aside0.mk (move_v K0 (by have := HKK.out; omega) [op] (by simp) (fun z hz => by rw [List.mem_singleton.1 hz]; exact HFO.out) l' (by have := HN40.out; omega) A' c' _ (w3.alloc (.cells #[.slice Ao op.length co] 34)) (NC.below HW.out.row HX4.out) HW.out.c_ (one_opv (show Rw w3 (.slice Ao op.length co) op from ⟨_, _, rfl, HCB.out, Kd.C_below HCO.out HX3.out⟩)))
       rw [HM1.out] at HMV
       clear HX2 y
       go_wp2_with fail
       refine HMV.out.mono ?_
       rintro e w5 ⟨um, rfl, hrow, hb5⟩
       have HX5 := Aside0.mk (below_step HX4.out (hb5.mono (by simp)))
       obtain ⟨Am, cm, rfl, hcm, hCm⟩ := Nr.forms hrow
       have HCM := Aside0.mk (show NC w5 Am m from hCm)
       have HCE := Aside0.mk (show m.length ≤ cm from hcm)
       clear hrow hb5 hCm hcm HMV HX3 HX4
       simp only []
       rw [HML.out]
       go_wp2_with fail
       have HROW := Aside0.mk (fun W (hb : Below w5.heap.size w5 W) => NC.below HW.out.row (below_step HX5.out hb))
       have HLO5 := Aside0.mk (below_step HW.out.lo HX5.out)
       have HWC := Aside0.mk HW.out.c_
       have HWWI := Aside0.mk HW.out.wi
       have HWS := Aside0.mk HW.out.s_
       have HWLN := Aside0.mk HW.out.len
       go_loopw [98] (fun iv wz => ∃ i : Nat, i ≤ l'.length ∧ iv = .int .i64 (i : Int) ∧ Below w5.heap.size w5 wz) (fun iv _ => l'.length - (intOf iv).toNat)
       case atStart => exact ⟨0, Nat.zero_le _, rfl, Below.refl _ _⟩
       case round =>
        obtain ⟨i, hi, rfl, hb⟩ := hrel
        have HBI := Aside0.mk hb
        clear hb
        by_cases hlt2 : i < l'.length
        ·have hlti : (i : Int) < (l'.length : Int) := by omega
         have hi40 : i < 40 := by have := HN40.out; omega
         have hcl : l'.length ≤ c' := HWC.out
         obtain ⟨adm, rfl, y0, y1, y2⟩ := at_nt (NC.below HCM.out HBI.out) i (by rw [HML.out]; exact hlt2)
         obtain ⟨adl, rfl, _⟩ := at_nt (HROW.out w5 (Below.refl _ _)) i hlt2
         obtain ⟨x, hx⟩ : ∃ x, x = m.getD i z44 := ⟨_, rfl⟩
         obtain ⟨z, hz⟩ : ∃ z, z = l'.getD i z44 := ⟨_, rfl⟩
         have hzm : z ∈ l' := by rw [hz, List.getD_eq_getElem?_getD, List.getElem?_eq_getElem hlt2]; exact List.getElem_mem hlt2
         have hxm : x ∈ m := by rw [hx, List.getD_eq_getElem?_getD, List.getElem?_eq_getElem (by rw [HML.out]; exact hlt2)]; exact List.getElem_mem _
         have hxz : x.f1 = z.f1 := by
          rw [hx, hz, HMM.out, List.getD_eq_getElem?_getD, List.getD_eq_getElem?_getD, List.getElem?_map, List.getElem?_eq_getElem hlt2]
          rfl
         rw [← hx, hxz] at y2
         rw [← hx] at y0 y1
         obtain ⟨hx0, hx1, hx2⟩ := HM2.out x hxm
         obtain ⟨hz0, hz1, hz2⟩ := HWWI.out z hzm
         have HMOV0 := Aside0.mk (fun W (hb : Below w5.heap.size w5 W) (v : Value) (hv : Rl W v [norm (goneL z.f0.f0 z.f0.f1 (s'.size : Int))]) => move_v K0 (by have := HKK.out; omega) [norm (goneL z.f0.f0 z.f0.f1 (s'.size : Int))] (by simp) (fun o ho => by rw [List.mem_singleton.1 ho]; exact gone_fw hz0 hz1 hz2 (by have := HWS.out; omega)) [z] (by simp) (some (adl.add (i * 3))) (c' - i) v W (by rw [hz]; exact one_note (HROW.out W hb) HWC.out hlt2 rfl) (by simp; omega) hv)
         rw [gone_move hz0 hz1 hz2 (by have := HWS.out; omega)] at HMOV0
         have hcut := cut_note adl l'.length c' i hlt2 hcl
         obtain ⟨P, hP⟩ : ∃ P, P = adl.add (i * 3) := ⟨_, rfl⟩
         have HPR0 := Aside0.mk (fun (W : World) (hW : Below w5.heap.size w5 W) => (show W.cell? P = some (.int .i64 z.f0.f0) ∧ W.cell? ⟨P.block, P.off + 1, none⟩ = some (.int .i64 z.f0.f1) ∧ W.cell? ⟨P.block, P.off + 2, none⟩ = some (.int .i64 z.f1) by
          obtain ⟨ad2, e2, q0, q1, q2⟩ := at_nt (HROW.out W hW) i hlt2
          obtain rfl := Option.some.inj e2
          rw [hz, hP]
          exact ⟨q0, q1, q2⟩))
         rw [← hP] at hcut HMOV0
         have eP : adl.add (i * 3) = P := hP.symm
         obtain ⟨xa, hxa⟩ : ∃ xa, xa = x.f0.f0 := ⟨_, rfl⟩
         obtain ⟨xb, hxb⟩ : ∃ xb, xb = x.f0.f1 := ⟨_, rfl⟩
         obtain ⟨zf, hzf⟩ : ∃ zf, zf = z.f0.f0 := ⟨_, rfl⟩
         obtain ⟨zt, hzt⟩ : ∃ zt, zt = z.f0.f1 := ⟨_, rfl⟩
         obtain ⟨zc, hzc⟩ : ∃ zc, zc = z.f1 := ⟨_, rfl⟩
         rw [← hxa] at hx0 hx1 y0
         rw [← hxb] at hx1 hx2 y1
         rw [← hzf] at hz0 hz1 HMOV0 HPR0
         rw [← hzt] at hz1 hz2 HMOV0 HPR0
         rw [← hzc] at y2 HPR0 HMOV0
         have hs3 := HWS.out
         have W1A := Aside0.mk (show wrap64 (zt - zf) = zt - zf by unfold wrap64; omega)
         have W1B := Aside0.mk (show wrap64 ((s'.size : Int) - zt) = (s'.size : Int) - zt by unfold wrap64; omega)
         have W1C := Aside0.mk (show wrap64 ((i : Int) + 1) = (i : Int) + 1 by unfold wrap64; omega)
         have hk1 : 1000 ≤ K0 := by have := HKK.out; omega
         have d1 : ¬ xa < 0 := by omega
         have d2 : ¬ xb < xa := by omega
         have d3 : ¬ ((t'.size : Int) < xb) := by omega
         obtain ⟨g, hg⟩ : ∃ g, g = wr.heap.size := ⟨_, rfl⟩
         obtain ⟨w1, hw1⟩ : ∃ w1, w1 = wr.alloc (.cells #[.int .i64 0, .int .i64 0, .int .i64 0] 44) := ⟨_, rfl⟩
         obtain ⟨w2, hw2⟩ : ∃ w2, w2 = ((w1.setCell ⟨g, 0, none⟩ (.int .i64 xa)).setCell ⟨g, 1, none⟩ (.int .i64 xb)).setCell ⟨g, 2, none⟩ (.int .i64 zc) := ⟨_, rfl⟩
         have HT1 := Aside0.mk (show w1.heap[g]? = some (.cells #[.int .i64 0, .int .i64 0, .int .i64 0] 44 (0, 0)) by rw [hw1, hg]; exact Own.heap_new _ _)
         have HGE := Aside0.mk (show w5.heap.size ≤ g by rw [hg]; exact HBI.out.size)
         have HB5 := Aside0.mk (show Below w5.heap.size w5 w2 by rw [hw2]; exact below_set3 (by rw [hw1]; exact below_alloc HBI.out _) HGE.out _ _ _)
         have HT2 := Aside0.mk (show w2.heap[g]? = some (.cells #[.int .i64 xa, .int .i64 xb, .int .i64 zc] 44 (0, 0)) by rw [hw2]; exact set3 HT1.out _ _ _)
         have HW1 := Aside0.mk hw1
         have HG1 := Aside0.mk hg
         have HW2 := Aside0.mk hw2
         have a0 : w1.cell? ⟨g, 0, none⟩ = some (.int .i64 0) := by rw [cell_of_row _ _ 0 _ _ _ HT1.out]; rfl
         have a1 : w1.cell? ⟨g, 1, none⟩ = some (.int .i64 0) := by rw [cell_of_row _ _ 1 _ _ _ HT1.out]; rfl
         have a2 : w1.cell? ⟨g, 2, none⟩ = some (.int .i64 0) := by rw [cell_of_row _ _ 2 _ _ _ HT1.out]; rfl
         have b0 : w1.frozen? ⟨g, 0, none⟩ = false := frozen_of_row _ _ 0 _ _ HT1.out
         have b1 : w1.frozen? ⟨g, 1, none⟩ = false := frozen_of_row _ _ 1 _ _ HT1.out
         have b2 : w1.frozen? ⟨g, 2, none⟩ = false := frozen_of_row _ _ 2 _ _ HT1.out
         have HLT2 := Aside0.mk hlt2
         clear hw1 hg hw2 hxa hxb hzf hzt hzc hP hx hz hzm hxm hxz hx0 hx1 hx2 hz0 hz1 hz2 hlt2 hs3
         go_wp2_with (first | rw [← HG1.out, ← HW1.out] | rw [← HW2.out])
         have HALL := Aside0.mk (fun (W : World) (hW : Below w2.heap.size w2 W) => (show W.cell? ⟨g, 0, none⟩ = some (.int .i64 xa) ∧ W.cell? ⟨g, 1, none⟩ = some (.int .i64 xb) ∧ W.cell? ⟨g, 2, none⟩ = some (.int .i64 zc) by
          have h := (hW.block g (Array.getElem?_eq_some_iff.1 HT2.out).1).trans HT2.out
          exact ⟨by rw [cell_of_row _ _ 0 _ _ _ h]; rfl, by rw [cell_of_row _ _ 1 _ _ _ h]; rfl, by rw [cell_of_row _ _ 2 _ _ _ h]; rfl⟩))
         have HPR := Aside0.mk (fun (W : World) (hW : Below w2.heap.size w2 W) => HPR0.out W (below_step HB5.out hW))
         have HMOV := Aside0.mk (fun (W : World) (hW : Below w2.heap.size w2 W) => HMOV0.out W (below_step HB5.out hW))
         have HB2 := Aside0.mk (Below.refl w2.heap.size w2)
         clear a0 a1 a2 b0 b1 b2 y0 y1 y2 HPR0 HMOV0 HT1 HW1 HG1 HW2 hcl
         refine start_ (n := 31) (S := fun w' => True) (ds := []) #[false, false, false, false, false, false, false, false, false, false, false, false, false, false, false, false, false, false, false, false, false, false, false, false, false, false, false, false, false, false, false] (by kernel_rfl) rfl rfl trivial (fun hHeld => ?_); refine with_tabW R21.tab21 R21.bits21 (fun HT_ HW_ => ?_)
         refine inv_at [0, 1, 2, 3, 4, 5, 6, 7, 8, 9, 10, 11, 12, 13, 14, 15, 16, 17, 18, 19, 20, 21, 22, 23, 24, 25, 26, 27, 28, 29, 30] (fun a0_ b a w' => a = putSel a0_ b [(0, 103, (.pointer (some ⟨g, 2, none⟩))), (1, 104, (.int .i64 zc)), (2, 105, (.slice (some adl) l'.length c')), (3, 106, (.int .i64 (i : Int))), (4, 107, (.pointer (some P))), (5, 108, (.pointer (some ⟨P.block, P.off + 2, none⟩))), (6, 109, (.int .i64 zc)), (7, 110, (.bool false)), (8, 111, (.bool false)), (9, 112, (.pointer (some ⟨g, 0, none⟩))), (10, 113, (.pointer (some ⟨g, 0, none⟩))), (11, 114, (.int .i64 xa)), (12, 115, (.bool false)), (13, 116, (.bool false)), (14, 117, (.bool false)), (15, 118, (.pointer (some ⟨g, 0, none⟩))), (16, 119, (.pointer (some ⟨g, 0, none⟩))), (17, 120, (.int .i64 xa)), (18, 121, (.pointer (some ⟨g, 0, none⟩))), (19, 122, (.pointer (some ⟨g, 1, none⟩))), (20, 123, (.int .i64 xb)), (21, 124, (.bool false)), (22, 125, (.bool false)), (23, 126, (.bool false)), (24, 127, (.pointer (some ⟨g, 0, none⟩))), (25, 128, (.pointer (some ⟨g, 1, none⟩))), (26, 129, (.int .i64 xb)), (27, 130, (.string t')), (28, 131, (.int .i64 ((t').size : Int))), (29, 132, (.bool false)), (30, 133, (.bool false))] ∧ (Below w2.heap.size w2 w')) HT_.out HW_.out (by kernel_rfl) (by kernel_rfl) ?_ ?_ ?_
         ·exact ⟨by simp only [putSel, Bool.false_eq_true, if_false], below_drew1 HB2.out⟩
         ·skip
          clear HB2
          refine steps_cons ?_ ?_
          ·rintro b a w' ⟨ha, Q_HB2⟩ hb_ hon hoff
           refine ⟨_, rfl, fun K hK => ?_⟩
           have e16 : a.tmps[16]? = some ((.pointer (some ⟨g, 0, none⟩))) := by rw [ha]; exact (putSel_off rfl).trans rfl
           replace ha := Aside0.mk ha
           have HB2 := Aside0.mk Q_HB2
           refine value_ (w1 := w') (v := (.pointer (some ⟨g, 2, none⟩))) (by rfl) rfl ?_ ?_
           ·go_simp
            (try simp only [i64_w])
            try (first | rfl | assumption)
           refine hK.out _ _ ⟨(by rw [ha.out]; exact putSel_upk 0 hb_ rfl rfl rfl), Q_HB2⟩
          refine steps_cons ?_ ?_
          ·rintro b a w' ⟨ha, Q_HB2⟩ hb_ hon hoff
           refine ⟨_, rfl, fun K hK => ?_⟩
           have e103 : a.tmps[103]? = some ((.pointer (some ⟨g, 2, none⟩))) := by rw [ha]; exact putSel_on (e := (0, 103, (.pointer (some ⟨g, 2, none⟩)))) 0 rfl rfl (hon 0 (by kernel_rfl)) rfl
           replace ha := Aside0.mk ha
           have HB2 := Aside0.mk Q_HB2
           obtain ⟨x0_, x1_, x2_⟩ := HALL.out _ HB2.out
           refine value_ (w1 := w') (v := (.int .i64 zc)) (by rfl) rfl ?_ ?_
           ·go_simp
            (try simp only [i64_w])
            try (first | rfl | assumption)
           refine hK.out _ _ ⟨(by rw [ha.out]; exact putSel_upk 1 hb_ rfl rfl rfl), Q_HB2⟩
          refine steps_cons ?_ ?_
          ·rintro b a w' ⟨ha, Q_HB2⟩ hb_ hon hoff
           refine ⟨_, rfl, fun K hK => ?_⟩
           have e1 : a.tmps[1]? = some ((.slice (some adl) l'.length c')) := by rw [ha]; exact (putSel_off rfl).trans rfl
           replace ha := Aside0.mk ha
           have HB2 := Aside0.mk Q_HB2
           refine value_ (w1 := w') (v := (.slice (some adl) l'.length c')) (by rfl) rfl ?_ ?_
           ·go_simp
            (try simp only [i64_w])
            try (first | rfl | assumption)
           refine hK.out _ _ ⟨(by rw [ha.out]; exact putSel_upk 2 hb_ rfl rfl rfl), Q_HB2⟩
          refine steps_cons ?_ ?_
          ·rintro b a w' ⟨ha, Q_HB2⟩ hb_ hon hoff
           refine ⟨_, rfl, fun K hK => ?_⟩
           have e15 : a.tmps[15]? = some ((.int .i64 (i : Int))) := by rw [ha]; exact (putSel_off rfl).trans rfl
           replace ha := Aside0.mk ha
           have HB2 := Aside0.mk Q_HB2
           refine value_ (w1 := w') (v := (.int .i64 (i : Int))) (by rfl) rfl ?_ ?_
           ·go_simp
            (try simp only [i64_w])
            try (first | rfl | assumption)
           refine hK.out _ _ ⟨(by rw [ha.out]; exact putSel_upk 3 hb_ rfl rfl rfl), Q_HB2⟩
          refine steps_cons ?_ ?_
          ·rintro b a w' ⟨ha, Q_HB2⟩ hb_ hon hoff
           refine ⟨_, rfl, fun K hK => ?_⟩
           have e105 : a.tmps[105]? = some ((.slice (some adl) l'.length c')) := by rw [ha]; exact putSel_on (e := (2, 105, (.slice (some adl) l'.length c'))) 2 rfl rfl (hon 2 (by kernel_rfl)) rfl
           have e106 : a.tmps[106]? = some ((.int .i64 (i : Int))) := by rw [ha]; exact putSel_on (e := (3, 106, (.int .i64 (i : Int)))) 3 rfl rfl (hon 3 (by kernel_rfl)) rfl
           replace ha := Aside0.mk ha
           have HB2 := Aside0.mk Q_HB2
           refine value_ (w1 := w') (v := (.pointer (some P))) (by rfl) rfl ?_ ?_
           ·go_simp
            (try simp only [i64_w])
            try (first | rfl | assumption)
           refine hK.out _ _ ⟨(by rw [ha.out]; exact putSel_upk 4 hb_ rfl rfl rfl), Q_HB2⟩
          refine steps_cons ?_ ?_
          ·rintro b a w' ⟨ha, Q_HB2⟩ hb_ hon hoff
           refine ⟨_, rfl, fun K hK => ?_⟩
           have e107 : a.tmps[107]? = some ((.pointer (some P))) := by rw [ha]; exact putSel_on (e := (4, 107, (.pointer (some P)))) 4 rfl rfl (hon 4 (by kernel_rfl)) rfl
           replace ha := Aside0.mk ha
           have HB2 := Aside0.mk Q_HB2
           refine value_ (w1 := w') (v := (.pointer (some ⟨P.block, P.off + 2, none⟩))) (by rfl) rfl ?_ ?_
           ·go_simp
            (try simp only [i64_w])
            try (first | rfl | assumption)
           refine hK.out _ _ ⟨(by rw [ha.out]; exact putSel_upk 5 hb_ rfl rfl rfl), Q_HB2⟩
          refine steps_cons ?_ ?_
          ·rintro b a w' ⟨ha, Q_HB2⟩ hb_ hon hoff
           refine ⟨_, rfl, fun K hK => ?_⟩
           have e108 : a.tmps[108]? = some ((.pointer (some ⟨P.block, P.off + 2, none⟩))) := by rw [ha]; exact putSel_on (e := (5, 108, (.pointer (some ⟨P.block, P.off + 2, none⟩)))) 5 rfl rfl (hon 5 (by kernel_rfl)) rfl
           replace ha := Aside0.mk ha
           have HB2 := Aside0.mk Q_HB2
           obtain ⟨x0_, x1_, x2_⟩ := HPR.out _ HB2.out
           refine value_ (w1 := w') (v := (.int .i64 zc)) (by rfl) rfl ?_ ?_
           ·go_simp
            (try simp only [i64_w])
            try (first | rfl | assumption)
           refine hK.out _ _ ⟨(by rw [ha.out]; exact putSel_upk 6 hb_ rfl rfl rfl), Q_HB2⟩
          refine steps_cons ?_ ?_
          ·rintro b a w' ⟨ha, Q_HB2⟩ hb_ hon hoff
           refine ⟨_, rfl, fun K hK => ?_⟩
           have e104 : a.tmps[104]? = some ((.int .i64 zc)) := by rw [ha]; exact putSel_on (e := (1, 104, (.int .i64 zc))) 1 rfl rfl (hon 1 (by kernel_rfl)) rfl
           have e109 : a.tmps[109]? = some ((.int .i64 zc)) := by rw [ha]; exact putSel_on (e := (6, 109, (.int .i64 zc))) 6 rfl rfl (hon 6 (by kernel_rfl)) rfl
           replace ha := Aside0.mk ha
           have HB2 := Aside0.mk Q_HB2
           refine value_ (w1 := w') (v := (.bool false)) (by rfl) rfl ?_ ?_
           ·go_simp
            (try simp only [i64_w])
            try (first | rfl | assumption)
           refine hK.out _ _ ⟨(by rw [ha.out]; exact putSel_upk 7 hb_ rfl rfl rfl), Q_HB2⟩
          refine steps_cons ?_ ?_
          ·rintro b a w' ⟨ha, Q_HB2⟩ hb_ hon hoff
           refine ⟨_, rfl, fun K hK => ?_⟩
           have e110 : a.tmps[110]? = some ((.bool false)) := by rw [ha]; exact putSel_on (e := (7, 110, (.bool false))) 7 rfl rfl (hon 7 (by kernel_rfl)) rfl
           replace ha := Aside0.mk ha
           have HB2 := Aside0.mk Q_HB2
           refine value_ (w1 := w') (v := (.bool false)) (by rfl) rfl ?_ ?_
           ·go_simp
            (try simp only [i64_w])
            try (first | rfl | assumption)
           refine hK.out _ _ ⟨(by rw [ha.out]; exact putSel_upk 8 hb_ rfl rfl rfl), Q_HB2⟩
          refine steps_cons ?_ ?_
          ·rintro b a w' ⟨ha, Q_HB2⟩ hb_ hon hoff
           refine ⟨_, rfl, fun K hK => ?_⟩
           have e16 : a.tmps[16]? = some ((.pointer (some ⟨g, 0, none⟩))) := by rw [ha]; exact (putSel_off rfl).trans rfl
           have e111 : a.tmps[111]? = some ((.bool false)) := by rw [ha]; exact putSel_on (e := (8, 111, (.bool false))) 8 rfl rfl (hon 8 (by kernel_rfl)) rfl
           replace ha := Aside0.mk ha
           have HB2 := Aside0.mk Q_HB2
           refine value_ (w1 := w') (v := (.pointer (some ⟨g, 0, none⟩))) (wanted_on rfl rfl rfl (e111.trans (by first | rfl | (simp [*]; done)))) rfl ?_ ?_
           ·go_simp
            (try simp only [i64_w])
            try (first | rfl | assumption)
           refine hK.out _ _ ⟨(by rw [ha.out]; exact putSel_upk 9 hb_ rfl rfl rfl), Q_HB2⟩
          refine steps_cons ?_ ?_
          ·rintro b a w' ⟨ha, Q_HB2⟩ hb_ hon hoff
           refine ⟨_, rfl, fun K hK => ?_⟩
           have e112 : a.tmps[112]? = some ((.pointer (some ⟨g, 0, none⟩))) := by rw [ha]; exact putSel_on (e := (9, 112, (.pointer (some ⟨g, 0, none⟩)))) 9 rfl rfl (hon 9 (by kernel_rfl)) rfl
           have e111 : a.tmps[111]? = some ((.bool false)) := by rw [ha]; exact putSel_on (e := (8, 111, (.bool false))) 8 rfl rfl (hon 8 (by kernel_rfl)) rfl
           replace ha := Aside0.mk ha
           have HB2 := Aside0.mk Q_HB2
           refine value_ (w1 := w') (v := (.pointer (some ⟨g, 0, none⟩))) (wanted_on rfl rfl rfl (e111.trans (by first | rfl | (simp [*]; done)))) rfl ?_ ?_
           ·go_simp
            (try simp only [i64_w])
            try (first | rfl | assumption)
           refine hK.out _ _ ⟨(by rw [ha.out]; exact putSel_upk 10 hb_ rfl rfl rfl), Q_HB2⟩
          refine steps_cons ?_ ?_
          ·rintro b a w' ⟨ha, Q_HB2⟩ hb_ hon hoff
           refine ⟨_, rfl, fun K hK => ?_⟩
           have e113 : a.tmps[113]? = some ((.pointer (some ⟨g, 0, none⟩))) := by rw [ha]; exact putSel_on (e := (10, 113, (.pointer (some ⟨g, 0, none⟩)))) 10 rfl rfl (hon 10 (by kernel_rfl)) rfl
           have e111 : a.tmps[111]? = some ((.bool false)) := by rw [ha]; exact putSel_on (e := (8, 111, (.bool false))) 8 rfl rfl (hon 8 (by kernel_rfl)) rfl
           replace ha := Aside0.mk ha
           have HB2 := Aside0.mk Q_HB2
           obtain ⟨x0_, x1_, x2_⟩ := HALL.out _ HB2.out
           refine value_ (w1 := w') (v := (.int .i64 xa)) (wanted_on rfl rfl rfl (e111.trans (by first | rfl | (simp [*]; done)))) rfl ?_ ?_
           ·go_simp
            (try simp only [i64_w])
            try (first | rfl | assumption)
           refine hK.out _ _ ⟨(by rw [ha.out]; exact putSel_upk 11 hb_ rfl rfl rfl), Q_HB2⟩
          refine steps_cons ?_ ?_
          ·rintro b a w' ⟨ha, Q_HB2⟩ hb_ hon hoff
           refine ⟨_, rfl, fun K hK => ?_⟩
           have e114 : a.tmps[114]? = some ((.int .i64 xa)) := by rw [ha]; exact putSel_on (e := (11, 114, (.int .i64 xa))) 11 rfl rfl (hon 11 (by kernel_rfl)) rfl
           have e111 : a.tmps[111]? = some ((.bool false)) := by rw [ha]; exact putSel_on (e := (8, 111, (.bool false))) 8 rfl rfl (hon 8 (by kernel_rfl)) rfl
           replace ha := Aside0.mk ha
           have HB2 := Aside0.mk Q_HB2
           refine value_ (w1 := w') (v := (.bool false)) (wanted_on rfl rfl rfl (e111.trans (by first | rfl | (simp [*]; done)))) rfl ?_ ?_
           ·go_simp
            (try simp only [i64_w])
            try (first | rfl | assumption)
           refine hK.out _ _ ⟨(by rw [ha.out]; exact putSel_upk 12 hb_ rfl rfl rfl), Q_HB2⟩
          refine steps_cons ?_ ?_
          ·rintro b a w' ⟨ha, Q_HB2⟩ hb_ hon hoff
           refine ⟨_, rfl, fun K hK => ?_⟩
           have e111 : a.tmps[111]? = some ((.bool false)) := by rw [ha]; exact putSel_on (e := (8, 111, (.bool false))) 8 rfl rfl (hon 8 (by kernel_rfl)) rfl
           have e115 : a.tmps[115]? = some ((.bool false)) := by rw [ha]; exact putSel_on (e := (12, 115, (.bool false))) 12 rfl rfl (hon 12 (by kernel_rfl)) rfl
           replace ha := Aside0.mk ha
           have HB2 := Aside0.mk Q_HB2
           refine value_ (w1 := w') (v := (.bool false)) (by rfl) rfl ?_ ?_
           ·go_simp
            (try simp only [i64_w])
            try (first | rfl | assumption)
           refine hK.out _ _ ⟨(by rw [ha.out]; exact putSel_upk 13 hb_ rfl rfl rfl), Q_HB2⟩
          refine steps_cons ?_ ?_
          ·rintro b a w' ⟨ha, Q_HB2⟩ hb_ hon hoff
           refine ⟨_, rfl, fun K hK => ?_⟩
           have e116 : a.tmps[116]? = some ((.bool false)) := by rw [ha]; exact putSel_on (e := (13, 116, (.bool false))) 13 rfl rfl (hon 13 (by kernel_rfl)) rfl
           replace ha := Aside0.mk ha
           have HB2 := Aside0.mk Q_HB2
           refine value_ (w1 := w') (v := (.bool false)) (by rfl) rfl ?_ ?_
           ·go_simp
            (try simp only [i64_w])
            try (first | rfl | assumption)
           refine hK.out _ _ ⟨(by rw [ha.out]; exact putSel_upk 14 hb_ rfl rfl rfl), Q_HB2⟩
          refine steps_cons ?_ ?_
          ·rintro b a w' ⟨ha, Q_HB2⟩ hb_ hon hoff
           refine ⟨_, rfl, fun K hK => ?_⟩
           have e16 : a.tmps[16]? = some ((.pointer (some ⟨g, 0, none⟩))) := by rw [ha]; exact (putSel_off rfl).trans rfl
           have e117 : a.tmps[117]? = some ((.bool false)) := by rw [ha]; exact putSel_on (e := (14, 117, (.bool false))) 14 rfl rfl (hon 14 (by kernel_rfl)) rfl
           replace ha := Aside0.mk ha
           have HB2 := Aside0.mk Q_HB2
           refine value_ (w1 := w') (v := (.pointer (some ⟨g, 0, none⟩))) (wanted_on rfl rfl rfl (e117.trans (by first | rfl | (simp [*]; done)))) rfl ?_ ?_
           ·go_simp
            (try simp only [i64_w])
            try (first | rfl | assumption)
           refine hK.out _ _ ⟨(by rw [ha.out]; exact putSel_upk 15 hb_ rfl rfl rfl), Q_HB2⟩
          refine steps_cons ?_ ?_
          ·rintro b a w' ⟨ha, Q_HB2⟩ hb_ hon hoff
           refine ⟨_, rfl, fun K hK => ?_⟩
           have e118 : a.tmps[118]? = some ((.pointer (some ⟨g, 0, none⟩))) := by rw [ha]; exact putSel_on (e := (15, 118, (.pointer (some ⟨g, 0, none⟩)))) 15 rfl rfl (hon 15 (by kernel_rfl)) rfl
           have e117 : a.tmps[117]? = some ((.bool false)) := by rw [ha]; exact putSel_on (e := (14, 117, (.bool false))) 14 rfl rfl (hon 14 (by kernel_rfl)) rfl
           replace ha := Aside0.mk ha
           have HB2 := Aside0.mk Q_HB2
           refine value_ (w1 := w') (v := (.pointer (some ⟨g, 0, none⟩))) (wanted_on rfl rfl rfl (e117.trans (by first | rfl | (simp [*]; done)))) rfl ?_ ?_
           ·go_simp
            (try simp only [i64_w])
            try (first | rfl | assumption)
           refine hK.out _ _ ⟨(by rw [ha.out]; exact putSel_upk 16 hb_ rfl rfl rfl), Q_HB2⟩
          refine steps_cons ?_ ?_
          ·rintro b a w' ⟨ha, Q_HB2⟩ hb_ hon hoff
           refine ⟨_, rfl, fun K hK => ?_⟩
           have e119 : a.tmps[119]? = some ((.pointer (some ⟨g, 0, none⟩))) := by rw [ha]; exact putSel_on (e := (16, 119, (.pointer (some ⟨g, 0, none⟩)))) 16 rfl rfl (hon 16 (by kernel_rfl)) rfl
           have e117 : a.tmps[117]? = some ((.bool false)) := by rw [ha]; exact putSel_on (e := (14, 117, (.bool false))) 14 rfl rfl (hon 14 (by kernel_rfl)) rfl
           replace ha := Aside0.mk ha
           have HB2 := Aside0.mk Q_HB2
           obtain ⟨x0_, x1_, x2_⟩ := HALL.out _ HB2.out
           refine value_ (w1 := w') (v := (.int .i64 xa)) (wanted_on rfl rfl rfl (e117.trans (by first | rfl | (simp [*]; done)))) rfl ?_ ?_
           ·go_simp
            (try simp only [i64_w])
            try (first | rfl | assumption)
           refine hK.out _ _ ⟨(by rw [ha.out]; exact putSel_upk 17 hb_ rfl rfl rfl), Q_HB2⟩
          refine steps_cons ?_ ?_
          ·rintro b a w' ⟨ha, Q_HB2⟩ hb_ hon hoff
           refine ⟨_, rfl, fun K hK => ?_⟩
           have e16 : a.tmps[16]? = some ((.pointer (some ⟨g, 0, none⟩))) := by rw [ha]; exact (putSel_off rfl).trans rfl
           have e117 : a.tmps[117]? = some ((.bool false)) := by rw [ha]; exact putSel_on (e := (14, 117, (.bool false))) 14 rfl rfl (hon 14 (by kernel_rfl)) rfl
           replace ha := Aside0.mk ha
           have HB2 := Aside0.mk Q_HB2
           refine value_ (w1 := w') (v := (.pointer (some ⟨g, 0, none⟩))) (wanted_on rfl rfl rfl (e117.trans (by first | rfl | (simp [*]; done)))) rfl ?_ ?_
           ·go_simp
            (try simp only [i64_w])
            try (first | rfl | assumption)
           refine hK.out _ _ ⟨(by rw [ha.out]; exact putSel_upk 18 hb_ rfl rfl rfl), Q_HB2⟩
          refine steps_cons ?_ ?_
          ·rintro b a w' ⟨ha, Q_HB2⟩ hb_ hon hoff
           refine ⟨_, rfl, fun K hK => ?_⟩
           have e121 : a.tmps[121]? = some ((.pointer (some ⟨g, 0, none⟩))) := by rw [ha]; exact putSel_on (e := (18, 121, (.pointer (some ⟨g, 0, none⟩)))) 18 rfl rfl (hon 18 (by kernel_rfl)) rfl
           have e117 : a.tmps[117]? = some ((.bool false)) := by rw [ha]; exact putSel_on (e := (14, 117, (.bool false))) 14 rfl rfl (hon 14 (by kernel_rfl)) rfl
           replace ha := Aside0.mk ha
           have HB2 := Aside0.mk Q_HB2
           refine value_ (w1 := w') (v := (.pointer (some ⟨g, 1, none⟩))) (wanted_on rfl rfl rfl (e117.trans (by first | rfl | (simp [*]; done)))) rfl ?_ ?_
           ·go_simp
            (try simp only [i64_w])
            try (first | rfl | assumption)
           refine hK.out _ _ ⟨(by rw [ha.out]; exact putSel_upk 19 hb_ rfl rfl rfl), Q_HB2⟩
          refine steps_cons ?_ ?_
          ·rintro b a w' ⟨ha, Q_HB2⟩ hb_ hon hoff
           refine ⟨_, rfl, fun K hK => ?_⟩
           have e122 : a.tmps[122]? = some ((.pointer (some ⟨g, 1, none⟩))) := by rw [ha]; exact putSel_on (e := (19, 122, (.pointer (some ⟨g, 1, none⟩)))) 19 rfl rfl (hon 19 (by kernel_rfl)) rfl
           have e117 : a.tmps[117]? = some ((.bool false)) := by rw [ha]; exact putSel_on (e := (14, 117, (.bool false))) 14 rfl rfl (hon 14 (by kernel_rfl)) rfl
           replace ha := Aside0.mk ha
           have HB2 := Aside0.mk Q_HB2
           obtain ⟨x0_, x1_, x2_⟩ := HALL.out _ HB2.out
           refine value_ (w1 := w') (v := (.int .i64 xb)) (wanted_on rfl rfl rfl (e117.trans (by first | rfl | (simp [*]; done)))) rfl ?_ ?_
           ·go_simp
            (try simp only [i64_w])
            try (first | rfl | assumption)
           refine hK.out _ _ ⟨(by rw [ha.out]; exact putSel_upk 20 hb_ rfl rfl rfl), Q_HB2⟩
          refine steps_cons ?_ ?_
          ·rintro b a w' ⟨ha, Q_HB2⟩ hb_ hon hoff
           refine ⟨_, rfl, fun K hK => ?_⟩
           have e120 : a.tmps[120]? = some ((.int .i64 xa)) := by rw [ha]; exact putSel_on (e := (17, 120, (.int .i64 xa))) 17 rfl rfl (hon 17 (by kernel_rfl)) rfl
           have e123 : a.tmps[123]? = some ((.int .i64 xb)) := by rw [ha]; exact putSel_on (e := (20, 123, (.int .i64 xb))) 20 rfl rfl (hon 20 (by kernel_rfl)) rfl
           have e117 : a.tmps[117]? = some ((.bool false)) := by rw [ha]; exact putSel_on (e := (14, 117, (.bool false))) 14 rfl rfl (hon 14 (by kernel_rfl)) rfl
           replace ha := Aside0.mk ha
           have HB2 := Aside0.mk Q_HB2
           refine value_ (w1 := w') (v := (.bool false)) (wanted_on rfl rfl rfl (e117.trans (by first | rfl | (simp [*]; done)))) rfl ?_ ?_
           ·go_simp
            (try simp only [i64_w])
            try (first | rfl | assumption)
           refine hK.out _ _ ⟨(by rw [ha.out]; exact putSel_upk 21 hb_ rfl rfl rfl), Q_HB2⟩
          refine steps_cons ?_ ?_
          ·rintro b a w' ⟨ha, Q_HB2⟩ hb_ hon hoff
           refine ⟨_, rfl, fun K hK => ?_⟩
           have e117 : a.tmps[117]? = some ((.bool false)) := by rw [ha]; exact putSel_on (e := (14, 117, (.bool false))) 14 rfl rfl (hon 14 (by kernel_rfl)) rfl
           have e124 : a.tmps[124]? = some ((.bool false)) := by rw [ha]; exact putSel_on (e := (21, 124, (.bool false))) 21 rfl rfl (hon 21 (by kernel_rfl)) rfl
           replace ha := Aside0.mk ha
           have HB2 := Aside0.mk Q_HB2
           refine value_ (w1 := w') (v := (.bool false)) (by rfl) rfl ?_ ?_
           ·go_simp
            (try simp only [i64_w])
            try (first | rfl | assumption)
           refine hK.out _ _ ⟨(by rw [ha.out]; exact putSel_upk 22 hb_ rfl rfl rfl), Q_HB2⟩
          refine steps_cons ?_ ?_
          ·rintro b a w' ⟨ha, Q_HB2⟩ hb_ hon hoff
           refine ⟨_, rfl, fun K hK => ?_⟩
           have e125 : a.tmps[125]? = some ((.bool false)) := by rw [ha]; exact putSel_on (e := (22, 125, (.bool false))) 22 rfl rfl (hon 22 (by kernel_rfl)) rfl
           replace ha := Aside0.mk ha
           have HB2 := Aside0.mk Q_HB2
           refine value_ (w1 := w') (v := (.bool false)) (by rfl) rfl ?_ ?_
           ·go_simp
            (try simp only [i64_w])
            try (first | rfl | assumption)
           refine hK.out _ _ ⟨(by rw [ha.out]; exact putSel_upk 23 hb_ rfl rfl rfl), Q_HB2⟩
          refine steps_cons ?_ ?_
          ·rintro b a w' ⟨ha, Q_HB2⟩ hb_ hon hoff
           refine ⟨_, rfl, fun K hK => ?_⟩
           have e16 : a.tmps[16]? = some ((.pointer (some ⟨g, 0, none⟩))) := by rw [ha]; exact (putSel_off rfl).trans rfl
           have e126 : a.tmps[126]? = some ((.bool false)) := by rw [ha]; exact putSel_on (e := (23, 126, (.bool false))) 23 rfl rfl (hon 23 (by kernel_rfl)) rfl
           replace ha := Aside0.mk ha
           have HB2 := Aside0.mk Q_HB2
           refine value_ (w1 := w') (v := (.pointer (some ⟨g, 0, none⟩))) (wanted_on rfl rfl rfl (e126.trans (by first | rfl | (simp [*]; done)))) rfl ?_ ?_
           ·go_simp
            (try simp only [i64_w])
            try (first | rfl | assumption)
           refine hK.out _ _ ⟨(by rw [ha.out]; exact putSel_upk 24 hb_ rfl rfl rfl), Q_HB2⟩
          refine steps_cons ?_ ?_
          ·rintro b a w' ⟨ha, Q_HB2⟩ hb_ hon hoff
           refine ⟨_, rfl, fun K hK => ?_⟩
           have e127 : a.tmps[127]? = some ((.pointer (some ⟨g, 0, none⟩))) := by rw [ha]; exact putSel_on (e := (24, 127, (.pointer (some ⟨g, 0, none⟩)))) 24 rfl rfl (hon 24 (by kernel_rfl)) rfl
           have e126 : a.tmps[126]? = some ((.bool false)) := by rw [ha]; exact putSel_on (e := (23, 126, (.bool false))) 23 rfl rfl (hon 23 (by kernel_rfl)) rfl
           replace ha := Aside0.mk ha
           have HB2 := Aside0.mk Q_HB2
           refine value_ (w1 := w') (v := (.pointer (some ⟨g, 1, none⟩))) (wanted_on rfl rfl rfl (e126.trans (by first | rfl | (simp [*]; done)))) rfl ?_ ?_
           ·go_simp
            (try simp only [i64_w])
            try (first | rfl | assumption)
           refine hK.out _ _ ⟨(by rw [ha.out]; exact putSel_upk 25 hb_ rfl rfl rfl), Q_HB2⟩
          refine steps_cons ?_ ?_
          ·rintro b a w' ⟨ha, Q_HB2⟩ hb_ hon hoff
           refine ⟨_, rfl, fun K hK => ?_⟩
           have e128 : a.tmps[128]? = some ((.pointer (some ⟨g, 1, none⟩))) := by rw [ha]; exact putSel_on (e := (25, 128, (.pointer (some ⟨g, 1, none⟩)))) 25 rfl rfl (hon 25 (by kernel_rfl)) rfl
           have e126 : a.tmps[126]? = some ((.bool false)) := by rw [ha]; exact putSel_on (e := (23, 126, (.bool false))) 23 rfl rfl (hon 23 (by kernel_rfl)) rfl
           replace ha := Aside0.mk ha
           have HB2 := Aside0.mk Q_HB2
           obtain ⟨x0_, x1_, x2_⟩ := HALL.out _ HB2.out
           refine value_ (w1 := w') (v := (.int .i64 xb)) (wanted_on rfl rfl rfl (e126.trans (by first | rfl | (simp [*]; done)))) rfl ?_ ?_
           ·go_simp
            (try simp only [i64_w])
            try (first | rfl | assumption)
           refine hK.out _ _ ⟨(by rw [ha.out]; exact putSel_upk 26 hb_ rfl rfl rfl), Q_HB2⟩
          refine steps_cons ?_ ?_
          ·rintro b a w' ⟨ha, Q_HB2⟩ hb_ hon hoff
           refine ⟨_, rfl, fun K hK => ?_⟩
           have e11 : a.tmps[11]? = some ((.string t')) := by rw [ha]; exact (putSel_off rfl).trans rfl
           have e126 : a.tmps[126]? = some ((.bool false)) := by rw [ha]; exact putSel_on (e := (23, 126, (.bool false))) 23 rfl rfl (hon 23 (by kernel_rfl)) rfl
           replace ha := Aside0.mk ha
           have HB2 := Aside0.mk Q_HB2
           refine value_ (w1 := w') (v := (.string t')) (wanted_on rfl rfl rfl (e126.trans (by first | rfl | (simp [*]; done)))) rfl ?_ ?_
           ·go_simp
            (try simp only [i64_w])
            try (first | rfl | assumption)
           refine hK.out _ _ ⟨(by rw [ha.out]; exact putSel_upk 27 hb_ rfl rfl rfl), Q_HB2⟩
          refine steps_cons ?_ ?_
          ·rintro b a w' ⟨ha, Q_HB2⟩ hb_ hon hoff
           refine ⟨_, rfl, fun K hK => ?_⟩
           have e130 : a.tmps[130]? = some ((.string t')) := by rw [ha]; exact putSel_on (e := (27, 130, (.string t'))) 27 rfl rfl (hon 27 (by kernel_rfl)) rfl
           have e126 : a.tmps[126]? = some ((.bool false)) := by rw [ha]; exact putSel_on (e := (23, 126, (.bool false))) 23 rfl rfl (hon 23 (by kernel_rfl)) rfl
           replace ha := Aside0.mk ha
           have HB2 := Aside0.mk Q_HB2
           refine value_ (w1 := w') (v := (.int .i64 ((t').size : Int))) (wanted_on rfl rfl rfl (e126.trans (by first | rfl | (simp [*]; done)))) rfl ?_ ?_
           ·go_simp
            (try simp only [i64_w])
            try (first | rfl | assumption)
           refine hK.out _ _ ⟨(by rw [ha.out]; exact putSel_upk 28 hb_ rfl rfl rfl), Q_HB2⟩
          refine steps_cons ?_ ?_
          ·rintro b a w' ⟨ha, Q_HB2⟩ hb_ hon hoff
           refine ⟨_, rfl, fun K hK => ?_⟩
           have e129 : a.tmps[129]? = some ((.int .i64 xb)) := by rw [ha]; exact putSel_on (e := (26, 129, (.int .i64 xb))) 26 rfl rfl (hon 26 (by kernel_rfl)) rfl
           have e131 : a.tmps[131]? = some ((.int .i64 ((t').size : Int))) := by rw [ha]; exact putSel_on (e := (28, 131, (.int .i64 ((t').size : Int)))) 28 rfl rfl (hon 28 (by kernel_rfl)) rfl
           have e126 : a.tmps[126]? = some ((.bool false)) := by rw [ha]; exact putSel_on (e := (23, 126, (.bool false))) 23 rfl rfl (hon 23 (by kernel_rfl)) rfl
           replace ha := Aside0.mk ha
           have HB2 := Aside0.mk Q_HB2
           refine value_ (w1 := w') (v := (.bool false)) (wanted_on rfl rfl rfl (e126.trans (by first | rfl | (simp [*]; done)))) rfl ?_ ?_
           ·go_simp
            (try simp only [i64_w])
            try (first | rfl | assumption)
           refine hK.out _ _ ⟨(by rw [ha.out]; exact putSel_upk 29 hb_ rfl rfl rfl), Q_HB2⟩
          refine steps_cons ?_ ?_
          ·rintro b a w' ⟨ha, Q_HB2⟩ hb_ hon hoff
           refine ⟨_, rfl, fun K hK => ?_⟩
           have e126 : a.tmps[126]? = some ((.bool false)) := by rw [ha]; exact putSel_on (e := (23, 126, (.bool false))) 23 rfl rfl (hon 23 (by kernel_rfl)) rfl
           have e132 : a.tmps[132]? = some ((.bool false)) := by rw [ha]; exact putSel_on (e := (29, 132, (.bool false))) 29 rfl rfl (hon 29 (by kernel_rfl)) rfl
           replace ha := Aside0.mk ha
           have HB2 := Aside0.mk Q_HB2
           refine value_ (w1 := w') (v := (.bool false)) (by rfl) rfl ?_ ?_
           ·go_simp
            (try simp only [i64_w])
            try (first | rfl | assumption)
           refine hK.out _ _ ⟨(by rw [ha.out]; exact putSel_upk 30 hb_ rfl rfl rfl), Q_HB2⟩
          exact steps_nil
         rintro b a we hall ⟨ha, Q_HB2⟩
         clear HB2
         have hb0_ := hall 0 (by kernel_rfl)
         have hb1_ := hall 1 (by kernel_rfl)
         have hb2_ := hall 2 (by kernel_rfl)
         have hb3_ := hall 3 (by kernel_rfl)
         have hb4_ := hall 4 (by kernel_rfl)
         have hb5_ := hall 5 (by kernel_rfl)
         have hb6_ := hall 6 (by kernel_rfl)
         have hb7_ := hall 7 (by kernel_rfl)
         have hb8_ := hall 8 (by kernel_rfl)
         have hb9_ := hall 9 (by kernel_rfl)
         have hb10_ := hall 10 (by kernel_rfl)
         have hb11_ := hall 11 (by kernel_rfl)
         have hb12_ := hall 12 (by kernel_rfl)
         have hb13_ := hall 13 (by kernel_rfl)
         have hb14_ := hall 14 (by kernel_rfl)
         have hb15_ := hall 15 (by kernel_rfl)
         have hb16_ := hall 16 (by kernel_rfl)
         have hb17_ := hall 17 (by kernel_rfl)
         have hb18_ := hall 18 (by kernel_rfl)
         have hb19_ := hall 19 (by kernel_rfl)
         have hb20_ := hall 20 (by kernel_rfl)
         have hb21_ := hall 21 (by kernel_rfl)
         have hb22_ := hall 22 (by kernel_rfl)
         have hb23_ := hall 23 (by kernel_rfl)
         have hb24_ := hall 24 (by kernel_rfl)
         have hb25_ := hall 25 (by kernel_rfl)
         have hb26_ := hall 26 (by kernel_rfl)
         have hb27_ := hall 27 (by kernel_rfl)
         have hb28_ := hall 28 (by kernel_rfl)
         have hb29_ := hall 29 (by kernel_rfl)
         have hb30_ := hall 30 (by kernel_rfl)
         subst ha
         simp only [putSel, hb0_, hb1_, hb2_, hb3_, hb4_, hb5_, hb6_, hb7_, hb8_, hb9_, hb10_, hb11_, hb12_, hb13_, hb14_, hb15_, hb16_, hb17_, hb18_, hb19_, hb20_, hb21_, hb22_, hb23_, hb24_, hb25_, hb26_, hb27_, hb28_, hb29_, hb30_, if_true, Act.put, List.setIfInBounds_toArray, List.set_cons_zero, List.set_cons_succ]
         have HB2 := Aside0.mk Q_HB2
         clear Q_HB2
         clear hall hb0_ hb1_ hb2_ hb3_ hb4_ hb5_ hb6_ hb7_ hb8_ hb9_ hb10_ hb11_ hb12_ hb13_ hb14_ hb15_ hb16_ hb17_ hb18_ hb19_ hb20_ hb21_ hb22_ hb23_ hb24_ hb25_ hb26_ hb27_ hb28_ hb29_ hb30_
         go_wp2_with fail
         have w1a := W1A.out
         have w1b := W1B.out
         clear d1 d2 d3
         refine start_ (n := 33) (S := fun w' => True) (ds := []) #[false, false, false, false, false, false, false, false, false, false, false, false, false, false, false, false, false, false, false, false, false, false, false, false, false, false, false, false, false, false, false, false, false] (by kernel_rfl) rfl rfl trivial (fun hHeld => ?_); refine with_tabW R23.tab23 R23.bits23 (fun HT_ HW_ => ?_)
         refine inv_at [0, 1, 2, 3, 4, 5, 6, 7, 8, 9, 10, 11, 12, 13, 14, 15, 16, 17, 18, 19, 20, 21, 22, 23, 24, 25, 26, 27, 28, 29, 30, 31, 32] (fun a0_ b a w' => ∃ (v31 : Value) (m32_ : Value), a = putSel a0_ b [(0, 134, (.slice (some adl) l'.length c')), (1, 135, (.int .i64 (i : Int))), (2, 136, (.pointer (some P))), (3, 137, (.pointer (some P))), (4, 138, (.pointer (some P))), (5, 139, (.int .i64 zf)), (6, 140, (.agg #[.int .i64 zf, .string ⟨#[]⟩, .int .i64 0])), (7, 141, (.slice (some adl) l'.length c')), (8, 142, (.int .i64 (i : Int))), (9, 143, (.pointer (some P))), (10, 144, (.pointer (some P))), (11, 145, (.pointer (some ⟨P.block, P.off + 1, none⟩))), (12, 146, (.int .i64 zt)), (13, 147, (.slice (some adl) l'.length c')), (14, 148, (.int .i64 (i : Int))), (15, 149, (.pointer (some P))), (16, 150, (.pointer (some P))), (17, 151, (.pointer (some P))), (18, 152, (.int .i64 zf)), (19, 153, (.int .i64 (zt - zf))), (20, 154, (.agg #[.int .i64 0, .string ⟨#[]⟩, .int .i64 (zt - zf)])), (21, 155, (.string s')), (22, 156, (.int .i64 ((s').size : Int))), (23, 157, (.slice (some adl) l'.length c')), (24, 158, (.int .i64 (i : Int))), (25, 159, (.pointer (some P))), (26, 160, (.pointer (some P))), (27, 161, (.pointer (some ⟨P.block, P.off + 1, none⟩))), (28, 162, (.int .i64 zt)), (29, 163, (.int .i64 ((s'.size : Int) - zt))), (30, 164, (.agg #[.int .i64 ((s'.size : Int) - zt), .string ⟨#[]⟩, .int .i64 0])), (31, 165, v31), (32, 17, m32_)] ∧ (Below w2.heap.size w2 w') ∧ (b 31 = true → Rw w' v31 (goneL zf zt (s'.size : Int))) ∧ (b 32 = true → (m32_ : Value) = v31)) HT_.out HW_.out (by kernel_rfl) (by kernel_rfl) ?_ ?_ ?_
         ·exact ⟨.bool false, .bool false, by simp only [putSel, Bool.false_eq_true, if_false], below_drew1 HB2.out, fun h_ => absurd h_ (by decide), fun h_ => absurd h_ (by decide)⟩
         ·skip
          clear HB2
          refine steps_cons ?_ ?_
          ·rintro b a w' ⟨v31, m32_, ha, Q_HB2, Q_G31, Q_X32_⟩ hb_ hon hoff
           refine ⟨_, rfl, fun K hK => ?_⟩
           have e1 : a.tmps[1]? = some ((.slice (some adl) l'.length c')) := by rw [ha]; exact (putSel_off rfl).trans rfl
           replace ha := Aside0.mk ha
           have HB2 := Aside0.mk Q_HB2
           refine value_ (w1 := w') (v := (.slice (some adl) l'.length c')) (by rfl) rfl ?_ ?_
           ·go_simp
            (try simp only [i64_w])
            try (first | rfl | assumption)
           refine hK.out _ _ ⟨v31, m32_, (by rw [ha.out]; exact putSel_upk 0 hb_ rfl rfl rfl), Q_HB2, fun h0_ => absurd ((hoff 31 (by kernel_rfl)).symm.trans h0_) (by decide), fun h0_ => absurd ((hoff 32 (by kernel_rfl)).symm.trans h0_) (by decide)⟩
          refine steps_cons ?_ ?_
          ·rintro b a w' ⟨v31, m32_, ha, Q_HB2, Q_G31, Q_X32_⟩ hb_ hon hoff
           refine ⟨_, rfl, fun K hK => ?_⟩
           have e15 : a.tmps[15]? = some ((.int .i64 (i : Int))) := by rw [ha]; exact (putSel_off rfl).trans rfl
           replace ha := Aside0.mk ha
           have HB2 := Aside0.mk Q_HB2
           refine value_ (w1 := w') (v := (.int .i64 (i : Int))) (by rfl) rfl ?_ ?_
           ·go_simp
            (try simp only [i64_w])
            try (first | rfl | assumption)
           refine hK.out _ _ ⟨v31, m32_, (by rw [ha.out]; exact putSel_upk 1 hb_ rfl rfl rfl), Q_HB2, fun h0_ => absurd ((hoff 31 (by kernel_rfl)).symm.trans h0_) (by decide), fun h0_ => absurd ((hoff 32 (by kernel_rfl)).symm.trans h0_) (by decide)⟩
          refine steps_cons ?_ ?_
          ·rintro b a w' ⟨v31, m32_, ha, Q_HB2, Q_G31, Q_X32_⟩ hb_ hon hoff
           refine ⟨_, rfl, fun K hK => ?_⟩
           have e134 : a.tmps[134]? = some ((.slice (some adl) l'.length c')) := by rw [ha]; exact putSel_on (e := (0, 134, (.slice (some adl) l'.length c'))) 0 rfl rfl (hon 0 (by kernel_rfl)) rfl
           have e135 : a.tmps[135]? = some ((.int .i64 (i : Int))) := by rw [ha]; exact putSel_on (e := (1, 135, (.int .i64 (i : Int)))) 1 rfl rfl (hon 1 (by kernel_rfl)) rfl
           replace ha := Aside0.mk ha
           have HB2 := Aside0.mk Q_HB2
           refine value_ (w1 := w') (v := (.pointer (some P))) (by rfl) rfl ?_ ?_
           ·go_simp
            (try simp only [i64_w])
            try (first | rfl | assumption)
           refine hK.out _ _ ⟨v31, m32_, (by rw [ha.out]; exact putSel_upk 2 hb_ rfl rfl rfl), Q_HB2, fun h0_ => absurd ((hoff 31 (by kernel_rfl)).symm.trans h0_) (by decide), fun h0_ => absurd ((hoff 32 (by kernel_rfl)).symm.trans h0_) (by decide)⟩
          refine steps_cons ?_ ?_
          ·rintro b a w' ⟨v31, m32_, ha, Q_HB2, Q_G31, Q_X32_⟩ hb_ hon hoff
           refine ⟨_, rfl, fun K hK => ?_⟩
           have e136 : a.tmps[136]? = some ((.pointer (some P))) := by rw [ha]; exact putSel_on (e := (2, 136, (.pointer (some P)))) 2 rfl rfl (hon 2 (by kernel_rfl)) rfl
           replace ha := Aside0.mk ha
           have HB2 := Aside0.mk Q_HB2
           refine value_ (w1 := w') (v := (.pointer (some P))) (by rfl) rfl ?_ ?_
           ·go_simp
            (try simp only [i64_w])
            try (first | rfl | assumption)
           refine hK.out _ _ ⟨v31, m32_, (by rw [ha.out]; exact putSel_upk 3 hb_ rfl rfl rfl), Q_HB2, fun h0_ => absurd ((hoff 31 (by kernel_rfl)).symm.trans h0_) (by decide), fun h0_ => absurd ((hoff 32 (by kernel_rfl)).symm.trans h0_) (by decide)⟩
          refine steps_cons ?_ ?_
          ·rintro b a w' ⟨v31, m32_, ha, Q_HB2, Q_G31, Q_X32_⟩ hb_ hon hoff
           refine ⟨_, rfl, fun K hK => ?_⟩
           have e137 : a.tmps[137]? = some ((.pointer (some P))) := by rw [ha]; exact putSel_on (e := (3, 137, (.pointer (some P)))) 3 rfl rfl (hon 3 (by kernel_rfl)) rfl
           replace ha := Aside0.mk ha
           have HB2 := Aside0.mk Q_HB2
           refine value_ (w1 := w') (v := (.pointer (some P))) (by rfl) rfl ?_ ?_
           ·go_simp
            (try simp only [i64_w])
            try (first | rfl | assumption)
           refine hK.out _ _ ⟨v31, m32_, (by rw [ha.out]; exact putSel_upk 4 hb_ rfl rfl rfl), Q_HB2, fun h0_ => absurd ((hoff 31 (by kernel_rfl)).symm.trans h0_) (by decide), fun h0_ => absurd ((hoff 32 (by kernel_rfl)).symm.trans h0_) (by decide)⟩
          refine steps_cons ?_ ?_
          ·rintro b a w' ⟨v31, m32_, ha, Q_HB2, Q_G31, Q_X32_⟩ hb_ hon hoff
           refine ⟨_, rfl, fun K hK => ?_⟩
           have e138 : a.tmps[138]? = some ((.pointer (some P))) := by rw [ha]; exact putSel_on (e := (4, 138, (.pointer (some P)))) 4 rfl rfl (hon 4 (by kernel_rfl)) rfl
           replace ha := Aside0.mk ha
           have HB2 := Aside0.mk Q_HB2
           obtain ⟨x0_, x1_, x2_⟩ := HPR.out _ HB2.out
           refine value_ (w1 := w') (v := (.int .i64 zf)) (by rfl) rfl ?_ ?_
           ·go_simp
            (try simp only [i64_w])
            try (first | rfl | assumption)
           refine hK.out _ _ ⟨v31, m32_, (by rw [ha.out]; exact putSel_upk 5 hb_ rfl rfl rfl), Q_HB2, fun h0_ => absurd ((hoff 31 (by kernel_rfl)).symm.trans h0_) (by decide), fun h0_ => absurd ((hoff 32 (by kernel_rfl)).symm.trans h0_) (by decide)⟩
          refine steps_cons ?_ ?_
          ·rintro b a w' ⟨v31, m32_, ha, Q_HB2, Q_G31, Q_X32_⟩ hb_ hon hoff
           refine ⟨_, rfl, fun K hK => ?_⟩
           have e139 : a.tmps[139]? = some ((.int .i64 zf)) := by rw [ha]; exact putSel_on (e := (5, 139, (.int .i64 zf))) 5 rfl rfl (hon 5 (by kernel_rfl)) rfl
           replace ha := Aside0.mk ha
           have HB2 := Aside0.mk Q_HB2
           refine value_ (w1 := w') (v := (.agg #[.int .i64 zf, .string ⟨#[]⟩, .int .i64 0])) (by rfl) rfl ?_ ?_
           ·go_simp
            (try simp only [i64_w])
            try (first | rfl | assumption)
           refine hK.out _ _ ⟨v31, m32_, (by rw [ha.out]; exact putSel_upk 6 hb_ rfl rfl rfl), Q_HB2, fun h0_ => absurd ((hoff 31 (by kernel_rfl)).symm.trans h0_) (by decide), fun h0_ => absurd ((hoff 32 (by kernel_rfl)).symm.trans h0_) (by decide)⟩
          refine steps_cons ?_ ?_
          ·rintro b a w' ⟨v31, m32_, ha, Q_HB2, Q_G31, Q_X32_⟩ hb_ hon hoff
           refine ⟨_, rfl, fun K hK => ?_⟩
           have e1 : a.tmps[1]? = some ((.slice (some adl) l'.length c')) := by rw [ha]; exact (putSel_off rfl).trans rfl
           replace ha := Aside0.mk ha
           have HB2 := Aside0.mk Q_HB2
           refine value_ (w1 := w') (v := (.slice (some adl) l'.length c')) (by rfl) rfl ?_ ?_
           ·go_simp
            (try simp only [i64_w])
            try (first | rfl | assumption)
           refine hK.out _ _ ⟨v31, m32_, (by rw [ha.out]; exact putSel_upk 7 hb_ rfl rfl rfl), Q_HB2, fun h0_ => absurd ((hoff 31 (by kernel_rfl)).symm.trans h0_) (by decide), fun h0_ => absurd ((hoff 32 (by kernel_rfl)).symm.trans h0_) (by decide)⟩
          refine steps_cons ?_ ?_
          ·rintro b a w' ⟨v31, m32_, ha, Q_HB2, Q_G31, Q_X32_⟩ hb_ hon hoff
           refine ⟨_, rfl, fun K hK => ?_⟩
           have e15 : a.tmps[15]? = some ((.int .i64 (i : Int))) := by rw [ha]; exact (putSel_off rfl).trans rfl
           replace ha := Aside0.mk ha
           have HB2 := Aside0.mk Q_HB2
           refine value_ (w1 := w') (v := (.int .i64 (i : Int))) (by rfl) rfl ?_ ?_
           ·go_simp
            (try simp only [i64_w])
            try (first | rfl | assumption)
           refine hK.out _ _ ⟨v31, m32_, (by rw [ha.out]; exact putSel_upk 8 hb_ rfl rfl rfl), Q_HB2, fun h0_ => absurd ((hoff 31 (by kernel_rfl)).symm.trans h0_) (by decide), fun h0_ => absurd ((hoff 32 (by kernel_rfl)).symm.trans h0_) (by decide)⟩
          refine steps_cons ?_ ?_
          ·rintro b a w' ⟨v31, m32_, ha, Q_HB2, Q_G31, Q_X32_⟩ hb_ hon hoff
           refine ⟨_, rfl, fun K hK => ?_⟩
           have e141 : a.tmps[141]? = some ((.slice (some adl) l'.length c')) := by rw [ha]; exact putSel_on (e := (7, 141, (.slice (some adl) l'.length c'))) 7 rfl rfl (hon 7 (by kernel_rfl)) rfl
           have e142 : a.tmps[142]? = some ((.int .i64 (i : Int))) := by rw [ha]; exact putSel_on (e := (8, 142, (.int .i64 (i : Int)))) 8 rfl rfl (hon 8 (by kernel_rfl)) rfl
           replace ha := Aside0.mk ha
           have HB2 := Aside0.mk Q_HB2
           refine value_ (w1 := w') (v := (.pointer (some P))) (by rfl) rfl ?_ ?_
           ·go_simp
            (try simp only [i64_w])
            try (first | rfl | assumption)
           refine hK.out _ _ ⟨v31, m32_, (by rw [ha.out]; exact putSel_upk 9 hb_ rfl rfl rfl), Q_HB2, fun h0_ => absurd ((hoff 31 (by kernel_rfl)).symm.trans h0_) (by decide), fun h0_ => absurd ((hoff 32 (by kernel_rfl)).symm.trans h0_) (by decide)⟩
          refine steps_cons ?_ ?_
          ·rintro b a w' ⟨v31, m32_, ha, Q_HB2, Q_G31, Q_X32_⟩ hb_ hon hoff
           refine ⟨_, rfl, fun K hK => ?_⟩
           have e143 : a.tmps[143]? = some ((.pointer (some P))) := by rw [ha]; exact putSel_on (e := (9, 143, (.pointer (some P)))) 9 rfl rfl (hon 9 (by kernel_rfl)) rfl
           replace ha := Aside0.mk ha
           have HB2 := Aside0.mk Q_HB2
           refine value_ (w1 := w') (v := (.pointer (some P))) (by rfl) rfl ?_ ?_
           ·go_simp
            (try simp only [i64_w])
            try (first | rfl | assumption)
           refine hK.out _ _ ⟨v31, m32_, (by rw [ha.out]; exact putSel_upk 10 hb_ rfl rfl rfl), Q_HB2, fun h0_ => absurd ((hoff 31 (by kernel_rfl)).symm.trans h0_) (by decide), fun h0_ => absurd ((hoff 32 (by kernel_rfl)).symm.trans h0_) (by decide)⟩
          refine steps_cons ?_ ?_
          ·rintro b a w' ⟨v31, m32_, ha, Q_HB2, Q_G31, Q_X32_⟩ hb_ hon hoff
           refine ⟨_, rfl, fun K hK => ?_⟩
           have e144 : a.tmps[144]? = some ((.pointer (some P))) := by rw [ha]; exact putSel_on (e := (10, 144, (.pointer (some P)))) 10 rfl rfl (hon 10 (by kernel_rfl)) rfl
           replace ha := Aside0.mk ha
           have HB2 := Aside0.mk Q_HB2
           refine value_ (w1 := w') (v := (.pointer (some ⟨P.block, P.off + 1, none⟩))) (by rfl) rfl ?_ ?_
           ·go_simp
            (try simp only [i64_w])
            try (first | rfl | assumption)
           refine hK.out _ _ ⟨v31, m32_, (by rw [ha.out]; exact putSel_upk 11 hb_ rfl rfl rfl), Q_HB2, fun h0_ => absurd ((hoff 31 (by kernel_rfl)).symm.trans h0_) (by decide), fun h0_ => absurd ((hoff 32 (by kernel_rfl)).symm.trans h0_) (by decide)⟩
          refine steps_cons ?_ ?_
          ·rintro b a w' ⟨v31, m32_, ha, Q_HB2, Q_G31, Q_X32_⟩ hb_ hon hoff
           refine ⟨_, rfl, fun K hK => ?_⟩
           have e145 : a.tmps[145]? = some ((.pointer (some ⟨P.block, P.off + 1, none⟩))) := by rw [ha]; exact putSel_on (e := (11, 145, (.pointer (some ⟨P.block, P.off + 1, none⟩)))) 11 rfl rfl (hon 11 (by kernel_rfl)) rfl
           replace ha := Aside0.mk ha
           have HB2 := Aside0.mk Q_HB2
           obtain ⟨x0_, x1_, x2_⟩ := HPR.out _ HB2.out
           refine value_ (w1 := w') (v := (.int .i64 zt)) (by rfl) rfl ?_ ?_
           ·go_simp
            (try simp only [i64_w])
            try (first | rfl | assumption)
           refine hK.out _ _ ⟨v31, m32_, (by rw [ha.out]; exact putSel_upk 12 hb_ rfl rfl rfl), Q_HB2, fun h0_ => absurd ((hoff 31 (by kernel_rfl)).symm.trans h0_) (by decide), fun h0_ => absurd ((hoff 32 (by kernel_rfl)).symm.trans h0_) (by decide)⟩
          refine steps_cons ?_ ?_
          ·rintro b a w' ⟨v31, m32_, ha, Q_HB2, Q_G31, Q_X32_⟩ hb_ hon hoff
           refine ⟨_, rfl, fun K hK => ?_⟩
           have e1 : a.tmps[1]? = some ((.slice (some adl) l'.length c')) := by rw [ha]; exact (putSel_off rfl).trans rfl
           replace ha := Aside0.mk ha
           have HB2 := Aside0.mk Q_HB2
           refine value_ (w1 := w') (v := (.slice (some adl) l'.length c')) (by rfl) rfl ?_ ?_
           ·go_simp
            (try simp only [i64_w])
            try (first | rfl | assumption)
           refine hK.out _ _ ⟨v31, m32_, (by rw [ha.out]; exact putSel_upk 13 hb_ rfl rfl rfl), Q_HB2, fun h0_ => absurd ((hoff 31 (by kernel_rfl)).symm.trans h0_) (by decide), fun h0_ => absurd ((hoff 32 (by kernel_rfl)).symm.trans h0_) (by decide)⟩
          refine steps_cons ?_ ?_
          ·rintro b a w' ⟨v31, m32_, ha, Q_HB2, Q_G31, Q_X32_⟩ hb_ hon hoff
           refine ⟨_, rfl, fun K hK => ?_⟩
           have e15 : a.tmps[15]? = some ((.int .i64 (i : Int))) := by rw [ha]; exact (putSel_off rfl).trans rfl
           replace ha := Aside0.mk ha
           have HB2 := Aside0.mk Q_HB2
           refine value_ (w1 := w') (v := (.int .i64 (i : Int))) (by rfl) rfl ?_ ?_
           ·go_simp
            (try simp only [i64_w])
            try (first | rfl | assumption)
           refine hK.out _ _ ⟨v31, m32_, (by rw [ha.out]; exact putSel_upk 14 hb_ rfl rfl rfl), Q_HB2, fun h0_ => absurd ((hoff 31 (by kernel_rfl)).symm.trans h0_) (by decide), fun h0_ => absurd ((hoff 32 (by kernel_rfl)).symm.trans h0_) (by decide)⟩
          refine steps_cons ?_ ?_
          ·rintro b a w' ⟨v31, m32_, ha, Q_HB2, Q_G31, Q_X32_⟩ hb_ hon hoff
           refine ⟨_, rfl, fun K hK => ?_⟩
           have e147 : a.tmps[147]? = some ((.slice (some adl) l'.length c')) := by rw [ha]; exact putSel_on (e := (13, 147, (.slice (some adl) l'.length c'))) 13 rfl rfl (hon 13 (by kernel_rfl)) rfl
           have e148 : a.tmps[148]? = some ((.int .i64 (i : Int))) := by rw [ha]; exact putSel_on (e := (14, 148, (.int .i64 (i : Int)))) 14 rfl rfl (hon 14 (by kernel_rfl)) rfl
           replace ha := Aside0.mk ha
           have HB2 := Aside0.mk Q_HB2
           refine value_ (w1 := w') (v := (.pointer (some P))) (by rfl) rfl ?_ ?_
           ·go_simp
            (try simp only [i64_w])
            try (first | rfl | assumption)
           refine hK.out _ _ ⟨v31, m32_, (by rw [ha.out]; exact putSel_upk 15 hb_ rfl rfl rfl), Q_HB2, fun h0_ => absurd ((hoff 31 (by kernel_rfl)).symm.trans h0_) (by decide), fun h0_ => absurd ((hoff 32 (by kernel_rfl)).symm.trans h0_) (by decide)⟩
          refine steps_cons ?_ ?_
          ·rintro b a w' ⟨v31, m32_, ha, Q_HB2, Q_G31, Q_X32_⟩ hb_ hon hoff
           refine ⟨_, rfl, fun K hK => ?_⟩
           have e149 : a.tmps[149]? = some ((.pointer (some P))) := by rw [ha]; exact putSel_on (e := (15, 149, (.pointer (some P)))) 15 rfl rfl (hon 15 (by kernel_rfl)) rfl
           replace ha := Aside0.mk ha
           have HB2 := Aside0.mk Q_HB2
           refine value_ (w1 := w') (v := (.pointer (some P))) (by rfl) rfl ?_ ?_
           ·go_simp
            (try simp only [i64_w])
            try (first | rfl | assumption)
           refine hK.out _ _ ⟨v31, m32_, (by rw [ha.out]; exact putSel_upk 16 hb_ rfl rfl rfl), Q_HB2, fun h0_ => absurd ((hoff 31 (by kernel_rfl)).symm.trans h0_) (by decide), fun h0_ => absurd ((hoff 32 (by kernel_rfl)).symm.trans h0_) (by decide)⟩
          refine steps_cons ?_ ?_
          ·rintro b a w' ⟨v31, m32_, ha, Q_HB2, Q_G31, Q_X32_⟩ hb_ hon hoff
           refine ⟨_, rfl, fun K hK => ?_⟩
           have e150 : a.tmps[150]? = some ((.pointer (some P))) := by rw [ha]; exact putSel_on (e := (16, 150, (.pointer (some P)))) 16 rfl rfl (hon 16 (by kernel_rfl)) rfl
           replace ha := Aside0.mk ha
           have HB2 := Aside0.mk Q_HB2
           refine value_ (w1 := w') (v := (.pointer (some P))) (by rfl) rfl ?_ ?_
           ·go_simp
            (try simp only [i64_w])
            try (first | rfl | assumption)
           refine hK.out _ _ ⟨v31, m32_, (by rw [ha.out]; exact putSel_upk 17 hb_ rfl rfl rfl), Q_HB2, fun h0_ => absurd ((hoff 31 (by kernel_rfl)).symm.trans h0_) (by decide), fun h0_ => absurd ((hoff 32 (by kernel_rfl)).symm.trans h0_) (by decide)⟩
          refine steps_cons ?_ ?_
          ·rintro b a w' ⟨v31, m32_, ha, Q_HB2, Q_G31, Q_X32_⟩ hb_ hon hoff
           refine ⟨_, rfl, fun K hK => ?_⟩
           have e151 : a.tmps[151]? = some ((.pointer (some P))) := by rw [ha]; exact putSel_on (e := (17, 151, (.pointer (some P)))) 17 rfl rfl (hon 17 (by kernel_rfl)) rfl
           replace ha := Aside0.mk ha
           have HB2 := Aside0.mk Q_HB2
           obtain ⟨x0_, x1_, x2_⟩ := HPR.out _ HB2.out
           refine value_ (w1 := w') (v := (.int .i64 zf)) (by rfl) rfl ?_ ?_
           ·go_simp
            (try simp only [i64_w])
            try (first | rfl | assumption)
           refine hK.out _ _ ⟨v31, m32_, (by rw [ha.out]; exact putSel_upk 18 hb_ rfl rfl rfl), Q_HB2, fun h0_ => absurd ((hoff 31 (by kernel_rfl)).symm.trans h0_) (by decide), fun h0_ => absurd ((hoff 32 (by kernel_rfl)).symm.trans h0_) (by decide)⟩
          refine steps_cons ?_ ?_
          ·rintro b a w' ⟨v31, m32_, ha, Q_HB2, Q_G31, Q_X32_⟩ hb_ hon hoff
           refine ⟨_, rfl, fun K hK => ?_⟩
           have e146 : a.tmps[146]? = some ((.int .i64 zt)) := by rw [ha]; exact putSel_on (e := (12, 146, (.int .i64 zt))) 12 rfl rfl (hon 12 (by kernel_rfl)) rfl
           have e152 : a.tmps[152]? = some ((.int .i64 zf)) := by rw [ha]; exact putSel_on (e := (18, 152, (.int .i64 zf))) 18 rfl rfl (hon 18 (by kernel_rfl)) rfl
           replace ha := Aside0.mk ha
           have HB2 := Aside0.mk Q_HB2
           refine value_ (w1 := w') (v := (.int .i64 (zt - zf))) (by rfl) rfl ?_ ?_
           ·go_simp
            (try simp only [i64_w])
            try (first | rfl | assumption)
           refine hK.out _ _ ⟨v31, m32_, (by rw [ha.out]; exact putSel_upk 19 hb_ rfl rfl rfl), Q_HB2, fun h0_ => absurd ((hoff 31 (by kernel_rfl)).symm.trans h0_) (by decide), fun h0_ => absurd ((hoff 32 (by kernel_rfl)).symm.trans h0_) (by decide)⟩
          refine steps_cons ?_ ?_
          ·rintro b a w' ⟨v31, m32_, ha, Q_HB2, Q_G31, Q_X32_⟩ hb_ hon hoff
           refine ⟨_, rfl, fun K hK => ?_⟩
           have e153 : a.tmps[153]? = some ((.int .i64 (zt - zf))) := by rw [ha]; exact putSel_on (e := (19, 153, (.int .i64 (zt - zf)))) 19 rfl rfl (hon 19 (by kernel_rfl)) rfl
           replace ha := Aside0.mk ha
           have HB2 := Aside0.mk Q_HB2
           refine value_ (w1 := w') (v := (.agg #[.int .i64 0, .string ⟨#[]⟩, .int .i64 (zt - zf)])) (by rfl) rfl ?_ ?_
           ·go_simp
            (try simp only [i64_w])
            try (first | rfl | assumption)
           refine hK.out _ _ ⟨v31, m32_, (by rw [ha.out]; exact putSel_upk 20 hb_ rfl rfl rfl), Q_HB2, fun h0_ => absurd ((hoff 31 (by kernel_rfl)).symm.trans h0_) (by decide), fun h0_ => absurd ((hoff 32 (by kernel_rfl)).symm.trans h0_) (by decide)⟩
          refine steps_cons ?_ ?_
          ·rintro b a w' ⟨v31, m32_, ha, Q_HB2, Q_G31, Q_X32_⟩ hb_ hon hoff
           refine ⟨_, rfl, fun K hK => ?_⟩
           have e0 : a.tmps[0]? = some ((.string s')) := by rw [ha]; exact (putSel_off rfl).trans rfl
           replace ha := Aside0.mk ha
           have HB2 := Aside0.mk Q_HB2
           refine value_ (w1 := w') (v := (.string s')) (by rfl) rfl ?_ ?_
           ·go_simp
            (try simp only [i64_w])
            try (first | rfl | assumption)
           refine hK.out _ _ ⟨v31, m32_, (by rw [ha.out]; exact putSel_upk 21 hb_ rfl rfl rfl), Q_HB2, fun h0_ => absurd ((hoff 31 (by kernel_rfl)).symm.trans h0_) (by decide), fun h0_ => absurd ((hoff 32 (by kernel_rfl)).symm.trans h0_) (by decide)⟩
          refine steps_cons ?_ ?_
          ·rintro b a w' ⟨v31, m32_, ha, Q_HB2, Q_G31, Q_X32_⟩ hb_ hon hoff
           refine ⟨_, rfl, fun K hK => ?_⟩
           have e155 : a.tmps[155]? = some ((.string s')) := by rw [ha]; exact putSel_on (e := (21, 155, (.string s'))) 21 rfl rfl (hon 21 (by kernel_rfl)) rfl
           replace ha := Aside0.mk ha
           have HB2 := Aside0.mk Q_HB2
           refine value_ (w1 := w') (v := (.int .i64 ((s').size : Int))) (by rfl) rfl ?_ ?_
           ·go_simp
            (try simp only [i64_w])
            try (first | rfl | assumption)
           refine hK.out _ _ ⟨v31, m32_, (by rw [ha.out]; exact putSel_upk 22 hb_ rfl rfl rfl), Q_HB2, fun h0_ => absurd ((hoff 31 (by kernel_rfl)).symm.trans h0_) (by decide), fun h0_ => absurd ((hoff 32 (by kernel_rfl)).symm.trans h0_) (by decide)⟩
          refine steps_cons ?_ ?_
          ·rintro b a w' ⟨v31, m32_, ha, Q_HB2, Q_G31, Q_X32_⟩ hb_ hon hoff
           refine ⟨_, rfl, fun K hK => ?_⟩
           have e1 : a.tmps[1]? = some ((.slice (some adl) l'.length c')) := by rw [ha]; exact (putSel_off rfl).trans rfl
           replace ha := Aside0.mk ha
           have HB2 := Aside0.mk Q_HB2
           refine value_ (w1 := w') (v := (.slice (some adl) l'.length c')) (by rfl) rfl ?_ ?_
           ·go_simp
            (try simp only [i64_w])
            try (first | rfl | assumption)
           refine hK.out _ _ ⟨v31, m32_, (by rw [ha.out]; exact putSel_upk 23 hb_ rfl rfl rfl), Q_HB2, fun h0_ => absurd ((hoff 31 (by kernel_rfl)).symm.trans h0_) (by decide), fun h0_ => absurd ((hoff 32 (by kernel_rfl)).symm.trans h0_) (by decide)⟩
          refine steps_cons ?_ ?_
          ·rintro b a w' ⟨v31, m32_, ha, Q_HB2, Q_G31, Q_X32_⟩ hb_ hon hoff
           refine ⟨_, rfl, fun K hK => ?_⟩
           have e15 : a.tmps[15]? = some ((.int .i64 (i : Int))) := by rw [ha]; exact (putSel_off rfl).trans rfl
           replace ha := Aside0.mk ha
           have HB2 := Aside0.mk Q_HB2
           refine value_ (w1 := w') (v := (.int .i64 (i : Int))) (by rfl) rfl ?_ ?_
           ·go_simp
            (try simp only [i64_w])
            try (first | rfl | assumption)
           refine hK.out _ _ ⟨v31, m32_, (by rw [ha.out]; exact putSel_upk 24 hb_ rfl rfl rfl), Q_HB2, fun h0_ => absurd ((hoff 31 (by kernel_rfl)).symm.trans h0_) (by decide), fun h0_ => absurd ((hoff 32 (by kernel_rfl)).symm.trans h0_) (by decide)⟩
          refine steps_cons ?_ ?_
          ·rintro b a w' ⟨v31, m32_, ha, Q_HB2, Q_G31, Q_X32_⟩ hb_ hon hoff
           refine ⟨_, rfl, fun K hK => ?_⟩
           have e157 : a.tmps[157]? = some ((.slice (some adl) l'.length c')) := by rw [ha]; exact putSel_on (e := (23, 157, (.slice (some adl) l'.length c'))) 23 rfl rfl (hon 23 (by kernel_rfl)) rfl
           have e158 : a.tmps[158]? = some ((.int .i64 (i : Int))) := by rw [ha]; exact putSel_on (e := (24, 158, (.int .i64 (i : Int)))) 24 rfl rfl (hon 24 (by kernel_rfl)) rfl
           replace ha := Aside0.mk ha
           have HB2 := Aside0.mk Q_HB2
           refine value_ (w1 := w') (v := (.pointer (some P))) (by rfl) rfl ?_ ?_
           ·go_simp
            (try simp only [i64_w])
            try (first | rfl | assumption)
           refine hK.out _ _ ⟨v31, m32_, (by rw [ha.out]; exact putSel_upk 25 hb_ rfl rfl rfl), Q_HB2, fun h0_ => absurd ((hoff 31 (by kernel_rfl)).symm.trans h0_) (by decide), fun h0_ => absurd ((hoff 32 (by kernel_rfl)).symm.trans h0_) (by decide)⟩
          refine steps_cons ?_ ?_
          ·rintro b a w' ⟨v31, m32_, ha, Q_HB2, Q_G31, Q_X32_⟩ hb_ hon hoff
           refine ⟨_, rfl, fun K hK => ?_⟩
           have e159 : a.tmps[159]? = some ((.pointer (some P))) := by rw [ha]; exact putSel_on (e := (25, 159, (.pointer (some P)))) 25 rfl rfl (hon 25 (by kernel_rfl)) rfl
           replace ha := Aside0.mk ha
           have HB2 := Aside0.mk Q_HB2
           refine value_ (w1 := w') (v := (.pointer (some P))) (by rfl) rfl ?_ ?_
           ·go_simp
            (try simp only [i64_w])
            try (first | rfl | assumption)
           refine hK.out _ _ ⟨v31, m32_, (by rw [ha.out]; exact putSel_upk 26 hb_ rfl rfl rfl), Q_HB2, fun h0_ => absurd ((hoff 31 (by kernel_rfl)).symm.trans h0_) (by decide), fun h0_ => absurd ((hoff 32 (by kernel_rfl)).symm.trans h0_) (by decide)⟩
          refine steps_cons ?_ ?_
          ·rintro b a w' ⟨v31, m32_, ha, Q_HB2, Q_G31, Q_X32_⟩ hb_ hon hoff
           refine ⟨_, rfl, fun K hK => ?_⟩
           have e160 : a.tmps[160]? = some ((.pointer (some P))) := by rw [ha]; exact putSel_on (e := (26, 160, (.pointer (some P)))) 26 rfl rfl (hon 26 (by kernel_rfl)) rfl
           replace ha := Aside0.mk ha
           have HB2 := Aside0.mk Q_HB2
           refine value_ (w1 := w') (v := (.pointer (some ⟨P.block, P.off + 1, none⟩))) (by rfl) rfl ?_ ?_
           ·go_simp
            (try simp only [i64_w])
            try (first | rfl | assumption)
           refine hK.out _ _ ⟨v31, m32_, (by rw [ha.out]; exact putSel_upk 27 hb_ rfl rfl rfl), Q_HB2, fun h0_ => absurd ((hoff 31 (by kernel_rfl)).symm.trans h0_) (by decide), fun h0_ => absurd ((hoff 32 (by kernel_rfl)).symm.trans h0_) (by decide)⟩
          refine steps_cons ?_ ?_
          ·rintro b a w' ⟨v31, m32_, ha, Q_HB2, Q_G31, Q_X32_⟩ hb_ hon hoff
           refine ⟨_, rfl, fun K hK => ?_⟩
           have e161 : a.tmps[161]? = some ((.pointer (some ⟨P.block, P.off + 1, none⟩))) := by rw [ha]; exact putSel_on (e := (27, 161, (.pointer (some ⟨P.block, P.off + 1, none⟩)))) 27 rfl rfl (hon 27 (by kernel_rfl)) rfl
           replace ha := Aside0.mk ha
           have HB2 := Aside0.mk Q_HB2
           obtain ⟨x0_, x1_, x2_⟩ := HPR.out _ HB2.out
           refine value_ (w1 := w') (v := (.int .i64 zt)) (by rfl) rfl ?_ ?_
           ·go_simp
            (try simp only [i64_w])
            try (first | rfl | assumption)
           refine hK.out _ _ ⟨v31, m32_, (by rw [ha.out]; exact putSel_upk 28 hb_ rfl rfl rfl), Q_HB2, fun h0_ => absurd ((hoff 31 (by kernel_rfl)).symm.trans h0_) (by decide), fun h0_ => absurd ((hoff 32 (by kernel_rfl)).symm.trans h0_) (by decide)⟩
          refine steps_cons ?_ ?_
          ·rintro b a w' ⟨v31, m32_, ha, Q_HB2, Q_G31, Q_X32_⟩ hb_ hon hoff
           refine ⟨_, rfl, fun K hK => ?_⟩
           have e156 : a.tmps[156]? = some ((.int .i64 ((s').size : Int))) := by rw [ha]; exact putSel_on (e := (22, 156, (.int .i64 ((s').size : Int)))) 22 rfl rfl (hon 22 (by kernel_rfl)) rfl
           have e162 : a.tmps[162]? = some ((.int .i64 zt)) := by rw [ha]; exact putSel_on (e := (28, 162, (.int .i64 zt))) 28 rfl rfl (hon 28 (by kernel_rfl)) rfl
           replace ha := Aside0.mk ha
           have HB2 := Aside0.mk Q_HB2
           refine value_ (w1 := w') (v := (.int .i64 ((s'.size : Int) - zt))) (by rfl) rfl ?_ ?_
           ·go_simp
            (try simp only [i64_w])
            try (first | rfl | assumption)
           refine hK.out _ _ ⟨v31, m32_, (by rw [ha.out]; exact putSel_upk 29 hb_ rfl rfl rfl), Q_HB2, fun h0_ => absurd ((hoff 31 (by kernel_rfl)).symm.trans h0_) (by decide), fun h0_ => absurd ((hoff 32 (by kernel_rfl)).symm.trans h0_) (by decide)⟩
          refine steps_cons ?_ ?_
          ·rintro b a w' ⟨v31, m32_, ha, Q_HB2, Q_G31, Q_X32_⟩ hb_ hon hoff
           refine ⟨_, rfl, fun K hK => ?_⟩
           have e163 : a.tmps[163]? = some ((.int .i64 ((s'.size : Int) - zt))) := by rw [ha]; exact putSel_on (e := (29, 163, (.int .i64 ((s'.size : Int) - zt)))) 29 rfl rfl (hon 29 (by kernel_rfl)) rfl
           replace ha := Aside0.mk ha
           have HB2 := Aside0.mk Q_HB2
           refine value_ (w1 := w') (v := (.agg #[.int .i64 ((s'.size : Int) - zt), .string ⟨#[]⟩, .int .i64 0])) (by rfl) rfl ?_ ?_
           ·go_simp
            (try simp only [i64_w])
            try (first | rfl | assumption)
           refine hK.out _ _ ⟨v31, m32_, (by rw [ha.out]; exact putSel_upk 30 hb_ rfl rfl rfl), Q_HB2, fun h0_ => absurd ((hoff 31 (by kernel_rfl)).symm.trans h0_) (by decide), fun h0_ => absurd ((hoff 32 (by kernel_rfl)).symm.trans h0_) (by decide)⟩
          refine steps_cons ?_ ?_
          ·rintro b a w' ⟨v31, m32_, ha, Q_HB2, Q_G31, Q_X32_⟩ hb_ hon hoff
           refine ⟨_, rfl, fun K hK => ?_⟩
           have e140 : a.tmps[140]? = some ((.agg #[.int .i64 zf, .string ⟨#[]⟩, .int .i64 0])) := by rw [ha]; exact putSel_on (e := (6, 140, (.agg #[.int .i64 zf, .string ⟨#[]⟩, .int .i64 0]))) 6 rfl rfl (hon 6 (by kernel_rfl)) rfl
           have e154 : a.tmps[154]? = some ((.agg #[.int .i64 0, .string ⟨#[]⟩, .int .i64 (zt - zf)])) := by rw [ha]; exact putSel_on (e := (20, 154, (.agg #[.int .i64 0, .string ⟨#[]⟩, .int .i64 (zt - zf)]))) 20 rfl rfl (hon 20 (by kernel_rfl)) rfl
           have e164 : a.tmps[164]? = some ((.agg #[.int .i64 ((s'.size : Int) - zt), .string ⟨#[]⟩, .int .i64 0])) := by rw [ha]; exact putSel_on (e := (30, 164, (.agg #[.int .i64 ((s'.size : Int) - zt), .string ⟨#[]⟩, .int .i64 0]))) 30 rfl rfl (hon 30 (by kernel_rfl)) rfl
           replace ha := Aside0.mk ha
           have HB2 := Aside0.mk Q_HB2
           obtain ⟨v31, hv31_⟩ : ∃ v31 : Value, v31 = .slice (some ⟨w'.heap.size, 0, none⟩) 3 3 := ⟨_, rfl⟩
           obtain ⟨w1_, hw1_⟩ : ∃ w1_, w1_ = w'.alloc (.cells #[.int .i64 zf, .string ⟨#[]⟩, .int .i64 0, .int .i64 0, .string ⟨#[]⟩, .int .i64 (zt - zf), .int .i64 ((s'.size : Int) - zt), .string ⟨#[]⟩, .int .i64 0] 49) := ⟨_, rfl⟩
           have hb : Below w'.heap.size w' w1_ := by rw [hw1_]; exact below_alloc (Below.refl _ _) _
           refine value_ (w1 := w1_) (v := v31) (by rfl) rfl (by rw [hv31_, hw1_]; go_simp) ?_
           refine hK.out _ _ ⟨v31, m32_, (by rw [ha.out]; exact putSel_upk 31 hb_ rfl rfl rfl), below_step HB2.out hb, fun _ => ⟨_, _, hv31_, by simp [goneL], by rw [hw1_]; exact lit_r3 w' ⟨zf, E, 0⟩ ⟨0, E, zt - zf⟩ ⟨(s'.size : Int) - zt, E, 0⟩⟩, fun h0_ => absurd ((hoff 32 (by kernel_rfl)).symm.trans h0_) (by decide)⟩
          refine steps_cons ?_ ?_
          ·rintro b a w' ⟨v31, m32_, ha, Q_HB2, Q_G31, Q_X32_⟩ hb_ hon hoff
           refine ⟨_, rfl, fun K hK => ?_⟩
           have e165 : a.tmps[165]? = some (v31) := by rw [ha]; exact putSel_on (e := (31, 165, v31)) 31 rfl rfl (hon 31 (by kernel_rfl)) rfl
           replace ha := Aside0.mk ha
           have HB2 := Aside0.mk Q_HB2
           have G31 := Aside0.mk (Q_G31 (hon 31 (by kernel_rfl)))
           refine value_ (w1 := w') (v := v31) (by rfl) rfl ?_ ?_
           ·go_simp
            (try simp only [i64_w])
            try (first | rfl | assumption)
           refine hK.out _ _ ⟨v31, (v31), (by rw [ha.out]; exact putSel_upk 32 hb_ rfl rfl rfl), Q_HB2, Q_G31, fun _ => rfl⟩
          exact steps_nil
         rintro b a we hall ⟨v31, m32_, ha, Q_HB2, Q_G31, Q_X32_⟩
         clear HB2
         have hb0_ := hall 0 (by kernel_rfl)
         have hb1_ := hall 1 (by kernel_rfl)
         have hb2_ := hall 2 (by kernel_rfl)
         have hb3_ := hall 3 (by kernel_rfl)
         have hb4_ := hall 4 (by kernel_rfl)
         have hb5_ := hall 5 (by kernel_rfl)
         have hb6_ := hall 6 (by kernel_rfl)
         have hb7_ := hall 7 (by kernel_rfl)
         have hb8_ := hall 8 (by kernel_rfl)
         have hb9_ := hall 9 (by kernel_rfl)
         have hb10_ := hall 10 (by kernel_rfl)
         have hb11_ := hall 11 (by kernel_rfl)
         have hb12_ := hall 12 (by kernel_rfl)
         have hb13_ := hall 13 (by kernel_rfl)
         have hb14_ := hall 14 (by kernel_rfl)
         have hb15_ := hall 15 (by kernel_rfl)
         have hb16_ := hall 16 (by kernel_rfl)
         have hb17_ := hall 17 (by kernel_rfl)
         have hb18_ := hall 18 (by kernel_rfl)
         have hb19_ := hall 19 (by kernel_rfl)
         have hb20_ := hall 20 (by kernel_rfl)
         have hb21_ := hall 21 (by kernel_rfl)
         have hb22_ := hall 22 (by kernel_rfl)
         have hb23_ := hall 23 (by kernel_rfl)
         have hb24_ := hall 24 (by kernel_rfl)
         have hb25_ := hall 25 (by kernel_rfl)
         have hb26_ := hall 26 (by kernel_rfl)
         have hb27_ := hall 27 (by kernel_rfl)
         have hb28_ := hall 28 (by kernel_rfl)
         have hb29_ := hall 29 (by kernel_rfl)
         have hb30_ := hall 30 (by kernel_rfl)
         have hb31_ := hall 31 (by kernel_rfl)
         have hb32_ := hall 32 (by kernel_rfl)
         subst ha
         obtain rfl := Q_X32_ hb32_
         simp only [putSel, hb0_, hb1_, hb2_, hb3_, hb4_, hb5_, hb6_, hb7_, hb8_, hb9_, hb10_, hb11_, hb12_, hb13_, hb14_, hb15_, hb16_, hb17_, hb18_, hb19_, hb20_, hb21_, hb22_, hb23_, hb24_, hb25_, hb26_, hb27_, hb28_, hb29_, hb30_, hb31_, hb32_, if_true, Act.put, List.setIfInBounds_toArray, List.set_cons_zero, List.set_cons_succ]
         have HB2 := Aside0.mk Q_HB2
         clear Q_HB2
         have G31 := Aside0.mk (Q_G31 hb31_)
         clear Q_G31
         clear hall hb0_ hb1_ hb2_ hb3_ hb4_ hb5_ hb6_ hb7_ hb8_ hb9_ hb10_ hb11_ hb12_ hb13_ hb14_ hb15_ hb16_ hb17_ hb18_ hb19_ hb20_ hb21_ hb22_ hb23_ hb24_ hb25_ hb26_ hb27_ hb28_ hb29_ hb30_ hb31_ hb32_
         clear w1a w1b
         go_wp2_with fail
         have w1c := W1C.out
         refine start_ (n := 14) (S := fun w' => True) (ds := []) #[false, false, false, false, false, false, false, false, false, false, false, false, false, false] (by kernel_rfl) rfl rfl trivial (fun hHeld => ?_); refine with_tabW R24.tab24 R24.bits24 (fun HT_ HW_ => ?_)
         refine inv_at [0, 1, 2, 3, 4, 5, 6, 7, 8, 9, 10, 11, 12, 13] (fun a0_ b a w' => ∃ (v6 : Value) (v7 : Value) (v8 : Value) (m8_ : Value) (m9_ : Value) (m10_ : Value) (m12_ : Value), a = putSel a0_ b [(0, 167, (.slice (some adl) l'.length c')), (1, 168, (.int .i64 (i : Int))), (2, 169, (.int .i64 (i : Int))), (3, 170, (.int .i64 ((i : Int) + 1))), (4, 171, (.slice (some P) 1 (c' - i))), (5, 172, m32_), (6, 173, v6), (7, 174, v7), (8, 175, m8_), (9, 166, m9_), (10, 176, m10_), (11, 177, .bool true), (12, 18, m12_), (13, 19, .bool true)] ∧ (Below w2.heap.size w2 w') ∧ (Rw w' m32_ (goneL zf zt (s'.size : Int))) ∧ (b 6 = true → Rw w' v6 (norm (goneL zf zt (s'.size : Int)))) ∧ (b 7 = true → Rl w' v7 [norm (goneL zf zt (s'.size : Int))]) ∧ (b 8 = true → Nr 0 w' v8 [⟨⟨zf, zf⟩, zc⟩]) ∧ (b 8 = true → (m8_ : Value) = (.tuple #[v8, .bool true])) ∧ (b 9 = true → (m9_ : Value) = (.tuple #[v8, .bool true])) ∧ (b 10 = true → (m10_ : Value) = v8) ∧ (b 12 = true → (m12_ : Value) = v8)) HT_.out HW_.out (by kernel_rfl) (by kernel_rfl) ?_ ?_ ?_
         ·exact ⟨.bool false, .bool false, .bool false, .bool false, .bool false, .bool false, .bool false, by simp only [putSel, Bool.false_eq_true, if_false], below_drew1 HB2.out, Rw.below G31.out (below_drew1 (Below.refl _ _)), fun h_ => absurd h_ (by decide), fun h_ => absurd h_ (by decide), fun h_ => absurd h_ (by decide), fun h_ => absurd h_ (by decide), fun h_ => absurd h_ (by decide), fun h_ => absurd h_ (by decide), fun h_ => absurd h_ (by decide)⟩
         ·skip
          clear G31 HB2
          refine steps_cons ?_ ?_
          ·rintro b a w' ⟨v6, v7, v8, m8_, m9_, m10_, m12_, ha, Q_HB2, Q_G31, Q_G6, Q_G7, Q_G8, Q_X8_, Q_X9_, Q_X10_, Q_X12_⟩ hb_ hon hoff
           refine ⟨_, rfl, fun K hK => ?_⟩
           have e1 : a.tmps[1]? = some ((.slice (some adl) l'.length c')) := by rw [ha]; exact (putSel_off rfl).trans rfl
           replace ha := Aside0.mk ha
           have HB2 := Aside0.mk Q_HB2
           have G31 := Aside0.mk Q_G31
           refine value_ (w1 := w') (v := (.slice (some adl) l'.length c')) (by rfl) rfl ?_ ?_
           ·go_simp
            (try simp only [i64_w])
            try (first | rfl | assumption)
           refine hK.out _ _ ⟨v6, v7, v8, m8_, m9_, m10_, m12_, (by rw [ha.out]; exact putSel_upk 0 hb_ rfl rfl rfl), Q_HB2, Q_G31, Q_G6, Q_G7, fun h0_ => absurd ((hoff 8 (by kernel_rfl)).symm.trans h0_) (by decide), fun h0_ => absurd ((hoff 8 (by kernel_rfl)).symm.trans h0_) (by decide), fun h0_ => absurd ((hoff 9 (by kernel_rfl)).symm.trans h0_) (by decide), fun h0_ => absurd ((hoff 10 (by kernel_rfl)).symm.trans h0_) (by decide), fun h0_ => absurd ((hoff 12 (by kernel_rfl)).symm.trans h0_) (by decide)⟩
          refine steps_cons ?_ ?_
          ·rintro b a w' ⟨v6, v7, v8, m8_, m9_, m10_, m12_, ha, Q_HB2, Q_G31, Q_G6, Q_G7, Q_G8, Q_X8_, Q_X9_, Q_X10_, Q_X12_⟩ hb_ hon hoff
           refine ⟨_, rfl, fun K hK => ?_⟩
           have e15 : a.tmps[15]? = some ((.int .i64 (i : Int))) := by rw [ha]; exact (putSel_off rfl).trans rfl
           replace ha := Aside0.mk ha
           have HB2 := Aside0.mk Q_HB2
           have G31 := Aside0.mk Q_G31
           refine value_ (w1 := w') (v := (.int .i64 (i : Int))) (by rfl) rfl ?_ ?_
           ·go_simp
            (try simp only [i64_w])
            try (first | rfl | assumption)
           refine hK.out _ _ ⟨v6, v7, v8, m8_, m9_, m10_, m12_, (by rw [ha.out]; exact putSel_upk 1 hb_ rfl rfl rfl), Q_HB2, Q_G31, Q_G6, Q_G7, fun h0_ => absurd ((hoff 8 (by kernel_rfl)).symm.trans h0_) (by decide), fun h0_ => absurd ((hoff 8 (by kernel_rfl)).symm.trans h0_) (by decide), fun h0_ => absurd ((hoff 9 (by kernel_rfl)).symm.trans h0_) (by decide), fun h0_ => absurd ((hoff 10 (by kernel_rfl)).symm.trans h0_) (by decide), fun h0_ => absurd ((hoff 12 (by kernel_rfl)).symm.trans h0_) (by decide)⟩
          refine steps_cons ?_ ?_
          ·rintro b a w' ⟨v6, v7, v8, m8_, m9_, m10_, m12_, ha, Q_HB2, Q_G31, Q_G6, Q_G7, Q_G8, Q_X8_, Q_X9_, Q_X10_, Q_X12_⟩ hb_ hon hoff
           refine ⟨_, rfl, fun K hK => ?_⟩
           have e15 : a.tmps[15]? = some ((.int .i64 (i : Int))) := by rw [ha]; exact (putSel_off rfl).trans rfl
           replace ha := Aside0.mk ha
           have HB2 := Aside0.mk Q_HB2
           have G31 := Aside0.mk Q_G31
           refine value_ (w1 := w') (v := (.int .i64 (i : Int))) (by rfl) rfl ?_ ?_
           ·go_simp
            (try simp only [i64_w])
            try (first | rfl | assumption)
           refine hK.out _ _ ⟨v6, v7, v8, m8_, m9_, m10_, m12_, (by rw [ha.out]; exact putSel_upk 2 hb_ rfl rfl rfl), Q_HB2, Q_G31, Q_G6, Q_G7, fun h0_ => absurd ((hoff 8 (by kernel_rfl)).symm.trans h0_) (by decide), fun h0_ => absurd ((hoff 8 (by kernel_rfl)).symm.trans h0_) (by decide), fun h0_ => absurd ((hoff 9 (by kernel_rfl)).symm.trans h0_) (by decide), fun h0_ => absurd ((hoff 10 (by kernel_rfl)).symm.trans h0_) (by decide), fun h0_ => absurd ((hoff 12 (by kernel_rfl)).symm.trans h0_) (by decide)⟩
          refine steps_cons ?_ ?_
          ·rintro b a w' ⟨v6, v7, v8, m8_, m9_, m10_, m12_, ha, Q_HB2, Q_G31, Q_G6, Q_G7, Q_G8, Q_X8_, Q_X9_, Q_X10_, Q_X12_⟩ hb_ hon hoff
           refine ⟨_, rfl, fun K hK => ?_⟩
           have e169 : a.tmps[169]? = some ((.int .i64 (i : Int))) := by rw [ha]; exact putSel_on (e := (2, 169, (.int .i64 (i : Int)))) 2 rfl rfl (hon 2 (by kernel_rfl)) rfl
           replace ha := Aside0.mk ha
           have HB2 := Aside0.mk Q_HB2
           have G31 := Aside0.mk Q_G31
           refine value_ (w1 := w') (v := (.int .i64 ((i : Int) + 1))) (by rfl) rfl ?_ ?_
           ·go_simp
            (try simp only [i64_w])
            try (first | rfl | assumption)
           refine hK.out _ _ ⟨v6, v7, v8, m8_, m9_, m10_, m12_, (by rw [ha.out]; exact putSel_upk 3 hb_ rfl rfl rfl), Q_HB2, Q_G31, Q_G6, Q_G7, fun h0_ => absurd ((hoff 8 (by kernel_rfl)).symm.trans h0_) (by decide), fun h0_ => absurd ((hoff 8 (by kernel_rfl)).symm.trans h0_) (by decide), fun h0_ => absurd ((hoff 9 (by kernel_rfl)).symm.trans h0_) (by decide), fun h0_ => absurd ((hoff 10 (by kernel_rfl)).symm.trans h0_) (by decide), fun h0_ => absurd ((hoff 12 (by kernel_rfl)).symm.trans h0_) (by decide)⟩
          refine steps_cons ?_ ?_
          ·rintro b a w' ⟨v6, v7, v8, m8_, m9_, m10_, m12_, ha, Q_HB2, Q_G31, Q_G6, Q_G7, Q_G8, Q_X8_, Q_X9_, Q_X10_, Q_X12_⟩ hb_ hon hoff
           refine ⟨_, rfl, fun K hK => ?_⟩
           have e167 : a.tmps[167]? = some ((.slice (some adl) l'.length c')) := by rw [ha]; exact putSel_on (e := (0, 167, (.slice (some adl) l'.length c'))) 0 rfl rfl (hon 0 (by kernel_rfl)) rfl
           have e168 : a.tmps[168]? = some ((.int .i64 (i : Int))) := by rw [ha]; exact putSel_on (e := (1, 168, (.int .i64 (i : Int)))) 1 rfl rfl (hon 1 (by kernel_rfl)) rfl
           have e170 : a.tmps[170]? = some ((.int .i64 ((i : Int) + 1))) := by rw [ha]; exact putSel_on (e := (3, 170, (.int .i64 ((i : Int) + 1)))) 3 rfl rfl (hon 3 (by kernel_rfl)) rfl
           replace ha := Aside0.mk ha
           have HB2 := Aside0.mk Q_HB2
           have G31 := Aside0.mk Q_G31
           have hcut_ := hcut
           refine value_ (w1 := w') (v := (.slice (some P) 1 (c' - i))) (by rfl) rfl ?_ ?_
           ·go_simp
            (try simp only [i64_w])
            try (first | rfl | assumption)
           refine hK.out _ _ ⟨v6, v7, v8, m8_, m9_, m10_, m12_, (by rw [ha.out]; exact putSel_upk 4 hb_ rfl rfl rfl), Q_HB2, Q_G31, Q_G6, Q_G7, fun h0_ => absurd ((hoff 8 (by kernel_rfl)).symm.trans h0_) (by decide), fun h0_ => absurd ((hoff 8 (by kernel_rfl)).symm.trans h0_) (by decide), fun h0_ => absurd ((hoff 9 (by kernel_rfl)).symm.trans h0_) (by decide), fun h0_ => absurd ((hoff 10 (by kernel_rfl)).symm.trans h0_) (by decide), fun h0_ => absurd ((hoff 12 (by kernel_rfl)).symm.trans h0_) (by decide)⟩
          refine steps_cons ?_ ?_
          ·rintro b a w' ⟨v6, v7, v8, m8_, m9_, m10_, m12_, ha, Q_HB2, Q_G31, Q_G6, Q_G7, Q_G8, Q_X8_, Q_X9_, Q_X10_, Q_X12_⟩ hb_ hon hoff
           refine ⟨_, rfl, fun K hK => ?_⟩
           have e17 : a.tmps[17]? = some (m32_) := by rw [ha]; exact (putSel_off rfl).trans rfl
           replace ha := Aside0.mk ha
           have HB2 := Aside0.mk Q_HB2
           have G31 := Aside0.mk Q_G31
           refine value_ (w1 := w') (v := m32_) (by rfl) rfl ?_ ?_
           ·go_simp
            (try simp only [i64_w])
            try (first | rfl | assumption)
           refine hK.out _ _ ⟨v6, v7, v8, m8_, m9_, m10_, m12_, (by rw [ha.out]; exact putSel_upk 5 hb_ rfl rfl rfl), Q_HB2, Q_G31, fun h0_ => absurd ((hoff 6 (by kernel_rfl)).symm.trans h0_) (by decide), fun h0_ => absurd ((hoff 7 (by kernel_rfl)).symm.trans h0_) (by decide), fun h0_ => absurd ((hoff 8 (by kernel_rfl)).symm.trans h0_) (by decide), fun h0_ => absurd ((hoff 8 (by kernel_rfl)).symm.trans h0_) (by decide), fun h0_ => absurd ((hoff 9 (by kernel_rfl)).symm.trans h0_) (by decide), fun h0_ => absurd ((hoff 10 (by kernel_rfl)).symm.trans h0_) (by decide), fun h0_ => absurd ((hoff 12 (by kernel_rfl)).symm.trans h0_) (by decide)⟩
          refine steps_cons ?_ ?_
          ·rintro b a w' ⟨v6, v7, v8, m8_, m9_, m10_, m12_, ha, Q_HB2, Q_G31, Q_G6, Q_G7, Q_G8, Q_X8_, Q_X9_, Q_X10_, Q_X12_⟩ hb_ hon hoff
           refine ⟨_, rfl, fun K hK => ?_⟩
           have e172 : a.tmps[172]? = some (m32_) := by rw [ha]; exact putSel_on (e := (5, 172, m32_)) 5 rfl rfl (hon 5 (by kernel_rfl)) rfl
           replace ha := Aside0.mk ha
           have HB2 := Aside0.mk Q_HB2
           have G31 := Aside0.mk Q_G31
           refine goes_ Try.func21 (by kernel_rfl) rfl #[m32_] (by rfl) rfl rfl (by first | (simp only [List.map_toArray, List.map_cons, List.map_nil, Act.eval, Array.getD_eq_getD_getElem?, Option.getD_some, e172]; done) | (simp only [List.map_toArray, List.map_cons, List.map_nil, Act.eval, Array.getD_eq_getD_getElem?, Option.getD_some, e172]; rfl)) ?_
           refine (norm_v K0 _ (by simp [goneL]) hk1 m32_ _ G31.out).mono ?_
           rintro e w1_ ⟨v6, rfl, hs, hb⟩
           refine ⟨_, rfl, ?_⟩
           refine hK.out _ _ ⟨v6, v7, v8, m8_, m9_, m10_, m12_, (by rw [ha.out]; exact putSel_upk 6 hb_ rfl rfl rfl), below_step HB2.out hb, G31.out.below hb, fun _ => hs, fun h0_ => absurd ((hoff 7 (by kernel_rfl)).symm.trans h0_) (by decide), fun h0_ => absurd ((hoff 8 (by kernel_rfl)).symm.trans h0_) (by decide), fun h0_ => absurd ((hoff 8 (by kernel_rfl)).symm.trans h0_) (by decide), fun h0_ => absurd ((hoff 9 (by kernel_rfl)).symm.trans h0_) (by decide), fun h0_ => absurd ((hoff 10 (by kernel_rfl)).symm.trans h0_) (by decide), fun h0_ => absurd ((hoff 12 (by kernel_rfl)).symm.trans h0_) (by decide)⟩
          refine steps_cons ?_ ?_
          ·rintro b a w' ⟨v6, v7, v8, m8_, m9_, m10_, m12_, ha, Q_HB2, Q_G31, Q_G6, Q_G7, Q_G8, Q_X8_, Q_X9_, Q_X10_, Q_X12_⟩ hb_ hon hoff
           refine ⟨_, rfl, fun K hK => ?_⟩
           have e173 : a.tmps[173]? = some (v6) := by rw [ha]; exact putSel_on (e := (6, 173, v6)) 6 rfl rfl (hon 6 (by kernel_rfl)) rfl
           replace ha := Aside0.mk ha
           have HB2 := Aside0.mk Q_HB2
           have G31 := Aside0.mk Q_G31
           have G6 := Aside0.mk (Q_G6 (hon 6 (by kernel_rfl)))
           obtain ⟨v7, hv7_⟩ : ∃ v7 : Value, v7 = .slice (some ⟨w'.heap.size, 0, none⟩) 1 1 := ⟨_, rfl⟩
           obtain ⟨A6_, c6_, hv6_, hc6_, hC6_⟩ := G6.out
           obtain ⟨w1_, hw1_⟩ : ∃ w1_, w1_ = w'.alloc (.cells #[v6] 34) := ⟨_, rfl⟩
           have hb : Below w'.heap.size w' w1_ := by rw [hw1_]; exact below_alloc (Below.refl _ _) _
           refine value_ (w1 := w1_) (v := v7) (by rfl) rfl (by rw [hv7_, hw1_, hv6_]; rw [hv6_] at e173; go_simp) ?_
           refine hK.out _ _ ⟨v6, v7, v8, m8_, m9_, m10_, m12_, (by rw [ha.out]; exact putSel_upk 7 hb_ rfl rfl rfl), below_step HB2.out hb, G31.out.below hb, fun _ => G6.out.below hb, fun _ => (by rw [hv7_, hw1_]; exact one_opv G6.out), fun h0_ => absurd ((hoff 8 (by kernel_rfl)).symm.trans h0_) (by decide), fun h0_ => absurd ((hoff 8 (by kernel_rfl)).symm.trans h0_) (by decide), fun h0_ => absurd ((hoff 9 (by kernel_rfl)).symm.trans h0_) (by decide), fun h0_ => absurd ((hoff 10 (by kernel_rfl)).symm.trans h0_) (by decide), fun h0_ => absurd ((hoff 12 (by kernel_rfl)).symm.trans h0_) (by decide)⟩
          refine steps_cons ?_ ?_
          ·rintro b a w' ⟨v6, v7, v8, m8_, m9_, m10_, m12_, ha, Q_HB2, Q_G31, Q_G6, Q_G7, Q_G8, Q_X8_, Q_X9_, Q_X10_, Q_X12_⟩ hb_ hon hoff
           refine ⟨_, rfl, fun K hK => ?_⟩
           have e171 : a.tmps[171]? = some ((.slice (some P) 1 (c' - i))) := by rw [ha]; exact putSel_on (e := (4, 171, (.slice (some P) 1 (c' - i)))) 4 rfl rfl (hon 4 (by kernel_rfl)) rfl
           have e174 : a.tmps[174]? = some (v7) := by rw [ha]; exact putSel_on (e := (7, 174, v7)) 7 rfl rfl (hon 7 (by kernel_rfl)) rfl
           replace ha := Aside0.mk ha
           have HB2 := Aside0.mk Q_HB2
           have G31 := Aside0.mk Q_G31
           have G6 := Aside0.mk (Q_G6 (hon 6 (by kernel_rfl)))
           have G7 := Aside0.mk (Q_G7 (hon 7 (by kernel_rfl)))
           refine goes_ Try.func9 (by kernel_rfl) rfl #[.slice (some P) 1 (c' - i), v7] (by rfl) rfl rfl (by first | (simp only [List.map_toArray, List.map_cons, List.map_nil, Act.eval, Array.getD_eq_getD_getElem?, Option.getD_some, e171, e174]; done) | (simp only [List.map_toArray, List.map_cons, List.map_nil, Act.eval, Array.getD_eq_getD_getElem?, Option.getD_some, e171, e174]; rfl)) ?_
           refine (HMOV.out _ HB2.out v7 G7.out).mono ?_
           rintro e w1_ ⟨v8, rfl, hs, hb⟩
           refine ⟨_, rfl, ?_⟩
           refine hK.out _ _ ⟨v6, v7, v8, ((.tuple #[v8, .bool true])), m9_, m10_, m12_, (by rw [ha.out]; exact putSel_upk 8 hb_ rfl rfl rfl), below_step HB2.out hb, G31.out.below hb, fun _ => G6.out.below hb, fun _ => G7.out.below hb, fun _ => hs, fun _ => rfl, fun h0_ => absurd ((hoff 9 (by kernel_rfl)).symm.trans h0_) (by decide), fun h0_ => absurd ((hoff 10 (by kernel_rfl)).symm.trans h0_) (by decide), fun h0_ => absurd ((hoff 12 (by kernel_rfl)).symm.trans h0_) (by decide)⟩
          refine steps_cons ?_ ?_
          ·rintro b a w' ⟨v6, v7, v8, m8_, m9_, m10_, m12_, ha, Q_HB2, Q_G31, Q_G6, Q_G7, Q_G8, Q_X8_, Q_X9_, Q_X10_, Q_X12_⟩ hb_ hon hoff
           refine ⟨_, rfl, fun K hK => ?_⟩
           have e175 : a.tmps[175]? = some (m8_) := by rw [ha]; exact putSel_on (e := (8, 175, m8_)) 8 rfl rfl (hon 8 (by kernel_rfl)) rfl
           rw [Q_X8_ (hon 8 (by kernel_rfl))] at e175
           replace ha := Aside0.mk ha
           have HB2 := Aside0.mk Q_HB2
           have G31 := Aside0.mk Q_G31
           have G6 := Aside0.mk (Q_G6 (hon 6 (by kernel_rfl)))
           have G7 := Aside0.mk (Q_G7 (hon 7 (by kernel_rfl)))
           have G8 := Aside0.mk (Q_G8 (hon 8 (by kernel_rfl)))
           refine value_ (w1 := w') (v := (.tuple #[v8, .bool true])) (by rfl) rfl ?_ ?_
           ·go_simp
            (try simp only [i64_w])
            try (first | rfl | assumption)
           refine hK.out _ _ ⟨v6, v7, v8, m8_, ((.tuple #[v8, .bool true])), m10_, m12_, (by rw [ha.out]; exact putSel_upk 9 hb_ rfl rfl rfl), Q_HB2, Q_G31, Q_G6, Q_G7, Q_G8, Q_X8_, fun _ => rfl, fun h0_ => absurd ((hoff 10 (by kernel_rfl)).symm.trans h0_) (by decide), fun h0_ => absurd ((hoff 12 (by kernel_rfl)).symm.trans h0_) (by decide)⟩
          refine steps_cons ?_ ?_
          ·rintro b a w' ⟨v6, v7, v8, m8_, m9_, m10_, m12_, ha, Q_HB2, Q_G31, Q_G6, Q_G7, Q_G8, Q_X8_, Q_X9_, Q_X10_, Q_X12_⟩ hb_ hon hoff
           refine ⟨_, rfl, fun K hK => ?_⟩
           have e166 : a.tmps[166]? = some (m9_) := by rw [ha]; exact putSel_on (e := (9, 166, m9_)) 9 rfl rfl (hon 9 (by kernel_rfl)) rfl
           rw [Q_X9_ (hon 9 (by kernel_rfl))] at e166
           replace ha := Aside0.mk ha
           have HB2 := Aside0.mk Q_HB2
           have G31 := Aside0.mk Q_G31
           have G6 := Aside0.mk (Q_G6 (hon 6 (by kernel_rfl)))
           have G7 := Aside0.mk (Q_G7 (hon 7 (by kernel_rfl)))
           have G8 := Aside0.mk (Q_G8 (hon 8 (by kernel_rfl)))
           refine value_ (w1 := w') (v := v8) (by rfl) rfl ?_ ?_
           ·go_simp
            (try simp only [i64_w])
            try (first | rfl | assumption)
           refine hK.out _ _ ⟨v6, v7, v8, m8_, m9_, (v8), m12_, (by rw [ha.out]; exact putSel_upk 10 hb_ rfl rfl rfl), Q_HB2, Q_G31, Q_G6, Q_G7, Q_G8, Q_X8_, Q_X9_, fun _ => rfl, fun h0_ => absurd ((hoff 12 (by kernel_rfl)).symm.trans h0_) (by decide)⟩
          refine steps_cons ?_ ?_
          ·rintro b a w' ⟨v6, v7, v8, m8_, m9_, m10_, m12_, ha, Q_HB2, Q_G31, Q_G6, Q_G7, Q_G8, Q_X8_, Q_X9_, Q_X10_, Q_X12_⟩ hb_ hon hoff
           refine ⟨_, rfl, fun K hK => ?_⟩
           have e166 : a.tmps[166]? = some (m9_) := by rw [ha]; exact putSel_on (e := (9, 166, m9_)) 9 rfl rfl (hon 9 (by kernel_rfl)) rfl
           rw [Q_X9_ (hon 9 (by kernel_rfl))] at e166
           replace ha := Aside0.mk ha
           have HB2 := Aside0.mk Q_HB2
           have G31 := Aside0.mk Q_G31
           have G6 := Aside0.mk (Q_G6 (hon 6 (by kernel_rfl)))
           have G7 := Aside0.mk (Q_G7 (hon 7 (by kernel_rfl)))
           have G8 := Aside0.mk (Q_G8 (hon 8 (by kernel_rfl)))
           refine value_ (w1 := w') (v := .bool true) (by rfl) rfl ?_ ?_
           ·go_simp
            (try simp only [i64_w])
            try (first | rfl | assumption)
           refine hK.out _ _ ⟨v6, v7, v8, m8_, m9_, m10_, m12_, (by rw [ha.out]; exact putSel_upk 11 hb_ rfl rfl rfl), Q_HB2, Q_G31, Q_G6, Q_G7, Q_G8, Q_X8_, Q_X9_, Q_X10_, Q_X12_⟩
          refine steps_cons ?_ ?_
          ·rintro b a w' ⟨v6, v7, v8, m8_, m9_, m10_, m12_, ha, Q_HB2, Q_G31, Q_G6, Q_G7, Q_G8, Q_X8_, Q_X9_, Q_X10_, Q_X12_⟩ hb_ hon hoff
           refine ⟨_, rfl, fun K hK => ?_⟩
           have e176 : a.tmps[176]? = some (m10_) := by rw [ha]; exact putSel_on (e := (10, 176, m10_)) 10 rfl rfl (hon 10 (by kernel_rfl)) rfl
           rw [Q_X10_ (hon 10 (by kernel_rfl))] at e176
           replace ha := Aside0.mk ha
           have HB2 := Aside0.mk Q_HB2
           have G31 := Aside0.mk Q_G31
           have G6 := Aside0.mk (Q_G6 (hon 6 (by kernel_rfl)))
           have G7 := Aside0.mk (Q_G7 (hon 7 (by kernel_rfl)))
           have G8 := Aside0.mk (Q_G8 (hon 8 (by kernel_rfl)))
           refine value_ (w1 := w') (v := v8) (by rfl) rfl ?_ ?_
           ·go_simp
            (try simp only [i64_w])
            try (first | rfl | assumption)
           refine hK.out _ _ ⟨v6, v7, v8, m8_, m9_, m10_, (v8), (by rw [ha.out]; exact putSel_upk 12 hb_ rfl rfl rfl), Q_HB2, Q_G31, Q_G6, Q_G7, Q_G8, Q_X8_, Q_X9_, Q_X10_, fun _ => rfl⟩
          refine steps_cons ?_ ?_
          ·rintro b a w' ⟨v6, v7, v8, m8_, m9_, m10_, m12_, ha, Q_HB2, Q_G31, Q_G6, Q_G7, Q_G8, Q_X8_, Q_X9_, Q_X10_, Q_X12_⟩ hb_ hon hoff
           refine ⟨_, rfl, fun K hK => ?_⟩
           have e177 : a.tmps[177]? = some (.bool true) := by rw [ha]; exact putSel_on (e := (11, 177, .bool true)) 11 rfl rfl (hon 11 (by kernel_rfl)) rfl
           replace ha := Aside0.mk ha
           have HB2 := Aside0.mk Q_HB2
           have G31 := Aside0.mk Q_G31
           have G6 := Aside0.mk (Q_G6 (hon 6 (by kernel_rfl)))
           have G7 := Aside0.mk (Q_G7 (hon 7 (by kernel_rfl)))
           have G8 := Aside0.mk (Q_G8 (hon 8 (by kernel_rfl)))
           refine value_ (w1 := w') (v := .bool true) (by rfl) rfl ?_ ?_
           ·go_simp
            (try simp only [i64_w])
            try (first | rfl | assumption)
           refine hK.out _ _ ⟨v6, v7, v8, m8_, m9_, m10_, m12_, (by rw [ha.out]; exact putSel_upk 13 hb_ rfl rfl rfl), Q_HB2, Q_G31, Q_G6, Q_G7, Q_G8, Q_X8_, Q_X9_, Q_X10_, Q_X12_⟩
          exact steps_nil
         rintro b a we hall ⟨v6, v7, v8, m8_, m9_, m10_, m12_, ha, Q_HB2, Q_G31, Q_G6, Q_G7, Q_G8, Q_X8_, Q_X9_, Q_X10_, Q_X12_⟩
         clear G31 HB2
         have hb0_ := hall 0 (by kernel_rfl)
         have hb1_ := hall 1 (by kernel_rfl)
         have hb2_ := hall 2 (by kernel_rfl)
         have hb3_ := hall 3 (by kernel_rfl)
         have hb4_ := hall 4 (by kernel_rfl)
         have hb5_ := hall 5 (by kernel_rfl)
         have hb6_ := hall 6 (by kernel_rfl)
         have hb7_ := hall 7 (by kernel_rfl)
         have hb8_ := hall 8 (by kernel_rfl)
         have hb9_ := hall 9 (by kernel_rfl)
         have hb10_ := hall 10 (by kernel_rfl)
         have hb11_ := hall 11 (by kernel_rfl)
         have hb12_ := hall 12 (by kernel_rfl)
         have hb13_ := hall 13 (by kernel_rfl)
         subst ha
         obtain rfl := Q_X8_ hb8_
         obtain rfl := Q_X9_ hb9_
         obtain rfl := Q_X10_ hb10_
         obtain rfl := Q_X12_ hb12_
         simp only [putSel, hb0_, hb1_, hb2_, hb3_, hb4_, hb5_, hb6_, hb7_, hb8_, hb9_, hb10_, hb11_, hb12_, hb13_, if_true, Act.put, List.setIfInBounds_toArray, List.set_cons_zero, List.set_cons_succ]
         have HB2 := Aside0.mk Q_HB2
         clear Q_HB2
         have G31 := Aside0.mk Q_G31
         clear Q_G31
         have G6 := Aside0.mk (Q_G6 hb6_)
         clear Q_G6
         have G7 := Aside0.mk (Q_G7 hb7_)
         clear Q_G7
         have G8 := Aside0.mk (Q_G8 hb8_)
         clear Q_G8
         clear hall hb0_ hb1_ hb2_ hb3_ hb4_ hb5_ hb6_ hb7_ hb8_ hb9_ hb10_ hb11_ hb12_ hb13_
         clear w1c hcut
         go_wp2_with fail
         obtain ⟨A8, c8, rfl, hc8, hC8⟩ := Nr.forms G8.out
         obtain ⟨Q8, rfl, _⟩ := at_nt hC8 0 (by simp)
         have hc81 : 1 ≤ c8 := by simpa using hc8
         replace G8 := Aside0.mk (show NC we (some Q8) [⟨⟨zf, zf⟩, zc⟩] from hC8)
         clear hC8 hc8
         refine start_ (n := 22) (S := fun w' => True) (ds := []) #[false, false, false, false, false, false, false, false, false, false, false, false, false, false, false, false, false, false, false, false, false, false] (by kernel_rfl) rfl rfl trivial (fun hHeld => ?_); refine with_tabW R25.tab25 R25.bits25 (fun HT_ HW_ => ?_)
         refine inv_at [0, 1, 2, 3, 4, 5, 6, 7, 8, 9, 10, 11, 12, 13, 14, 15, 16, 17, 18, 19, 20, 21] (fun a0_ b a w' => a = putSel a0_ b [(0, 178, (.bool true)), (1, 179, (.bool false)), (2, 180, (.bool false)), (3, 181, (.slice (some Q8) 1 c8)), (4, 182, (.pointer (some Q8))), (5, 183, (.pointer (some Q8))), (6, 184, (.agg #[.int .i64 zf, .int .i64 zf])), (7, 185, (.slice (some adl) l'.length c')), (8, 186, (.int .i64 (i : Int))), (9, 187, (.pointer (some P))), (10, 188, (.pointer (some P))), (11, 189, (.pointer (some P))), (12, 190, (.int .i64 zf)), (13, 191, (.slice (some adl) l'.length c')), (14, 192, (.int .i64 (i : Int))), (15, 193, (.pointer (some P))), (16, 194, (.pointer (some P))), (17, 195, (.pointer (some P))), (18, 196, (.int .i64 zf)), (19, 197, (.agg #[.int .i64 zf, .int .i64 zf])), (20, 198, (.bool false)), (21, 199, (.bool false))] ∧ (Below w2.heap.size w2 w') ∧ (NC w' (some Q8) [⟨⟨zf, zf⟩, zc⟩])) HT_.out HW_.out (by kernel_rfl) (by kernel_rfl) ?_ ?_ ?_
         ·exact ⟨by simp only [putSel, Bool.false_eq_true, if_false], below_drew1 HB2.out, NC.below G8.out (below_drew1 (Below.refl _ _))⟩
         ·skip
          clear G8 HB2
          refine steps_cons ?_ ?_
          ·rintro b a w' ⟨ha, Q_HB2, Q_G8⟩ hb_ hon hoff
           refine ⟨_, rfl, fun K hK => ?_⟩
           have e19 : a.tmps[19]? = some ((.bool true)) := by rw [ha]; exact (putSel_off rfl).trans rfl
           replace ha := Aside0.mk ha
           have HB2 := Aside0.mk Q_HB2
           have G8 := Aside0.mk Q_G8
           refine value_ (w1 := w') (v := (.bool true)) (by rfl) rfl ?_ ?_
           ·go_simp
            (try simp only [i64_w])
            try (first | rfl | assumption)
           refine hK.out _ _ ⟨(by rw [ha.out]; exact putSel_upk 0 hb_ rfl rfl rfl), Q_HB2, Q_G8⟩
          refine steps_cons ?_ ?_
          ·rintro b a w' ⟨ha, Q_HB2, Q_G8⟩ hb_ hon hoff
           refine ⟨_, rfl, fun K hK => ?_⟩
           have e178 : a.tmps[178]? = some ((.bool true)) := by rw [ha]; exact putSel_on (e := (0, 178, (.bool true))) 0 rfl rfl (hon 0 (by kernel_rfl)) rfl
           replace ha := Aside0.mk ha
           have HB2 := Aside0.mk Q_HB2
           have G8 := Aside0.mk Q_G8
           refine value_ (w1 := w') (v := (.bool false)) (by rfl) rfl ?_ ?_
           ·go_simp
            (try simp only [i64_w])
            try (first | rfl | assumption)
           refine hK.out _ _ ⟨(by rw [ha.out]; exact putSel_upk 1 hb_ rfl rfl rfl), Q_HB2, Q_G8⟩
          refine steps_cons ?_ ?_
          ·rintro b a w' ⟨ha, Q_HB2, Q_G8⟩ hb_ hon hoff
           refine ⟨_, rfl, fun K hK => ?_⟩
           have e179 : a.tmps[179]? = some ((.bool false)) := by rw [ha]; exact putSel_on (e := (1, 179, (.bool false))) 1 rfl rfl (hon 1 (by kernel_rfl)) rfl
           replace ha := Aside0.mk ha
           have HB2 := Aside0.mk Q_HB2
           have G8 := Aside0.mk Q_G8
           refine value_ (w1 := w') (v := (.bool false)) (by rfl) rfl ?_ ?_
           ·go_simp
            (try simp only [i64_w])
            try (first | rfl | assumption)
           refine hK.out _ _ ⟨(by rw [ha.out]; exact putSel_upk 2 hb_ rfl rfl rfl), Q_HB2, Q_G8⟩
          refine steps_cons ?_ ?_
          ·rintro b a w' ⟨ha, Q_HB2, Q_G8⟩ hb_ hon hoff
           refine ⟨_, rfl, fun K hK => ?_⟩
           have e18 : a.tmps[18]? = some ((.slice (some Q8) 1 c8)) := by rw [ha]; exact (putSel_off rfl).trans rfl
           have e180 : a.tmps[180]? = some ((.bool false)) := by rw [ha]; exact putSel_on (e := (2, 180, (.bool false))) 2 rfl rfl (hon 2 (by kernel_rfl)) rfl
           replace ha := Aside0.mk ha
           have HB2 := Aside0.mk Q_HB2
           have G8 := Aside0.mk Q_G8
           refine value_ (w1 := w') (v := (.slice (some Q8) 1 c8)) (wanted_on rfl rfl rfl (e180.trans (by first | rfl | (simp [*]; done)))) rfl ?_ ?_
           ·go_simp
            (try simp only [i64_w])
            try (first | rfl | assumption)
           refine hK.out _ _ ⟨(by rw [ha.out]; exact putSel_upk 3 hb_ rfl rfl rfl), Q_HB2, Q_G8⟩
          refine steps_cons ?_ ?_
          ·rintro b a w' ⟨ha, Q_HB2, Q_G8⟩ hb_ hon hoff
           refine ⟨_, rfl, fun K hK => ?_⟩
           have e181 : a.tmps[181]? = some ((.slice (some Q8) 1 c8)) := by rw [ha]; exact putSel_on (e := (3, 181, (.slice (some Q8) 1 c8))) 3 rfl rfl (hon 3 (by kernel_rfl)) rfl
           have e180 : a.tmps[180]? = some ((.bool false)) := by rw [ha]; exact putSel_on (e := (2, 180, (.bool false))) 2 rfl rfl (hon 2 (by kernel_rfl)) rfl
           replace ha := Aside0.mk ha
           have HB2 := Aside0.mk Q_HB2
           have G8 := Aside0.mk Q_G8
           refine value_ (w1 := w') (v := (.pointer (some Q8))) (wanted_on rfl rfl rfl (e180.trans (by first | rfl | (simp [*]; done)))) rfl ?_ ?_
           ·go_simp
            (try simp only [i64_w])
            try (first | rfl | assumption)
           refine hK.out _ _ ⟨(by rw [ha.out]; exact putSel_upk 4 hb_ rfl rfl rfl), Q_HB2, Q_G8⟩
          refine steps_cons ?_ ?_
          ·rintro b a w' ⟨ha, Q_HB2, Q_G8⟩ hb_ hon hoff
           refine ⟨_, rfl, fun K hK => ?_⟩
           have e182 : a.tmps[182]? = some ((.pointer (some Q8))) := by rw [ha]; exact putSel_on (e := (4, 182, (.pointer (some Q8)))) 4 rfl rfl (hon 4 (by kernel_rfl)) rfl
           have e180 : a.tmps[180]? = some ((.bool false)) := by rw [ha]; exact putSel_on (e := (2, 180, (.bool false))) 2 rfl rfl (hon 2 (by kernel_rfl)) rfl
           replace ha := Aside0.mk ha
           have HB2 := Aside0.mk Q_HB2
           have G8 := Aside0.mk Q_G8
           refine value_ (w1 := w') (v := (.pointer (some Q8))) (wanted_on rfl rfl rfl (e180.trans (by first | rfl | (simp [*]; done)))) rfl ?_ ?_
           ·go_simp
            (try simp only [i64_w])
            try (first | rfl | assumption)
           refine hK.out _ _ ⟨(by rw [ha.out]; exact putSel_upk 5 hb_ rfl rfl rfl), Q_HB2, Q_G8⟩
          refine steps_cons ?_ ?_
          ·rintro b a w' ⟨ha, Q_HB2, Q_G8⟩ hb_ hon hoff
           refine ⟨_, rfl, fun K hK => ?_⟩
           have e183 : a.tmps[183]? = some ((.pointer (some Q8))) := by rw [ha]; exact putSel_on (e := (5, 183, (.pointer (some Q8)))) 5 rfl rfl (hon 5 (by kernel_rfl)) rfl
           have e180 : a.tmps[180]? = some ((.bool false)) := by rw [ha]; exact putSel_on (e := (2, 180, (.bool false))) 2 rfl rfl (hon 2 (by kernel_rfl)) rfl
           replace ha := Aside0.mk ha
           have HB2 := Aside0.mk Q_HB2
           have G8 := Aside0.mk Q_G8
           obtain ⟨x0_, x1_⟩ := note0 G8.out
           refine value_ (w1 := w') (v := (.agg #[.int .i64 zf, .int .i64 zf])) (wanted_on rfl rfl rfl (e180.trans (by first | rfl | (simp [*]; done)))) rfl ?_ ?_
           ·go_simp
            (try simp only [i64_w])
            try (first | rfl | assumption)
           refine hK.out _ _ ⟨(by rw [ha.out]; exact putSel_upk 6 hb_ rfl rfl rfl), Q_HB2, Q_G8⟩
          refine steps_cons ?_ ?_
          ·rintro b a w' ⟨ha, Q_HB2, Q_G8⟩ hb_ hon hoff
           refine ⟨_, rfl, fun K hK => ?_⟩
           have e1 : a.tmps[1]? = some ((.slice (some adl) l'.length c')) := by rw [ha]; exact (putSel_off rfl).trans rfl
           have e180 : a.tmps[180]? = some ((.bool false)) := by rw [ha]; exact putSel_on (e := (2, 180, (.bool false))) 2 rfl rfl (hon 2 (by kernel_rfl)) rfl
           replace ha := Aside0.mk ha
           have HB2 := Aside0.mk Q_HB2
           have G8 := Aside0.mk Q_G8
           refine value_ (w1 := w') (v := (.slice (some adl) l'.length c')) (wanted_on rfl rfl rfl (e180.trans (by first | rfl | (simp [*]; done)))) rfl ?_ ?_
           ·go_simp
            (try simp only [i64_w])
            try (first | rfl | assumption)
           refine hK.out _ _ ⟨(by rw [ha.out]; exact putSel_upk 7 hb_ rfl rfl rfl), Q_HB2, Q_G8⟩
          refine steps_cons ?_ ?_
          ·rintro b a w' ⟨ha, Q_HB2, Q_G8⟩ hb_ hon hoff
           refine ⟨_, rfl, fun K hK => ?_⟩
           have e15 : a.tmps[15]? = some ((.int .i64 (i : Int))) := by rw [ha]; exact (putSel_off rfl).trans rfl
           have e180 : a.tmps[180]? = some ((.bool false)) := by rw [ha]; exact putSel_on (e := (2, 180, (.bool false))) 2 rfl rfl (hon 2 (by kernel_rfl)) rfl
           replace ha := Aside0.mk ha
           have HB2 := Aside0.mk Q_HB2
           have G8 := Aside0.mk Q_G8
           refine value_ (w1 := w') (v := (.int .i64 (i : Int))) (wanted_on rfl rfl rfl (e180.trans (by first | rfl | (simp [*]; done)))) rfl ?_ ?_
           ·go_simp
            (try simp only [i64_w])
            try (first | rfl | assumption)
           refine hK.out _ _ ⟨(by rw [ha.out]; exact putSel_upk 8 hb_ rfl rfl rfl), Q_HB2, Q_G8⟩
          refine steps_cons ?_ ?_
          ·rintro b a w' ⟨ha, Q_HB2, Q_G8⟩ hb_ hon hoff
           refine ⟨_, rfl, fun K hK => ?_⟩
           have e185 : a.tmps[185]? = some ((.slice (some adl) l'.length c')) := by rw [ha]; exact putSel_on (e := (7, 185, (.slice (some adl) l'.length c'))) 7 rfl rfl (hon 7 (by kernel_rfl)) rfl
           have e186 : a.tmps[186]? = some ((.int .i64 (i : Int))) := by rw [ha]; exact putSel_on (e := (8, 186, (.int .i64 (i : Int)))) 8 rfl rfl (hon 8 (by kernel_rfl)) rfl
           have e180 : a.tmps[180]? = some ((.bool false)) := by rw [ha]; exact putSel_on (e := (2, 180, (.bool false))) 2 rfl rfl (hon 2 (by kernel_rfl)) rfl
           replace ha := Aside0.mk ha
           have HB2 := Aside0.mk Q_HB2
           have G8 := Aside0.mk Q_G8
           refine value_ (w1 := w') (v := (.pointer (some P))) (wanted_on rfl rfl rfl (e180.trans (by first | rfl | (simp [*]; done)))) rfl ?_ ?_
           ·go_simp
            (try simp only [i64_w])
            try (first | rfl | assumption)
           refine hK.out _ _ ⟨(by rw [ha.out]; exact putSel_upk 9 hb_ rfl rfl rfl), Q_HB2, Q_G8⟩
          refine steps_cons ?_ ?_
          ·rintro b a w' ⟨ha, Q_HB2, Q_G8⟩ hb_ hon hoff
           refine ⟨_, rfl, fun K hK => ?_⟩
           have e187 : a.tmps[187]? = some ((.pointer (some P))) := by rw [ha]; exact putSel_on (e := (9, 187, (.pointer (some P)))) 9 rfl rfl (hon 9 (by kernel_rfl)) rfl
           have e180 : a.tmps[180]? = some ((.bool false)) := by rw [ha]; exact putSel_on (e := (2, 180, (.bool false))) 2 rfl rfl (hon 2 (by kernel_rfl)) rfl
           replace ha := Aside0.mk ha
           have HB2 := Aside0.mk Q_HB2
           have G8 := Aside0.mk Q_G8
           refine value_ (w1 := w') (v := (.pointer (some P))) (wanted_on rfl rfl rfl (e180.trans (by first | rfl | (simp [*]; done)))) rfl ?_ ?_
           ·go_simp
            (try simp only [i64_w])
            try (first | rfl | assumption)
           refine hK.out _ _ ⟨(by rw [ha.out]; exact putSel_upk 10 hb_ rfl rfl rfl), Q_HB2, Q_G8⟩
          refine steps_cons ?_ ?_
          ·rintro b a w' ⟨ha, Q_HB2, Q_G8⟩ hb_ hon hoff
           refine ⟨_, rfl, fun K hK => ?_⟩
           have e188 : a.tmps[188]? = some ((.pointer (some P))) := by rw [ha]; exact putSel_on (e := (10, 188, (.pointer (some P)))) 10 rfl rfl (hon 10 (by kernel_rfl)) rfl
           have e180 : a.tmps[180]? = some ((.bool false)) := by rw [ha]; exact putSel_on (e := (2, 180, (.bool false))) 2 rfl rfl (hon 2 (by kernel_rfl)) rfl
           replace ha := Aside0.mk ha
           have HB2 := Aside0.mk Q_HB2
           have G8 := Aside0.mk Q_G8
           refine value_ (w1 := w') (v := (.pointer (some P))) (wanted_on rfl rfl rfl (e180.trans (by first | rfl | (simp [*]; done)))) rfl ?_ ?_
           ·go_simp
            (try simp only [i64_w])
            try (first | rfl | assumption)
           refine hK.out _ _ ⟨(by rw [ha.out]; exact putSel_upk 11 hb_ rfl rfl rfl), Q_HB2, Q_G8⟩
          refine steps_cons ?_ ?_
          ·rintro b a w' ⟨ha, Q_HB2, Q_G8⟩ hb_ hon hoff
           refine ⟨_, rfl, fun K hK => ?_⟩
           have e189 : a.tmps[189]? = some ((.pointer (some P))) := by rw [ha]; exact putSel_on (e := (11, 189, (.pointer (some P)))) 11 rfl rfl (hon 11 (by kernel_rfl)) rfl
           have e180 : a.tmps[180]? = some ((.bool false)) := by rw [ha]; exact putSel_on (e := (2, 180, (.bool false))) 2 rfl rfl (hon 2 (by kernel_rfl)) rfl
           replace ha := Aside0.mk ha
           have HB2 := Aside0.mk Q_HB2
           have G8 := Aside0.mk Q_G8
           obtain ⟨x0_, x1_, x2_⟩ := HPR.out _ HB2.out
           refine value_ (w1 := w') (v := (.int .i64 zf)) (wanted_on rfl rfl rfl (e180.trans (by first | rfl | (simp [*]; done)))) rfl ?_ ?_
           ·go_simp
            (try simp only [i64_w])
            try (first | rfl | assumption)
           refine hK.out _ _ ⟨(by rw [ha.out]; exact putSel_upk 12 hb_ rfl rfl rfl), Q_HB2, Q_G8⟩
          refine steps_cons ?_ ?_
          ·rintro b a w' ⟨ha, Q_HB2, Q_G8⟩ hb_ hon hoff
           refine ⟨_, rfl, fun K hK => ?_⟩
           have e1 : a.tmps[1]? = some ((.slice (some adl) l'.length c')) := by rw [ha]; exact (putSel_off rfl).trans rfl
           have e180 : a.tmps[180]? = some ((.bool false)) := by rw [ha]; exact putSel_on (e := (2, 180, (.bool false))) 2 rfl rfl (hon 2 (by kernel_rfl)) rfl
           replace ha := Aside0.mk ha
           have HB2 := Aside0.mk Q_HB2
           have G8 := Aside0.mk Q_G8
           refine value_ (w1 := w') (v := (.slice (some adl) l'.length c')) (wanted_on rfl rfl rfl (e180.trans (by first | rfl | (simp [*]; done)))) rfl ?_ ?_
           ·go_simp
            (try simp only [i64_w])
            try (first | rfl | assumption)
           refine hK.out _ _ ⟨(by rw [ha.out]; exact putSel_upk 13 hb_ rfl rfl rfl), Q_HB2, Q_G8⟩
          refine steps_cons ?_ ?_
          ·rintro b a w' ⟨ha, Q_HB2, Q_G8⟩ hb_ hon hoff
           refine ⟨_, rfl, fun K hK => ?_⟩
           have e15 : a.tmps[15]? = some ((.int .i64 (i : Int))) := by rw [ha]; exact (putSel_off rfl).trans rfl
           have e180 : a.tmps[180]? = some ((.bool false)) := by rw [ha]; exact putSel_on (e := (2, 180, (.bool false))) 2 rfl rfl (hon 2 (by kernel_rfl)) rfl
           replace ha := Aside0.mk ha
           have HB2 := Aside0.mk Q_HB2
           have G8 := Aside0.mk Q_G8
           refine value_ (w1 := w') (v := (.int .i64 (i : Int))) (wanted_on rfl rfl rfl (e180.trans (by first | rfl | (simp [*]; done)))) rfl ?_ ?_
           ·go_simp
            (try simp only [i64_w])
            try (first | rfl | assumption)
           refine hK.out _ _ ⟨(by rw [ha.out]; exact putSel_upk 14 hb_ rfl rfl rfl), Q_HB2, Q_G8⟩
          refine steps_cons ?_ ?_
          ·rintro b a w' ⟨ha, Q_HB2, Q_G8⟩ hb_ hon hoff
           refine ⟨_, rfl, fun K hK => ?_⟩
           have e191 : a.tmps[191]? = some ((.slice (some adl) l'.length c')) := by rw [ha]; exact putSel_on (e := (13, 191, (.slice (some adl) l'.length c'))) 13 rfl rfl (hon 13 (by kernel_rfl)) rfl
           have e192 : a.tmps[192]? = some ((.int .i64 (i : Int))) := by rw [ha]; exact putSel_on (e := (14, 192, (.int .i64 (i : Int)))) 14 rfl rfl (hon 14 (by kernel_rfl)) rfl
           have e180 : a.tmps[180]? = some ((.bool false)) := by rw [ha]; exact putSel_on (e := (2, 180, (.bool false))) 2 rfl rfl (hon 2 (by kernel_rfl)) rfl
           replace ha := Aside0.mk ha
           have HB2 := Aside0.mk Q_HB2
           have G8 := Aside0.mk Q_G8
           refine value_ (w1 := w') (v := (.pointer (some P))) (wanted_on rfl rfl rfl (e180.trans (by first | rfl | (simp [*]; done)))) rfl ?_ ?_
           ·go_simp
            (try simp only [i64_w])
            try (first | rfl | assumption)
           refine hK.out _ _ ⟨(by rw [ha.out]; exact putSel_upk 15 hb_ rfl rfl rfl), Q_HB2, Q_G8⟩
          refine steps_cons ?_ ?_
          ·rintro b a w' ⟨ha, Q_HB2, Q_G8⟩ hb_ hon hoff
           refine ⟨_, rfl, fun K hK => ?_⟩
           have e193 : a.tmps[193]? = some ((.pointer (some P))) := by rw [ha]; exact putSel_on (e := (15, 193, (.pointer (some P)))) 15 rfl rfl (hon 15 (by kernel_rfl)) rfl
           have e180 : a.tmps[180]? = some ((.bool false)) := by rw [ha]; exact putSel_on (e := (2, 180, (.bool false))) 2 rfl rfl (hon 2 (by kernel_rfl)) rfl
           replace ha := Aside0.mk ha
           have HB2 := Aside0.mk Q_HB2
           have G8 := Aside0.mk Q_G8
           refine value_ (w1 := w') (v := (.pointer (some P))) (wanted_on rfl rfl rfl (e180.trans (by first | rfl | (simp [*]; done)))) rfl ?_ ?_
           ·go_simp
            (try simp only [i64_w])
            try (first | rfl | assumption)
           refine hK.out _ _ ⟨(by rw [ha.out]; exact putSel_upk 16 hb_ rfl rfl rfl), Q_HB2, Q_G8⟩
          refine steps_cons ?_ ?_
          ·rintro b a w' ⟨ha, Q_HB2, Q_G8⟩ hb_ hon hoff
           refine ⟨_, rfl, fun K hK => ?_⟩
           have e194 : a.tmps[194]? = some ((.pointer (some P))) := by rw [ha]; exact putSel_on (e := (16, 194, (.pointer (some P)))) 16 rfl rfl (hon 16 (by kernel_rfl)) rfl
           have e180 : a.tmps[180]? = some ((.bool false)) := by rw [ha]; exact putSel_on (e := (2, 180, (.bool false))) 2 rfl rfl (hon 2 (by kernel_rfl)) rfl
           replace ha := Aside0.mk ha
           have HB2 := Aside0.mk Q_HB2
           have G8 := Aside0.mk Q_G8
           refine value_ (w1 := w') (v := (.pointer (some P))) (wanted_on rfl rfl rfl (e180.trans (by first | rfl | (simp [*]; done)))) rfl ?_ ?_
           ·go_simp
            (try simp only [i64_w])
            try (first | rfl | assumption)
           refine hK.out _ _ ⟨(by rw [ha.out]; exact putSel_upk 17 hb_ rfl rfl rfl), Q_HB2, Q_G8⟩
          refine steps_cons ?_ ?_
          ·rintro b a w' ⟨ha, Q_HB2, Q_G8⟩ hb_ hon hoff
           refine ⟨_, rfl, fun K hK => ?_⟩
           have e195 : a.tmps[195]? = some ((.pointer (some P))) := by rw [ha]; exact putSel_on (e := (17, 195, (.pointer (some P)))) 17 rfl rfl (hon 17 (by kernel_rfl)) rfl
           have e180 : a.tmps[180]? = some ((.bool false)) := by rw [ha]; exact putSel_on (e := (2, 180, (.bool false))) 2 rfl rfl (hon 2 (by kernel_rfl)) rfl
           replace ha := Aside0.mk ha
           have HB2 := Aside0.mk Q_HB2
           have G8 := Aside0.mk Q_G8
           obtain ⟨x0_, x1_, x2_⟩ := HPR.out _ HB2.out
           refine value_ (w1 := w') (v := (.int .i64 zf)) (wanted_on rfl rfl rfl (e180.trans (by first | rfl | (simp [*]; done)))) rfl ?_ ?_
           ·go_simp
            (try simp only [i64_w])
            try (first | rfl | assumption)
           refine hK.out _ _ ⟨(by rw [ha.out]; exact putSel_upk 18 hb_ rfl rfl rfl), Q_HB2, Q_G8⟩
          refine steps_cons ?_ ?_
          ·rintro b a w' ⟨ha, Q_HB2, Q_G8⟩ hb_ hon hoff
           refine ⟨_, rfl, fun K hK => ?_⟩
           have e190 : a.tmps[190]? = some ((.int .i64 zf)) := by rw [ha]; exact putSel_on (e := (12, 190, (.int .i64 zf))) 12 rfl rfl (hon 12 (by kernel_rfl)) rfl
           have e196 : a.tmps[196]? = some ((.int .i64 zf)) := by rw [ha]; exact putSel_on (e := (18, 196, (.int .i64 zf))) 18 rfl rfl (hon 18 (by kernel_rfl)) rfl
           have e180 : a.tmps[180]? = some ((.bool false)) := by rw [ha]; exact putSel_on (e := (2, 180, (.bool false))) 2 rfl rfl (hon 2 (by kernel_rfl)) rfl
           replace ha := Aside0.mk ha
           have HB2 := Aside0.mk Q_HB2
           have G8 := Aside0.mk Q_G8
           refine value_ (w1 := w') (v := (.agg #[.int .i64 zf, .int .i64 zf])) (wanted_on rfl rfl rfl (e180.trans (by first | rfl | (simp [*]; done)))) rfl ?_ ?_
           ·go_simp
            (try simp only [i64_w])
            try (first | rfl | assumption)
           refine hK.out _ _ ⟨(by rw [ha.out]; exact putSel_upk 19 hb_ rfl rfl rfl), Q_HB2, Q_G8⟩
          refine steps_cons ?_ ?_
          ·rintro b a w' ⟨ha, Q_HB2, Q_G8⟩ hb_ hon hoff
           refine ⟨_, rfl, fun K hK => ?_⟩
           have e184 : a.tmps[184]? = some ((.agg #[.int .i64 zf, .int .i64 zf])) := by rw [ha]; exact putSel_on (e := (6, 184, (.agg #[.int .i64 zf, .int .i64 zf]))) 6 rfl rfl (hon 6 (by kernel_rfl)) rfl
           have e197 : a.tmps[197]? = some ((.agg #[.int .i64 zf, .int .i64 zf])) := by rw [ha]; exact putSel_on (e := (19, 197, (.agg #[.int .i64 zf, .int .i64 zf]))) 19 rfl rfl (hon 19 (by kernel_rfl)) rfl
           have e180 : a.tmps[180]? = some ((.bool false)) := by rw [ha]; exact putSel_on (e := (2, 180, (.bool false))) 2 rfl rfl (hon 2 (by kernel_rfl)) rfl
           replace ha := Aside0.mk ha
           have HB2 := Aside0.mk Q_HB2
           have G8 := Aside0.mk Q_G8
           refine value_ (w1 := w') (v := (.bool false)) (wanted_on rfl rfl rfl (e180.trans (by first | rfl | (simp [*]; done)))) rfl ?_ ?_
           ·go_simp
            (try simp only [i64_w])
            try (first | rfl | assumption)
           refine hK.out _ _ ⟨(by rw [ha.out]; exact putSel_upk 20 hb_ rfl rfl rfl), Q_HB2, Q_G8⟩
          refine steps_cons ?_ ?_
          ·rintro b a w' ⟨ha, Q_HB2, Q_G8⟩ hb_ hon hoff
           refine ⟨_, rfl, fun K hK => ?_⟩
           have e180 : a.tmps[180]? = some ((.bool false)) := by rw [ha]; exact putSel_on (e := (2, 180, (.bool false))) 2 rfl rfl (hon 2 (by kernel_rfl)) rfl
           have e198 : a.tmps[198]? = some ((.bool false)) := by rw [ha]; exact putSel_on (e := (20, 198, (.bool false))) 20 rfl rfl (hon 20 (by kernel_rfl)) rfl
           replace ha := Aside0.mk ha
           have HB2 := Aside0.mk Q_HB2
           have G8 := Aside0.mk Q_G8
           refine value_ (w1 := w') (v := (.bool false)) (by rfl) rfl ?_ ?_
           ·go_simp
            (try simp only [i64_w])
            try (first | rfl | assumption)
           refine hK.out _ _ ⟨(by rw [ha.out]; exact putSel_upk 21 hb_ rfl rfl rfl), Q_HB2, Q_G8⟩
          exact steps_nil
         rintro b a we hall ⟨ha, Q_HB2, Q_G8⟩
         clear G8 HB2
         have hb0_ := hall 0 (by kernel_rfl)
         have hb1_ := hall 1 (by kernel_rfl)
         have hb2_ := hall 2 (by kernel_rfl)
         have hb3_ := hall 3 (by kernel_rfl)
         have hb4_ := hall 4 (by kernel_rfl)
         have hb5_ := hall 5 (by kernel_rfl)
         have hb6_ := hall 6 (by kernel_rfl)
         have hb7_ := hall 7 (by kernel_rfl)
         have hb8_ := hall 8 (by kernel_rfl)
         have hb9_ := hall 9 (by kernel_rfl)
         have hb10_ := hall 10 (by kernel_rfl)
         have hb11_ := hall 11 (by kernel_rfl)
         have hb12_ := hall 12 (by kernel_rfl)
         have hb13_ := hall 13 (by kernel_rfl)
         have hb14_ := hall 14 (by kernel_rfl)
         have hb15_ := hall 15 (by kernel_rfl)
         have hb16_ := hall 16 (by kernel_rfl)
         have hb17_ := hall 17 (by kernel_rfl)
         have hb18_ := hall 18 (by kernel_rfl)
         have hb19_ := hall 19 (by kernel_rfl)
         have hb20_ := hall 20 (by kernel_rfl)
         have hb21_ := hall 21 (by kernel_rfl)
         subst ha
         simp only [putSel, hb0_, hb1_, hb2_, hb3_, hb4_, hb5_, hb6_, hb7_, hb8_, hb9_, hb10_, hb11_, hb12_, hb13_, hb14_, hb15_, hb16_, hb17_, hb18_, hb19_, hb20_, hb21_, if_true, Act.put, List.setIfInBounds_toArray, List.set_cons_zero, List.set_cons_succ]
         have HB2 := Aside0.mk Q_HB2
         clear Q_HB2
         have G8 := Aside0.mk Q_G8
         clear Q_G8
         clear hall hb0_ hb1_ hb2_ hb3_ hb4_ hb5_ hb6_ hb7_ hb8_ hb9_ hb10_ hb11_ hb12_ hb13_ hb14_ hb15_ hb16_ hb17_ hb18_ hb19_ hb20_ hb21_
         go_wp2_with fail
         go_roundw
         case rel => exact ⟨i + 1, HLT2.out, by go_num, below_step HB5.out HB2.out⟩
         case measure => simp [intOf]; have := HLT2.out; omega
        ·obtain rfl : i = l'.length := by omega
         have hlti : ¬ ((l'.length : Int) < (l'.length : Int)) := by omega
         have HWN := Aside0.mk (show Ww l.length w t' m Am cm wr from ⟨HML.out.trans HWLN.out, HTS.out, HM2.out, HCE.out, NC.below HCM.out HBI.out, below_step HLO5.out HBI.out⟩)
         go_wp2_with fail
         go_roundw
         case rel => exact ⟨j + 1, t', m, Am, cm, by omega, rfl, by rw [HML.out], by go_num, HWN.out⟩
         case measure => simp [intOf]; omega
     ·obtain rfl : j = ops.length := by omega
      have hltj : ¬ ((ops.length : Int) < (ops.length : Int)) := by omega
      go_wp2_with fail
      refine (lives_c _).mono ?_
      rintro e w3 ⟨rfl, hb⟩
      have HB3 := Aside0.mk (below_step HW.out.lo hb)
      clear hb
      go_wp2_with fail
      go_ret
      exact ⟨rfl, HB3.out⟩
end Go.Proofs.Ytjbnffadfohofaa.CarryWithinL
end
-- MERGED YtjbnffadfohofaaCarryWithinR
section
namespace Go.Proofs.Ytjbnffadfohofaa.CarryWithinR
open Go.RowKit Go.Proofs.Ytjbnffadfohofaa.P Go.Proofs.YtjbnffadfohofaaW.PrintWords Go.Proofs.YtjbnffadfohofaaW.PrintLast Go.Proofs.YtjbnffadfohofaaW.PrintMore Go.Proofs.Ytjbnffadfohofaa.NoteN Go.Proofs.Ytjbnffadfohofaa.CarryN Go.Proofs.Ytjbnffadfohofaa.CarryM
theorem row (a : ByteArray) (A : Option Addr) (c : Nat) (x : List ((Int × Int) × Int)) (A1 : Option Addr) (c1 : Nat) (x1 : List (List (Int × ByteArray × Int))) (w : World) (_ : a.size ≤ 140737488351232) (h : Kd.C (Kd.pair (Kd.pair (Kd.int .i64) (Kd.int .i64)) (Kd.int .i64)) w A x.length x) (hc : x.length ≤ c)
  (_ : x.length ≤ maxLen ∧ ∀ y ∈ x, (fun x : (Int × Int) × Int => (fun x : Int × Int => (Lit.int .i64 x.1).wf = true ∧ (Lit.int .i64 x.2).wf = true) x.1 ∧ (Lit.int .i64 x.2).wf = true) y)
  (h2 : Kd.C (Kd.slice 49 (Kd.pair (Kd.int .i64) (Kd.pair Kd.string (Kd.int .i64)))) w A1 x1.length x1) (hc1 : x1.length ≤ c1)
  (_ : x1.length ≤ maxLen ∧ ∀ y ∈ x1, (fun l : List (Int × ByteArray × Int) => l.length ≤ maxLen ∧ ∀ x ∈ l, (fun x : Int × ByteArray × Int => (Lit.int .i64 x.1).wf = true ∧ x.2.1.size ≤ maxLen ∧ (Lit.int .i64 x.2.2).wf = true) x) y) :
  Calls Try.prog 5 #[.string a, .slice A x.length c, .slice A1 x1.length c1] w fun e w' => e = .returned (.bool true) ∧ Below w.heap.size w w' := by
 have hC : NC w A (x.map mkN) := by
  have := Maps1.C_map (d := Kd.pair (Kd.pair (Kd.int .i64) (Kd.int .i64)) (Kd.int .i64)) (d' := k44) rfl mkN (fun x cs hx => hx) h
  rw [NC, List.length_map]; exact this
 have hC2 : Kd.C (Kd.slice 49 k49) w A1 x1.length (x1.map (fun l => l.map LightF.mk)) := Maps1.C_map (d := Kd.slice 49 (Kd.pair (Kd.int .i64) (Kd.pair Kd.string (Kd.int .i64)))) (d' := Kd.slice 49 k49) rfl _ (fun x cs hx => Maps1.K_slice_map (d := Kd.pair (Kd.int .i64) (Kd.pair Kd.string (Kd.int .i64))) (d' := k49) rfl LightF.mk (fun x cs hx => hx) x cs hx) h2
 have := CarryWithinL.within_c a A c (x.map mkN) A1 c1 (x1.map (fun l => l.map LightF.mk)) w hC (by rw [List.length_map]; exact hc) (by rw [List.length_map]; exact hC2) (by rw [List.length_map]; exact hc1)
 rw [List.length_map, List.length_map] at this
 exact this
end Go.Proofs.Ytjbnffadfohofaa.CarryWithinR
end
-- MERGED YtjbnffadfohofaaOpens
section
namespace Go.Proofs.Ytjbnffadfohofaa.Opens
open Go.ChangeShapes Go.WideShapes Go.Deep Go.RowKit Go.Proofs.YtjbnffadfohofaaW.PrintWords
def Opens {α : Type} (P : Program) (t : TypeId) (d : Kd α) (ok : α → Prop) : Prop :=
 P.cellsOf t = d.sz ∧ ∀ (H : Type) (enc : TypeId × Value → H) (w : World) (base : Nat) (sp : Nat → Bool) (held : Bool) (fuel : Nat) (cs : List Value) (x : DataW H × List MemPlace),
  DataW.trod enc P w base sp held fuel t cs = some x → ∃ a : α, d.K w a cs ∧ ok a
theorem list_of {α : Type} (Q : Nat → α → Prop) : ∀ len : Nat, (∀ i, i < len → ∃ x, Q i x) → ∃ l : List α, l.length = len ∧ ∀ i x, l[i]? = some x → Q i x
 | 0, _ => ⟨[], rfl, fun i x hx => by simp at hx⟩
 | k + 1, each => by
  obtain ⟨l, hl, hf⟩ := list_of Q k (fun i hi => each i (by omega))
  obtain ⟨x, h1⟩ := each k (by omega)
  refine ⟨l ++ [x], by simp [hl], fun i y hy => ?_⟩
  by_cases hik : i < l.length
  ·rw [List.getElem?_append_left hik] at hy
   exact hf i y hy
  ·rw [List.getElem?_append_right (by omega)] at hy
   have hi0 : i - l.length = 0 := by
    rcases Nat.eq_zero_or_pos (i - l.length) with h | h
    ·exact h
    ·rw [List.getElem?_eq_none (by simp; omega)] at hy; cases hy
   rw [hi0] at hy
   obtain rfl : x = y := by simpa using hy
   obtain rfl : i = k := by omega
   exact h1
section
variable {P : Program} {t e : TypeId} {α β γ δ : Type}
theorem int_ {k : IntKind} (ht : P.underlying t = some (.int k)) (hc : P.cellsOf t = 1) : Opens P t (Kd.int k) (fun n => (Lit.int k n).wf = true) :=
 ⟨hc, fun _ _ _ _ _ _ _ _ _ h => by
  obtain ⟨n, rfl, _, hw⟩ := DataW.trod_int ht h
  exact ⟨n, rfl, hw⟩⟩
theorem string_ (ht : P.underlying t = some .string) (hc : P.cellsOf t = 1) : Opens P t Kd.string (fun s => s.size ≤ maxLen) :=
 ⟨hc, fun _ _ _ _ _ _ _ _ _ h => by
  obtain ⟨n, rfl, _, hw⟩ := DataW.trod_string ht h
  exact ⟨n, rfl, hw⟩⟩
theorem slice_ {d : Kd α} {ok : α → Prop} (ht : P.underlying t = some (.slice e)) (hc : P.cellsOf t = 1) (he : Opens P e d ok) : Opens P t (Kd.slice e d) (fun l => l.length ≤ maxLen ∧ ∀ x ∈ l, ok x) := by
 refine ⟨hc, fun H enc w base sp held fuel cs x h => ?_⟩
 rcases open_slice ht h with ⟨rfl, _⟩ | ⟨a, len, cap, m, n, D, Pl, rfl, hb, hl, hm, hmm, _, hi⟩
 ·refine ⟨[], ⟨none, 0, rfl, Nat.le_refl _, rfl, Nat.zero_le _, fun h => absurd h (by simp)⟩, Nat.zero_le _, fun _ h => by cases h⟩
 ·have hlm : len ≤ m := by rw [hmm]; split <;> omega
  have each : ∀ i, i < len → ∃ (x : α) (cs' : List Value), w.cells? base (a.add (i * P.cellsOf e)) (P.cellsOf e) = some cs' ∧ d.K w x cs' ∧ ok x := by
   intro i hlt
   obtain ⟨cs', h1, h2⟩ := hi i (by omega)
   obtain ⟨x, h3, h4⟩ := he.2 H enc w base sp held n cs' _ h2
   exact ⟨x, cs', h1, h3, h4⟩
  have hex := list_of (fun i x => ∃ cs' : List Value, w.cells? base (a.add (i * P.cellsOf e)) (P.cellsOf e) = some cs' ∧ d.K w x cs' ∧ ok x) len each
  obtain ⟨l, hll, hf⟩ := hex
  subst hll
  refine ⟨l, ⟨some a, cap, rfl, hl, rfl, ?_, fun _ => ⟨a, rfl, fun j p hj => ?_⟩⟩, by omega, fun x hx => ?_⟩
  ·unfold maxLen at hm; omega
  ·obtain ⟨cs', h1, h2, _⟩ := hf j p hj
   obtain ⟨_, h3, h4⟩ := World.cells?_some h1
   refine ⟨cs', d.K_len h2, h2, fun i u hu => ?_⟩
   have hil : i < P.cellsOf e := by
    have := (List.getElem?_eq_some_iff.1 hu).1
    omega
   rw [← Go.Deep.add_add, ← he.1, h4 i hil, hu]
  ·obtain ⟨i, hi⟩ := List.getElem?_of_mem hx
   obtain ⟨_, _, _, h⟩ := hf i x hi
   exact h
theorem struct2_ {d0 : Kd α} {d1 : Kd β} {ok0 : α → Prop} {ok1 : β → Prop} {f0 f1 : Field} (ht : P.underlying t = some (.struct #[f0, f1])) (hc : P.cellsOf t = d0.sz + d1.sz) (h0 : Opens P f0.type d0 ok0) (h1 : Opens P f1.type d1 ok1) (o0 : f0.offset = 0) (o1 : f1.offset = d0.sz) :
  Opens P t (Kd.pair d0 d1) (fun x => ok0 x.1 ∧ ok1 x.2) := by
 refine ⟨hc, fun H enc w base sp held fuel cs x h => ?_⟩
 obtain ⟨ys, n, _, _, hl, hyl, hf⟩ := DataW.trod_struct ht h
 have g0 := hf 0 f0 rfl
 have g1 := hf 1 f1 rfl
 simp only [List.size_toArray, List.length_cons, List.length_nil] at hyl
 rw [List.getElem?_eq_getElem (by omega)] at g0 g1
 obtain ⟨a, ka, oa⟩ := h0.2 _ _ _ _ _ _ _ _ _ g0
 obtain ⟨b, kb, ob⟩ := h1.2 _ _ _ _ _ _ _ _ _ g1
 refine ⟨(a, b), ⟨_, _, ?_, ka, kb⟩, oa, ob⟩
 rw [o0, o1, h0.1, h1.1, List.drop_zero]
 rw [hc] at hl
 have e1 : (cs.drop d0.sz).take d1.sz = cs.drop d0.sz := List.take_of_length_le (by rw [List.length_drop]; omega)
 rw [e1, List.take_append_drop]
theorem struct3_ {d0 : Kd α} {d1 : Kd β} {d2 : Kd γ} {ok0 : α → Prop} {ok1 : β → Prop} {ok2 : γ → Prop} {f0 f1 f2 : Field} (ht : P.underlying t = some (.struct #[f0, f1, f2])) (hc : P.cellsOf t = d0.sz + (d1.sz + d2.sz)) (h0 : Opens P f0.type d0 ok0) (h1 : Opens P f1.type d1 ok1) (h2 : Opens P f2.type d2 ok2)
  (o0 : f0.offset = 0) (o1 : f1.offset = d0.sz) (o2 : f2.offset = d0.sz + d1.sz) : Opens P t (Kd.pair d0 (Kd.pair d1 d2)) (fun x => ok0 x.1 ∧ ok1 x.2.1 ∧ ok2 x.2.2) := by
 refine ⟨hc, fun H enc w base sp held fuel cs x h => ?_⟩
 obtain ⟨ys, n, _, _, hl, hyl, hf⟩ := DataW.trod_struct ht h
 have g0 := hf 0 f0 rfl
 have g1 := hf 1 f1 rfl
 have g2 := hf 2 f2 rfl
 simp only [List.size_toArray, List.length_cons, List.length_nil] at hyl
 rw [List.getElem?_eq_getElem (by omega)] at g0 g1 g2
 obtain ⟨a, ka, oa⟩ := h0.2 _ _ _ _ _ _ _ _ _ g0
 obtain ⟨b, kb, ob⟩ := h1.2 _ _ _ _ _ _ _ _ _ g1
 obtain ⟨c, kc, oc⟩ := h2.2 _ _ _ _ _ _ _ _ _ g2
 refine ⟨(a, b, c), ⟨_, _, ?_, ka, _, _, rfl, kb, kc⟩, oa, ob, oc⟩
 rw [o0, o1, o2, h0.1, h1.1, h2.1, List.drop_zero]
 rw [hc] at hl
 have e1 : (cs.drop (d0.sz + d1.sz)).take d2.sz = cs.drop (d0.sz + d1.sz) := List.take_of_length_le (by rw [List.length_drop]; omega)
 rw [e1, ← List.drop_drop, List.take_append_drop, List.take_append_drop]
theorem arg_ {d : Kd α} {ok : α → Prop} (ho : Opens P t d ok) {H : Type} {enc : TypeId × Value → H} {w : World} {base : Nat} {sp : Nat → Bool} {held : Bool} {v : Value} {x : DataW H} {ps : List MemPlace} (h : DataW.Trod enc P w base sp held t v x ps) : ∃ a : α, d.K w a v.cells.toList ∧ ok a := by
 obtain ⟨fuel, hf⟩ := h
 exact ho.2 _ _ _ _ _ _ _ _ _ hf
end
theorem slice_shape {α : Type} {e : Nat} {d : Kd α} {w : World} {a : Option Addr} {n c : Nat} {l : List α} (h : (Kd.slice e d).K w l (Value.slice a n c).cells.toList) : n = l.length ∧ l.length ≤ c ∧ Kd.C d w a l.length l := by
 obtain ⟨A, c', e1, hc, hC⟩ := h
 simp only [Value.cells, List.cons.injEq, Value.slice.injEq] at e1
 obtain ⟨⟨rfl, rfl, rfl⟩, _⟩ := e1
 exact ⟨rfl, hc, hC⟩
end Go.Proofs.Ytjbnffadfohofaa.Opens
end
-- MERGED YtjbnffadfohofaaWSized
namespace Go.Proofs.YtjbnffadfohofaaW.PrintWords
end Go.Proofs.YtjbnffadfohofaaW.PrintWords
-- MERGED YtjbnffadfohofaaLawCarryWithin
section
namespace Go.Proofs.Ytjbnffadfohofaa.carryWithin
open Go.ChangeShapes Go.WideShapes Go.ChangeAt Go.RowKit Go.Proofs.YtjbnffadfohofaaW.PrintWords
open Go.ChangeMaps (open_string shut_string)
set_option linter.unusedVariables false
theorem own : ownKnob Try.prog.godebug = none := by kernel_rfl
theorem laidOut : laidOutB Try.prog = true := by kernel_rfl
theorem o3 : Opens.Opens Try.prog 3 (Kd.int .i64) (fun n => (Lit.int .i64 n).wf = true) := Opens.int_ (t := 3) Try.underlying3 (by kernel_rfl)
theorem o42 : Opens.Opens Try.prog 42 (Kd.pair (Kd.int .i64) (Kd.int .i64)) (fun x => (fun n => (Lit.int .i64 n).wf = true) x.1 ∧ (fun n => (Lit.int .i64 n).wf = true) x.2) := Opens.struct2_ (t := 42) Try.underlying42 (by kernel_rfl) o3 o3 rfl rfl
theorem o44 : Opens.Opens Try.prog 44 (Kd.pair (Kd.pair (Kd.int .i64) (Kd.int .i64)) (Kd.int .i64)) (fun x => (fun x => (fun n => (Lit.int .i64 n).wf = true) x.1 ∧ (fun n => (Lit.int .i64 n).wf = true) x.2) x.1 ∧ (fun n => (Lit.int .i64 n).wf = true) x.2) := Opens.struct2_ (t := 44) Try.underlying44 (by kernel_rfl) o42 o3 rfl rfl
theorem o22 : Opens.Opens Try.prog 22 (Kd.slice 44 (Kd.pair (Kd.pair (Kd.int .i64) (Kd.int .i64)) (Kd.int .i64))) (fun l => l.length ≤ maxLen ∧ ∀ x ∈ l, (fun x => (fun x => (fun n => (Lit.int .i64 n).wf = true) x.1 ∧ (fun n => (Lit.int .i64 n).wf = true) x.2) x.1 ∧ (fun n => (Lit.int .i64 n).wf = true) x.2) x) := Opens.slice_ (t := 22) (e := 44) Try.underlying22 (by kernel_rfl) o44
theorem o9 : Opens.Opens Try.prog 9 Kd.string (fun s => s.size ≤ maxLen) := Opens.string_ (t := 9) Try.underlying9 (by kernel_rfl)
theorem o49 : Opens.Opens Try.prog 49 (Kd.pair (Kd.int .i64) (Kd.pair Kd.string (Kd.int .i64))) (fun x => (fun n => (Lit.int .i64 n).wf = true) x.1 ∧ (fun s => s.size ≤ maxLen) x.2.1 ∧ (fun n => (Lit.int .i64 n).wf = true) x.2.2) := Opens.struct3_ (t := 49) Try.underlying49 (by kernel_rfl) o3 o9 o3 rfl rfl rfl
theorem o34 : Opens.Opens Try.prog 34 (Kd.slice 49 (Kd.pair (Kd.int .i64) (Kd.pair Kd.string (Kd.int .i64)))) (fun l => l.length ≤ maxLen ∧ ∀ x ∈ l, (fun x => (fun n => (Lit.int .i64 n).wf = true) x.1 ∧ (fun s => s.size ≤ maxLen) x.2.1 ∧ (fun n => (Lit.int .i64 n).wf = true) x.2.2) x) := Opens.slice_ (t := 34) (e := 49) Try.underlying34 (by kernel_rfl) o49
theorem o23 : Opens.Opens Try.prog 23 (Kd.slice 34 (Kd.slice 49 (Kd.pair (Kd.int .i64) (Kd.pair Kd.string (Kd.int .i64))))) (fun l => l.length ≤ maxLen ∧ ∀ x ∈ l, (fun l => l.length ≤ maxLen ∧ ∀ x ∈ l, (fun x => (fun n => (Lit.int .i64 n).wf = true) x.1 ∧ (fun s => s.size ≤ maxLen) x.2.1 ∧ (fun n => (Lit.int .i64 n).wf = true) x.2.2) x) x) := Opens.slice_ (t := 23) (e := 34) Try.underlying23 (by kernel_rfl) o34
set_option maxRecDepth 100000 in
theorem lifted (os : Os) (started : os.Started) (H : Type) (enc : TypeId × Value → H) :
  ReturnsInHanded {} Try.checked os 5 .any (Rows.carryWithinSpec.pre6 enc Try.prog Try.f5 Rows.carryWithinRow.domain false) (Rows.carryWithinSpec.post enc Try.prog Try.f5 false true false false) := by
 refine returnsInHanded_of_change_sized (C := Try.checked) own started (by kernel_rfl) Try.func5
  (ChangeSpec.witness6 (enc := enc) (C := Try.checked) false ⟨#[], #[(.string ByteArray.empty), (.slice none 0 0), (.slice none 0 0)], []⟩ 8 (by kernel_rfl) (by kernel_rfl) (by kernel_rfl) (by kernel_rfl)) ?_
 intro W base args ds gs before hval0 hW hcnd hsz0 _
 have hsz : (DataW.weightsEach Try.prog (Try.f5.params.toList ++ Rows.carryWithinSpec.plain.varTypes Try.prog) (ds ++ gs)).all (· ≤ reachBytes) = true := hsz0
 have hval : ∀ (j : Nat) t v, Try.f5.params[j]? = some t → args[j]? = some v → Value.okWide Try.prog W .any base t v := hval0
 have hW' := hW
 obtain ⟨p, q, hA0, hV, rfl, hfz, hnd⟩ := hW
 have hA : DataW.TrodAll enc Try.prog W 0 (fun _ => true) true Try.f5.params.toList args.toList ds p := hA0
 rw [Try.params5] at hA hval hsz
 obtain ⟨v0, vs0, d0, ds0, p0, q0, hargs, rfl, rfl, h0, r0⟩ := trodAll_cons hA
 obtain ⟨v1, vs1, d1, ds1, p1, q1, rfl, rfl, rfl, h1, r1⟩ := trodAll_cons r0
 obtain ⟨v2, vs2, d2, ds2, p2, q2, rfl, rfl, rfl, h2, r2⟩ := trodAll_cons r1
 obtain ⟨rfl, rfl, rfl⟩ := trodAll_nil r2
 obtain rfl : args = #[v0, v1, v2] := by cases args; simp_all
 obtain ⟨rfl, rfl⟩ := trodVars_none hV
 obtain ⟨a0, rfl, rfl, rfl, y0⟩ := open_string Try.underlying9 (hval 0 9 v0 rfl rfl) h0
 have w0 : a0.size ≤ 140737488351232 := by
  have z := sized_string hsz (j := 0) (t := 9) rfl rfl
  rw [Array.length_toList] at z
  exact z
 obtain ⟨a1, len1, cap1, rfl⟩ := okWide_slice Try.underlying22 (hval 1 22 v1 rfl rfl)
 have k1 := h1
 have lt1 : ∀ x ∈ p1, x.block < W.heap.size := by obtain ⟨m, hm⟩ := k1; exact DataW.trod_lt m _ _ _ hm
 obtain ⟨x1, hK1, ok1⟩ := Opens.arg_ o22 h1
 obtain ⟨rfl, hc1, hC1⟩ := Opens.slice_shape hK1
 obtain ⟨a2, len2, cap2, rfl⟩ := okWide_slice Try.underlying23 (hval 2 23 v2 rfl rfl)
 have k2 := h2
 have lt2 : ∀ x ∈ p2, x.block < W.heap.size := by obtain ⟨m, hm⟩ := k2; exact DataW.trod_lt m _ _ _ hm
 obtain ⟨x2, hK2, ok2⟩ := Opens.arg_ o23 h2
 obtain ⟨rfl, hc2, hC2⟩ := Opens.slice_shape hK2
 clear hA0 hval0 hsz0 hsz
 refine (CarryWithinR.row a0 a1 cap1 x1 a2 cap2 x2 W w0 hC1 hc1 ok1 hC2 hc2 ok2).mono fun e W' ⟨he, bel⟩ => ?_
 subst he
 exact ⟨_, rfl, _, _, _, [], _, [], hW', trodAll_mk1 (shut_bool Try.underlying4 _), (trodAll_cons_mk (shut_string Try.underlying9 y0) (trodAll_cons_mk (Below.trod laidOut (by kernel_rfl) (of_decide_eq_true (by kernel_rfl)) k1 bel lt1) (trodAll_cons_mk (Below.trod laidOut (by kernel_rfl) (of_decide_eq_true (by kernel_rfl)) k2 bel lt2) trodAll_mk0))), rfl, bel.frame _, fun h => by cases h⟩
theorem over : Rows.carryWithinRow.holds Try.pinned (OpenSpec.ofChange Rows.carryWithinSpec) :=
 OpenClaim.holds_of_wide 5 Try.f5 rfl rfl rfl rfl rfl rfl rfl ⟨rfl, rfl, rfl, rfl, rfl⟩ rfl rfl rfl rfl rfl (by kernel_rfl) Try.func5 (by kernel_rfl)
  (of_decide_eq_true (by kernel_rfl)) (by unfold Func.isWrapper; first | (rw [if_pos (by decide +kernel)]; kernel_rfl) | (rw [if_neg (by decide +kernel)]; exact ⟨rfl, rfl⟩))
  (fun os started H enc _ => lifted os started H enc)
theorem proved : Rows.CarryWithinSaid := over
#print axioms proved
end Go.Proofs.Ytjbnffadfohofaa.carryWithin
namespace Go.Proofs.Ytjbnffadfohofaa
theorem carryWithin_holds : Rows.CarryWithinSaid := carryWithin.proved
end Go.Proofs.Ytjbnffadfohofaa
end

import Derived.RangeFuncNested
import Derived.RangeFuncBound
import Derived.RangeFuncCalls
import Derived.RangeFuncLeaves
import Derived.Shelf.Abstract
import Derived.Shelf.RegionOpen
import Derived.WalkKit
import Derived.OwnWalkIn
import Derived.TacticsInMore
import Derived.LoopNIn
import Derived.LoopIn
import Derived.Outline
import Derived.Test.YtbfdplmgefcogaaCC
-- MERGED YtbfdplmgefcogaaComposeI
section
/- The walk of the iterator of two edits' runs. -/
namespace Go.Proofs.Ytbfdplmgefcogaa.ComposeI
open Go.RowKit Go.Shelf Go.Proofs.Ytbfdplmgefcogaa.P Go.Proofs.YtbfdplmgefcogaaW.PrintWords Go.Proofs.YtbfdplmgefcogaaW.PrintLast Go.Proofs.YtbfdplmgefcogaaW.PrintMore Go.Proofs.Ytbfdplmgefcogaa.Own Go.Proofs.Ytbfdplmgefcogaa.EditL Go.Proofs.Ytbfdplmgefcogaa.EditK Go.Proofs.Ytbfdplmgefcogaa.EditG Go.Proofs.Ytbfdplmgefcogaa.RangeG Go.Proofs.Ytbfdplmgefcogaa.EditJ Go.Proofs.Ytbfdplmgefcogaa.EditI Go.Proofs.Ytbfdplmgefcogaa.EditR Go.Proofs.Ytbfdplmgefcogaa.VaryR Go.Proofs.Ytbfdplmgefcogaa.RunA Go.Proofs.Ytbfdplmgefcogaa.ComposeL Go.Proofs.Ytbfdplmgefcogaa.ComposeR Go.Proofs.Ytbfdplmgefcogaa.ComposeK
attribute [local go_sem] Oper.semAt_some max2_int min2_int max_two min_two
attribute [local go_sem high] eqA43
set_option linter.unusedSimpArgs false
set_option linter.unusedVariables false

/-- What is left of an edit whose first run was taken in part. -/
def St (l : List Rn) (at_ : Int) (X : List Rn) : Prop := (l = [] ∧ at_ = 0 ∧ X = []) ∨ ∃ x xs, l = x :: xs ∧ 0 ≤ at_ ∧ at_ < sz x ∧ X = ComposeL.part x at_ (sz x) :: xs
structure Rs (K0 : World → Prop) (A : Option Addr) (c : Nat) (l : List Rn) (at_ : Int) (X : List Rn) : Prop where
  st : St l at_ X
  rc : ∀ W, K0 W → RC W A l
  c : l.length ≤ c
  fw : ∀ r ∈ l, Fw r
  len : l.length ≤ 65536
theorem st_new {l : List Rn} (h : ∀ r ∈ l, Fw r) : St l 0 l := by
  cases l with
  | nil => exact .inl ⟨rfl, rfl, rfl⟩
  | cons x xs =>
    have k := (h x List.mem_cons_self).k
    exact .inr ⟨x, xs, rfl, Int.le_refl _, sz_pos k, by rw [part_all k]⟩
theorem Rs.nil {K0 : World → Prop} {A : Option Addr} {c : Nat} {l : List Rn} {at_ : Int} (h : Rs K0 A c l at_ []) : l = [] := by
  rcases h.st with ⟨e, _, _⟩ | ⟨x, xs, _, _, _, e⟩
  · exact e
  · cases e
structure Head (K0 : World → Prop) (A : Option Addr) (c : Nat) (l : List Rn) (at_ : Int) (h : Rn) (X : List Rn) (x : Rn) : Prop where
  l : l = x :: X
  a0 : 0 ≤ at_
  a1 : at_ < sz x
  hh : h = ComposeL.part x at_ (sz x)
  fw : Fw x
  k : knd h = knd x
  s : sz h = sz x - at_
theorem Rs.cons {K0 : World → Prop} {A : Option Addr} {c : Nat} {l : List Rn} {at_ : Int} {h : Rn} {X : List Rn} (H : Rs K0 A c l at_ (h :: X)) : ∃ x, Head K0 A c l at_ h X x := by
  rcases H.st with ⟨_, _, e⟩ | ⟨x, xs, e1, a0, a1, e⟩
  · cases e
  · injection e with e2 e3
    subst e3
    have fw := H.fw x (by rw [e1]; exact List.mem_cons_self)
    obtain ⟨k, s⟩ := part_knd fw.k (f := at_) (t := sz x) a0 a1 (Int.le_refl _)
    exact ⟨x, e1, a0, a1, e2, fw, by rw [e2]; exact k, by rw [e2]; exact s⟩
/-- Behind a take. -/
theorem Rs.take {K0 : World → Prop} {A : Option Addr} {c : Nat} {l : List Rn} {at_ : Int} {h : Rn} {X : List Rn} (H : Rs K0 A c l at_ (h :: X)) {x : Rn} (hd : Head K0 A c l at_ h X x) {n : Int} (h0 : 0 < n) (h1 : n ≤ sz h) :
    ∃ A' c' l' at', nxt A c x X (at_ + n) = rdr A' c' l' at' ∧ Rs K0 A' c' l' at' (cutl n h X) ∧ l'.length ≤ l.length ∧ (n = sz h → l'.length < l.length) := by
  have s := hd.s
  have hc := H.c
  have hlen := H.len
  rw [hd.l] at hc hlen ⊢
  simp only [List.length_cons] at hc hlen
  have hfw : ∀ r ∈ x :: X, Fw r := by rw [← hd.l]; exact H.fw
  have hrc : ∀ W, K0 W → RC W A (x :: X) := by rw [← hd.l]; exact H.rc
  by_cases he : n = sz h
  · refine ⟨_, _, X, 0, if_pos (by omega), ⟨?_, ?_, by omega, fun r hr => hfw r (List.mem_cons_of_mem _ hr), by omega⟩, by simp, fun _ => by simp⟩
    · rw [show cutl n h X = X from if_pos he]
      exact st_new fun r hr => hfw r (List.mem_cons_of_mem _ hr)
    · intro W hW
      have := Kd.C_drop (k := k43) (c := c) (m := 1) (hrc W hW) (by simp) (by simpa using hc)
      exact this
  · refine ⟨_, _, x :: X, at_ + n, if_neg (by omega), ⟨?_, hrc, by simpa using hc, hfw, by simpa using hlen⟩, Nat.le_refl _, fun e => absurd e he⟩
    rw [show cutl n h X = ComposeL.part h n (sz h) :: X from if_neg he]
    have a0 := hd.a0
    have a1 := hd.a1
    refine .inr ⟨x, X, rfl, by omega, by omega, ?_⟩
    rw [hd.hh, part_part hd.fw.k hd.a0 hd.a1 (Int.le_refl _) (by omega) (by rw [← hd.hh]; omega) (by rw [← hd.hh]; omega), ← hd.hh, s, show at_ + (sz x - at_) = sz x by omega]
theorem Head.part {K0 : World → Prop} {A : Option Addr} {c : Nat} {l : List Rn} {at_ : Int} {h : Rn} {X : List Rn} {x : Rn} (hd : Head K0 A c l at_ h X x) {n : Int} (h0 : 0 ≤ n) (h1 : n ≤ sz h) : ComposeL.part x at_ (at_ + n) = ComposeL.part h 0 n := by
  have s := hd.s
  have a0 := hd.a0
  rw [hd.hh, part_part hd.fw.k hd.a0 hd.a1 (Int.le_refl _) (Int.le_refl _) h0 (by omega), Int.add_zero]
theorem Head.fwh {K0 : World → Prop} {A : Option Addr} {c : Nat} {l : List Rn} {at_ : Int} {h : Rn} {X : List Rn} {x : Rn} (hd : Head K0 A c l at_ h X x) : Fw h := by
  have fw := hd.fw
  have a0 := hd.a0
  have a1 := hd.a1
  have hk : knd h ≠ 0 := by rw [hd.k]; exact fw.k
  have pp := knd_pos hk
  have s := hd.s
  have hz : sz h = h.f0 + (h.f1.size : Int) + h.f2 := rfl
  rcases knd_three fw.k with k | k | k
  · have z := sz_keep k; have := fw.a; exact ⟨hk, pp.1, pp.2, by omega, by omega, by omega⟩
  · have z := sz_add k; have := fw.s; exact ⟨hk, pp.1, pp.2, by omega, by omega, by omega⟩
  · have z := sz_drop k; have := fw.d; exact ⟨hk, pp.1, pp.2, by omega, by omega, by omega⟩
def headL : List Rn → Rn
  | [] => ⟨0, E, 0⟩
  | h :: _ => h
theorem now_any (K0 : World → Prop) (R : Nat) (A : Option Addr) (c : Nat) (l : List Rn) (at_ : Int) (X : List Rn) (w : World) (H : Rs K0 A c l at_ X) (h : w.heap[R]? = some (rdr A c l at_)) (hk : K0 w) : Calls Try.prog 41 #[.pointer (some ⟨R, 0, none⟩)] w (PartPost (headL X) w) := by
  cases X with
  | nil =>
    have e := H.nil
    subst e
    exact now_nil R A c at_ w h
  | cons y X =>
    obtain ⟨x, hd⟩ := H.cons
    have hr := H.rc w hk
    have hl := H.len
    have e := hd.l
    subst e
    have := now_c R A c x X at_ w hd.fw h hr hd.a0 (by have := hd.a1; omega) (by simp at hl; omega)
    rw [← hd.hh] at this
    exact this
theorem whole_any (K0 : World → Prop) (R : Nat) (A : Option Addr) (c : Nat) (l : List Rn) (at_ : Int) (y : Rn) (X : List Rn) (H : Rs K0 A c l at_ (y :: X)) : ∃ A' c' l' at', Rs K0 A' c' l' at' X ∧ l'.length < l.length ∧ ∀ w, w.heap[R]? = some (rdr A c l at_) → K0 w → Calls Try.prog 38 #[.pointer (some ⟨R, 0, none⟩)] w (TakePost R y (rdr A' c' l' at') w) := by
  obtain ⟨x, hd⟩ := H.cons
  have s := hd.s
  have a1 := hd.a1
  obtain ⟨A', c', l', at', e1, e2, e3, e4⟩ := H.take hd (n := sz y) (by omega) (Int.le_refl _)
  rw [show cutl (sz y) y X = X from if_pos rfl] at e2
  refine ⟨A', c', l', at', e2, e4 rfl, fun w h hk => ?_⟩
  have hr := H.rc w hk
  have hl := H.len
  have hc := H.c
  have e := hd.l
  subst e
  have := whole_c R A c x X at_ w hd.fw h hr hd.a0 hd.a1 (by simp at hl; omega) (by simpa using hc)
  rw [← hd.hh, show sz x = at_ + sz y by omega, e1] at this
  exact this
theorem take_any (K0 : World → Prop) (R : Nat) (A : Option Addr) (c : Nat) (l : List Rn) (at_ : Int) (y : Rn) (X : List Rn) (H : Rs K0 A c l at_ (y :: X)) (n : Int) (h0 : 0 < n) (h1 : n ≤ sz y) : ∃ A' c' l' at', Rs K0 A' c' l' at' (cutl n y X) ∧ l'.length ≤ l.length ∧ (n = sz y → l'.length < l.length) ∧ ∀ w, w.heap[R]? = some (rdr A c l at_) → K0 w → Calls Try.prog 39 #[.pointer (some ⟨R, 0, none⟩), .int .i64 n] w (TakePost R (ComposeL.part y 0 n) (rdr A' c' l' at') w) := by
  obtain ⟨x, hd⟩ := H.cons
  have s := hd.s
  have a1 := hd.a1
  obtain ⟨A', c', l', at', e1, e2, e3, e4⟩ := H.take hd h0 h1
  refine ⟨A', c', l', at', e2, e3, e4, fun w h hk => ?_⟩
  have hr := H.rc w hk
  have hl := H.len
  have hc := H.c
  have e := hd.l
  subst e
  have := take_c R A c x X at_ n w hd.fw h hr hd.a0 (by omega) (by omega) (by simp at hl; omega) (by simpa using hc)
  rw [e1, hd.part (by omega) h1] at this
  exact this
/-- All but two blocks are as they were. -/
structure But2 (R1 R2 : Nat) (w w' : World) : Prop where
  os : w'.os = w.os
  tape : w'.tape = w.tape
  output : w'.output = w.output
  size : w.heap.size ≤ w'.heap.size
  block : ∀ k, k < w.heap.size → k ≠ R1 → k ≠ R2 → w'.heap[k]? = w.heap[k]?
theorem But2.refl (R1 R2 : Nat) (w : World) : But2 R1 R2 w w := ⟨rfl, rfl, rfl, Nat.le_refl _, fun _ _ _ _ => rfl⟩
theorem But2.trans {R1 R2 : Nat} {a b c : World} (h : But2 R1 R2 a b) (k : But2 R1 R2 b c) : But2 R1 R2 a c :=
  ⟨k.os.trans h.os, k.tape.trans h.tape, k.output.trans h.output, Nat.le_trans h.size k.size, fun i hi n1 n2 => (k.block i (Nat.lt_of_lt_of_le hi h.size) n1 n2).trans (h.block i hi n1 n2)⟩
theorem But2.below {R1 R2 : Nat} {a b c : World} (h : But2 R1 R2 a b) (k : Below b.heap.size b c) : But2 R1 R2 a c := h.trans ⟨k.os, k.tape, k.output, k.size, fun i hi _ _ => k.block i hi⟩
theorem But2.first {R1 R2 : Nat} {a b c : World} (h : But2 R1 R2 a b) (k : But R1 b c) : But2 R1 R2 a c := h.trans ⟨k.os, k.tape, k.output, k.size, fun i hi n1 _ => k.block i hi (fun e => n1 (by injection e))⟩
theorem But2.second {R1 R2 : Nat} {a b c : World} (h : But2 R1 R2 a b) (k : But R2 b c) : But2 R1 R2 a c := h.trans ⟨k.os, k.tape, k.output, k.size, fun i hi _ n2 => k.block i hi (fun e => n2 (by injection e))⟩
theorem But2.set {R1 R2 : Nat} {a b : World} (h : But2 R1 R2 a b) (g o : Nat) (u : Value) (hg : a.heap.size ≤ g) : But2 R1 R2 a (b.setCell ⟨g, o, none⟩ u) :=
  ⟨h.os, h.tape, h.output, by simp [World.setCell]; exact h.size, fun i hi n1 n2 => (Below.heap_setCell _ _ _ _ (fun e => by have e : i = g := e; omega)).trans (h.block i hi n1 n2)⟩
/-- The iterator's own readers, written. -/
theorem party2 {J : List Rn → Priv → World → Prop} (hP : Party J) {pre : List Rn} {G : Priv} {W W' : World} {R1 R2 : Nat} {A1 A2 B1 B2 : Option Addr} {c1 c2 d1 d2 : Nat} {l1 l2 m1 m2 : List Rn} {a1 a2 b1 b2 : Int} (h : J pre G W) (g1 : G R1 = some (rdr A1 c1 l1 a1)) (g2 : G R2 = some (rdr A2 c2 l2 a2)) (hb : But2 R1 R2 W W') (h1 : W'.heap[R1]? = some (rdr B1 d1 m1 b1)) (h2 : W'.heap[R2]? = some (rdr B2 d2 m2 b2)) :
    J pre ((G.put R1 (rdr B1 d1 m1 b1)).put R2 (rdr B2 d2 m2 b2)) W' := by
  refine hP.turn _ _ _ _ _ h ⟨hb.os, hb.tape, hb.output, hb.size, fun k hk hg => hb.block k hk (fun e => by rw [e, g1] at hg; cases hg) (fun e => by rw [e, g2] at hg; cases hg)⟩ fun k o hk => ?_
  by_cases e2 : k = R2
  · subst e2
    rw [Priv.put_same] at hk
    obtain rfl := Option.some.inj hk
    exact ⟨h2, rfl, .inl (by rw [g2]; exact fun e => by cases e)⟩
  · rw [Priv.put_other _ _ e2] at hk
    by_cases e1 : k = R1
    · subst e1
      rw [Priv.put_same] at hk
      obtain rfl := Option.some.inj hk
      exact ⟨h1, rfl, .inl (by rw [g1]; exact fun e => by cases e)⟩
    · rw [Priv.put_other _ _ e1] at hk
      exact ⟨(hb.block k (hP.lt h hk) e1 e2).trans (hP.lies _ _ _ h _ _ hk), hP.cells _ _ _ h _ _ hk, .inl (by rw [hk]; exact fun e => by cases e)⟩
/-- A reader that lies at a pointer. -/
def Rx (B : Nat) (v : Value) (A : Option Addr) (c : Nat) (l : List Rn) (w : World) : Prop := ∃ b : Nat, v = .pointer (some ⟨b, 0, none⟩) ∧ w.heap[b]? = some (rdr A c l 0) ∧ B ≤ b
theorem Rx.below {B : Nat} {v : Value} {A : Option Addr} {c : Nat} {l : List Rn} {w w' : World} (h : Rx B v A c l w) (hb : Below w.heap.size w w') : Rx B v A c l w' := by
  obtain ⟨b, e, hq, hB⟩ := h
  exact ⟨b, e, (hb.block b (Array.getElem?_eq_some_iff.1 hq).1).trans hq, hB⟩
theorem Rx.fresh {B : Nat} {v : Value} {A : Option Addr} {c : Nat} {l : List Rn} {w : World} (h : Rx B v A c l w) : v ≠ .pointer (some ⟨w.heap.size, 0, none⟩) := by
  obtain ⟨b, e, hq, _⟩ := h
  have := (Array.getElem?_eq_some_iff.1 hq).1
  intro e2
  rw [e] at e2
  injection e2 with e2
  injection e2 with e2
  injection e2 with e2
  omega
def lenOf (w : World) (R : Nat) : Nat := match w.heap[R]? with
  | some (Obj.cells cs _ _) => match cs[0]? with
    | some (Value.slice _ n _) => n
    | _ => 0
  | _ => 0
theorem lenOf_rdr {w : World} {R : Nat} {A : Option Addr} {c : Nat} {l : List Rn} {a : Int} (h : w.heap[R]? = some (rdr A c l a)) : lenOf w R = l.length := by
  unfold lenOf rdr at *
  rw [h]; rfl
/-- What the iterator reads: the two edits, each in a box. -/
def Held2 (A1 : Option Addr) (c1 T1 : Nat) (f1 : List Rn) (A2 : Option Addr) (c2 T2 : Nat) (f2 : List Rn) (W : World) : Prop := Held A1 c1 T1 f1 W ∧ Held A2 c2 T2 f2 W
theorem party_lay2 {J : List Rn → Priv → World → Prop} (hP : Party J) {pre : List Rn} {W W' : World} {R1 R2 : Nat} {o1 o2 : Obj} (h : J pre Priv.none W) (hb : Below W.heap.size W W') (h1 : W'.heap[R1]? = some o1) (h2 : W'.heap[R2]? = some o2) (c1 : o1.isCells = true) (c2 : o2.isCells = true) (b1 : W.heap.size ≤ R1) (b2 : W.heap.size ≤ R2) :
    J pre ((Priv.none.put R1 o1).put R2 o2) W' := by
  refine hP.turn _ _ _ _ _ h (Turn.of_below hb) fun k o hk => ?_
  by_cases e2 : k = R2
  · subst e2
    rw [Priv.put_same] at hk
    obtain rfl := Option.some.inj hk
    exact ⟨h2, c2, .inr b2⟩
  · rw [Priv.put_other _ _ e2] at hk
    by_cases e1 : k = R1
    · subst e1
      rw [Priv.put_same] at hk
      obtain rfl := Option.some.inj hk
      exact ⟨h1, c1, .inr b1⟩
    · rw [Priv.put_other _ _ e1] at hk; cases hk
def ComposeI.T0 : Bool × List (List Nat × List Nat) := (true, [([], []), ([0], [0]), ([1], [1]), ([], []), ([3], [3]), ([4], [4]), ([2, 0, 1, 2], [2]), ([5, 6, 0, 1, 2, 3, 4, 5, 6], [5])])
def ComposeI.B0 : List Nat := [0, 1, 3, 0, 8, 24, 7, 127]
theorem ComposeI.tab0 : rtab .any (opsOf Try.f37 0) = ComposeI.T0 := by kernel_rfl
theorem ComposeI.bits0 : waitsOk ComposeI.T0.2 ComposeI.B0 = true := by kernel_rfl
def ComposeI.T5 : Bool × List (List Nat × List Nat) := (true, [([], []), ([0], [0]), ([], []), ([2, 1], [2]), ([1, 3], [1, 3]), ([4, 3, 0, 1, 2, 3, 4], [4])])
def ComposeI.B5 : List Nat := [0, 1, 0, 7, 15, 31]
theorem ComposeI.tab5 : rtab .any (opsOf Try.f37 5) = ComposeI.T5 := by kernel_rfl
theorem ComposeI.bits5 : waitsOk ComposeI.T5.2 ComposeI.B5 = true := by kernel_rfl
set_option maxHeartbeats 16000000 in
set_option maxRecDepth 100000 in
theorem both_it (A1 : Option Addr) (c1 T1 : Nat) (f1 : List Rn) (A2 : Option Addr) (c2 T2 : Nat) (f2 : List Rn) (hc1 : f1.length ≤ c1) (hc2 : f2.length ≤ c2) (hf1 : ∀ r ∈ f1, Fw r) (hf2 : ∀ r ∈ f2, Fw r) (hl1 : f1.length ≤ 65536) (hl2 : f2.length ≤ 65536) (L : List Rn) (hL : Bo f1 f2 L) :
    Gives Try.prog 37 #[.pointer (some ⟨T1, 0, none⟩), .pointer (some ⟨T2, 0, none⟩)] enc L (Held2 A1 c1 T1 f1 A2 c2 T2 f2) := by
  intro n l J X W1 hP hK hY hJ
  refine callsIn_of_wp Try.func37 rfl trivial ?_ rfl
  have HP := Aside0.mk hP
  have HK := Aside0.mk hK
  have HY := Aside0.mk hY
  have HL := Aside0.mk hL
  have HJ := Aside0.mk hJ
  have HS1 := Aside0.mk (show Rs (Held2 A1 c1 T1 f1 A2 c2 T2 f2) A1 c1 f1 0 f1 from ⟨st_new hf1, fun W h => h.1.2, hc1, hf1, hl1⟩)
  have HS2 := Aside0.mk (show Rs (Held2 A1 c1 T1 f1 A2 c2 T2 f2) A2 c2 f2 0 f2 from ⟨st_new hf2, fun W h => h.2.2, hc2, hf2, hl2⟩)
  have hh := hK _ _ _ hJ
  have hall : ∀ W, Below W1.heap.size W1 W → W.cell? ⟨T1, 0, none⟩ = some (.slice A1 f1.length c1) ∧ W.cell? ⟨T2, 0, none⟩ = some (.slice A2 f2.length c2) := fun W hb =>
    ⟨by rw [cell_of_row _ _ 0 _ _ _ ((hb.block _ (Array.getElem?_eq_some_iff.1 hh.1.1).1).trans hh.1.1)]; rfl, by rw [cell_of_row _ _ 0 _ _ _ ((hb.block _ (Array.getElem?_eq_some_iff.1 hh.2.1).1).trans hh.2.1)]; rfl⟩
  have HALL := Aside0.mk hall
  obtain ⟨n1, hn1⟩ : ∃ n1, n1 = f1.length := ⟨_, rfl⟩
  obtain ⟨n2, hn2⟩ : ∃ n2, n2 = f2.length := ⟨_, rfl⟩
  have HN1 := Aside0.mk hn1
  have HN2 := Aside0.mk hn2
  rw [← hn1, ← hn2] at HALL
  have HA := Aside0.mk (Below.refl W1.heap.size W1)
  clear hP hK hY hL hJ hh hall hc1 hc2 hf1 hf2 hl1 hl2 hn1 hn2
  simp only [Try.ntmps37, List.size_toArray, List.length_cons, List.length_nil, Nat.reduceAdd, Nat.reduceSub, Array.replicate_succ, Array.replicate_zero, List.push_toArray, List.append_toArray, List.nil_append, List.cons_append]
  gi_wp2
  refine wpIn_wide.2 ?_
  refine start_ (n := 8) (S := fun w' => True) (ds := []) #[false, false, false, false, false, false, false, false] (by kernel_rfl) rfl rfl trivial (fun hHeld => ?_); refine with_tabW ComposeI.tab0 ComposeI.bits0 (fun HT_ HW_ => ?_)
  refine inv_at [0, 1, 2, 3, 4, 5, 6, 7] (fun a0_ b a w' => ∃ (v15 : Value) (v18 : Value) (m6_ : Value) (m7_ : Value), a = putSel a0_ b [(0, 13, (.slice A1 n1 c1)), (1, 14, (.agg #[.slice A1 n1 c1, .int .i64 0])), (2, 15, v15), (3, 16, (.slice A2 n2 c2)), (4, 17, (.agg #[.slice A2 n2 c2, .int .i64 0])), (5, 18, v18), (6, 4, m6_), (7, 5, m7_)] ∧ (Below W1.heap.size W1 w') ∧ (b 2 = true → Rx W1.heap.size v15 A1 c1 f1 w') ∧ (b 5 = true → Rx W1.heap.size v18 A2 c2 f2 w') ∧ (b 2 = true → b 5 = true → v15 ≠ v18) ∧ (b 6 = true → (m6_ : Value) = v15) ∧ (b 7 = true → (m7_ : Value) = v18)) HT_.out HW_.out (by kernel_rfl) (by kernel_rfl) ?_ ?_ ?_
  · exact ⟨.bool false, .bool false, .bool false, .bool false, by simp only [putSel, Bool.false_eq_true, if_false], below_drew1 (Below.refl _ _), fun h_ => absurd h_ (by decide), fun h_ => absurd h_ (by decide), fun h_ => absurd h_ (by decide), fun h_ => absurd h_ (by decide), fun h_ => absurd h_ (by decide)⟩
  · skip
    clear HA
    refine steps_cons ?_ ?_
    · rintro b a w' ⟨v15, v18, m6_, m7_, ha, Q_HA, Q_H2, Q_H5, Q_HD, Q_X6_, Q_X7_⟩ hb_ hon hoff
      refine ⟨_, rfl, fun K hK => ?_⟩
      have e1 : a.tmps[1]? = some ((.pointer (some ⟨T1, 0, none⟩))) := by rw [ha]; exact (putSel_off rfl).trans rfl
      replace ha := Aside0.mk ha
      have HA := Aside0.mk Q_HA
      obtain ⟨hc_, _⟩ := HALL.out _ HA.out
      refine value_ (w1 := w') (v := (.slice A1 n1 c1)) (by rfl) rfl ?_ ?_
      · go_simp
        (try simp only [i64_w])
        try rfl
      refine hK.out _ _ ⟨v15, v18, m6_, m7_, (by rw [ha.out]; exact putSel_upk 0 hb_ rfl rfl rfl), Q_HA, fun h0_ => absurd ((hoff 2 (by kernel_rfl)).symm.trans h0_) (by decide), Q_H5, fun h0_ _ => absurd ((hoff 2 (by kernel_rfl)).symm.trans h0_) (by decide), fun h0_ => absurd ((hoff 6 (by kernel_rfl)).symm.trans h0_) (by decide), fun h0_ => absurd ((hoff 7 (by kernel_rfl)).symm.trans h0_) (by decide)⟩
    refine steps_cons ?_ ?_
    · rintro b a w' ⟨v15, v18, m6_, m7_, ha, Q_HA, Q_H2, Q_H5, Q_HD, Q_X6_, Q_X7_⟩ hb_ hon hoff
      refine ⟨_, rfl, fun K hK => ?_⟩
      have e13 : a.tmps[13]? = some ((.slice A1 n1 c1)) := by rw [ha]; exact putSel_on (e := (0, 13, (.slice A1 n1 c1))) 0 rfl rfl (hon 0 (by kernel_rfl)) rfl
      replace ha := Aside0.mk ha
      have HA := Aside0.mk Q_HA
      refine value_ (w1 := w') (v := (.agg #[.slice A1 n1 c1, .int .i64 0])) (by rfl) rfl ?_ ?_
      · go_simp
        (try simp only [i64_w])
        try rfl
      refine hK.out _ _ ⟨v15, v18, m6_, m7_, (by rw [ha.out]; exact putSel_upk 1 hb_ rfl rfl rfl), Q_HA, fun h0_ => absurd ((hoff 2 (by kernel_rfl)).symm.trans h0_) (by decide), Q_H5, fun h0_ _ => absurd ((hoff 2 (by kernel_rfl)).symm.trans h0_) (by decide), fun h0_ => absurd ((hoff 6 (by kernel_rfl)).symm.trans h0_) (by decide), fun h0_ => absurd ((hoff 7 (by kernel_rfl)).symm.trans h0_) (by decide)⟩
    refine steps_cons ?_ ?_
    · rintro b a w' ⟨v15, v18, m6_, m7_, ha, Q_HA, Q_H2, Q_H5, Q_HD, Q_X6_, Q_X7_⟩ hb_ hon hoff
      refine ⟨_, rfl, fun K hK => ?_⟩
      have e14 : a.tmps[14]? = some ((.agg #[.slice A1 n1 c1, .int .i64 0])) := by rw [ha]; exact putSel_on (e := (1, 14, (.agg #[.slice A1 n1 c1, .int .i64 0]))) 1 rfl rfl (hon 1 (by kernel_rfl)) rfl
      replace ha := Aside0.mk ha
      have HA := Aside0.mk Q_HA
      obtain ⟨v15, hv15_⟩ : ∃ v15 : Value, v15 = .pointer (some ⟨w'.heap.size, 0, none⟩) := ⟨_, rfl⟩
      obtain ⟨w1_, hw1_⟩ : ∃ w1_, w1_ = w'.alloc (.cells #[.slice A1 n1 c1, .int .i64 0] 69) := ⟨_, rfl⟩
      have hb : Below w'.heap.size w' w1_ := by rw [hw1_]; exact below_alloc (Below.refl _ _) _
      refine value_ (w1 := w1_) (v := v15) (by rfl) rfl (by rw [hv15_, hw1_]; go_simp) ?_
      refine hK.out _ _ ⟨v15, v18, m6_, m7_, (by rw [ha.out]; exact putSel_upk 2 hb_ rfl rfl rfl), below_step HA.out hb, fun _ => ⟨_, hv15_, by rw [hw1_, HN1.out]; exact Own.heap_new _ _, HA.out.size⟩, fun h0_ => (Q_H5 h0_).below hb, fun _ _ => (by rename_i x_ y_; rw [hv15_]; first | exact fun e => (Q_H5 x_).fresh e.symm | exact fun e => (Q_H5 y_).fresh e.symm), fun h0_ => absurd ((hoff 6 (by kernel_rfl)).symm.trans h0_) (by decide), fun h0_ => absurd ((hoff 7 (by kernel_rfl)).symm.trans h0_) (by decide)⟩
    refine steps_cons ?_ ?_
    · rintro b a w' ⟨v15, v18, m6_, m7_, ha, Q_HA, Q_H2, Q_H5, Q_HD, Q_X6_, Q_X7_⟩ hb_ hon hoff
      refine ⟨_, rfl, fun K hK => ?_⟩
      have e2 : a.tmps[2]? = some ((.pointer (some ⟨T2, 0, none⟩))) := by rw [ha]; exact (putSel_off rfl).trans rfl
      replace ha := Aside0.mk ha
      have HA := Aside0.mk Q_HA
      obtain ⟨_, hc_⟩ := HALL.out _ HA.out
      refine value_ (w1 := w') (v := (.slice A2 n2 c2)) (by rfl) rfl ?_ ?_
      · go_simp
        (try simp only [i64_w])
        try rfl
      refine hK.out _ _ ⟨v15, v18, m6_, m7_, (by rw [ha.out]; exact putSel_upk 3 hb_ rfl rfl rfl), Q_HA, Q_H2, fun h0_ => absurd ((hoff 5 (by kernel_rfl)).symm.trans h0_) (by decide), fun _ h1_ => absurd ((hoff 5 (by kernel_rfl)).symm.trans h1_) (by decide), Q_X6_, fun h0_ => absurd ((hoff 7 (by kernel_rfl)).symm.trans h0_) (by decide)⟩
    refine steps_cons ?_ ?_
    · rintro b a w' ⟨v15, v18, m6_, m7_, ha, Q_HA, Q_H2, Q_H5, Q_HD, Q_X6_, Q_X7_⟩ hb_ hon hoff
      refine ⟨_, rfl, fun K hK => ?_⟩
      have e16 : a.tmps[16]? = some ((.slice A2 n2 c2)) := by rw [ha]; exact putSel_on (e := (3, 16, (.slice A2 n2 c2))) 3 rfl rfl (hon 3 (by kernel_rfl)) rfl
      replace ha := Aside0.mk ha
      have HA := Aside0.mk Q_HA
      refine value_ (w1 := w') (v := (.agg #[.slice A2 n2 c2, .int .i64 0])) (by rfl) rfl ?_ ?_
      · go_simp
        (try simp only [i64_w])
        try rfl
      refine hK.out _ _ ⟨v15, v18, m6_, m7_, (by rw [ha.out]; exact putSel_upk 4 hb_ rfl rfl rfl), Q_HA, Q_H2, fun h0_ => absurd ((hoff 5 (by kernel_rfl)).symm.trans h0_) (by decide), fun _ h1_ => absurd ((hoff 5 (by kernel_rfl)).symm.trans h1_) (by decide), Q_X6_, fun h0_ => absurd ((hoff 7 (by kernel_rfl)).symm.trans h0_) (by decide)⟩
    refine steps_cons ?_ ?_
    · rintro b a w' ⟨v15, v18, m6_, m7_, ha, Q_HA, Q_H2, Q_H5, Q_HD, Q_X6_, Q_X7_⟩ hb_ hon hoff
      refine ⟨_, rfl, fun K hK => ?_⟩
      have e17 : a.tmps[17]? = some ((.agg #[.slice A2 n2 c2, .int .i64 0])) := by rw [ha]; exact putSel_on (e := (4, 17, (.agg #[.slice A2 n2 c2, .int .i64 0]))) 4 rfl rfl (hon 4 (by kernel_rfl)) rfl
      replace ha := Aside0.mk ha
      have HA := Aside0.mk Q_HA
      obtain ⟨v18, hv18_⟩ : ∃ v18 : Value, v18 = .pointer (some ⟨w'.heap.size, 0, none⟩) := ⟨_, rfl⟩
      obtain ⟨w1_, hw1_⟩ : ∃ w1_, w1_ = w'.alloc (.cells #[.slice A2 n2 c2, .int .i64 0] 69) := ⟨_, rfl⟩
      have hb : Below w'.heap.size w' w1_ := by rw [hw1_]; exact below_alloc (Below.refl _ _) _
      refine value_ (w1 := w1_) (v := v18) (by rfl) rfl (by rw [hv18_, hw1_]; go_simp) ?_
      refine hK.out _ _ ⟨v15, v18, m6_, m7_, (by rw [ha.out]; exact putSel_upk 5 hb_ rfl rfl rfl), below_step HA.out hb, fun h0_ => (Q_H2 h0_).below hb, fun _ => ⟨_, hv18_, by rw [hw1_, HN2.out]; exact Own.heap_new _ _, HA.out.size⟩, fun _ _ => (by rename_i x_ y_; rw [hv18_]; first | exact (Q_H2 x_).fresh | exact (Q_H2 y_).fresh), Q_X6_, fun h0_ => absurd ((hoff 7 (by kernel_rfl)).symm.trans h0_) (by decide)⟩
    refine steps_cons ?_ ?_
    · rintro b a w' ⟨v15, v18, m6_, m7_, ha, Q_HA, Q_H2, Q_H5, Q_HD, Q_X6_, Q_X7_⟩ hb_ hon hoff
      refine ⟨_, rfl, fun K hK => ?_⟩
      have e15 : a.tmps[15]? = some (v15) := by rw [ha]; exact putSel_on (e := (2, 15, v15)) 2 rfl rfl (hon 2 (by kernel_rfl)) rfl
      replace ha := Aside0.mk ha
      have HA := Aside0.mk Q_HA
      have H2 := Aside0.mk (Q_H2 (hon 2 (by kernel_rfl)))
      refine value_ (w1 := w') (v := v15) (by rfl) rfl ?_ ?_
      · go_simp
        (try simp only [i64_w])
        try rfl
      refine hK.out _ _ ⟨v15, v18, (v15), m7_, (by rw [ha.out]; exact putSel_upk 6 hb_ rfl rfl rfl), Q_HA, Q_H2, Q_H5, Q_HD, fun _ => rfl, fun h0_ => absurd ((hoff 7 (by kernel_rfl)).symm.trans h0_) (by decide)⟩
    refine steps_cons ?_ ?_
    · rintro b a w' ⟨v15, v18, m6_, m7_, ha, Q_HA, Q_H2, Q_H5, Q_HD, Q_X6_, Q_X7_⟩ hb_ hon hoff
      refine ⟨_, rfl, fun K hK => ?_⟩
      have e18 : a.tmps[18]? = some (v18) := by rw [ha]; exact putSel_on (e := (5, 18, v18)) 5 rfl rfl (hon 5 (by kernel_rfl)) rfl
      replace ha := Aside0.mk ha
      have HA := Aside0.mk Q_HA
      have H2 := Aside0.mk (Q_H2 (hon 2 (by kernel_rfl)))
      have H5 := Aside0.mk (Q_H5 (hon 5 (by kernel_rfl)))
      have HD := Aside0.mk (Q_HD (hon 2 (by kernel_rfl)) (hon 5 (by kernel_rfl)))
      refine value_ (w1 := w') (v := v18) (by rfl) rfl ?_ ?_
      · go_simp
        (try simp only [i64_w])
        try rfl
      refine hK.out _ _ ⟨v15, v18, m6_, (v18), (by rw [ha.out]; exact putSel_upk 7 hb_ rfl rfl rfl), Q_HA, Q_H2, Q_H5, Q_HD, Q_X6_, fun _ => rfl⟩
    exact steps_nil
  rintro b a we hall ⟨v15, v18, m6_, m7_, ha, Q_HA, Q_H2, Q_H5, Q_HD, Q_X6_, Q_X7_⟩
  clear HA
  have hb0_ := hall 0 (by kernel_rfl)
  have hb1_ := hall 1 (by kernel_rfl)
  have hb2_ := hall 2 (by kernel_rfl)
  have hb3_ := hall 3 (by kernel_rfl)
  have hb4_ := hall 4 (by kernel_rfl)
  have hb5_ := hall 5 (by kernel_rfl)
  have hb6_ := hall 6 (by kernel_rfl)
  have hb7_ := hall 7 (by kernel_rfl)
  subst ha
  obtain rfl := Q_X6_ hb6_
  obtain rfl := Q_X7_ hb7_
  simp only [putSel, hb0_, hb1_, hb2_, hb3_, hb4_, hb5_, hb6_, hb7_, if_true, Act.put, List.setIfInBounds_toArray, List.set_cons_zero, List.set_cons_succ]
  have HA := Aside0.mk Q_HA
  clear Q_HA
  have H2 := Aside0.mk (Q_H2 hb2_)
  clear Q_H2
  have H5 := Aside0.mk (Q_H5 hb5_)
  clear Q_H5
  have HD := Aside0.mk (Q_HD hb2_ hb5_)
  clear Q_HD
  clear hall hb0_ hb1_ hb2_ hb3_ hb4_ hb5_ hb6_ hb7_
  obtain ⟨R1, hv1, hq1, hB1⟩ := H2.out
  obtain ⟨R2, hv2, hq2, hB2⟩ := H5.out
  have hR : R1 ≠ R2 := by
    intro e
    exact HD.out (by rw [hv1, hv2, e])
  subst hv1
  subst hv2
  have HR := Aside0.mk hR
  have hR' : R2 ≠ R1 := fun e => hR e.symm
  have HJ2 := Aside0.mk (party_lay2 HP.out HJ.out HA.out hq1 hq2 rfl rfl hB1 hB2)
  have HG2 := Aside0.mk (Priv.put_same (Priv.none.put R1 (rdr A1 c1 f1 0)) R2 (rdr A2 c2 f2 0))
  have HG1 := Aside0.mk ((Priv.put_other (Priv.none.put R1 (rdr A1 c1 f1 0)) (rdr A2 c2 f2 0) hR).trans (Priv.put_same Priv.none R1 (rdr A1 c1 f1 0)))
  clear hq1 hq2 hB1 hB2 H2 H5 HD HJ HALL HA hR hR'
  gi_wp2
  gi_loopw [7] (fun pv wr => ∃ (pre : List Rn) (G : Priv) (B1 : Option Addr) (d1 : Nat) (l1 : List Rn) (a1 : Int) (X1 : List Rn) (B2 : Option Addr) (d2 : Nat) (l2 : List Rn) (a2 : Int) (X2 : List Rn) (M : List Rn), J pre G wr ∧ G R1 = some (rdr B1 d1 l1 a1) ∧ G R2 = some (rdr B2 d2 l2 a2) ∧ Rs (Held2 A1 c1 T1 f1 A2 c2 T2 f2) B1 d1 l1 a1 X1 ∧ Rs (Held2 A1 c1 T1 f1 A2 c2 T2 f2) B2 d2 l2 a2 X2 ∧ Bo X1 X2 M ∧ pre ++ M = L) (fun _ wr => lenOf wr R1 + lenOf wr R2)
  case atStart => exact ⟨[], _, A1, c1, f1, 0, f1, A2, c2, f2, 0, f2, L, HJ2.out, HG1.out, HG2.out, HS1.out, HS2.out, HL.out, rfl⟩
  case round =>
    clear HJ2 HG1 HG2 HS1 HS2 HL HN1 HN2
    obtain ⟨pre, G, B1, d1, l1, a1, X1, B2, d2, l2, a2, X2, M, hj, hg1, hg2, hs1, hs2, hbo, he⟩ := hrel
    have HJr := Aside0.mk hj
    have HG1 := Aside0.mk hg1
    have HG2 := Aside0.mk hg2
    have HE := Aside0.mk he
    have HX1 := Aside0.mk hs1
    have HX2 := Aside0.mk hs2
    have HN := Aside0.mk (lenOf_rdr (HP.out.lies _ _ _ hj _ _ hg1))
    have HM := Aside0.mk (lenOf_rdr (HP.out.lies _ _ _ hj _ _ hg2))
    have hk0 := HK.out _ _ _ hj
    have HK0 := Aside0.mk hk0
    have hq1 := HP.out.lies _ _ _ hj _ _ hg1
    have hq2 := HP.out.lies _ _ _ hj _ _ hg2
    have HQ1 := Aside0.mk hq1
    have HQ2 := Aside0.mk hq2
    obtain ⟨x0, x1, _, _⟩ := rdr_cells hq1
    obtain ⟨y0, y1, _, _⟩ := rdr_cells hq2
    obtain ⟨m1, hm1⟩ : ∃ m1, m1 = l1.length := ⟨_, rfl⟩
    obtain ⟨m2, hm2⟩ : ∃ m2, m2 = l2.length := ⟨_, rfl⟩
    rw [← hm1] at x0
    rw [← hm2] at y0
    have HM1 := Aside0.mk hm1
    have HM2 := Aside0.mk hm2
    by_cases hend : X1 = [] ∧ X2 = []
    · obtain ⟨rfl, rfl⟩ := hend
      have e1 : m1 = 0 := by rw [hm1, hs1.nil]; rfl
      have e2 : m2 = 0 := by rw [hm2, hs2.nil]; rfl
      subst e1
      subst e2
      have HE2 := Aside0.mk (show pre = L by cases hbo; rw [← he, List.append_nil])
      clear hj hg1 hg2 hs1 hs2 hbo he hk0 hq1 hq2 hm1 hm2
      gi_wp2
      refine bodyPost_end (results_none rfl _ _ _) rfl ?_
      exact ⟨⟨_, rfl⟩, .inl ⟨_, by rw [← HE2.out]; exact HJr.out⟩⟩
    · -- WAYS
      rcases hbo with _ | ⟨h3, hbo'⟩ | ⟨h3, h2, hbo'⟩ | ⟨hx, hy, hbo'⟩
      · exact absurd ⟨rfl, rfl⟩ hend
      · rename_i x X1' M'
        obtain ⟨xh, hxh⟩ : ∃ xh, xh = headL (x :: X1') := ⟨_, rfl⟩
        obtain ⟨yh, hyh⟩ : ∃ yh, yh = headL X2 := ⟨_, rfl⟩
        have hm1p : 0 < m1 := by obtain ⟨x', hd⟩ := hs1.cons; rw [hm1, hd.l]; simp
        have ex : xh = x := hxh
        have HXE := Aside0.mk ex
        have hd0 : 0 < xh.f2 := by rw [ex]; exact (run_eq3 h3).2.2.2
        obtain ⟨B1', d1', l1', a1', hs1', hlt, hcall⟩ := whole_any _ R1 B1 d1 l1 a1 x X1' hs1
        rw [← ex] at hcall
        have HCALL := Aside0.mk hcall
        have HS1' := Aside0.mk hs1'
        have HBO := Aside0.mk hbo'
        have HLTT := Aside0.mk hlt
        clear hcall hs1' ex hbo' hlt h3
        have HC1 := Aside0.mk (fun (w : World) (h : w.heap[R1]? = some (rdr B1 d1 l1 a1)) (hk : (Held2 A1 c1 T1 f1 A2 c2 T2 f2) w) => (show Calls Try.prog 41 #[.pointer (some ⟨R1, 0, none⟩)] w (PartPost xh w) from by rw [hxh]; exact now_any _ R1 B1 d1 l1 a1 _ w HX1.out h hk))
        have HC2 := Aside0.mk (fun (w : World) (h : w.heap[R2]? = some (rdr B2 d2 l2 a2)) (hk : (Held2 A1 c1 T1 f1 A2 c2 T2 f2) w) => (show Calls Try.prog 41 #[.pointer (some ⟨R2, 0, none⟩)] w (PartPost yh w) from by rw [hyh]; exact now_any _ R2 B2 d2 l2 a2 _ w HX2.out h hk))
        have HR1L := Aside0.mk (HP.out.lt HJr.out HG1.out)
        have HR2L := Aside0.mk (HP.out.lt HJr.out HG2.out)
        clear hxh hyh hj hg1 hg2 hs1 hs2 he hk0 hq1 hq2 hm1 hm2 hend
        gi_wp2
        refine ⟨trivial, fun h => absurd h (by decide), ?_⟩
        refine (callsIn_wide.2 (HC1.out _ HQ1.out HK0.out)).mono ?_
        rintro e w2 ⟨rfl, hb2⟩
        have HBA := Aside0.mk hb2
        have HJ2 := Aside0.mk (HP.out.below HJr.out hb2)
        clear hb2 x0 x1 y0 y1
        gi_wp2
        refine ⟨trivial, fun h => absurd h (by decide), ?_⟩
        refine (callsIn_wide.2 (HC2.out _ (HP.out.lies _ _ _ HJ2.out _ _ HG2.out) (HK.out _ _ _ HJ2.out))).mono ?_
        rintro e w3 ⟨rfl, hb3⟩
        have HBB := Aside0.mk hb3
        clear hb3
        obtain ⟨w6, hw6⟩ : ∃ w6, w6 = ((w3.alloc (.cells #[.int .i64 xh.f0, .string xh.f1, .int .i64 xh.f2] 43)).alloc (.cells #[.int .i64 yh.f0, .string yh.f1, .int .i64 yh.f2] 43)).alloc (.cells #[.int .i64 0, .string ⟨#[]⟩, .int .i64 0] 43) := ⟨_, rfl⟩
        obtain ⟨B7, hB7⟩ : ∃ b, b = w3.heap.size := ⟨_, rfl⟩
        have hb6 : Below w3.heap.size w3 w6 := by rw [hw6]; exact below_alloc (below_alloc (below_alloc (Below.refl _ _) _) _) _
        have HZ6 := Aside0.mk (show w6.heap.size = B7 + 3 by rw [hw6, hB7]; simp)
        have HV7 := Aside0.mk (show w6.heap[B7]? = some (rcs xh.f0 xh.f1 xh.f2) by rw [hw6, hB7, Own.heap_old _ _ _ (by simp; omega), Own.heap_old _ _ _ (by simp)]; exact Own.heap_new _ _)
        have HV8 := Aside0.mk (show w6.heap[B7 + 1]? = some (rcs yh.f0 yh.f1 yh.f2) by
          rw [hw6, hB7, Own.heap_old _ _ _ (by simp)]
          have := Own.heap_new (w3.alloc (.cells #[.int .i64 xh.f0, .string xh.f1, .int .i64 xh.f2] 43)) (.cells #[.int .i64 yh.f0, .string yh.f1, .int .i64 yh.f2] 43)
          rwa [World.size_alloc] at this)
        have HV9 := Aside0.mk (show w6.heap[B7 + 1 + 1]? = some (rcs 0 E 0) by
          have := Own.heap_new ((w3.alloc (.cells #[.int .i64 xh.f0, .string xh.f1, .int .i64 xh.f2] 43)).alloc (.cells #[.int .i64 yh.f0, .string yh.f1, .int .i64 yh.f2] 43)) (.cells #[.int .i64 0, .string ⟨#[]⟩, .int .i64 0] 43)
          rw [World.size_alloc, World.size_alloc, ← hw6, ← hB7] at this
          exact this)
        have HLT := Aside0.mk (show wr.heap.size ≤ B7 by rw [hB7]; exact Nat.le_trans HBA.out.size HBB.out.size)
        have HJ6 := Aside0.mk (HP.out.below (HP.out.below HJ2.out HBB.out) hb6)
        have HT6 := Aside0.mk ((((But2.refl R1 R2 wr).below HBA.out).below HBB.out).below hb6)
        have H61 := Aside0.mk (HP.out.lies _ _ _ HJ6.out _ _ HG1.out)
        have H62 := Aside0.mk (HP.out.lies _ _ _ HJ6.out _ _ HG2.out)
        have HK6 := Aside0.mk (HK.out _ _ _ HJ6.out)
        have HW6 := Aside0.mk hw6
        have HB7 := Aside0.mk hB7
        clear hb6 hw6 hB7 HC1 HC2 HBA HBB HJ2
        gi_wp2
        refine ⟨trivial, fun h => absurd h (by decide), ?_⟩
        rw [← HW6.out, ← HB7.out]
        refine (callsIn_wide.2 (HCALL.out _ H61.out HK6.out)).mono ?_
        rintro e w7 ⟨rfl, hb7, hr7⟩
        have HT7 := Aside0.mk (HT6.out.first hb7)
        have H71 := Aside0.mk hr7
        have H72 := Aside0.mk ((hb7.block _ (by have := HR2L.out; have := HLT.out; have := HZ6.out; omega) (fun e => HR.out (by injection e with e; exact e.symm))).trans H62.out)
        have H97 := Aside0.mk ((hb7.block _ (by have := HZ6.out; omega) (fun e => by injection e with e; have := HR1L.out; have := HLT.out; omega)).trans HV9.out)
        clear hb7 hr7
        have h9 : w7.heap[B7 + 1 + 1]? = some (rcs 0 E 0) := H97.out
        obtain ⟨w8, hw8⟩ : ∃ w8, w8 = ((w7.setCell ⟨B7 + 1 + 1, 0, none⟩ (.int .i64 xh.f0)).setCell ⟨B7 + 1 + 1, 1, none⟩ (.string xh.f1)).setCell ⟨B7 + 1 + 1, 2, none⟩ (.int .i64 xh.f2) := ⟨_, rfl⟩
        have HT8 := Aside0.mk (show But2 R1 R2 wr w8 by rw [hw8]; exact ((HT7.out.set _ _ _ (by have := HLT.out; omega)).set _ _ _ (by have := HLT.out; omega)).set _ _ _ (by have := HLT.out; omega))
        have n19 : R1 ≠ B7 + 1 + 1 := by have := HR1L.out; have := HLT.out; omega
        have n29 : R2 ≠ B7 + 1 + 1 := by have := HR2L.out; have := HLT.out; omega
        have H81 := Aside0.mk (show w8.heap[R1]? = some (rdr B1' d1' l1' a1') by rw [hw8, Below.heap_setCell _ _ _ _ n19, Below.heap_setCell _ _ _ _ n19, Below.heap_setCell _ _ _ _ n19]; exact H71.out)
        have H82 := Aside0.mk (show w8.heap[R2]? = some (rdr B2 d2 l2 a2) by rw [hw8, Below.heap_setCell _ _ _ _ n29, Below.heap_setCell _ _ _ _ n29, Below.heap_setCell _ _ _ _ n29]; exact H72.out)
        have HJ8 := Aside0.mk (party2 HP.out HJr.out HG1.out HG2.out HT8.out H81.out H82.out)
        obtain ⟨G8, hG8⟩ : ∃ g, g = (G.put R1 (rdr B1' d1' l1' a1')).put R2 (rdr B2 d2 l2 a2) := ⟨_, rfl⟩
        rw [← hG8] at HJ8
        have HG82 := Aside0.mk (show G8 R2 = some (rdr B2 d2 l2 a2) by rw [hG8]; exact Priv.put_same _ _ _)
        have HG81 := Aside0.mk (show G8 R1 = some (rdr B1' d1' l1' a1') by rw [hG8, Priv.put_other _ _ HR.out]; exact Priv.put_same _ _ _)
        obtain ⟨fn, tmps, assign, body, hyy, hR⟩ := HY.out (n - 1) pre xh M' _ _ (by rw [HXE.out]; exact HE.out.symm) HJ8.out
        have HRR := Aside0.mk hR
        unfold enc at hyy
        obtain ⟨q0, q1, q2⟩ := blk_cells h9
        have k0 := frozen_of_row w7 _ 0 _ _ h9
        have k1 := frozen_of_row w7 _ 1 _ _ h9
        have k2 := frozen_of_row w7 _ 2 _ _ h9
        have hz2 : (xh.f2 == 0) = false := by simp; omega
        have HW8 := Aside0.mk hw8
        clear hw8 hG8 hR n19 n29 h9
        gi_wp2
        rw [← HW8.out, hyy]
        gi_wp2
        refine ⟨fun h => absurd h (by decide), ?_⟩
        refine HRR.out.mono ?_
        rintro e w9 (⟨rfl, hj9⟩ | ⟨rfl, hx9⟩)
        · have HJ9 := Aside0.mk hj9
          clear hj9 hyy
          gi_wp2
          go_roundw
          case rel => exact ⟨_, G8, _, _, _, _, _, _, _, _, _, _, _, HJ9.out, HG81.out, HG82.out, HS1'.out, HX2.out, HBO.out, by rw [List.append_assoc, HXE.out]; exact HE.out⟩
          case measure => (rw [lenOf_rdr (HP.out.lies _ _ _ HJ9.out _ _ HG81.out), lenOf_rdr (HP.out.lies _ _ _ HJ9.out _ _ HG82.out), HN.out, HM.out]; have := HLTT.out; omega)
        · have HX9 := Aside0.mk hx9
          clear hx9 hyy
          gi_wp2
          refine bodyPost_ret (results_none rfl _ _ _) rfl ?_
          exact ⟨⟨_, rfl⟩, .inr HX9.out⟩
      · rename_i y X2' M'
        cases X1 with
        | nil =>
          obtain ⟨xh, hxh⟩ : ∃ xh, xh = headL ([] : List Rn) := ⟨_, rfl⟩
          obtain ⟨yh, hyh⟩ : ∃ yh, yh = headL (y :: X2') := ⟨_, rfl⟩
          have hm2p : 0 < m2 := by obtain ⟨x', hd⟩ := hs2.cons; rw [hm2, hd.l]; simp
          have hm10 : m1 = 0 := by rw [hm1, hs1.nil]; rfl
          subst hm10
          have ey : yh = y := hyh
          have HYE := Aside0.mk ey
          have hx0 : xh.f2 = 0 := by rw [hxh]; rfl
          have hx0' : ¬ 0 < xh.f2 := by omega
          clear hx0
          have hq1 : (yh.f1.toList == ([] : List UInt8)) = false := by rw [tl_beq, ey]; simpa using (run_eq2 h2).2.2.1
          have hq2 : ¬ yh.f1.toList = [] := by rw [tl_nil, ey]; exact (run_eq2 h2).2.2.1
          have hq3 : yh.f1.toList.isEmpty = false := List.isEmpty_eq_false_iff.mpr hq2
          obtain ⟨B2', d2', l2', a2', hs2', hlt, hcall⟩ := whole_any _ R2 B2 d2 l2 a2 y X2' hs2
          rw [← ey] at hcall
          have HCALL := Aside0.mk hcall
          have HS2' := Aside0.mk hs2'
          have HBO := Aside0.mk hbo'
          have HLTT := Aside0.mk hlt
          clear hcall hs2' ey hbo' hlt h3 h2

          have HC1 := Aside0.mk (fun (w : World) (h : w.heap[R1]? = some (rdr B1 d1 l1 a1)) (hk : (Held2 A1 c1 T1 f1 A2 c2 T2 f2) w) => (show Calls Try.prog 41 #[.pointer (some ⟨R1, 0, none⟩)] w (PartPost xh w) from by rw [hxh]; exact now_any _ R1 B1 d1 l1 a1 _ w HX1.out h hk))
          have HC2 := Aside0.mk (fun (w : World) (h : w.heap[R2]? = some (rdr B2 d2 l2 a2)) (hk : (Held2 A1 c1 T1 f1 A2 c2 T2 f2) w) => (show Calls Try.prog 41 #[.pointer (some ⟨R2, 0, none⟩)] w (PartPost yh w) from by rw [hyh]; exact now_any _ R2 B2 d2 l2 a2 _ w HX2.out h hk))
          have HR1L := Aside0.mk (HP.out.lt HJr.out HG1.out)
          have HR2L := Aside0.mk (HP.out.lt HJr.out HG2.out)
          clear hxh hyh hj hg1 hg2 hs1 hs2 he hk0 hq1 hq2 hm1 hm2 hend
          gi_wp2
          refine ⟨trivial, fun h => absurd h (by decide), ?_⟩
          refine (callsIn_wide.2 (HC1.out _ HQ1.out HK0.out)).mono ?_
          rintro e w2 ⟨rfl, hb2⟩
          have HBA := Aside0.mk hb2
          have HJ2 := Aside0.mk (HP.out.below HJr.out hb2)
          clear hb2 x0 x1 y0 y1
          gi_wp2
          refine ⟨trivial, fun h => absurd h (by decide), ?_⟩
          refine (callsIn_wide.2 (HC2.out _ (HP.out.lies _ _ _ HJ2.out _ _ HG2.out) (HK.out _ _ _ HJ2.out))).mono ?_
          rintro e w3 ⟨rfl, hb3⟩
          have HBB := Aside0.mk hb3
          clear hb3
          obtain ⟨w6, hw6⟩ : ∃ w6, w6 = ((w3.alloc (.cells #[.int .i64 xh.f0, .string xh.f1, .int .i64 xh.f2] 43)).alloc (.cells #[.int .i64 yh.f0, .string yh.f1, .int .i64 yh.f2] 43)).alloc (.cells #[.int .i64 0, .string ⟨#[]⟩, .int .i64 0] 43) := ⟨_, rfl⟩
          obtain ⟨B7, hB7⟩ : ∃ b, b = w3.heap.size := ⟨_, rfl⟩
          have hb6 : Below w3.heap.size w3 w6 := by rw [hw6]; exact below_alloc (below_alloc (below_alloc (Below.refl _ _) _) _) _
          have HZ6 := Aside0.mk (show w6.heap.size = B7 + 3 by rw [hw6, hB7]; simp)
          have HV7 := Aside0.mk (show w6.heap[B7]? = some (rcs xh.f0 xh.f1 xh.f2) by rw [hw6, hB7, Own.heap_old _ _ _ (by simp; omega), Own.heap_old _ _ _ (by simp)]; exact Own.heap_new _ _)
          have HV8 := Aside0.mk (show w6.heap[B7 + 1]? = some (rcs yh.f0 yh.f1 yh.f2) by
            rw [hw6, hB7, Own.heap_old _ _ _ (by simp)]
            have := Own.heap_new (w3.alloc (.cells #[.int .i64 xh.f0, .string xh.f1, .int .i64 xh.f2] 43)) (.cells #[.int .i64 yh.f0, .string yh.f1, .int .i64 yh.f2] 43)
            rwa [World.size_alloc] at this)
          have HV9 := Aside0.mk (show w6.heap[B7 + 1 + 1]? = some (rcs 0 E 0) by
            have := Own.heap_new ((w3.alloc (.cells #[.int .i64 xh.f0, .string xh.f1, .int .i64 xh.f2] 43)).alloc (.cells #[.int .i64 yh.f0, .string yh.f1, .int .i64 yh.f2] 43)) (.cells #[.int .i64 0, .string ⟨#[]⟩, .int .i64 0] 43)
            rw [World.size_alloc, World.size_alloc, ← hw6, ← hB7] at this
            exact this)
          have HLT := Aside0.mk (show wr.heap.size ≤ B7 by rw [hB7]; exact Nat.le_trans HBA.out.size HBB.out.size)
          have HJ6 := Aside0.mk (HP.out.below (HP.out.below HJ2.out HBB.out) hb6)
          have HT6 := Aside0.mk ((((But2.refl R1 R2 wr).below HBA.out).below HBB.out).below hb6)
          have H61 := Aside0.mk (HP.out.lies _ _ _ HJ6.out _ _ HG1.out)
          have H62 := Aside0.mk (HP.out.lies _ _ _ HJ6.out _ _ HG2.out)
          have HK6 := Aside0.mk (HK.out _ _ _ HJ6.out)
          have HW6 := Aside0.mk hw6
          have HB7 := Aside0.mk hB7
          clear hb6 hw6 hB7 HC1 HC2 HBA HBB HJ2
          gi_wp2

          refine ⟨trivial, fun h => absurd h (by decide), ?_⟩
          rw [← HW6.out, ← HB7.out]
          refine (callsIn_wide.2 (HCALL.out _ H62.out HK6.out)).mono ?_
          rintro e w7 ⟨rfl, hb7, hr7⟩
          have HT7 := Aside0.mk (HT6.out.second hb7)
          have H72 := Aside0.mk hr7
          have H71 := Aside0.mk ((hb7.block _ (by have := HR1L.out; have := HLT.out; have := HZ6.out; omega) (fun e => HR.out (by injection e))).trans H61.out)
          have H97 := Aside0.mk ((hb7.block _ (by have := HZ6.out; omega) (fun e => by injection e with e; have := HR2L.out; have := HLT.out; omega)).trans HV9.out)
          clear hb7 hr7

          have h9 : w7.heap[B7 + 1 + 1]? = some (rcs 0 E 0) := H97.out
          obtain ⟨w8, hw8⟩ : ∃ w8, w8 = ((w7.setCell ⟨B7 + 1 + 1, 0, none⟩ (.int .i64 yh.f0)).setCell ⟨B7 + 1 + 1, 1, none⟩ (.string yh.f1)).setCell ⟨B7 + 1 + 1, 2, none⟩ (.int .i64 yh.f2) := ⟨_, rfl⟩
          have HT8 := Aside0.mk (show But2 R1 R2 wr w8 by rw [hw8]; exact ((HT7.out.set _ _ _ (by have := HLT.out; omega)).set _ _ _ (by have := HLT.out; omega)).set _ _ _ (by have := HLT.out; omega))
          have n19 : R1 ≠ B7 + 1 + 1 := by have := HR1L.out; have := HLT.out; omega
          have n29 : R2 ≠ B7 + 1 + 1 := by have := HR2L.out; have := HLT.out; omega
          have H81 := Aside0.mk (show w8.heap[R1]? = some (rdr B1 d1 l1 a1) by rw [hw8, Below.heap_setCell _ _ _ _ n19, Below.heap_setCell _ _ _ _ n19, Below.heap_setCell _ _ _ _ n19]; exact H71.out)
          have H82 := Aside0.mk (show w8.heap[R2]? = some (rdr B2' d2' l2' a2') by rw [hw8, Below.heap_setCell _ _ _ _ n29, Below.heap_setCell _ _ _ _ n29, Below.heap_setCell _ _ _ _ n29]; exact H72.out)
          have HJ8 := Aside0.mk (party2 HP.out HJr.out HG1.out HG2.out HT8.out H81.out H82.out)
          obtain ⟨G8, hG8⟩ : ∃ g, g = (G.put R1 (rdr B1 d1 l1 a1)).put R2 (rdr B2' d2' l2' a2') := ⟨_, rfl⟩
          rw [← hG8] at HJ8
          have HG82 := Aside0.mk (show G8 R2 = some (rdr B2' d2' l2' a2') by rw [hG8]; exact Priv.put_same _ _ _)
          have HG81 := Aside0.mk (show G8 R1 = some (rdr B1 d1 l1 a1) by rw [hG8, Priv.put_other _ _ HR.out]; exact Priv.put_same _ _ _)
          obtain ⟨fn, tmps, assign, body, hyy, hR⟩ := HY.out (n - 1) pre yh M' _ _ (by rw [HYE.out]; exact HE.out.symm) HJ8.out
          have HRR := Aside0.mk hR
          unfold enc at hyy
          obtain ⟨q0, q1, q2⟩ := blk_cells h9
          have k0 := frozen_of_row w7 _ 0 _ _ h9
          have k1 := frozen_of_row w7 _ 1 _ _ h9
          have k2 := frozen_of_row w7 _ 2 _ _ h9

          have HW8 := Aside0.mk hw8
          clear hw8 hG8 hR n19 n29 h9
          gi_wp2
          rw [← HW8.out, hyy]
          gi_wp2
          refine ⟨fun h => absurd h (by decide), ?_⟩
          refine HRR.out.mono ?_
          rintro e w9 (⟨rfl, hj9⟩ | ⟨rfl, hx9⟩)
          · have HJ9 := Aside0.mk hj9
            clear hj9 hyy
            gi_wp2
            go_roundw
            case rel => exact ⟨_, G8, _, _, _, _, _, _, _, _, _, _, _, HJ9.out, HG81.out, HG82.out, HX1.out, HS2'.out, HBO.out, by rw [List.append_assoc, HYE.out]; exact HE.out⟩
            case measure => (rw [lenOf_rdr (HP.out.lies _ _ _ HJ9.out _ _ HG81.out), lenOf_rdr (HP.out.lies _ _ _ HJ9.out _ _ HG82.out), HN.out, HM.out]; have := HLTT.out; omega)
          · have HX9 := Aside0.mk hx9
            clear hx9 hyy
            gi_wp2
            refine bodyPost_ret (results_none rfl _ _ _) rfl ?_
            exact ⟨⟨_, rfl⟩, .inr HX9.out⟩
        | cons x X1' =>
          obtain ⟨xh, hxh⟩ : ∃ xh, xh = headL (x :: X1') := ⟨_, rfl⟩
          obtain ⟨yh, hyh⟩ : ∃ yh, yh = headL (y :: X2') := ⟨_, rfl⟩
          have hm2p : 0 < m2 := by obtain ⟨x', hd⟩ := hs2.cons; rw [hm2, hd.l]; simp
          have hm1p : 0 < m1 := by obtain ⟨x', hd⟩ := hs1.cons; rw [hm1, hd.l]; simp
          have ey : yh = y := hyh
          have HYE := Aside0.mk ey
          have hx0 : xh.f2 = 0 := by
            have e : xh = x := hxh
            have k := h3 x X1' rfl
            obtain ⟨x', hd⟩ := hs1.cons
            rw [e]
            rcases knd_three (show knd x ≠ 0 by rw [hd.k]; exact hd.fw.k) with c | c | c
            · exact (run_eq c).2.2.2
            · exact (run_eq2 c).2.2.2
            · exact absurd c k
          have hx0' : ¬ 0 < xh.f2 := by omega
          clear hx0
          have hq1 : (yh.f1.toList == ([] : List UInt8)) = false := by rw [tl_beq, ey]; simpa using (run_eq2 h2).2.2.1
          have hq2 : ¬ yh.f1.toList = [] := by rw [tl_nil, ey]; exact (run_eq2 h2).2.2.1
          have hq3 : yh.f1.toList.isEmpty = false := List.isEmpty_eq_false_iff.mpr hq2
          obtain ⟨B2', d2', l2', a2', hs2', hlt, hcall⟩ := whole_any _ R2 B2 d2 l2 a2 y X2' hs2
          rw [← ey] at hcall
          have HCALL := Aside0.mk hcall
          have HS2' := Aside0.mk hs2'
          have HBO := Aside0.mk hbo'
          have HLTT := Aside0.mk hlt
          clear hcall hs2' ey hbo' hlt h3 h2

          have HC1 := Aside0.mk (fun (w : World) (h : w.heap[R1]? = some (rdr B1 d1 l1 a1)) (hk : (Held2 A1 c1 T1 f1 A2 c2 T2 f2) w) => (show Calls Try.prog 41 #[.pointer (some ⟨R1, 0, none⟩)] w (PartPost xh w) from by rw [hxh]; exact now_any _ R1 B1 d1 l1 a1 _ w HX1.out h hk))
          have HC2 := Aside0.mk (fun (w : World) (h : w.heap[R2]? = some (rdr B2 d2 l2 a2)) (hk : (Held2 A1 c1 T1 f1 A2 c2 T2 f2) w) => (show Calls Try.prog 41 #[.pointer (some ⟨R2, 0, none⟩)] w (PartPost yh w) from by rw [hyh]; exact now_any _ R2 B2 d2 l2 a2 _ w HX2.out h hk))
          have HR1L := Aside0.mk (HP.out.lt HJr.out HG1.out)
          have HR2L := Aside0.mk (HP.out.lt HJr.out HG2.out)
          clear hxh hyh hj hg1 hg2 hs1 hs2 he hk0 hq1 hq2 hm1 hm2 hend
          gi_wp2
          refine ⟨trivial, fun h => absurd h (by decide), ?_⟩
          refine (callsIn_wide.2 (HC1.out _ HQ1.out HK0.out)).mono ?_
          rintro e w2 ⟨rfl, hb2⟩
          have HBA := Aside0.mk hb2
          have HJ2 := Aside0.mk (HP.out.below HJr.out hb2)
          clear hb2 x0 x1 y0 y1
          gi_wp2
          refine ⟨trivial, fun h => absurd h (by decide), ?_⟩
          refine (callsIn_wide.2 (HC2.out _ (HP.out.lies _ _ _ HJ2.out _ _ HG2.out) (HK.out _ _ _ HJ2.out))).mono ?_
          rintro e w3 ⟨rfl, hb3⟩
          have HBB := Aside0.mk hb3
          clear hb3
          obtain ⟨w6, hw6⟩ : ∃ w6, w6 = ((w3.alloc (.cells #[.int .i64 xh.f0, .string xh.f1, .int .i64 xh.f2] 43)).alloc (.cells #[.int .i64 yh.f0, .string yh.f1, .int .i64 yh.f2] 43)).alloc (.cells #[.int .i64 0, .string ⟨#[]⟩, .int .i64 0] 43) := ⟨_, rfl⟩
          obtain ⟨B7, hB7⟩ : ∃ b, b = w3.heap.size := ⟨_, rfl⟩
          have hb6 : Below w3.heap.size w3 w6 := by rw [hw6]; exact below_alloc (below_alloc (below_alloc (Below.refl _ _) _) _) _
          have HZ6 := Aside0.mk (show w6.heap.size = B7 + 3 by rw [hw6, hB7]; simp)
          have HV7 := Aside0.mk (show w6.heap[B7]? = some (rcs xh.f0 xh.f1 xh.f2) by rw [hw6, hB7, Own.heap_old _ _ _ (by simp; omega), Own.heap_old _ _ _ (by simp)]; exact Own.heap_new _ _)
          have HV8 := Aside0.mk (show w6.heap[B7 + 1]? = some (rcs yh.f0 yh.f1 yh.f2) by
            rw [hw6, hB7, Own.heap_old _ _ _ (by simp)]
            have := Own.heap_new (w3.alloc (.cells #[.int .i64 xh.f0, .string xh.f1, .int .i64 xh.f2] 43)) (.cells #[.int .i64 yh.f0, .string yh.f1, .int .i64 yh.f2] 43)
            rwa [World.size_alloc] at this)
          have HV9 := Aside0.mk (show w6.heap[B7 + 1 + 1]? = some (rcs 0 E 0) by
            have := Own.heap_new ((w3.alloc (.cells #[.int .i64 xh.f0, .string xh.f1, .int .i64 xh.f2] 43)).alloc (.cells #[.int .i64 yh.f0, .string yh.f1, .int .i64 yh.f2] 43)) (.cells #[.int .i64 0, .string ⟨#[]⟩, .int .i64 0] 43)
            rw [World.size_alloc, World.size_alloc, ← hw6, ← hB7] at this
            exact this)
          have HLT := Aside0.mk (show wr.heap.size ≤ B7 by rw [hB7]; exact Nat.le_trans HBA.out.size HBB.out.size)
          have HJ6 := Aside0.mk (HP.out.below (HP.out.below HJ2.out HBB.out) hb6)
          have HT6 := Aside0.mk ((((But2.refl R1 R2 wr).below HBA.out).below HBB.out).below hb6)
          have H61 := Aside0.mk (HP.out.lies _ _ _ HJ6.out _ _ HG1.out)
          have H62 := Aside0.mk (HP.out.lies _ _ _ HJ6.out _ _ HG2.out)
          have HK6 := Aside0.mk (HK.out _ _ _ HJ6.out)
          have HW6 := Aside0.mk hw6
          have HB7 := Aside0.mk hB7
          clear hb6 hw6 hB7 HC1 HC2 HBA HBB HJ2
          gi_wp2

          refine ⟨trivial, fun h => absurd h (by decide), ?_⟩
          rw [← HW6.out, ← HB7.out]
          refine (callsIn_wide.2 (HCALL.out _ H62.out HK6.out)).mono ?_
          rintro e w7 ⟨rfl, hb7, hr7⟩
          have HT7 := Aside0.mk (HT6.out.second hb7)
          have H72 := Aside0.mk hr7
          have H71 := Aside0.mk ((hb7.block _ (by have := HR1L.out; have := HLT.out; have := HZ6.out; omega) (fun e => HR.out (by injection e))).trans H61.out)
          have H97 := Aside0.mk ((hb7.block _ (by have := HZ6.out; omega) (fun e => by injection e with e; have := HR2L.out; have := HLT.out; omega)).trans HV9.out)
          clear hb7 hr7

          have h9 : w7.heap[B7 + 1 + 1]? = some (rcs 0 E 0) := H97.out
          obtain ⟨w8, hw8⟩ : ∃ w8, w8 = ((w7.setCell ⟨B7 + 1 + 1, 0, none⟩ (.int .i64 yh.f0)).setCell ⟨B7 + 1 + 1, 1, none⟩ (.string yh.f1)).setCell ⟨B7 + 1 + 1, 2, none⟩ (.int .i64 yh.f2) := ⟨_, rfl⟩
          have HT8 := Aside0.mk (show But2 R1 R2 wr w8 by rw [hw8]; exact ((HT7.out.set _ _ _ (by have := HLT.out; omega)).set _ _ _ (by have := HLT.out; omega)).set _ _ _ (by have := HLT.out; omega))
          have n19 : R1 ≠ B7 + 1 + 1 := by have := HR1L.out; have := HLT.out; omega
          have n29 : R2 ≠ B7 + 1 + 1 := by have := HR2L.out; have := HLT.out; omega
          have H81 := Aside0.mk (show w8.heap[R1]? = some (rdr B1 d1 l1 a1) by rw [hw8, Below.heap_setCell _ _ _ _ n19, Below.heap_setCell _ _ _ _ n19, Below.heap_setCell _ _ _ _ n19]; exact H71.out)
          have H82 := Aside0.mk (show w8.heap[R2]? = some (rdr B2' d2' l2' a2') by rw [hw8, Below.heap_setCell _ _ _ _ n29, Below.heap_setCell _ _ _ _ n29, Below.heap_setCell _ _ _ _ n29]; exact H72.out)
          have HJ8 := Aside0.mk (party2 HP.out HJr.out HG1.out HG2.out HT8.out H81.out H82.out)
          obtain ⟨G8, hG8⟩ : ∃ g, g = (G.put R1 (rdr B1 d1 l1 a1)).put R2 (rdr B2' d2' l2' a2') := ⟨_, rfl⟩
          rw [← hG8] at HJ8
          have HG82 := Aside0.mk (show G8 R2 = some (rdr B2' d2' l2' a2') by rw [hG8]; exact Priv.put_same _ _ _)
          have HG81 := Aside0.mk (show G8 R1 = some (rdr B1 d1 l1 a1) by rw [hG8, Priv.put_other _ _ HR.out]; exact Priv.put_same _ _ _)
          obtain ⟨fn, tmps, assign, body, hyy, hR⟩ := HY.out (n - 1) pre yh M' _ _ (by rw [HYE.out]; exact HE.out.symm) HJ8.out
          have HRR := Aside0.mk hR
          unfold enc at hyy
          obtain ⟨q0, q1, q2⟩ := blk_cells h9
          have k0 := frozen_of_row w7 _ 0 _ _ h9
          have k1 := frozen_of_row w7 _ 1 _ _ h9
          have k2 := frozen_of_row w7 _ 2 _ _ h9

          have HW8 := Aside0.mk hw8
          clear hw8 hG8 hR n19 n29 h9
          gi_wp2
          rw [← HW8.out, hyy]
          gi_wp2
          refine ⟨fun h => absurd h (by decide), ?_⟩
          refine HRR.out.mono ?_
          rintro e w9 (⟨rfl, hj9⟩ | ⟨rfl, hx9⟩)
          · have HJ9 := Aside0.mk hj9
            clear hj9 hyy
            gi_wp2
            go_roundw
            case rel => exact ⟨_, G8, _, _, _, _, _, _, _, _, _, _, _, HJ9.out, HG81.out, HG82.out, HX1.out, HS2'.out, HBO.out, by rw [List.append_assoc, HYE.out]; exact HE.out⟩
            case measure => (rw [lenOf_rdr (HP.out.lies _ _ _ HJ9.out _ _ HG81.out), lenOf_rdr (HP.out.lies _ _ _ HJ9.out _ _ HG82.out), HN.out, HM.out]; have := HLTT.out; omega)
          · have HX9 := Aside0.mk hx9
            clear hx9 hyy
            gi_wp2
            refine bodyPost_ret (results_none rfl _ _ _) rfl ?_
            exact ⟨⟨_, rfl⟩, .inr HX9.out⟩
      · rename_i x X1' y X2' M'
        rcases hx with cx | cx
        · rcases hy with cy | cy
          · skip
            obtain ⟨xh, hxh⟩ : ∃ xh, xh = headL (x :: X1') := ⟨_, rfl⟩
            obtain ⟨yh, hyh⟩ : ∃ yh, yh = headL (y :: X2') := ⟨_, rfl⟩
            obtain ⟨x', hdx⟩ := hs1.cons
            obtain ⟨y', hdy⟩ := hs2.cons
            have hm1p : 0 < m1 := by rw [hm1, hdx.l]; simp
            have ex : xh = x := hxh
            have ey : yh = y := hyh
            have fx := hdx.fwh
            have fy := hdy.fwh
            have kx0 : knd x ≠ 0 := fx.k
            have ky0 : knd y ≠ 0 := fy.k
            have hx0 : xh.f2 = 0 := by rw [ex]; exact (run_eq cx).2.2.2
            have hx0' : ¬ 0 < xh.f2 := by omega
            clear hx0
            have hy1 : (yh.f1.toList == ([] : List UInt8)) = true := by rw [tl_beq, ey, (run_eq cy).2.2.1]; rfl
            have hy1' : yh.f1.toList = [] := tl_nil.2 (by rw [ey, (run_eq cy).2.2.1]; rfl)
            obtain ⟨n1_, n2_, n3_⟩ := mn2_le (sz x) (sz y)
            have n0_ := n3_ (sz_pos kx0) (sz_pos ky0)
            obtain ⟨n_, hn_⟩ : ∃ n_, n_ = mn2 (sz x) (sz y) := ⟨_, rfl⟩
            have hor : n_ = sz x ∨ n_ = sz y := by rw [hn_]; unfold mn2; split; exact .inr rfl; exact .inl rfl
            rw [← hn_] at n1_ n2_ n0_ hbo'
            obtain ⟨p, hp⟩ : ∃ p, p = ComposeL.part x 0 n_ := ⟨_, rfl⟩
            obtain ⟨q, hq⟩ : ∃ q, q = ComposeL.part y 0 n_ := ⟨_, rfl⟩
            have hp0 : 0 < p.f0 := by rw [hp, part_keep cx]; show 0 < n_ - 0; omega
            have hpz : (p.f0 == 0) = false := by simp; omega
            have hq0 : 0 < q.f0 := by rw [hq, part_keep cy]; show 0 < n_ - 0; omega
            have HMID := Aside0.mk (show mid x y n_ = [p] from by unfold mid; rw [if_pos cy, hp])
            obtain ⟨B1', d1', l1', a1', hs1', hle1, hlt1, hcall1⟩ := take_any _ R1 B1 d1 l1 a1 x X1' hs1 n_ n0_ n1_
            obtain ⟨B2', d2', l2', a2', hs2', hle2, hlt2, hcall2⟩ := take_any _ R2 B2 d2 l2 a2 y X2' hs2 n_ n0_ n2_
            rw [← hp] at hcall1
            rw [← hq] at hcall2
            have HC1' := Aside0.mk hcall1
            have HC2' := Aside0.mk hcall2
            have HS1' := Aside0.mk hs1'
            have HS2' := Aside0.mk hs2'
            have HBO := Aside0.mk hbo'
            have HLTT := Aside0.mk (show l1'.length + l2'.length < l1.length + l2.length by rcases hor with e | e; (have := hlt1 e; omega); (have := hlt2 e; omega))
            have HSX := Aside0.mk (size_c xh (by rw [ex]; exact ⟨⟨fx.a0, fx.a⟩, fx.s, fx.d0, fx.d⟩))
            have HSY := Aside0.mk (size_c yh (by rw [ey]; exact ⟨⟨fy.a0, fy.a⟩, fy.s, fy.d0, fy.d⟩))
            unfold rv at HSX HSY
            have HNN := Aside0.mk (show mn2 (sz xh) (sz yh) = n_ by rw [hn_, ex, ey])
            have HE' := Aside0.mk (show pre ++ (mid x y n_ ++ M') = L by rw [hn_]; exact he)
            clear hcall1 hcall2 hs1' hs2' hbo' hle1 hle2 hlt1 hlt2 hp hq fx fy kx0 ky0 hdx hdy hor n1_ n2_ n3_ n0_ ex ey hn_ cx cy HE

            have HC1 := Aside0.mk (fun (w : World) (h : w.heap[R1]? = some (rdr B1 d1 l1 a1)) (hk : (Held2 A1 c1 T1 f1 A2 c2 T2 f2) w) => (show Calls Try.prog 41 #[.pointer (some ⟨R1, 0, none⟩)] w (PartPost xh w) from by rw [hxh]; exact now_any _ R1 B1 d1 l1 a1 _ w HX1.out h hk))
            have HC2 := Aside0.mk (fun (w : World) (h : w.heap[R2]? = some (rdr B2 d2 l2 a2)) (hk : (Held2 A1 c1 T1 f1 A2 c2 T2 f2) w) => (show Calls Try.prog 41 #[.pointer (some ⟨R2, 0, none⟩)] w (PartPost yh w) from by rw [hyh]; exact now_any _ R2 B2 d2 l2 a2 _ w HX2.out h hk))
            have HR1L := Aside0.mk (HP.out.lt HJr.out HG1.out)
            have HR2L := Aside0.mk (HP.out.lt HJr.out HG2.out)
            clear hxh hyh hj hg1 hg2 hs1 hs2 he hk0 hq1 hq2 hm1 hm2 hend
            gi_wp2
            refine ⟨trivial, fun h => absurd h (by decide), ?_⟩
            refine (callsIn_wide.2 (HC1.out _ HQ1.out HK0.out)).mono ?_
            rintro e w2 ⟨rfl, hb2⟩
            have HBA := Aside0.mk hb2
            have HJ2 := Aside0.mk (HP.out.below HJr.out hb2)
            clear hb2 x0 x1 y0 y1
            gi_wp2
            refine ⟨trivial, fun h => absurd h (by decide), ?_⟩
            refine (callsIn_wide.2 (HC2.out _ (HP.out.lies _ _ _ HJ2.out _ _ HG2.out) (HK.out _ _ _ HJ2.out))).mono ?_
            rintro e w3 ⟨rfl, hb3⟩
            have HBB := Aside0.mk hb3
            clear hb3
            obtain ⟨w6, hw6⟩ : ∃ w6, w6 = ((w3.alloc (.cells #[.int .i64 xh.f0, .string xh.f1, .int .i64 xh.f2] 43)).alloc (.cells #[.int .i64 yh.f0, .string yh.f1, .int .i64 yh.f2] 43)).alloc (.cells #[.int .i64 0, .string ⟨#[]⟩, .int .i64 0] 43) := ⟨_, rfl⟩
            obtain ⟨B7, hB7⟩ : ∃ b, b = w3.heap.size := ⟨_, rfl⟩
            have hb6 : Below w3.heap.size w3 w6 := by rw [hw6]; exact below_alloc (below_alloc (below_alloc (Below.refl _ _) _) _) _
            have HZ6 := Aside0.mk (show w6.heap.size = B7 + 3 by rw [hw6, hB7]; simp)
            have HV7 := Aside0.mk (show w6.heap[B7]? = some (rcs xh.f0 xh.f1 xh.f2) by rw [hw6, hB7, Own.heap_old _ _ _ (by simp; omega), Own.heap_old _ _ _ (by simp)]; exact Own.heap_new _ _)
            have HV8 := Aside0.mk (show w6.heap[B7 + 1]? = some (rcs yh.f0 yh.f1 yh.f2) by
              rw [hw6, hB7, Own.heap_old _ _ _ (by simp)]
              have := Own.heap_new (w3.alloc (.cells #[.int .i64 xh.f0, .string xh.f1, .int .i64 xh.f2] 43)) (.cells #[.int .i64 yh.f0, .string yh.f1, .int .i64 yh.f2] 43)
              rwa [World.size_alloc] at this)
            have HV9 := Aside0.mk (show w6.heap[B7 + 1 + 1]? = some (rcs 0 E 0) by
              have := Own.heap_new ((w3.alloc (.cells #[.int .i64 xh.f0, .string xh.f1, .int .i64 xh.f2] 43)).alloc (.cells #[.int .i64 yh.f0, .string yh.f1, .int .i64 yh.f2] 43)) (.cells #[.int .i64 0, .string ⟨#[]⟩, .int .i64 0] 43)
              rw [World.size_alloc, World.size_alloc, ← hw6, ← hB7] at this
              exact this)
            have HLT := Aside0.mk (show wr.heap.size ≤ B7 by rw [hB7]; exact Nat.le_trans HBA.out.size HBB.out.size)
            have HJ6 := Aside0.mk (HP.out.below (HP.out.below HJ2.out HBB.out) hb6)
            have HT6 := Aside0.mk ((((But2.refl R1 R2 wr).below HBA.out).below HBB.out).below hb6)
            have H61 := Aside0.mk (HP.out.lies _ _ _ HJ6.out _ _ HG1.out)
            have H62 := Aside0.mk (HP.out.lies _ _ _ HJ6.out _ _ HG2.out)
            have HK6 := Aside0.mk (HK.out _ _ _ HJ6.out)
            have HW6 := Aside0.mk hw6
            have HB7 := Aside0.mk hB7
            clear hb6 hw6 hB7 HC1 HC2 HBA HBB HJ2
            gi_wp2

            rw [← HW6.out, ← HB7.out]
            refine wpIn_wide.2 ?_
            have HA := Aside0.mk (Below.refl w6.heap.size w6)
            refine start_ (n := 6) (S := fun w' => True) (ds := []) #[false, false, false, false, false, false] (by kernel_rfl) rfl rfl trivial (fun hHeld => ?_); refine with_tabW ComposeI.tab5 ComposeI.bits5 (fun HT_ HW_ => ?_)
            refine inv_at [0, 1, 2, 3, 4, 5] (fun a0_ b a w' => a = putSel a0_ b [(0, 37, (.agg #[.int .i64 xh.f0, .string xh.f1, .int .i64 xh.f2])), (1, 38, (.int .i64 (sz xh))), (2, 39, (.agg #[.int .i64 yh.f0, .string yh.f1, .int .i64 yh.f2])), (3, 40, (.int .i64 (sz yh))), (4, 41, (.int .i64 (mn2 (sz xh) (sz yh)))), (5, 10, (.int .i64 (mn2 (sz xh) (sz yh))))] ∧ (Below w6.heap.size w6 w')) HT_.out HW_.out (by kernel_rfl) (by kernel_rfl) ?_ ?_ ?_
            · exact ⟨by simp only [putSel, Bool.false_eq_true, if_false], below_drew1 (Below.refl _ _)⟩
            · skip
              clear HA
              refine steps_cons ?_ ?_
              · rintro b a w' ⟨ha, Q_HA⟩ hb_ hon hoff
                refine ⟨_, rfl, fun K hK => ?_⟩
                have e7 : a.tmps[7]? = some ((.pointer (some ⟨B7, 0, none⟩))) := by rw [ha]; exact (putSel_off rfl).trans rfl
                replace ha := Aside0.mk ha
                have HA := Aside0.mk Q_HA
                obtain ⟨q0_, q1_, q2_⟩ := blk_cells ((HA.out.block B7 (by have := HZ6.out; omega)).trans HV7.out)
                refine value_ (w1 := w') (v := (.agg #[.int .i64 xh.f0, .string xh.f1, .int .i64 xh.f2])) (by rfl) rfl ?_ ?_
                · go_simp
                  (try simp only [i64_w])
                  try rfl
                refine hK.out _ _ ⟨(by rw [ha.out]; exact putSel_upk 0 hb_ rfl rfl rfl), Q_HA⟩
              refine steps_cons ?_ ?_
              · rintro b a w' ⟨ha, Q_HA⟩ hb_ hon hoff
                refine ⟨_, rfl, fun K hK => ?_⟩
                have e37 : a.tmps[37]? = some ((.agg #[.int .i64 xh.f0, .string xh.f1, .int .i64 xh.f2])) := by rw [ha]; exact putSel_on (e := (0, 37, (.agg #[.int .i64 xh.f0, .string xh.f1, .int .i64 xh.f2]))) 0 rfl rfl (hon 0 (by kernel_rfl)) rfl
                replace ha := Aside0.mk ha
                have HA := Aside0.mk Q_HA
                refine goes_ Try.func40 (by kernel_rfl) rfl #[.agg #[.int .i64 xh.f0, .string xh.f1, .int .i64 xh.f2]] (by rfl) rfl rfl (by first | (simp only [List.map_toArray, List.map_cons, List.map_nil, Act.eval, Array.getD_eq_getD_getElem?, Option.getD_some, e37]; done) | (simp only [List.map_toArray, List.map_cons, List.map_nil, Act.eval, Array.getD_eq_getD_getElem?, Option.getD_some, e37]; rfl)) ?_
                refine (HSX.out _).mono ?_
                rintro e w1_ ⟨rfl, hb⟩
                refine ⟨_, rfl, ?_⟩
                refine hK.out _ _ ⟨(by rw [ha.out]; exact putSel_upk 1 hb_ rfl rfl rfl), below_step HA.out hb⟩
              refine steps_cons ?_ ?_
              · rintro b a w' ⟨ha, Q_HA⟩ hb_ hon hoff
                refine ⟨_, rfl, fun K hK => ?_⟩
                have e8 : a.tmps[8]? = some ((.pointer (some ⟨B7 + 1, 0, none⟩))) := by rw [ha]; exact (putSel_off rfl).trans rfl
                replace ha := Aside0.mk ha
                have HA := Aside0.mk Q_HA
                obtain ⟨q0_, q1_, q2_⟩ := blk_cells ((HA.out.block (B7 + 1) (by have := HZ6.out; omega)).trans HV8.out)
                refine value_ (w1 := w') (v := (.agg #[.int .i64 yh.f0, .string yh.f1, .int .i64 yh.f2])) (by rfl) rfl ?_ ?_
                · go_simp
                  (try simp only [i64_w])
                  try rfl
                refine hK.out _ _ ⟨(by rw [ha.out]; exact putSel_upk 2 hb_ rfl rfl rfl), Q_HA⟩
              refine steps_cons ?_ ?_
              · rintro b a w' ⟨ha, Q_HA⟩ hb_ hon hoff
                refine ⟨_, rfl, fun K hK => ?_⟩
                have e39 : a.tmps[39]? = some ((.agg #[.int .i64 yh.f0, .string yh.f1, .int .i64 yh.f2])) := by rw [ha]; exact putSel_on (e := (2, 39, (.agg #[.int .i64 yh.f0, .string yh.f1, .int .i64 yh.f2]))) 2 rfl rfl (hon 2 (by kernel_rfl)) rfl
                replace ha := Aside0.mk ha
                have HA := Aside0.mk Q_HA
                refine goes_ Try.func40 (by kernel_rfl) rfl #[.agg #[.int .i64 yh.f0, .string yh.f1, .int .i64 yh.f2]] (by rfl) rfl rfl (by first | (simp only [List.map_toArray, List.map_cons, List.map_nil, Act.eval, Array.getD_eq_getD_getElem?, Option.getD_some, e39]; done) | (simp only [List.map_toArray, List.map_cons, List.map_nil, Act.eval, Array.getD_eq_getD_getElem?, Option.getD_some, e39]; rfl)) ?_
                refine (HSY.out _).mono ?_
                rintro e w1_ ⟨rfl, hb⟩
                refine ⟨_, rfl, ?_⟩
                refine hK.out _ _ ⟨(by rw [ha.out]; exact putSel_upk 3 hb_ rfl rfl rfl), below_step HA.out hb⟩
              refine steps_cons ?_ ?_
              · rintro b a w' ⟨ha, Q_HA⟩ hb_ hon hoff
                refine ⟨_, rfl, fun K hK => ?_⟩
                have e38 : a.tmps[38]? = some ((.int .i64 (sz xh))) := by rw [ha]; exact putSel_on (e := (1, 38, (.int .i64 (sz xh)))) 1 rfl rfl (hon 1 (by kernel_rfl)) rfl
                have e40 : a.tmps[40]? = some ((.int .i64 (sz yh))) := by rw [ha]; exact putSel_on (e := (3, 40, (.int .i64 (sz yh)))) 3 rfl rfl (hon 3 (by kernel_rfl)) rfl
                replace ha := Aside0.mk ha
                have HA := Aside0.mk Q_HA
                refine value_ (w1 := w') (v := (.int .i64 (mn2 (sz xh) (sz yh)))) (by rfl) rfl ?_ ?_
                · go_simp
                  (try simp only [i64_w])
                  try rfl
                refine hK.out _ _ ⟨(by rw [ha.out]; exact putSel_upk 4 hb_ rfl rfl rfl), Q_HA⟩
              refine steps_cons ?_ ?_
              · rintro b a w' ⟨ha, Q_HA⟩ hb_ hon hoff
                refine ⟨_, rfl, fun K hK => ?_⟩
                have e41 : a.tmps[41]? = some ((.int .i64 (mn2 (sz xh) (sz yh)))) := by rw [ha]; exact putSel_on (e := (4, 41, (.int .i64 (mn2 (sz xh) (sz yh))))) 4 rfl rfl (hon 4 (by kernel_rfl)) rfl
                replace ha := Aside0.mk ha
                have HA := Aside0.mk Q_HA
                refine value_ (w1 := w') (v := (.int .i64 (mn2 (sz xh) (sz yh)))) (by rfl) rfl ?_ ?_
                · go_simp
                  (try simp only [i64_w])
                  try rfl
                refine hK.out _ _ ⟨(by rw [ha.out]; exact putSel_upk 5 hb_ rfl rfl rfl), Q_HA⟩
              exact steps_nil
            rintro b a we hall ⟨ha, Q_HA⟩
            clear HA
            have hb0_ := hall 0 (by kernel_rfl)
            have hb1_ := hall 1 (by kernel_rfl)
            have hb2_ := hall 2 (by kernel_rfl)
            have hb3_ := hall 3 (by kernel_rfl)
            have hb4_ := hall 4 (by kernel_rfl)
            have hb5_ := hall 5 (by kernel_rfl)
            subst ha
            simp only [putSel, hb0_, hb1_, hb2_, hb3_, hb4_, hb5_, if_true, Act.put, List.setIfInBounds_toArray, List.set_cons_zero, List.set_cons_succ]
            have HA := Aside0.mk Q_HA
            clear Q_HA
            clear hall hb0_ hb1_ hb2_ hb3_ hb4_ hb5_
            rw [HNN.out]
            have HJe := Aside0.mk (HP.out.below HJ6.out HA.out)
            have HTe := Aside0.mk (HT6.out.below HA.out)
            have HVe9 := Aside0.mk ((HA.out.block _ (by have := HZ6.out; omega)).trans HV9.out)
            have HZe := Aside0.mk (show B7 + 3 ≤ we.heap.size by have := HZ6.out; have := HA.out.size; omega)
            clear HA
            gi_wp2
            refine ⟨trivial, fun h => absurd h (by decide), ?_⟩
            refine (callsIn_wide.2 (HC1'.out _ (HP.out.lies _ _ _ HJe.out _ _ HG1.out) (HK.out _ _ _ HJe.out))).mono ?_
            rintro e wa ⟨rfl, hba, hra⟩
            have HTa := Aside0.mk (HTe.out.first hba)
            have Ha1 := Aside0.mk hra
            have Ha2 := Aside0.mk ((hba.block _ (by have := HR2L.out; have := HLT.out; have := HZe.out; omega) (fun e => HR.out (by injection e with e; exact e.symm))).trans (HP.out.lies _ _ _ HJe.out _ _ HG2.out))
            have Ha9 := Aside0.mk ((hba.block _ (by have := HZe.out; omega) (fun e => by injection e with e; have := HR1L.out; have := HLT.out; omega)).trans HVe9.out)
            have HZa := Aside0.mk (show B7 + 3 ≤ wa.heap.size from Nat.le_trans HZe.out hba.size)
            have HJa := Aside0.mk (party2 HP.out HJr.out HG1.out HG2.out HTa.out Ha1.out Ha2.out)
            clear hba hra
            gi_wp2
            refine ⟨trivial, fun h => absurd h (by decide), ?_⟩
            refine (callsIn_wide.2 (HC2'.out _ Ha2.out (HK.out _ _ _ HJa.out))).mono ?_
            rintro e wb ⟨rfl, hbb, hrb⟩
            have HTb := Aside0.mk (HTa.out.second hbb)
            have Hb1 := Aside0.mk ((hbb.block _ (by have := HR1L.out; have := HLT.out; have := HZa.out; omega) (fun e => HR.out (by injection e))).trans Ha1.out)
            have Hb2 := Aside0.mk hrb
            have Hb9 := Aside0.mk ((hbb.block _ (by have := HZa.out; omega) (fun e => by injection e with e; have := HR2L.out; have := HLT.out; omega)).trans Ha9.out)
            clear hbb hrb
            obtain ⟨w7, hw7⟩ : ∃ w7, w7 = (wb.alloc (.cells #[.int .i64 p.f0, .string p.f1, .int .i64 p.f2] 43)).alloc (.cells #[.int .i64 q.f0, .string q.f1, .int .i64 q.f2] 43) := ⟨_, rfl⟩
            have hb7 : Below wb.heap.size wb w7 := by rw [hw7]; exact below_alloc (below_alloc (Below.refl _ _) _) _
            have lt7 : ∀ {k : Nat} {o : Obj}, wb.heap[k]? = some o → w7.heap[k]? = some o := fun hk => (hb7.block _ (Array.getElem?_eq_some_iff.1 hk).1).trans hk
            have HT7 := Aside0.mk (HTb.out.below hb7)
            have H71 := Aside0.mk (lt7 Hb1.out)
            have H72 := Aside0.mk (lt7 Hb2.out)
            have H97 := Aside0.mk (lt7 Hb9.out)
            have HW7 := Aside0.mk hw7
            clear hb7 lt7

            have h9 : w7.heap[B7 + 1 + 1]? = some (rcs 0 E 0) := H97.out
            obtain ⟨w8, hw8⟩ : ∃ w8, w8 = ((w7.setCell ⟨B7 + 1 + 1, 0, none⟩ (.int .i64 p.f0)).setCell ⟨B7 + 1 + 1, 1, none⟩ (.string p.f1)).setCell ⟨B7 + 1 + 1, 2, none⟩ (.int .i64 p.f2) := ⟨_, rfl⟩
            have HT8 := Aside0.mk (show But2 R1 R2 wr w8 by rw [hw8]; exact ((HT7.out.set _ _ _ (by have := HLT.out; omega)).set _ _ _ (by have := HLT.out; omega)).set _ _ _ (by have := HLT.out; omega))
            have n19 : R1 ≠ B7 + 1 + 1 := by have := HR1L.out; have := HLT.out; omega
            have n29 : R2 ≠ B7 + 1 + 1 := by have := HR2L.out; have := HLT.out; omega
            have H81 := Aside0.mk (show w8.heap[R1]? = some (rdr B1' d1' l1' a1') by rw [hw8, Below.heap_setCell _ _ _ _ n19, Below.heap_setCell _ _ _ _ n19, Below.heap_setCell _ _ _ _ n19]; exact H71.out)
            have H82 := Aside0.mk (show w8.heap[R2]? = some (rdr B2' d2' l2' a2') by rw [hw8, Below.heap_setCell _ _ _ _ n29, Below.heap_setCell _ _ _ _ n29, Below.heap_setCell _ _ _ _ n29]; exact H72.out)
            have HJ8 := Aside0.mk (party2 HP.out HJr.out HG1.out HG2.out HT8.out H81.out H82.out)
            obtain ⟨G8, hG8⟩ : ∃ g, g = (G.put R1 (rdr B1' d1' l1' a1')).put R2 (rdr B2' d2' l2' a2') := ⟨_, rfl⟩
            rw [← hG8] at HJ8
            have HG82 := Aside0.mk (show G8 R2 = some (rdr B2' d2' l2' a2') by rw [hG8]; exact Priv.put_same _ _ _)
            have HG81 := Aside0.mk (show G8 R1 = some (rdr B1' d1' l1' a1') by rw [hG8, Priv.put_other _ _ HR.out]; exact Priv.put_same _ _ _)
            obtain ⟨fn, tmps, assign, body, hyy, hR⟩ := HY.out (n - 1) pre p M' _ _ (by have := HE'.out; rw [HMID.out] at this; exact this.symm) HJ8.out
            have HRR := Aside0.mk hR
            unfold enc at hyy
            obtain ⟨q0, q1, q2⟩ := blk_cells h9
            have k0 := frozen_of_row w7 _ 0 _ _ h9
            have k1 := frozen_of_row w7 _ 1 _ _ h9
            have k2 := frozen_of_row w7 _ 2 _ _ h9
            rw [hw7] at q0 q1 q2 k0 k1 k2

            have HW8 := Aside0.mk hw8
            clear hw8 hG8 hR n19 n29 h9
            gi_wp2
            rw [← HW7.out, ← HW8.out, hyy]
            gi_wp2
            refine ⟨fun h => absurd h (by decide), ?_⟩
            refine HRR.out.mono ?_
            rintro e w9 (⟨rfl, hj9⟩ | ⟨rfl, hx9⟩)
            · have HJ9 := Aside0.mk hj9
              clear hj9 hyy
              gi_wp2
              go_roundw
              case rel => exact ⟨_, G8, _, _, _, _, _, _, _, _, _, _, _, HJ9.out, HG81.out, HG82.out, HS1'.out, HS2'.out, HBO.out, by have := HE'.out; rw [HMID.out] at this; rw [List.append_assoc]; exact this⟩
              case measure => (rw [lenOf_rdr (HP.out.lies _ _ _ HJ9.out _ _ HG81.out), lenOf_rdr (HP.out.lies _ _ _ HJ9.out _ _ HG82.out), HN.out, HM.out]; have := HLTT.out; omega)
            · have HX9 := Aside0.mk hx9
              clear hx9 hyy
              gi_wp2
              refine bodyPost_ret (results_none rfl _ _ _) rfl ?_
              exact ⟨⟨_, rfl⟩, .inr HX9.out⟩
          · skip
            obtain ⟨xh, hxh⟩ : ∃ xh, xh = headL (x :: X1') := ⟨_, rfl⟩
            obtain ⟨yh, hyh⟩ : ∃ yh, yh = headL (y :: X2') := ⟨_, rfl⟩
            obtain ⟨x', hdx⟩ := hs1.cons
            obtain ⟨y', hdy⟩ := hs2.cons
            have hm1p : 0 < m1 := by rw [hm1, hdx.l]; simp
            have ex : xh = x := hxh
            have ey : yh = y := hyh
            have fx := hdx.fwh
            have fy := hdy.fwh
            have kx0 : knd x ≠ 0 := fx.k
            have ky0 : knd y ≠ 0 := fy.k
            have hx0 : xh.f2 = 0 := by rw [ex]; exact (run_eq cx).2.2.2
            have hx0' : ¬ 0 < xh.f2 := by omega
            clear hx0
            have hy1 : (yh.f1.toList == ([] : List UInt8)) = true := by rw [tl_beq, ey, (run_eq3 cy).2.2.1]; rfl
            have hy1' : yh.f1.toList = [] := tl_nil.2 (by rw [ey, (run_eq3 cy).2.2.1]; rfl)
            obtain ⟨n1_, n2_, n3_⟩ := mn2_le (sz x) (sz y)
            have n0_ := n3_ (sz_pos kx0) (sz_pos ky0)
            obtain ⟨n_, hn_⟩ : ∃ n_, n_ = mn2 (sz x) (sz y) := ⟨_, rfl⟩
            have hor : n_ = sz x ∨ n_ = sz y := by rw [hn_]; unfold mn2; split; exact .inr rfl; exact .inl rfl
            rw [← hn_] at n1_ n2_ n0_ hbo'
            obtain ⟨p, hp⟩ : ∃ p, p = ComposeL.part x 0 n_ := ⟨_, rfl⟩
            obtain ⟨q, hq⟩ : ∃ q, q = ComposeL.part y 0 n_ := ⟨_, rfl⟩
            have hp0 : 0 < p.f0 := by rw [hp, part_keep cx]; show 0 < n_ - 0; omega
            have hpz : (p.f0 == 0) = false := by simp; omega
            have hq0 : q.f0 = 0 := by rw [hq, part_drop cy]
            have hq0' : ¬ 0 < q.f0 := by omega
            clear hq0
            have hqz : (q.f2 == 0) = false := by rw [hq, part_drop cy]; simp; omega
            have HMID := Aside0.mk (show mid x y n_ = [q] from by unfold mid; rw [if_neg (by rw [cy]; decide), if_pos cx, hq])
            obtain ⟨B1', d1', l1', a1', hs1', hle1, hlt1, hcall1⟩ := take_any _ R1 B1 d1 l1 a1 x X1' hs1 n_ n0_ n1_
            obtain ⟨B2', d2', l2', a2', hs2', hle2, hlt2, hcall2⟩ := take_any _ R2 B2 d2 l2 a2 y X2' hs2 n_ n0_ n2_
            rw [← hp] at hcall1
            rw [← hq] at hcall2
            have HC1' := Aside0.mk hcall1
            have HC2' := Aside0.mk hcall2
            have HS1' := Aside0.mk hs1'
            have HS2' := Aside0.mk hs2'
            have HBO := Aside0.mk hbo'
            have HLTT := Aside0.mk (show l1'.length + l2'.length < l1.length + l2.length by rcases hor with e | e; (have := hlt1 e; omega); (have := hlt2 e; omega))
            have HSX := Aside0.mk (size_c xh (by rw [ex]; exact ⟨⟨fx.a0, fx.a⟩, fx.s, fx.d0, fx.d⟩))
            have HSY := Aside0.mk (size_c yh (by rw [ey]; exact ⟨⟨fy.a0, fy.a⟩, fy.s, fy.d0, fy.d⟩))
            unfold rv at HSX HSY
            have HNN := Aside0.mk (show mn2 (sz xh) (sz yh) = n_ by rw [hn_, ex, ey])
            have HE' := Aside0.mk (show pre ++ (mid x y n_ ++ M') = L by rw [hn_]; exact he)
            clear hcall1 hcall2 hs1' hs2' hbo' hle1 hle2 hlt1 hlt2 hp hq fx fy kx0 ky0 hdx hdy hor n1_ n2_ n3_ n0_ ex ey hn_ cx cy HE

            have HC1 := Aside0.mk (fun (w : World) (h : w.heap[R1]? = some (rdr B1 d1 l1 a1)) (hk : (Held2 A1 c1 T1 f1 A2 c2 T2 f2) w) => (show Calls Try.prog 41 #[.pointer (some ⟨R1, 0, none⟩)] w (PartPost xh w) from by rw [hxh]; exact now_any _ R1 B1 d1 l1 a1 _ w HX1.out h hk))
            have HC2 := Aside0.mk (fun (w : World) (h : w.heap[R2]? = some (rdr B2 d2 l2 a2)) (hk : (Held2 A1 c1 T1 f1 A2 c2 T2 f2) w) => (show Calls Try.prog 41 #[.pointer (some ⟨R2, 0, none⟩)] w (PartPost yh w) from by rw [hyh]; exact now_any _ R2 B2 d2 l2 a2 _ w HX2.out h hk))
            have HR1L := Aside0.mk (HP.out.lt HJr.out HG1.out)
            have HR2L := Aside0.mk (HP.out.lt HJr.out HG2.out)
            clear hxh hyh hj hg1 hg2 hs1 hs2 he hk0 hq1 hq2 hm1 hm2 hend
            gi_wp2
            refine ⟨trivial, fun h => absurd h (by decide), ?_⟩
            refine (callsIn_wide.2 (HC1.out _ HQ1.out HK0.out)).mono ?_
            rintro e w2 ⟨rfl, hb2⟩
            have HBA := Aside0.mk hb2
            have HJ2 := Aside0.mk (HP.out.below HJr.out hb2)
            clear hb2 x0 x1 y0 y1
            gi_wp2
            refine ⟨trivial, fun h => absurd h (by decide), ?_⟩
            refine (callsIn_wide.2 (HC2.out _ (HP.out.lies _ _ _ HJ2.out _ _ HG2.out) (HK.out _ _ _ HJ2.out))).mono ?_
            rintro e w3 ⟨rfl, hb3⟩
            have HBB := Aside0.mk hb3
            clear hb3
            obtain ⟨w6, hw6⟩ : ∃ w6, w6 = ((w3.alloc (.cells #[.int .i64 xh.f0, .string xh.f1, .int .i64 xh.f2] 43)).alloc (.cells #[.int .i64 yh.f0, .string yh.f1, .int .i64 yh.f2] 43)).alloc (.cells #[.int .i64 0, .string ⟨#[]⟩, .int .i64 0] 43) := ⟨_, rfl⟩
            obtain ⟨B7, hB7⟩ : ∃ b, b = w3.heap.size := ⟨_, rfl⟩
            have hb6 : Below w3.heap.size w3 w6 := by rw [hw6]; exact below_alloc (below_alloc (below_alloc (Below.refl _ _) _) _) _
            have HZ6 := Aside0.mk (show w6.heap.size = B7 + 3 by rw [hw6, hB7]; simp)
            have HV7 := Aside0.mk (show w6.heap[B7]? = some (rcs xh.f0 xh.f1 xh.f2) by rw [hw6, hB7, Own.heap_old _ _ _ (by simp; omega), Own.heap_old _ _ _ (by simp)]; exact Own.heap_new _ _)
            have HV8 := Aside0.mk (show w6.heap[B7 + 1]? = some (rcs yh.f0 yh.f1 yh.f2) by
              rw [hw6, hB7, Own.heap_old _ _ _ (by simp)]
              have := Own.heap_new (w3.alloc (.cells #[.int .i64 xh.f0, .string xh.f1, .int .i64 xh.f2] 43)) (.cells #[.int .i64 yh.f0, .string yh.f1, .int .i64 yh.f2] 43)
              rwa [World.size_alloc] at this)
            have HV9 := Aside0.mk (show w6.heap[B7 + 1 + 1]? = some (rcs 0 E 0) by
              have := Own.heap_new ((w3.alloc (.cells #[.int .i64 xh.f0, .string xh.f1, .int .i64 xh.f2] 43)).alloc (.cells #[.int .i64 yh.f0, .string yh.f1, .int .i64 yh.f2] 43)) (.cells #[.int .i64 0, .string ⟨#[]⟩, .int .i64 0] 43)
              rw [World.size_alloc, World.size_alloc, ← hw6, ← hB7] at this
              exact this)
            have HLT := Aside0.mk (show wr.heap.size ≤ B7 by rw [hB7]; exact Nat.le_trans HBA.out.size HBB.out.size)
            have HJ6 := Aside0.mk (HP.out.below (HP.out.below HJ2.out HBB.out) hb6)
            have HT6 := Aside0.mk ((((But2.refl R1 R2 wr).below HBA.out).below HBB.out).below hb6)
            have H61 := Aside0.mk (HP.out.lies _ _ _ HJ6.out _ _ HG1.out)
            have H62 := Aside0.mk (HP.out.lies _ _ _ HJ6.out _ _ HG2.out)
            have HK6 := Aside0.mk (HK.out _ _ _ HJ6.out)
            have HW6 := Aside0.mk hw6
            have HB7 := Aside0.mk hB7
            clear hb6 hw6 hB7 HC1 HC2 HBA HBB HJ2
            gi_wp2

            rw [← HW6.out, ← HB7.out]
            refine wpIn_wide.2 ?_
            have HA := Aside0.mk (Below.refl w6.heap.size w6)
            refine start_ (n := 6) (S := fun w' => True) (ds := []) #[false, false, false, false, false, false] (by kernel_rfl) rfl rfl trivial (fun hHeld => ?_); refine with_tabW ComposeI.tab5 ComposeI.bits5 (fun HT_ HW_ => ?_)
            refine inv_at [0, 1, 2, 3, 4, 5] (fun a0_ b a w' => a = putSel a0_ b [(0, 37, (.agg #[.int .i64 xh.f0, .string xh.f1, .int .i64 xh.f2])), (1, 38, (.int .i64 (sz xh))), (2, 39, (.agg #[.int .i64 yh.f0, .string yh.f1, .int .i64 yh.f2])), (3, 40, (.int .i64 (sz yh))), (4, 41, (.int .i64 (mn2 (sz xh) (sz yh)))), (5, 10, (.int .i64 (mn2 (sz xh) (sz yh))))] ∧ (Below w6.heap.size w6 w')) HT_.out HW_.out (by kernel_rfl) (by kernel_rfl) ?_ ?_ ?_
            · exact ⟨by simp only [putSel, Bool.false_eq_true, if_false], below_drew1 (Below.refl _ _)⟩
            · skip
              clear HA
              refine steps_cons ?_ ?_
              · rintro b a w' ⟨ha, Q_HA⟩ hb_ hon hoff
                refine ⟨_, rfl, fun K hK => ?_⟩
                have e7 : a.tmps[7]? = some ((.pointer (some ⟨B7, 0, none⟩))) := by rw [ha]; exact (putSel_off rfl).trans rfl
                replace ha := Aside0.mk ha
                have HA := Aside0.mk Q_HA
                obtain ⟨q0_, q1_, q2_⟩ := blk_cells ((HA.out.block B7 (by have := HZ6.out; omega)).trans HV7.out)
                refine value_ (w1 := w') (v := (.agg #[.int .i64 xh.f0, .string xh.f1, .int .i64 xh.f2])) (by rfl) rfl ?_ ?_
                · go_simp
                  (try simp only [i64_w])
                  try rfl
                refine hK.out _ _ ⟨(by rw [ha.out]; exact putSel_upk 0 hb_ rfl rfl rfl), Q_HA⟩
              refine steps_cons ?_ ?_
              · rintro b a w' ⟨ha, Q_HA⟩ hb_ hon hoff
                refine ⟨_, rfl, fun K hK => ?_⟩
                have e37 : a.tmps[37]? = some ((.agg #[.int .i64 xh.f0, .string xh.f1, .int .i64 xh.f2])) := by rw [ha]; exact putSel_on (e := (0, 37, (.agg #[.int .i64 xh.f0, .string xh.f1, .int .i64 xh.f2]))) 0 rfl rfl (hon 0 (by kernel_rfl)) rfl
                replace ha := Aside0.mk ha
                have HA := Aside0.mk Q_HA
                refine goes_ Try.func40 (by kernel_rfl) rfl #[.agg #[.int .i64 xh.f0, .string xh.f1, .int .i64 xh.f2]] (by rfl) rfl rfl (by first | (simp only [List.map_toArray, List.map_cons, List.map_nil, Act.eval, Array.getD_eq_getD_getElem?, Option.getD_some, e37]; done) | (simp only [List.map_toArray, List.map_cons, List.map_nil, Act.eval, Array.getD_eq_getD_getElem?, Option.getD_some, e37]; rfl)) ?_
                refine (HSX.out _).mono ?_
                rintro e w1_ ⟨rfl, hb⟩
                refine ⟨_, rfl, ?_⟩
                refine hK.out _ _ ⟨(by rw [ha.out]; exact putSel_upk 1 hb_ rfl rfl rfl), below_step HA.out hb⟩
              refine steps_cons ?_ ?_
              · rintro b a w' ⟨ha, Q_HA⟩ hb_ hon hoff
                refine ⟨_, rfl, fun K hK => ?_⟩
                have e8 : a.tmps[8]? = some ((.pointer (some ⟨B7 + 1, 0, none⟩))) := by rw [ha]; exact (putSel_off rfl).trans rfl
                replace ha := Aside0.mk ha
                have HA := Aside0.mk Q_HA
                obtain ⟨q0_, q1_, q2_⟩ := blk_cells ((HA.out.block (B7 + 1) (by have := HZ6.out; omega)).trans HV8.out)
                refine value_ (w1 := w') (v := (.agg #[.int .i64 yh.f0, .string yh.f1, .int .i64 yh.f2])) (by rfl) rfl ?_ ?_
                · go_simp
                  (try simp only [i64_w])
                  try rfl
                refine hK.out _ _ ⟨(by rw [ha.out]; exact putSel_upk 2 hb_ rfl rfl rfl), Q_HA⟩
              refine steps_cons ?_ ?_
              · rintro b a w' ⟨ha, Q_HA⟩ hb_ hon hoff
                refine ⟨_, rfl, fun K hK => ?_⟩
                have e39 : a.tmps[39]? = some ((.agg #[.int .i64 yh.f0, .string yh.f1, .int .i64 yh.f2])) := by rw [ha]; exact putSel_on (e := (2, 39, (.agg #[.int .i64 yh.f0, .string yh.f1, .int .i64 yh.f2]))) 2 rfl rfl (hon 2 (by kernel_rfl)) rfl
                replace ha := Aside0.mk ha
                have HA := Aside0.mk Q_HA
                refine goes_ Try.func40 (by kernel_rfl) rfl #[.agg #[.int .i64 yh.f0, .string yh.f1, .int .i64 yh.f2]] (by rfl) rfl rfl (by first | (simp only [List.map_toArray, List.map_cons, List.map_nil, Act.eval, Array.getD_eq_getD_getElem?, Option.getD_some, e39]; done) | (simp only [List.map_toArray, List.map_cons, List.map_nil, Act.eval, Array.getD_eq_getD_getElem?, Option.getD_some, e39]; rfl)) ?_
                refine (HSY.out _).mono ?_
                rintro e w1_ ⟨rfl, hb⟩
                refine ⟨_, rfl, ?_⟩
                refine hK.out _ _ ⟨(by rw [ha.out]; exact putSel_upk 3 hb_ rfl rfl rfl), below_step HA.out hb⟩
              refine steps_cons ?_ ?_
              · rintro b a w' ⟨ha, Q_HA⟩ hb_ hon hoff
                refine ⟨_, rfl, fun K hK => ?_⟩
                have e38 : a.tmps[38]? = some ((.int .i64 (sz xh))) := by rw [ha]; exact putSel_on (e := (1, 38, (.int .i64 (sz xh)))) 1 rfl rfl (hon 1 (by kernel_rfl)) rfl
                have e40 : a.tmps[40]? = some ((.int .i64 (sz yh))) := by rw [ha]; exact putSel_on (e := (3, 40, (.int .i64 (sz yh)))) 3 rfl rfl (hon 3 (by kernel_rfl)) rfl
                replace ha := Aside0.mk ha
                have HA := Aside0.mk Q_HA
                refine value_ (w1 := w') (v := (.int .i64 (mn2 (sz xh) (sz yh)))) (by rfl) rfl ?_ ?_
                · go_simp
                  (try simp only [i64_w])
                  try rfl
                refine hK.out _ _ ⟨(by rw [ha.out]; exact putSel_upk 4 hb_ rfl rfl rfl), Q_HA⟩
              refine steps_cons ?_ ?_
              · rintro b a w' ⟨ha, Q_HA⟩ hb_ hon hoff
                refine ⟨_, rfl, fun K hK => ?_⟩
                have e41 : a.tmps[41]? = some ((.int .i64 (mn2 (sz xh) (sz yh)))) := by rw [ha]; exact putSel_on (e := (4, 41, (.int .i64 (mn2 (sz xh) (sz yh))))) 4 rfl rfl (hon 4 (by kernel_rfl)) rfl
                replace ha := Aside0.mk ha
                have HA := Aside0.mk Q_HA
                refine value_ (w1 := w') (v := (.int .i64 (mn2 (sz xh) (sz yh)))) (by rfl) rfl ?_ ?_
                · go_simp
                  (try simp only [i64_w])
                  try rfl
                refine hK.out _ _ ⟨(by rw [ha.out]; exact putSel_upk 5 hb_ rfl rfl rfl), Q_HA⟩
              exact steps_nil
            rintro b a we hall ⟨ha, Q_HA⟩
            clear HA
            have hb0_ := hall 0 (by kernel_rfl)
            have hb1_ := hall 1 (by kernel_rfl)
            have hb2_ := hall 2 (by kernel_rfl)
            have hb3_ := hall 3 (by kernel_rfl)
            have hb4_ := hall 4 (by kernel_rfl)
            have hb5_ := hall 5 (by kernel_rfl)
            subst ha
            simp only [putSel, hb0_, hb1_, hb2_, hb3_, hb4_, hb5_, if_true, Act.put, List.setIfInBounds_toArray, List.set_cons_zero, List.set_cons_succ]
            have HA := Aside0.mk Q_HA
            clear Q_HA
            clear hall hb0_ hb1_ hb2_ hb3_ hb4_ hb5_
            rw [HNN.out]
            have HJe := Aside0.mk (HP.out.below HJ6.out HA.out)
            have HTe := Aside0.mk (HT6.out.below HA.out)
            have HVe9 := Aside0.mk ((HA.out.block _ (by have := HZ6.out; omega)).trans HV9.out)
            have HZe := Aside0.mk (show B7 + 3 ≤ we.heap.size by have := HZ6.out; have := HA.out.size; omega)
            clear HA
            gi_wp2
            refine ⟨trivial, fun h => absurd h (by decide), ?_⟩
            refine (callsIn_wide.2 (HC1'.out _ (HP.out.lies _ _ _ HJe.out _ _ HG1.out) (HK.out _ _ _ HJe.out))).mono ?_
            rintro e wa ⟨rfl, hba, hra⟩
            have HTa := Aside0.mk (HTe.out.first hba)
            have Ha1 := Aside0.mk hra
            have Ha2 := Aside0.mk ((hba.block _ (by have := HR2L.out; have := HLT.out; have := HZe.out; omega) (fun e => HR.out (by injection e with e; exact e.symm))).trans (HP.out.lies _ _ _ HJe.out _ _ HG2.out))
            have Ha9 := Aside0.mk ((hba.block _ (by have := HZe.out; omega) (fun e => by injection e with e; have := HR1L.out; have := HLT.out; omega)).trans HVe9.out)
            have HZa := Aside0.mk (show B7 + 3 ≤ wa.heap.size from Nat.le_trans HZe.out hba.size)
            have HJa := Aside0.mk (party2 HP.out HJr.out HG1.out HG2.out HTa.out Ha1.out Ha2.out)
            clear hba hra
            gi_wp2
            refine ⟨trivial, fun h => absurd h (by decide), ?_⟩
            refine (callsIn_wide.2 (HC2'.out _ Ha2.out (HK.out _ _ _ HJa.out))).mono ?_
            rintro e wb ⟨rfl, hbb, hrb⟩
            have HTb := Aside0.mk (HTa.out.second hbb)
            have Hb1 := Aside0.mk ((hbb.block _ (by have := HR1L.out; have := HLT.out; have := HZa.out; omega) (fun e => HR.out (by injection e))).trans Ha1.out)
            have Hb2 := Aside0.mk hrb
            have Hb9 := Aside0.mk ((hbb.block _ (by have := HZa.out; omega) (fun e => by injection e with e; have := HR2L.out; have := HLT.out; omega)).trans Ha9.out)
            clear hbb hrb
            obtain ⟨w7, hw7⟩ : ∃ w7, w7 = (wb.alloc (.cells #[.int .i64 p.f0, .string p.f1, .int .i64 p.f2] 43)).alloc (.cells #[.int .i64 q.f0, .string q.f1, .int .i64 q.f2] 43) := ⟨_, rfl⟩
            have hb7 : Below wb.heap.size wb w7 := by rw [hw7]; exact below_alloc (below_alloc (Below.refl _ _) _) _
            have lt7 : ∀ {k : Nat} {o : Obj}, wb.heap[k]? = some o → w7.heap[k]? = some o := fun hk => (hb7.block _ (Array.getElem?_eq_some_iff.1 hk).1).trans hk
            have HT7 := Aside0.mk (HTb.out.below hb7)
            have H71 := Aside0.mk (lt7 Hb1.out)
            have H72 := Aside0.mk (lt7 Hb2.out)
            have H97 := Aside0.mk (lt7 Hb9.out)
            have HW7 := Aside0.mk hw7
            clear hb7 lt7

            have h9 : w7.heap[B7 + 1 + 1]? = some (rcs 0 E 0) := H97.out
            obtain ⟨w8, hw8⟩ : ∃ w8, w8 = ((w7.setCell ⟨B7 + 1 + 1, 0, none⟩ (.int .i64 q.f0)).setCell ⟨B7 + 1 + 1, 1, none⟩ (.string q.f1)).setCell ⟨B7 + 1 + 1, 2, none⟩ (.int .i64 q.f2) := ⟨_, rfl⟩
            have HT8 := Aside0.mk (show But2 R1 R2 wr w8 by rw [hw8]; exact ((HT7.out.set _ _ _ (by have := HLT.out; omega)).set _ _ _ (by have := HLT.out; omega)).set _ _ _ (by have := HLT.out; omega))
            have n19 : R1 ≠ B7 + 1 + 1 := by have := HR1L.out; have := HLT.out; omega
            have n29 : R2 ≠ B7 + 1 + 1 := by have := HR2L.out; have := HLT.out; omega
            have H81 := Aside0.mk (show w8.heap[R1]? = some (rdr B1' d1' l1' a1') by rw [hw8, Below.heap_setCell _ _ _ _ n19, Below.heap_setCell _ _ _ _ n19, Below.heap_setCell _ _ _ _ n19]; exact H71.out)
            have H82 := Aside0.mk (show w8.heap[R2]? = some (rdr B2' d2' l2' a2') by rw [hw8, Below.heap_setCell _ _ _ _ n29, Below.heap_setCell _ _ _ _ n29, Below.heap_setCell _ _ _ _ n29]; exact H72.out)
            have HJ8 := Aside0.mk (party2 HP.out HJr.out HG1.out HG2.out HT8.out H81.out H82.out)
            obtain ⟨G8, hG8⟩ : ∃ g, g = (G.put R1 (rdr B1' d1' l1' a1')).put R2 (rdr B2' d2' l2' a2') := ⟨_, rfl⟩
            rw [← hG8] at HJ8
            have HG82 := Aside0.mk (show G8 R2 = some (rdr B2' d2' l2' a2') by rw [hG8]; exact Priv.put_same _ _ _)
            have HG81 := Aside0.mk (show G8 R1 = some (rdr B1' d1' l1' a1') by rw [hG8, Priv.put_other _ _ HR.out]; exact Priv.put_same _ _ _)
            obtain ⟨fn, tmps, assign, body, hyy, hR⟩ := HY.out (n - 1) pre q M' _ _ (by have := HE'.out; rw [HMID.out] at this; exact this.symm) HJ8.out
            have HRR := Aside0.mk hR
            unfold enc at hyy
            obtain ⟨q0, q1, q2⟩ := blk_cells h9
            have k0 := frozen_of_row w7 _ 0 _ _ h9
            have k1 := frozen_of_row w7 _ 1 _ _ h9
            have k2 := frozen_of_row w7 _ 2 _ _ h9
            rw [hw7] at q0 q1 q2 k0 k1 k2

            have HW8 := Aside0.mk hw8
            clear hw8 hG8 hR n19 n29 h9
            gi_wp2
            rw [← HW7.out, ← HW8.out, hyy]
            gi_wp2
            refine ⟨fun h => absurd h (by decide), ?_⟩
            refine HRR.out.mono ?_
            rintro e w9 (⟨rfl, hj9⟩ | ⟨rfl, hx9⟩)
            · have HJ9 := Aside0.mk hj9
              clear hj9 hyy
              gi_wp2
              go_roundw
              case rel => exact ⟨_, G8, _, _, _, _, _, _, _, _, _, _, _, HJ9.out, HG81.out, HG82.out, HS1'.out, HS2'.out, HBO.out, by have := HE'.out; rw [HMID.out] at this; rw [List.append_assoc]; exact this⟩
              case measure => (rw [lenOf_rdr (HP.out.lies _ _ _ HJ9.out _ _ HG81.out), lenOf_rdr (HP.out.lies _ _ _ HJ9.out _ _ HG82.out), HN.out, HM.out]; have := HLTT.out; omega)
            · have HX9 := Aside0.mk hx9
              clear hx9 hyy
              gi_wp2
              refine bodyPost_ret (results_none rfl _ _ _) rfl ?_
              exact ⟨⟨_, rfl⟩, .inr HX9.out⟩
        · rcases hy with cy | cy
          · skip
            obtain ⟨xh, hxh⟩ : ∃ xh, xh = headL (x :: X1') := ⟨_, rfl⟩
            obtain ⟨yh, hyh⟩ : ∃ yh, yh = headL (y :: X2') := ⟨_, rfl⟩
            obtain ⟨x', hdx⟩ := hs1.cons
            obtain ⟨y', hdy⟩ := hs2.cons
            have hm1p : 0 < m1 := by rw [hm1, hdx.l]; simp
            have ex : xh = x := hxh
            have ey : yh = y := hyh
            have fx := hdx.fwh
            have fy := hdy.fwh
            have kx0 : knd x ≠ 0 := fx.k
            have ky0 : knd y ≠ 0 := fy.k
            have hx0 : xh.f2 = 0 := by rw [ex]; exact (run_eq2 cx).2.2.2
            have hx0' : ¬ 0 < xh.f2 := by omega
            clear hx0
            have hy1 : (yh.f1.toList == ([] : List UInt8)) = true := by rw [tl_beq, ey, (run_eq cy).2.2.1]; rfl
            have hy1' : yh.f1.toList = [] := tl_nil.2 (by rw [ey, (run_eq cy).2.2.1]; rfl)
            obtain ⟨n1_, n2_, n3_⟩ := mn2_le (sz x) (sz y)
            have n0_ := n3_ (sz_pos kx0) (sz_pos ky0)
            obtain ⟨n_, hn_⟩ : ∃ n_, n_ = mn2 (sz x) (sz y) := ⟨_, rfl⟩
            have hor : n_ = sz x ∨ n_ = sz y := by rw [hn_]; unfold mn2; split; exact .inr rfl; exact .inl rfl
            rw [← hn_] at n1_ n2_ n0_ hbo'
            obtain ⟨p, hp⟩ : ∃ p, p = ComposeL.part x 0 n_ := ⟨_, rfl⟩
            obtain ⟨q, hq⟩ : ∃ q, q = ComposeL.part y 0 n_ := ⟨_, rfl⟩
            have hp0 : p.f0 = 0 := by rw [hp, part_add cx]
            have hp0' : ¬ 0 < p.f0 := by omega
            clear hp0
            have hpz' : ¬ p.f1.toList = [] := by
              have z := (sz_add cx).1
              have e : p.f1.size = n_.toNat := by rw [hp, part_add cx]; show (x.f1.extract (0 : Int).toNat n_.toNat).size = _; rw [ext_size]; omega
              rw [tl_nil, e]; omega
            have hpz : (p.f1.toList == ([] : List UInt8)) = false := by
              have z := (sz_add cx).1
              have e : p.f1.size = n_.toNat := by rw [hp, part_add cx]; show (x.f1.extract (0 : Int).toNat n_.toNat).size = _; rw [ext_size]; omega
              rw [tl_beq, e]; simp; omega
            have hq0 : 0 < q.f0 := by rw [hq, part_keep cy]; show 0 < n_ - 0; omega
            have HMID := Aside0.mk (show mid x y n_ = [p] from by unfold mid; rw [if_pos cy, hp])
            obtain ⟨B1', d1', l1', a1', hs1', hle1, hlt1, hcall1⟩ := take_any _ R1 B1 d1 l1 a1 x X1' hs1 n_ n0_ n1_
            obtain ⟨B2', d2', l2', a2', hs2', hle2, hlt2, hcall2⟩ := take_any _ R2 B2 d2 l2 a2 y X2' hs2 n_ n0_ n2_
            rw [← hp] at hcall1
            rw [← hq] at hcall2
            have HC1' := Aside0.mk hcall1
            have HC2' := Aside0.mk hcall2
            have HS1' := Aside0.mk hs1'
            have HS2' := Aside0.mk hs2'
            have HBO := Aside0.mk hbo'
            have HLTT := Aside0.mk (show l1'.length + l2'.length < l1.length + l2.length by rcases hor with e | e; (have := hlt1 e; omega); (have := hlt2 e; omega))
            have HSX := Aside0.mk (size_c xh (by rw [ex]; exact ⟨⟨fx.a0, fx.a⟩, fx.s, fx.d0, fx.d⟩))
            have HSY := Aside0.mk (size_c yh (by rw [ey]; exact ⟨⟨fy.a0, fy.a⟩, fy.s, fy.d0, fy.d⟩))
            unfold rv at HSX HSY
            have HNN := Aside0.mk (show mn2 (sz xh) (sz yh) = n_ by rw [hn_, ex, ey])
            have HE' := Aside0.mk (show pre ++ (mid x y n_ ++ M') = L by rw [hn_]; exact he)
            clear hcall1 hcall2 hs1' hs2' hbo' hle1 hle2 hlt1 hlt2 hp hq fx fy kx0 ky0 hdx hdy hor n1_ n2_ n3_ n0_ ex ey hn_ cx cy HE

            have HC1 := Aside0.mk (fun (w : World) (h : w.heap[R1]? = some (rdr B1 d1 l1 a1)) (hk : (Held2 A1 c1 T1 f1 A2 c2 T2 f2) w) => (show Calls Try.prog 41 #[.pointer (some ⟨R1, 0, none⟩)] w (PartPost xh w) from by rw [hxh]; exact now_any _ R1 B1 d1 l1 a1 _ w HX1.out h hk))
            have HC2 := Aside0.mk (fun (w : World) (h : w.heap[R2]? = some (rdr B2 d2 l2 a2)) (hk : (Held2 A1 c1 T1 f1 A2 c2 T2 f2) w) => (show Calls Try.prog 41 #[.pointer (some ⟨R2, 0, none⟩)] w (PartPost yh w) from by rw [hyh]; exact now_any _ R2 B2 d2 l2 a2 _ w HX2.out h hk))
            have HR1L := Aside0.mk (HP.out.lt HJr.out HG1.out)
            have HR2L := Aside0.mk (HP.out.lt HJr.out HG2.out)
            clear hxh hyh hj hg1 hg2 hs1 hs2 he hk0 hq1 hq2 hm1 hm2 hend
            gi_wp2
            refine ⟨trivial, fun h => absurd h (by decide), ?_⟩
            refine (callsIn_wide.2 (HC1.out _ HQ1.out HK0.out)).mono ?_
            rintro e w2 ⟨rfl, hb2⟩
            have HBA := Aside0.mk hb2
            have HJ2 := Aside0.mk (HP.out.below HJr.out hb2)
            clear hb2 x0 x1 y0 y1
            gi_wp2
            refine ⟨trivial, fun h => absurd h (by decide), ?_⟩
            refine (callsIn_wide.2 (HC2.out _ (HP.out.lies _ _ _ HJ2.out _ _ HG2.out) (HK.out _ _ _ HJ2.out))).mono ?_
            rintro e w3 ⟨rfl, hb3⟩
            have HBB := Aside0.mk hb3
            clear hb3
            obtain ⟨w6, hw6⟩ : ∃ w6, w6 = ((w3.alloc (.cells #[.int .i64 xh.f0, .string xh.f1, .int .i64 xh.f2] 43)).alloc (.cells #[.int .i64 yh.f0, .string yh.f1, .int .i64 yh.f2] 43)).alloc (.cells #[.int .i64 0, .string ⟨#[]⟩, .int .i64 0] 43) := ⟨_, rfl⟩
            obtain ⟨B7, hB7⟩ : ∃ b, b = w3.heap.size := ⟨_, rfl⟩
            have hb6 : Below w3.heap.size w3 w6 := by rw [hw6]; exact below_alloc (below_alloc (below_alloc (Below.refl _ _) _) _) _
            have HZ6 := Aside0.mk (show w6.heap.size = B7 + 3 by rw [hw6, hB7]; simp)
            have HV7 := Aside0.mk (show w6.heap[B7]? = some (rcs xh.f0 xh.f1 xh.f2) by rw [hw6, hB7, Own.heap_old _ _ _ (by simp; omega), Own.heap_old _ _ _ (by simp)]; exact Own.heap_new _ _)
            have HV8 := Aside0.mk (show w6.heap[B7 + 1]? = some (rcs yh.f0 yh.f1 yh.f2) by
              rw [hw6, hB7, Own.heap_old _ _ _ (by simp)]
              have := Own.heap_new (w3.alloc (.cells #[.int .i64 xh.f0, .string xh.f1, .int .i64 xh.f2] 43)) (.cells #[.int .i64 yh.f0, .string yh.f1, .int .i64 yh.f2] 43)
              rwa [World.size_alloc] at this)
            have HV9 := Aside0.mk (show w6.heap[B7 + 1 + 1]? = some (rcs 0 E 0) by
              have := Own.heap_new ((w3.alloc (.cells #[.int .i64 xh.f0, .string xh.f1, .int .i64 xh.f2] 43)).alloc (.cells #[.int .i64 yh.f0, .string yh.f1, .int .i64 yh.f2] 43)) (.cells #[.int .i64 0, .string ⟨#[]⟩, .int .i64 0] 43)
              rw [World.size_alloc, World.size_alloc, ← hw6, ← hB7] at this
              exact this)
            have HLT := Aside0.mk (show wr.heap.size ≤ B7 by rw [hB7]; exact Nat.le_trans HBA.out.size HBB.out.size)
            have HJ6 := Aside0.mk (HP.out.below (HP.out.below HJ2.out HBB.out) hb6)
            have HT6 := Aside0.mk ((((But2.refl R1 R2 wr).below HBA.out).below HBB.out).below hb6)
            have H61 := Aside0.mk (HP.out.lies _ _ _ HJ6.out _ _ HG1.out)
            have H62 := Aside0.mk (HP.out.lies _ _ _ HJ6.out _ _ HG2.out)
            have HK6 := Aside0.mk (HK.out _ _ _ HJ6.out)
            have HW6 := Aside0.mk hw6
            have HB7 := Aside0.mk hB7
            clear hb6 hw6 hB7 HC1 HC2 HBA HBB HJ2
            gi_wp2

            rw [← HW6.out, ← HB7.out]
            refine wpIn_wide.2 ?_
            have HA := Aside0.mk (Below.refl w6.heap.size w6)
            refine start_ (n := 6) (S := fun w' => True) (ds := []) #[false, false, false, false, false, false] (by kernel_rfl) rfl rfl trivial (fun hHeld => ?_); refine with_tabW ComposeI.tab5 ComposeI.bits5 (fun HT_ HW_ => ?_)
            refine inv_at [0, 1, 2, 3, 4, 5] (fun a0_ b a w' => a = putSel a0_ b [(0, 37, (.agg #[.int .i64 xh.f0, .string xh.f1, .int .i64 xh.f2])), (1, 38, (.int .i64 (sz xh))), (2, 39, (.agg #[.int .i64 yh.f0, .string yh.f1, .int .i64 yh.f2])), (3, 40, (.int .i64 (sz yh))), (4, 41, (.int .i64 (mn2 (sz xh) (sz yh)))), (5, 10, (.int .i64 (mn2 (sz xh) (sz yh))))] ∧ (Below w6.heap.size w6 w')) HT_.out HW_.out (by kernel_rfl) (by kernel_rfl) ?_ ?_ ?_
            · exact ⟨by simp only [putSel, Bool.false_eq_true, if_false], below_drew1 (Below.refl _ _)⟩
            · skip
              clear HA
              refine steps_cons ?_ ?_
              · rintro b a w' ⟨ha, Q_HA⟩ hb_ hon hoff
                refine ⟨_, rfl, fun K hK => ?_⟩
                have e7 : a.tmps[7]? = some ((.pointer (some ⟨B7, 0, none⟩))) := by rw [ha]; exact (putSel_off rfl).trans rfl
                replace ha := Aside0.mk ha
                have HA := Aside0.mk Q_HA
                obtain ⟨q0_, q1_, q2_⟩ := blk_cells ((HA.out.block B7 (by have := HZ6.out; omega)).trans HV7.out)
                refine value_ (w1 := w') (v := (.agg #[.int .i64 xh.f0, .string xh.f1, .int .i64 xh.f2])) (by rfl) rfl ?_ ?_
                · go_simp
                  (try simp only [i64_w])
                  try rfl
                refine hK.out _ _ ⟨(by rw [ha.out]; exact putSel_upk 0 hb_ rfl rfl rfl), Q_HA⟩
              refine steps_cons ?_ ?_
              · rintro b a w' ⟨ha, Q_HA⟩ hb_ hon hoff
                refine ⟨_, rfl, fun K hK => ?_⟩
                have e37 : a.tmps[37]? = some ((.agg #[.int .i64 xh.f0, .string xh.f1, .int .i64 xh.f2])) := by rw [ha]; exact putSel_on (e := (0, 37, (.agg #[.int .i64 xh.f0, .string xh.f1, .int .i64 xh.f2]))) 0 rfl rfl (hon 0 (by kernel_rfl)) rfl
                replace ha := Aside0.mk ha
                have HA := Aside0.mk Q_HA
                refine goes_ Try.func40 (by kernel_rfl) rfl #[.agg #[.int .i64 xh.f0, .string xh.f1, .int .i64 xh.f2]] (by rfl) rfl rfl (by first | (simp only [List.map_toArray, List.map_cons, List.map_nil, Act.eval, Array.getD_eq_getD_getElem?, Option.getD_some, e37]; done) | (simp only [List.map_toArray, List.map_cons, List.map_nil, Act.eval, Array.getD_eq_getD_getElem?, Option.getD_some, e37]; rfl)) ?_
                refine (HSX.out _).mono ?_
                rintro e w1_ ⟨rfl, hb⟩
                refine ⟨_, rfl, ?_⟩
                refine hK.out _ _ ⟨(by rw [ha.out]; exact putSel_upk 1 hb_ rfl rfl rfl), below_step HA.out hb⟩
              refine steps_cons ?_ ?_
              · rintro b a w' ⟨ha, Q_HA⟩ hb_ hon hoff
                refine ⟨_, rfl, fun K hK => ?_⟩
                have e8 : a.tmps[8]? = some ((.pointer (some ⟨B7 + 1, 0, none⟩))) := by rw [ha]; exact (putSel_off rfl).trans rfl
                replace ha := Aside0.mk ha
                have HA := Aside0.mk Q_HA
                obtain ⟨q0_, q1_, q2_⟩ := blk_cells ((HA.out.block (B7 + 1) (by have := HZ6.out; omega)).trans HV8.out)
                refine value_ (w1 := w') (v := (.agg #[.int .i64 yh.f0, .string yh.f1, .int .i64 yh.f2])) (by rfl) rfl ?_ ?_
                · go_simp
                  (try simp only [i64_w])
                  try rfl
                refine hK.out _ _ ⟨(by rw [ha.out]; exact putSel_upk 2 hb_ rfl rfl rfl), Q_HA⟩
              refine steps_cons ?_ ?_
              · rintro b a w' ⟨ha, Q_HA⟩ hb_ hon hoff
                refine ⟨_, rfl, fun K hK => ?_⟩
                have e39 : a.tmps[39]? = some ((.agg #[.int .i64 yh.f0, .string yh.f1, .int .i64 yh.f2])) := by rw [ha]; exact putSel_on (e := (2, 39, (.agg #[.int .i64 yh.f0, .string yh.f1, .int .i64 yh.f2]))) 2 rfl rfl (hon 2 (by kernel_rfl)) rfl
                replace ha := Aside0.mk ha
                have HA := Aside0.mk Q_HA
                refine goes_ Try.func40 (by kernel_rfl) rfl #[.agg #[.int .i64 yh.f0, .string yh.f1, .int .i64 yh.f2]] (by rfl) rfl rfl (by first | (simp only [List.map_toArray, List.map_cons, List.map_nil, Act.eval, Array.getD_eq_getD_getElem?, Option.getD_some, e39]; done) | (simp only [List.map_toArray, List.map_cons, List.map_nil, Act.eval, Array.getD_eq_getD_getElem?, Option.getD_some, e39]; rfl)) ?_
                refine (HSY.out _).mono ?_
                rintro e w1_ ⟨rfl, hb⟩
                refine ⟨_, rfl, ?_⟩
                refine hK.out _ _ ⟨(by rw [ha.out]; exact putSel_upk 3 hb_ rfl rfl rfl), below_step HA.out hb⟩
              refine steps_cons ?_ ?_
              · rintro b a w' ⟨ha, Q_HA⟩ hb_ hon hoff
                refine ⟨_, rfl, fun K hK => ?_⟩
                have e38 : a.tmps[38]? = some ((.int .i64 (sz xh))) := by rw [ha]; exact putSel_on (e := (1, 38, (.int .i64 (sz xh)))) 1 rfl rfl (hon 1 (by kernel_rfl)) rfl
                have e40 : a.tmps[40]? = some ((.int .i64 (sz yh))) := by rw [ha]; exact putSel_on (e := (3, 40, (.int .i64 (sz yh)))) 3 rfl rfl (hon 3 (by kernel_rfl)) rfl
                replace ha := Aside0.mk ha
                have HA := Aside0.mk Q_HA
                refine value_ (w1 := w') (v := (.int .i64 (mn2 (sz xh) (sz yh)))) (by rfl) rfl ?_ ?_
                · go_simp
                  (try simp only [i64_w])
                  try rfl
                refine hK.out _ _ ⟨(by rw [ha.out]; exact putSel_upk 4 hb_ rfl rfl rfl), Q_HA⟩
              refine steps_cons ?_ ?_
              · rintro b a w' ⟨ha, Q_HA⟩ hb_ hon hoff
                refine ⟨_, rfl, fun K hK => ?_⟩
                have e41 : a.tmps[41]? = some ((.int .i64 (mn2 (sz xh) (sz yh)))) := by rw [ha]; exact putSel_on (e := (4, 41, (.int .i64 (mn2 (sz xh) (sz yh))))) 4 rfl rfl (hon 4 (by kernel_rfl)) rfl
                replace ha := Aside0.mk ha
                have HA := Aside0.mk Q_HA
                refine value_ (w1 := w') (v := (.int .i64 (mn2 (sz xh) (sz yh)))) (by rfl) rfl ?_ ?_
                · go_simp
                  (try simp only [i64_w])
                  try rfl
                refine hK.out _ _ ⟨(by rw [ha.out]; exact putSel_upk 5 hb_ rfl rfl rfl), Q_HA⟩
              exact steps_nil
            rintro b a we hall ⟨ha, Q_HA⟩
            clear HA
            have hb0_ := hall 0 (by kernel_rfl)
            have hb1_ := hall 1 (by kernel_rfl)
            have hb2_ := hall 2 (by kernel_rfl)
            have hb3_ := hall 3 (by kernel_rfl)
            have hb4_ := hall 4 (by kernel_rfl)
            have hb5_ := hall 5 (by kernel_rfl)
            subst ha
            simp only [putSel, hb0_, hb1_, hb2_, hb3_, hb4_, hb5_, if_true, Act.put, List.setIfInBounds_toArray, List.set_cons_zero, List.set_cons_succ]
            have HA := Aside0.mk Q_HA
            clear Q_HA
            clear hall hb0_ hb1_ hb2_ hb3_ hb4_ hb5_
            rw [HNN.out]
            have HJe := Aside0.mk (HP.out.below HJ6.out HA.out)
            have HTe := Aside0.mk (HT6.out.below HA.out)
            have HVe9 := Aside0.mk ((HA.out.block _ (by have := HZ6.out; omega)).trans HV9.out)
            have HZe := Aside0.mk (show B7 + 3 ≤ we.heap.size by have := HZ6.out; have := HA.out.size; omega)
            clear HA
            gi_wp2
            refine ⟨trivial, fun h => absurd h (by decide), ?_⟩
            refine (callsIn_wide.2 (HC1'.out _ (HP.out.lies _ _ _ HJe.out _ _ HG1.out) (HK.out _ _ _ HJe.out))).mono ?_
            rintro e wa ⟨rfl, hba, hra⟩
            have HTa := Aside0.mk (HTe.out.first hba)
            have Ha1 := Aside0.mk hra
            have Ha2 := Aside0.mk ((hba.block _ (by have := HR2L.out; have := HLT.out; have := HZe.out; omega) (fun e => HR.out (by injection e with e; exact e.symm))).trans (HP.out.lies _ _ _ HJe.out _ _ HG2.out))
            have Ha9 := Aside0.mk ((hba.block _ (by have := HZe.out; omega) (fun e => by injection e with e; have := HR1L.out; have := HLT.out; omega)).trans HVe9.out)
            have HZa := Aside0.mk (show B7 + 3 ≤ wa.heap.size from Nat.le_trans HZe.out hba.size)
            have HJa := Aside0.mk (party2 HP.out HJr.out HG1.out HG2.out HTa.out Ha1.out Ha2.out)
            clear hba hra
            gi_wp2
            refine ⟨trivial, fun h => absurd h (by decide), ?_⟩
            refine (callsIn_wide.2 (HC2'.out _ Ha2.out (HK.out _ _ _ HJa.out))).mono ?_
            rintro e wb ⟨rfl, hbb, hrb⟩
            have HTb := Aside0.mk (HTa.out.second hbb)
            have Hb1 := Aside0.mk ((hbb.block _ (by have := HR1L.out; have := HLT.out; have := HZa.out; omega) (fun e => HR.out (by injection e))).trans Ha1.out)
            have Hb2 := Aside0.mk hrb
            have Hb9 := Aside0.mk ((hbb.block _ (by have := HZa.out; omega) (fun e => by injection e with e; have := HR2L.out; have := HLT.out; omega)).trans Ha9.out)
            clear hbb hrb
            obtain ⟨w7, hw7⟩ : ∃ w7, w7 = (wb.alloc (.cells #[.int .i64 p.f0, .string p.f1, .int .i64 p.f2] 43)).alloc (.cells #[.int .i64 q.f0, .string q.f1, .int .i64 q.f2] 43) := ⟨_, rfl⟩
            have hb7 : Below wb.heap.size wb w7 := by rw [hw7]; exact below_alloc (below_alloc (Below.refl _ _) _) _
            have lt7 : ∀ {k : Nat} {o : Obj}, wb.heap[k]? = some o → w7.heap[k]? = some o := fun hk => (hb7.block _ (Array.getElem?_eq_some_iff.1 hk).1).trans hk
            have HT7 := Aside0.mk (HTb.out.below hb7)
            have H71 := Aside0.mk (lt7 Hb1.out)
            have H72 := Aside0.mk (lt7 Hb2.out)
            have H97 := Aside0.mk (lt7 Hb9.out)
            have HW7 := Aside0.mk hw7
            clear hb7 lt7

            have h9 : w7.heap[B7 + 1 + 1]? = some (rcs 0 E 0) := H97.out
            obtain ⟨w8, hw8⟩ : ∃ w8, w8 = ((w7.setCell ⟨B7 + 1 + 1, 0, none⟩ (.int .i64 p.f0)).setCell ⟨B7 + 1 + 1, 1, none⟩ (.string p.f1)).setCell ⟨B7 + 1 + 1, 2, none⟩ (.int .i64 p.f2) := ⟨_, rfl⟩
            have HT8 := Aside0.mk (show But2 R1 R2 wr w8 by rw [hw8]; exact ((HT7.out.set _ _ _ (by have := HLT.out; omega)).set _ _ _ (by have := HLT.out; omega)).set _ _ _ (by have := HLT.out; omega))
            have n19 : R1 ≠ B7 + 1 + 1 := by have := HR1L.out; have := HLT.out; omega
            have n29 : R2 ≠ B7 + 1 + 1 := by have := HR2L.out; have := HLT.out; omega
            have H81 := Aside0.mk (show w8.heap[R1]? = some (rdr B1' d1' l1' a1') by rw [hw8, Below.heap_setCell _ _ _ _ n19, Below.heap_setCell _ _ _ _ n19, Below.heap_setCell _ _ _ _ n19]; exact H71.out)
            have H82 := Aside0.mk (show w8.heap[R2]? = some (rdr B2' d2' l2' a2') by rw [hw8, Below.heap_setCell _ _ _ _ n29, Below.heap_setCell _ _ _ _ n29, Below.heap_setCell _ _ _ _ n29]; exact H72.out)
            have HJ8 := Aside0.mk (party2 HP.out HJr.out HG1.out HG2.out HT8.out H81.out H82.out)
            obtain ⟨G8, hG8⟩ : ∃ g, g = (G.put R1 (rdr B1' d1' l1' a1')).put R2 (rdr B2' d2' l2' a2') := ⟨_, rfl⟩
            rw [← hG8] at HJ8
            have HG82 := Aside0.mk (show G8 R2 = some (rdr B2' d2' l2' a2') by rw [hG8]; exact Priv.put_same _ _ _)
            have HG81 := Aside0.mk (show G8 R1 = some (rdr B1' d1' l1' a1') by rw [hG8, Priv.put_other _ _ HR.out]; exact Priv.put_same _ _ _)
            obtain ⟨fn, tmps, assign, body, hyy, hR⟩ := HY.out (n - 1) pre p M' _ _ (by have := HE'.out; rw [HMID.out] at this; exact this.symm) HJ8.out
            have HRR := Aside0.mk hR
            unfold enc at hyy
            obtain ⟨q0, q1, q2⟩ := blk_cells h9
            have k0 := frozen_of_row w7 _ 0 _ _ h9
            have k1 := frozen_of_row w7 _ 1 _ _ h9
            have k2 := frozen_of_row w7 _ 2 _ _ h9
            rw [hw7] at q0 q1 q2 k0 k1 k2

            have HW8 := Aside0.mk hw8
            clear hw8 hG8 hR n19 n29 h9
            gi_wp2
            rw [← HW7.out, ← HW8.out, hyy]
            gi_wp2
            refine ⟨fun h => absurd h (by decide), ?_⟩
            refine HRR.out.mono ?_
            rintro e w9 (⟨rfl, hj9⟩ | ⟨rfl, hx9⟩)
            · have HJ9 := Aside0.mk hj9
              clear hj9 hyy
              gi_wp2
              go_roundw
              case rel => exact ⟨_, G8, _, _, _, _, _, _, _, _, _, _, _, HJ9.out, HG81.out, HG82.out, HS1'.out, HS2'.out, HBO.out, by have := HE'.out; rw [HMID.out] at this; rw [List.append_assoc]; exact this⟩
              case measure => (rw [lenOf_rdr (HP.out.lies _ _ _ HJ9.out _ _ HG81.out), lenOf_rdr (HP.out.lies _ _ _ HJ9.out _ _ HG82.out), HN.out, HM.out]; have := HLTT.out; omega)
            · have HX9 := Aside0.mk hx9
              clear hx9 hyy
              gi_wp2
              refine bodyPost_ret (results_none rfl _ _ _) rfl ?_
              exact ⟨⟨_, rfl⟩, .inr HX9.out⟩
          · skip
            obtain ⟨xh, hxh⟩ : ∃ xh, xh = headL (x :: X1') := ⟨_, rfl⟩
            obtain ⟨yh, hyh⟩ : ∃ yh, yh = headL (y :: X2') := ⟨_, rfl⟩
            obtain ⟨x', hdx⟩ := hs1.cons
            obtain ⟨y', hdy⟩ := hs2.cons
            have hm1p : 0 < m1 := by rw [hm1, hdx.l]; simp
            have ex : xh = x := hxh
            have ey : yh = y := hyh
            have fx := hdx.fwh
            have fy := hdy.fwh
            have kx0 : knd x ≠ 0 := fx.k
            have ky0 : knd y ≠ 0 := fy.k
            have hx0 : xh.f2 = 0 := by rw [ex]; exact (run_eq2 cx).2.2.2
            have hx0' : ¬ 0 < xh.f2 := by omega
            clear hx0
            have hy1 : (yh.f1.toList == ([] : List UInt8)) = true := by rw [tl_beq, ey, (run_eq3 cy).2.2.1]; rfl
            have hy1' : yh.f1.toList = [] := tl_nil.2 (by rw [ey, (run_eq3 cy).2.2.1]; rfl)
            obtain ⟨n1_, n2_, n3_⟩ := mn2_le (sz x) (sz y)
            have n0_ := n3_ (sz_pos kx0) (sz_pos ky0)
            obtain ⟨n_, hn_⟩ : ∃ n_, n_ = mn2 (sz x) (sz y) := ⟨_, rfl⟩
            have hor : n_ = sz x ∨ n_ = sz y := by rw [hn_]; unfold mn2; split; exact .inr rfl; exact .inl rfl
            rw [← hn_] at n1_ n2_ n0_ hbo'
            obtain ⟨p, hp⟩ : ∃ p, p = ComposeL.part x 0 n_ := ⟨_, rfl⟩
            obtain ⟨q, hq⟩ : ∃ q, q = ComposeL.part y 0 n_ := ⟨_, rfl⟩
            have hp0 : p.f0 = 0 := by rw [hp, part_add cx]
            have hp0' : ¬ 0 < p.f0 := by omega
            clear hp0
            have hpz' : ¬ p.f1.toList = [] := by
              have z := (sz_add cx).1
              have e : p.f1.size = n_.toNat := by rw [hp, part_add cx]; show (x.f1.extract (0 : Int).toNat n_.toNat).size = _; rw [ext_size]; omega
              rw [tl_nil, e]; omega
            have hpz : (p.f1.toList == ([] : List UInt8)) = false := by
              have z := (sz_add cx).1
              have e : p.f1.size = n_.toNat := by rw [hp, part_add cx]; show (x.f1.extract (0 : Int).toNat n_.toNat).size = _; rw [ext_size]; omega
              rw [tl_beq, e]; simp; omega
            have hq0 : q.f0 = 0 := by rw [hq, part_drop cy]
            have hq0' : ¬ 0 < q.f0 := by omega
            clear hq0
            have hqz : (q.f2 == 0) = false := by rw [hq, part_drop cy]; simp; omega
            have HMID := Aside0.mk (show mid x y n_ = [] from by unfold mid; rw [if_neg (by rw [cy]; decide), if_neg (by rw [cx]; decide)])
            obtain ⟨B1', d1', l1', a1', hs1', hle1, hlt1, hcall1⟩ := take_any _ R1 B1 d1 l1 a1 x X1' hs1 n_ n0_ n1_
            obtain ⟨B2', d2', l2', a2', hs2', hle2, hlt2, hcall2⟩ := take_any _ R2 B2 d2 l2 a2 y X2' hs2 n_ n0_ n2_
            rw [← hp] at hcall1
            rw [← hq] at hcall2
            have HC1' := Aside0.mk hcall1
            have HC2' := Aside0.mk hcall2
            have HS1' := Aside0.mk hs1'
            have HS2' := Aside0.mk hs2'
            have HBO := Aside0.mk hbo'
            have HLTT := Aside0.mk (show l1'.length + l2'.length < l1.length + l2.length by rcases hor with e | e; (have := hlt1 e; omega); (have := hlt2 e; omega))
            have HSX := Aside0.mk (size_c xh (by rw [ex]; exact ⟨⟨fx.a0, fx.a⟩, fx.s, fx.d0, fx.d⟩))
            have HSY := Aside0.mk (size_c yh (by rw [ey]; exact ⟨⟨fy.a0, fy.a⟩, fy.s, fy.d0, fy.d⟩))
            unfold rv at HSX HSY
            have HNN := Aside0.mk (show mn2 (sz xh) (sz yh) = n_ by rw [hn_, ex, ey])
            have HE' := Aside0.mk (show pre ++ (mid x y n_ ++ M') = L by rw [hn_]; exact he)
            clear hcall1 hcall2 hs1' hs2' hbo' hle1 hle2 hlt1 hlt2 hp hq fx fy kx0 ky0 hdx hdy hor n1_ n2_ n3_ n0_ ex ey hn_ cx cy HE

            have HC1 := Aside0.mk (fun (w : World) (h : w.heap[R1]? = some (rdr B1 d1 l1 a1)) (hk : (Held2 A1 c1 T1 f1 A2 c2 T2 f2) w) => (show Calls Try.prog 41 #[.pointer (some ⟨R1, 0, none⟩)] w (PartPost xh w) from by rw [hxh]; exact now_any _ R1 B1 d1 l1 a1 _ w HX1.out h hk))
            have HC2 := Aside0.mk (fun (w : World) (h : w.heap[R2]? = some (rdr B2 d2 l2 a2)) (hk : (Held2 A1 c1 T1 f1 A2 c2 T2 f2) w) => (show Calls Try.prog 41 #[.pointer (some ⟨R2, 0, none⟩)] w (PartPost yh w) from by rw [hyh]; exact now_any _ R2 B2 d2 l2 a2 _ w HX2.out h hk))
            have HR1L := Aside0.mk (HP.out.lt HJr.out HG1.out)
            have HR2L := Aside0.mk (HP.out.lt HJr.out HG2.out)
            clear hxh hyh hj hg1 hg2 hs1 hs2 he hk0 hq1 hq2 hm1 hm2 hend
            gi_wp2
            refine ⟨trivial, fun h => absurd h (by decide), ?_⟩
            refine (callsIn_wide.2 (HC1.out _ HQ1.out HK0.out)).mono ?_
            rintro e w2 ⟨rfl, hb2⟩
            have HBA := Aside0.mk hb2
            have HJ2 := Aside0.mk (HP.out.below HJr.out hb2)
            clear hb2 x0 x1 y0 y1
            gi_wp2
            refine ⟨trivial, fun h => absurd h (by decide), ?_⟩
            refine (callsIn_wide.2 (HC2.out _ (HP.out.lies _ _ _ HJ2.out _ _ HG2.out) (HK.out _ _ _ HJ2.out))).mono ?_
            rintro e w3 ⟨rfl, hb3⟩
            have HBB := Aside0.mk hb3
            clear hb3
            obtain ⟨w6, hw6⟩ : ∃ w6, w6 = ((w3.alloc (.cells #[.int .i64 xh.f0, .string xh.f1, .int .i64 xh.f2] 43)).alloc (.cells #[.int .i64 yh.f0, .string yh.f1, .int .i64 yh.f2] 43)).alloc (.cells #[.int .i64 0, .string ⟨#[]⟩, .int .i64 0] 43) := ⟨_, rfl⟩
            obtain ⟨B7, hB7⟩ : ∃ b, b = w3.heap.size := ⟨_, rfl⟩
            have hb6 : Below w3.heap.size w3 w6 := by rw [hw6]; exact below_alloc (below_alloc (below_alloc (Below.refl _ _) _) _) _
            have HZ6 := Aside0.mk (show w6.heap.size = B7 + 3 by rw [hw6, hB7]; simp)
            have HV7 := Aside0.mk (show w6.heap[B7]? = some (rcs xh.f0 xh.f1 xh.f2) by rw [hw6, hB7, Own.heap_old _ _ _ (by simp; omega), Own.heap_old _ _ _ (by simp)]; exact Own.heap_new _ _)
            have HV8 := Aside0.mk (show w6.heap[B7 + 1]? = some (rcs yh.f0 yh.f1 yh.f2) by
              rw [hw6, hB7, Own.heap_old _ _ _ (by simp)]
              have := Own.heap_new (w3.alloc (.cells #[.int .i64 xh.f0, .string xh.f1, .int .i64 xh.f2] 43)) (.cells #[.int .i64 yh.f0, .string yh.f1, .int .i64 yh.f2] 43)
              rwa [World.size_alloc] at this)
            have HV9 := Aside0.mk (show w6.heap[B7 + 1 + 1]? = some (rcs 0 E 0) by
              have := Own.heap_new ((w3.alloc (.cells #[.int .i64 xh.f0, .string xh.f1, .int .i64 xh.f2] 43)).alloc (.cells #[.int .i64 yh.f0, .string yh.f1, .int .i64 yh.f2] 43)) (.cells #[.int .i64 0, .string ⟨#[]⟩, .int .i64 0] 43)
              rw [World.size_alloc, World.size_alloc, ← hw6, ← hB7] at this
              exact this)
            have HLT := Aside0.mk (show wr.heap.size ≤ B7 by rw [hB7]; exact Nat.le_trans HBA.out.size HBB.out.size)
            have HJ6 := Aside0.mk (HP.out.below (HP.out.below HJ2.out HBB.out) hb6)
            have HT6 := Aside0.mk ((((But2.refl R1 R2 wr).below HBA.out).below HBB.out).below hb6)
            have H61 := Aside0.mk (HP.out.lies _ _ _ HJ6.out _ _ HG1.out)
            have H62 := Aside0.mk (HP.out.lies _ _ _ HJ6.out _ _ HG2.out)
            have HK6 := Aside0.mk (HK.out _ _ _ HJ6.out)
            have HW6 := Aside0.mk hw6
            have HB7 := Aside0.mk hB7
            clear hb6 hw6 hB7 HC1 HC2 HBA HBB HJ2
            gi_wp2

            rw [← HW6.out, ← HB7.out]
            refine wpIn_wide.2 ?_
            have HA := Aside0.mk (Below.refl w6.heap.size w6)
            refine start_ (n := 6) (S := fun w' => True) (ds := []) #[false, false, false, false, false, false] (by kernel_rfl) rfl rfl trivial (fun hHeld => ?_); refine with_tabW ComposeI.tab5 ComposeI.bits5 (fun HT_ HW_ => ?_)
            refine inv_at [0, 1, 2, 3, 4, 5] (fun a0_ b a w' => a = putSel a0_ b [(0, 37, (.agg #[.int .i64 xh.f0, .string xh.f1, .int .i64 xh.f2])), (1, 38, (.int .i64 (sz xh))), (2, 39, (.agg #[.int .i64 yh.f0, .string yh.f1, .int .i64 yh.f2])), (3, 40, (.int .i64 (sz yh))), (4, 41, (.int .i64 (mn2 (sz xh) (sz yh)))), (5, 10, (.int .i64 (mn2 (sz xh) (sz yh))))] ∧ (Below w6.heap.size w6 w')) HT_.out HW_.out (by kernel_rfl) (by kernel_rfl) ?_ ?_ ?_
            · exact ⟨by simp only [putSel, Bool.false_eq_true, if_false], below_drew1 (Below.refl _ _)⟩
            · skip
              clear HA
              refine steps_cons ?_ ?_
              · rintro b a w' ⟨ha, Q_HA⟩ hb_ hon hoff
                refine ⟨_, rfl, fun K hK => ?_⟩
                have e7 : a.tmps[7]? = some ((.pointer (some ⟨B7, 0, none⟩))) := by rw [ha]; exact (putSel_off rfl).trans rfl
                replace ha := Aside0.mk ha
                have HA := Aside0.mk Q_HA
                obtain ⟨q0_, q1_, q2_⟩ := blk_cells ((HA.out.block B7 (by have := HZ6.out; omega)).trans HV7.out)
                refine value_ (w1 := w') (v := (.agg #[.int .i64 xh.f0, .string xh.f1, .int .i64 xh.f2])) (by rfl) rfl ?_ ?_
                · go_simp
                  (try simp only [i64_w])
                  try rfl
                refine hK.out _ _ ⟨(by rw [ha.out]; exact putSel_upk 0 hb_ rfl rfl rfl), Q_HA⟩
              refine steps_cons ?_ ?_
              · rintro b a w' ⟨ha, Q_HA⟩ hb_ hon hoff
                refine ⟨_, rfl, fun K hK => ?_⟩
                have e37 : a.tmps[37]? = some ((.agg #[.int .i64 xh.f0, .string xh.f1, .int .i64 xh.f2])) := by rw [ha]; exact putSel_on (e := (0, 37, (.agg #[.int .i64 xh.f0, .string xh.f1, .int .i64 xh.f2]))) 0 rfl rfl (hon 0 (by kernel_rfl)) rfl
                replace ha := Aside0.mk ha
                have HA := Aside0.mk Q_HA
                refine goes_ Try.func40 (by kernel_rfl) rfl #[.agg #[.int .i64 xh.f0, .string xh.f1, .int .i64 xh.f2]] (by rfl) rfl rfl (by first | (simp only [List.map_toArray, List.map_cons, List.map_nil, Act.eval, Array.getD_eq_getD_getElem?, Option.getD_some, e37]; done) | (simp only [List.map_toArray, List.map_cons, List.map_nil, Act.eval, Array.getD_eq_getD_getElem?, Option.getD_some, e37]; rfl)) ?_
                refine (HSX.out _).mono ?_
                rintro e w1_ ⟨rfl, hb⟩
                refine ⟨_, rfl, ?_⟩
                refine hK.out _ _ ⟨(by rw [ha.out]; exact putSel_upk 1 hb_ rfl rfl rfl), below_step HA.out hb⟩
              refine steps_cons ?_ ?_
              · rintro b a w' ⟨ha, Q_HA⟩ hb_ hon hoff
                refine ⟨_, rfl, fun K hK => ?_⟩
                have e8 : a.tmps[8]? = some ((.pointer (some ⟨B7 + 1, 0, none⟩))) := by rw [ha]; exact (putSel_off rfl).trans rfl
                replace ha := Aside0.mk ha
                have HA := Aside0.mk Q_HA
                obtain ⟨q0_, q1_, q2_⟩ := blk_cells ((HA.out.block (B7 + 1) (by have := HZ6.out; omega)).trans HV8.out)
                refine value_ (w1 := w') (v := (.agg #[.int .i64 yh.f0, .string yh.f1, .int .i64 yh.f2])) (by rfl) rfl ?_ ?_
                · go_simp
                  (try simp only [i64_w])
                  try rfl
                refine hK.out _ _ ⟨(by rw [ha.out]; exact putSel_upk 2 hb_ rfl rfl rfl), Q_HA⟩
              refine steps_cons ?_ ?_
              · rintro b a w' ⟨ha, Q_HA⟩ hb_ hon hoff
                refine ⟨_, rfl, fun K hK => ?_⟩
                have e39 : a.tmps[39]? = some ((.agg #[.int .i64 yh.f0, .string yh.f1, .int .i64 yh.f2])) := by rw [ha]; exact putSel_on (e := (2, 39, (.agg #[.int .i64 yh.f0, .string yh.f1, .int .i64 yh.f2]))) 2 rfl rfl (hon 2 (by kernel_rfl)) rfl
                replace ha := Aside0.mk ha
                have HA := Aside0.mk Q_HA
                refine goes_ Try.func40 (by kernel_rfl) rfl #[.agg #[.int .i64 yh.f0, .string yh.f1, .int .i64 yh.f2]] (by rfl) rfl rfl (by first | (simp only [List.map_toArray, List.map_cons, List.map_nil, Act.eval, Array.getD_eq_getD_getElem?, Option.getD_some, e39]; done) | (simp only [List.map_toArray, List.map_cons, List.map_nil, Act.eval, Array.getD_eq_getD_getElem?, Option.getD_some, e39]; rfl)) ?_
                refine (HSY.out _).mono ?_
                rintro e w1_ ⟨rfl, hb⟩
                refine ⟨_, rfl, ?_⟩
                refine hK.out _ _ ⟨(by rw [ha.out]; exact putSel_upk 3 hb_ rfl rfl rfl), below_step HA.out hb⟩
              refine steps_cons ?_ ?_
              · rintro b a w' ⟨ha, Q_HA⟩ hb_ hon hoff
                refine ⟨_, rfl, fun K hK => ?_⟩
                have e38 : a.tmps[38]? = some ((.int .i64 (sz xh))) := by rw [ha]; exact putSel_on (e := (1, 38, (.int .i64 (sz xh)))) 1 rfl rfl (hon 1 (by kernel_rfl)) rfl
                have e40 : a.tmps[40]? = some ((.int .i64 (sz yh))) := by rw [ha]; exact putSel_on (e := (3, 40, (.int .i64 (sz yh)))) 3 rfl rfl (hon 3 (by kernel_rfl)) rfl
                replace ha := Aside0.mk ha
                have HA := Aside0.mk Q_HA
                refine value_ (w1 := w') (v := (.int .i64 (mn2 (sz xh) (sz yh)))) (by rfl) rfl ?_ ?_
                · go_simp
                  (try simp only [i64_w])
                  try rfl
                refine hK.out _ _ ⟨(by rw [ha.out]; exact putSel_upk 4 hb_ rfl rfl rfl), Q_HA⟩
              refine steps_cons ?_ ?_
              · rintro b a w' ⟨ha, Q_HA⟩ hb_ hon hoff
                refine ⟨_, rfl, fun K hK => ?_⟩
                have e41 : a.tmps[41]? = some ((.int .i64 (mn2 (sz xh) (sz yh)))) := by rw [ha]; exact putSel_on (e := (4, 41, (.int .i64 (mn2 (sz xh) (sz yh))))) 4 rfl rfl (hon 4 (by kernel_rfl)) rfl
                replace ha := Aside0.mk ha
                have HA := Aside0.mk Q_HA
                refine value_ (w1 := w') (v := (.int .i64 (mn2 (sz xh) (sz yh)))) (by rfl) rfl ?_ ?_
                · go_simp
                  (try simp only [i64_w])
                  try rfl
                refine hK.out _ _ ⟨(by rw [ha.out]; exact putSel_upk 5 hb_ rfl rfl rfl), Q_HA⟩
              exact steps_nil
            rintro b a we hall ⟨ha, Q_HA⟩
            clear HA
            have hb0_ := hall 0 (by kernel_rfl)
            have hb1_ := hall 1 (by kernel_rfl)
            have hb2_ := hall 2 (by kernel_rfl)
            have hb3_ := hall 3 (by kernel_rfl)
            have hb4_ := hall 4 (by kernel_rfl)
            have hb5_ := hall 5 (by kernel_rfl)
            subst ha
            simp only [putSel, hb0_, hb1_, hb2_, hb3_, hb4_, hb5_, if_true, Act.put, List.setIfInBounds_toArray, List.set_cons_zero, List.set_cons_succ]
            have HA := Aside0.mk Q_HA
            clear Q_HA
            clear hall hb0_ hb1_ hb2_ hb3_ hb4_ hb5_
            rw [HNN.out]
            have HJe := Aside0.mk (HP.out.below HJ6.out HA.out)
            have HTe := Aside0.mk (HT6.out.below HA.out)
            have HVe9 := Aside0.mk ((HA.out.block _ (by have := HZ6.out; omega)).trans HV9.out)
            have HZe := Aside0.mk (show B7 + 3 ≤ we.heap.size by have := HZ6.out; have := HA.out.size; omega)
            clear HA
            gi_wp2
            refine ⟨trivial, fun h => absurd h (by decide), ?_⟩
            refine (callsIn_wide.2 (HC1'.out _ (HP.out.lies _ _ _ HJe.out _ _ HG1.out) (HK.out _ _ _ HJe.out))).mono ?_
            rintro e wa ⟨rfl, hba, hra⟩
            have HTa := Aside0.mk (HTe.out.first hba)
            have Ha1 := Aside0.mk hra
            have Ha2 := Aside0.mk ((hba.block _ (by have := HR2L.out; have := HLT.out; have := HZe.out; omega) (fun e => HR.out (by injection e with e; exact e.symm))).trans (HP.out.lies _ _ _ HJe.out _ _ HG2.out))
            have Ha9 := Aside0.mk ((hba.block _ (by have := HZe.out; omega) (fun e => by injection e with e; have := HR1L.out; have := HLT.out; omega)).trans HVe9.out)
            have HZa := Aside0.mk (show B7 + 3 ≤ wa.heap.size from Nat.le_trans HZe.out hba.size)
            have HJa := Aside0.mk (party2 HP.out HJr.out HG1.out HG2.out HTa.out Ha1.out Ha2.out)
            clear hba hra
            gi_wp2
            refine ⟨trivial, fun h => absurd h (by decide), ?_⟩
            refine (callsIn_wide.2 (HC2'.out _ Ha2.out (HK.out _ _ _ HJa.out))).mono ?_
            rintro e wb ⟨rfl, hbb, hrb⟩
            have HTb := Aside0.mk (HTa.out.second hbb)
            have Hb1 := Aside0.mk ((hbb.block _ (by have := HR1L.out; have := HLT.out; have := HZa.out; omega) (fun e => HR.out (by injection e))).trans Ha1.out)
            have Hb2 := Aside0.mk hrb
            have Hb9 := Aside0.mk ((hbb.block _ (by have := HZa.out; omega) (fun e => by injection e with e; have := HR2L.out; have := HLT.out; omega)).trans Ha9.out)
            clear hbb hrb
            obtain ⟨w7, hw7⟩ : ∃ w7, w7 = (wb.alloc (.cells #[.int .i64 p.f0, .string p.f1, .int .i64 p.f2] 43)).alloc (.cells #[.int .i64 q.f0, .string q.f1, .int .i64 q.f2] 43) := ⟨_, rfl⟩
            have hb7 : Below wb.heap.size wb w7 := by rw [hw7]; exact below_alloc (below_alloc (Below.refl _ _) _) _
            have lt7 : ∀ {k : Nat} {o : Obj}, wb.heap[k]? = some o → w7.heap[k]? = some o := fun hk => (hb7.block _ (Array.getElem?_eq_some_iff.1 hk).1).trans hk
            have HT7 := Aside0.mk (HTb.out.below hb7)
            have H71 := Aside0.mk (lt7 Hb1.out)
            have H72 := Aside0.mk (lt7 Hb2.out)
            have H97 := Aside0.mk (lt7 Hb9.out)
            have HW7 := Aside0.mk hw7
            clear hb7 lt7

            have HJ7 := Aside0.mk (party2 HP.out HJr.out HG1.out HG2.out HT7.out H71.out H72.out)
            have HG72 := Aside0.mk (Priv.put_same (G.put R1 (rdr B1' d1' l1' a1')) R2 (rdr B2' d2' l2' a2'))
            have HG71 := Aside0.mk ((Priv.put_other (G.put R1 (rdr B1' d1' l1' a1')) (rdr B2' d2' l2' a2') HR.out).trans (Priv.put_same G R1 (rdr B1' d1' l1' a1')))
            obtain ⟨q0, q1, q2⟩ := blk_cells H97.out
            rw [hw7] at q0 q1 q2
            clear hw7
            have hE0 : E.toList = ([] : List UInt8) := tl_nil.2 rfl
            gi_wp2
            refine ⟨(fun f hf => by cases hf), ?_⟩
            gi_wp2
            rw [← HW7.out]
            go_roundw
            case rel => exact ⟨_, _, _, _, _, _, _, _, _, _, _, _, _, HJ7.out, HG71.out, HG72.out, HS1'.out, HS2'.out, HBO.out, by have := HE'.out; rw [HMID.out] at this; exact this⟩
            case measure => (rw [lenOf_rdr H71.out, lenOf_rdr H72.out, HN.out, HM.out]; have := HLTT.out; omega)
      -- END WAYS
end Go.Proofs.Ytbfdplmgefcogaa.ComposeI
end
-- MERGED YtbfdplmgefcogaaComposeT
section
/- Two edits as one, as a function; what it sums to and what it makes of a text. -/
namespace Go.Proofs.Ytbfdplmgefcogaa.ComposeT
open Go.RowKit Go.Proofs.Ytbfdplmgefcogaa.P Go.Proofs.Ytbfdplmgefcogaa.EditL Go.Proofs.Ytbfdplmgefcogaa.EditK Go.Proofs.Ytbfdplmgefcogaa.EditG Go.Proofs.Ytbfdplmgefcogaa.RunA Go.Proofs.Ytbfdplmgefcogaa.RunL Go.Proofs.Ytbfdplmgefcogaa.ComposeL
set_option linter.unusedSimpArgs false
set_option linter.unusedVariables false

def bothL : Nat → List Rn → List Rn → List Rn
  | 0, _, _ => []
  | _ + 1, [], [] => []
  | k + 1, [], y :: Y => y :: bothL k [] Y
  | k + 1, x :: X, Y => if knd x = 3 then x :: bothL k X Y else match Y with
    | [] => []
    | y :: Y' => if knd y = 2 then y :: bothL k (x :: X) Y' else mid x y (mn2 (sz x) (sz y)) ++ bothL k (cutl (mn2 (sz x) (sz y)) x X) (cutl (mn2 (sz x) (sz y)) y Y')
theorem bo_fun {X Y M : List Rn} (h : Bo X Y M) : (∀ r ∈ X, knd r ≠ 0) → (∀ r ∈ Y, knd r ≠ 0) → ∀ k : Nat, szL X + szL Y < k → bothL k X Y = M := by
  induction h with
  | nil => intro _ _ k hk; cases k <;> rfl
  | @drop x X Y M h3 _ ih =>
    intro hX hY k hk
    have z := sz_pos (hX x List.mem_cons_self)
    simp only [szL] at hk
    have hX' : ∀ r ∈ X, knd r ≠ 0 := fun r hr => hX r (List.mem_cons_of_mem x hr)
    have := szL_pos hX'
    have := szL_pos hY
    obtain ⟨k, rfl⟩ : ∃ m, k = m + 1 := ⟨k - 1, by omega⟩
    show (if knd x = 3 then _ else _) = _
    rw [if_pos h3, ih hX' hY k (by omega)]
  | @add X y Y M h3 h2 _ ih =>
    intro hX hY k hk
    have z := sz_pos (hY y List.mem_cons_self)
    simp only [szL] at hk
    have hY' : ∀ r ∈ Y, knd r ≠ 0 := fun r hr => hY r (List.mem_cons_of_mem y hr)
    have := szL_pos hX
    have := szL_pos hY'
    obtain ⟨k, rfl⟩ : ∃ m, k = m + 1 := ⟨k - 1, by omega⟩
    cases X with
    | nil =>
      show y :: bothL k [] Y = _
      rw [ih hX hY' k (by omega)]
    | cons x X =>
      show (if knd x = 3 then _ else (if knd y = 2 then _ else _)) = _
      rw [if_neg (h3 x X rfl), if_pos h2, ih hX hY' k (by omega)]
  | @two x X y Y M hx hy _ ih =>
    intro hX hY k hk
    have zx := sz_pos (hX x List.mem_cons_self)
    have zy := sz_pos (hY y List.mem_cons_self)
    obtain ⟨n1, n2, n3⟩ := mn2_le (sz x) (sz y)
    have n0 := n3 zx zy
    have cx := cut_ok hX n0 n1
    have cy := cut_ok hY n0 n2
    have sx := cx.s
    have sy := cy.s
    have := szL_pos cx.ok
    have := szL_pos cy.ok
    obtain ⟨k, rfl⟩ : ∃ m, k = m + 1 := ⟨k - 1, by omega⟩
    show (if knd x = 3 then _ else (if knd y = 2 then _ else _)) = _
    rw [if_neg (by omega), if_neg (by omega), ih cx.ok cy.ok k (by omega)]
def both (a b : List Rn) : List Rn := bothL ((szL a + szL b).toNat + 1) a b
theorem both_made {a b : List Rn} (ha : ∀ r ∈ a, knd r ≠ 0) (hb : ∀ r ∈ b, knd r ≠ 0) (h : outL a = inL b) : Made a b (both a b) := by
  have h1 := szL_pos ha
  have h2 := szL_pos hb
  obtain ⟨M, hM⟩ := bo_ex (szL a + szL b).toNat a b ha hb h (by omega)
  have e : both a b = M := bo_fun hM.bo ha hb _ (by omega)
  rw [e]; exact hM
/-- May two edits stand one behind the other? -/
def meet (a b : List Rn) : Bool := good a && good b && decide (outL a = inL b)
theorem meet_iff {a b : List Rn} : meet a b = true ↔ good a = true ∧ good b = true ∧ outL a = inL b := by unfold meet; simp [and_assoc]
def fin2 (l : List Rn) : List Rn × Int := if 0 < l.length ∧ (norm l).length = 0 then ([], 31) else (norm l, 0)
def twoL (a b : List Rn) : List Rn × Int := if meet a b = true then fin2 (both a b) else ([], 60)
theorem two_no {a b : List Rn} (h : ¬ meet a b = true) : twoL a b = ([], 60) := if_neg h
theorem two_yes {a b : List Rn} (h : meet a b = true) : twoL a b = fin2 (both a b) := if_pos h
structure Is (a b c : List Rn) : Prop where
  two : twoL a b = (c, 0)
  good : good c = true
  i : inL c = inL a
  o : outL c = outL b
  ap : ∀ s : ByteArray, inL a = (s.size : Int) → apL c s = apL b (apL a s)
  len : c.length ≤ 3 * (a.length + b.length) + 3
theorem two_is {a b : List Rn} (h : meet a b = true) (hl : a.length + b.length ≤ 20000) : Is a b (norm (both a b)) := by
  obtain ⟨ga, gb, ho⟩ := meet_iff.1 h
  obtain ⟨_, _, _, ka⟩ := good_ok ga
  obtain ⟨_, _, _, kb⟩ := good_ok gb
  have m := both_made ka kb ho
  have sa := sums_good ga
  have sb := sums_good gb
  have ml := m.len
  have mi := m.i
  have mo := m.o
  have N := norm_ok (l := both a b) (fun r hr => .inl (m.ok r hr)) (by omega) (by omega) (by omega)
  have nl := N.len
  refine ⟨?_, N.good, N.i.trans m.i, N.o.trans m.o, fun s hs => ?_, by omega⟩
  · rw [two_yes h]
    unfold fin2
    rw [if_neg]
    rintro ⟨h1, h2⟩
    have e : norm (both a b) = [] := List.eq_nil_of_length_eq_zero h2
    have ni := N.i
    have no := N.o
    rw [e] at ni no
    obtain ⟨x, l, hx⟩ : ∃ x l, both a b = x :: l := by
      cases hb : both a b with
      | nil => rw [hb] at h1; exact absurd h1 (by simp)
      | cons x l => exact ⟨x, l, rfl⟩
    have hk : ∀ r ∈ x :: l, knd r ≠ 0 := by rw [← hx]; exact m.ok
    have hn := inL_nonneg (fun r hr => hk r (List.mem_cons_of_mem x hr))
    rw [hx] at ni no
    simp only [inL, outL] at ni no
    rcases knd_three (hk x List.mem_cons_self) with c | c | c
    · have := run_eq c; omega
    · have := run_eq2 c; omega
    · have := run_eq3 c; omega
  · apply L_inj
    rw [apW_eq, N.ap, bo_ap m.bo ka kb _ (by rw [L_len]; exact hs) ho, apW_eq, apW_eq]
/-! With one that changes nothing. -/
def nothing (n : Int) : List Rn := if 0 < n then [⟨n, E, 0⟩] else []
theorem bo_left : ∀ (b : List Rn), (∀ r ∈ b, knd r ≠ 0) → Bo (nothing (inL b)) b b := by
  intro b
  induction b with
  | nil => intro _; exact .nil
  | cons y Y ih =>
    intro hb
    have hY : ∀ r ∈ Y, knd r ≠ 0 := fun r hr => hb r (List.mem_cons_of_mem y hr)
    have ih := ih hY
    have hs := inL_nonneg hY
    have hx3 : ∀ (n : Int) (x : Rn) (X' : List Rn), nothing n = x :: X' → knd x = 1 := by
      intro n x X' e
      unfold nothing at e
      split at e
      · rename_i h
        injection e with e1 _
        rw [← e1]; exact knd_keep h
      · cases e
    rcases knd_three (hb y List.mem_cons_self) with c | c | c
    · have e := run_eq c
      have z := sz_keep c
      have hi : inL (y :: Y) = y.f0 + inL Y := by simp only [inL]; omega
      have kx : knd ⟨y.f0 + inL Y, E, 0⟩ = 1 := knd_keep (by omega)
      have zx : sz ⟨y.f0 + inL Y, E, 0⟩ = y.f0 + inL Y := (sz_keep kx).1
      have hmn : mn2 (sz ⟨y.f0 + inL Y, E, 0⟩) (sz y) = y.f0 := by rw [zx, z.1]; unfold mn2; split <;> omega
      have b1 : Bo (cutl y.f0 ⟨y.f0 + inL Y, E, 0⟩ []) (cutl y.f0 y Y) Y := by
        have h1 : cutl y.f0 ⟨y.f0 + inL Y, E, 0⟩ [] = nothing (inL Y) := by
          unfold cutl nothing
          rw [zx]
          by_cases h : 0 < inL Y
          · rw [if_neg (by omega), if_pos h, part_keep kx, show y.f0 + inL Y - y.f0 = inL Y by omega]
          · rw [if_pos (by omega), if_neg h]
        have h2 : cutl y.f0 y Y = Y := if_pos z.1.symm
        rw [h1, h2]; exact ih
      have := Bo.two (x := ⟨y.f0 + inL Y, E, 0⟩) (X := []) (y := y) (Y := Y) (L := Y) (.inl kx) (.inl c) (by rw [hmn]; exact b1)
      rw [hmn] at this
      unfold mid at this
      rw [if_pos c, part_keep kx, Int.sub_zero] at this
      rw [hi]
      unfold nothing
      rw [if_pos (by omega)]
      have ey : (⟨y.f0, E, 0⟩ : Rn) :: Y = y :: Y := congrArg (· :: Y) e.1.symm
      rw [← ey]
      rw [show (([⟨y.f0, E, 0⟩] : List Rn) ++ Y) = (⟨y.f0, E, 0⟩ : Rn) :: Y from rfl] at this
      rw [show (y :: Y) = (⟨y.f0, E, 0⟩ : Rn) :: Y from ey.symm] at this
      exact this
    · have e := run_eq2 c
      have hi : inL (y :: Y) = inL Y := by simp only [inL]; omega
      rw [hi]
      exact .add (fun x X' h => by rw [hx3 _ x X' h]; decide) c ih
    · have e := run_eq3 c
      have z := sz_drop c
      have hi : inL (y :: Y) = y.f2 + inL Y := by simp only [inL]; omega
      have kx : knd ⟨y.f2 + inL Y, E, 0⟩ = 1 := knd_keep (by omega)
      have zx : sz ⟨y.f2 + inL Y, E, 0⟩ = y.f2 + inL Y := (sz_keep kx).1
      have hmn : mn2 (sz ⟨y.f2 + inL Y, E, 0⟩) (sz y) = y.f2 := by rw [zx, z.1]; unfold mn2; split <;> omega
      have b1 : Bo (cutl y.f2 ⟨y.f2 + inL Y, E, 0⟩ []) (cutl y.f2 y Y) Y := by
        have h1 : cutl y.f2 ⟨y.f2 + inL Y, E, 0⟩ [] = nothing (inL Y) := by
          unfold cutl nothing
          rw [zx]
          by_cases h : 0 < inL Y
          · rw [if_neg (by omega), if_pos h, part_keep kx, show y.f2 + inL Y - y.f2 = inL Y by omega]
          · rw [if_pos (by omega), if_neg h]
        have h2 : cutl y.f2 y Y = Y := if_pos z.1.symm
        rw [h1, h2]; exact ih
      have := Bo.two (x := ⟨y.f2 + inL Y, E, 0⟩) (X := []) (y := y) (Y := Y) (L := Y) (.inl kx) (.inr c) (by rw [hmn]; exact b1)
      rw [hmn] at this
      unfold mid at this
      rw [if_neg (by rw [c]; decide), if_pos kx, part_drop c, Int.sub_zero] at this
      rw [hi]
      unfold nothing
      rw [if_pos (by omega)]
      have ey : (⟨0, E, y.f2⟩ : Rn) :: Y = y :: Y := congrArg (· :: Y) e.1.symm
      rw [show (y :: Y) = (⟨0, E, y.f2⟩ : Rn) :: Y from ey.symm] at this ⊢
      exact this
theorem bo_right : ∀ (a : List Rn), (∀ r ∈ a, knd r ≠ 0) → Bo a (nothing (outL a)) a := by
  intro a
  induction a with
  | nil => intro _; exact .nil
  | cons x X ih =>
    intro ha
    have hX : ∀ r ∈ X, knd r ≠ 0 := fun r hr => ha r (List.mem_cons_of_mem x hr)
    have ih := ih hX
    have hs := inL_nonneg hX
    by_cases c3 : knd x = 3
    · have e := run_eq3 c3
      have e1 : (x.f1.size : Int) = 0 := by rw [e.2.2.1, E_size]; rfl
      have ho : outL (x :: X) = outL X := by simp only [outL]; omega
      rw [ho]
      exact .drop c3 ih
    · have hx12 : knd x = 1 ∨ knd x = 2 := by rcases knd_three (ha x List.mem_cons_self) with c | c | c; exact .inl c; exact .inr c; exact absurd c c3
      have kx := ha x List.mem_cons_self
      have zp := sz_pos kx
      have ho : outL (x :: X) = sz x + outL X := by
        simp only [outL]
        rcases hx12 with c | c
        · have e := run_eq c; have := sz_keep c; rw [e.2.2.1, E_size]; omega
        · have e := run_eq2 c; have := sz_add c; omega
      have ky : knd ⟨sz x + outL X, E, 0⟩ = 1 := knd_keep (by omega)
      have zy : sz ⟨sz x + outL X, E, 0⟩ = sz x + outL X := (sz_keep ky).1
      have hmn : mn2 (sz x) (sz ⟨sz x + outL X, E, 0⟩) = sz x := by rw [zy]; unfold mn2; split <;> omega
      have b1 : Bo (cutl (sz x) x X) (cutl (sz x) ⟨sz x + outL X, E, 0⟩ []) X := by
        have h1 : cutl (sz x) ⟨sz x + outL X, E, 0⟩ [] = nothing (outL X) := by
          unfold cutl nothing
          rw [zy]
          by_cases h : 0 < outL X
          · rw [if_neg (by omega), if_pos h, part_keep ky, show sz x + outL X - sz x = outL X by omega]
          · rw [if_pos (by omega), if_neg h]
        have h2 : cutl (sz x) x X = X := if_pos rfl
        rw [h1, h2]; exact ih
      have := Bo.two (x := x) (X := X) (y := ⟨sz x + outL X, E, 0⟩) (Y := []) (L := X) hx12 (.inl ky) (by rw [hmn]; exact b1)
      rw [hmn] at this
      unfold mid at this
      rw [if_pos ky, part_all kx] at this
      rw [ho]
      have hz : nothing (sz x + outL X) = [⟨sz x + outL X, E, 0⟩] := if_pos (by omega)
      rw [hz]
      exact this
theorem nothing_ok {n : Int} (h0 : 0 ≤ n) (h1 : n ≤ 16777216) : good (nothing n) = true ∧ inL (nothing n) = n ∧ outL (nothing n) = n ∧ (nothing n).length ≤ 1 := by
  unfold nothing
  by_cases h : 0 < n
  · rw [if_pos h]
    have hk : knd ⟨n, E, 0⟩ = 1 := knd_keep h
    refine ⟨?_, by simp only [inL]; omega, by simp only [outL, E_size]; omega, by simp⟩
    unfold good
    simp only [ord, fits, hk, E_size]
    simp
    omega
  · rw [if_neg h]
    exact ⟨rfl, by simp only [inL]; omega, by simp only [outL]; omega, by simp⟩
theorem both_left {b : List Rn} (hb : ∀ r ∈ b, knd r ≠ 0) (ha : ∀ r ∈ nothing (inL b), knd r ≠ 0) : both (nothing (inL b)) b = b :=
  bo_fun (bo_left b hb) ha hb _ (by have := szL_pos ha; have := szL_pos hb; omega)
theorem both_right {a : List Rn} (ha : ∀ r ∈ a, knd r ≠ 0) (hb : ∀ r ∈ nothing (outL a), knd r ≠ 0) : both a (nothing (outL a)) = a :=
  bo_fun (bo_right a ha) ha hb _ (by have := szL_pos ha; have := szL_pos hb; omega)
theorem fin2_good {a : List Rn} (h : good a = true) : fin2 a = (a, 0) := by
  unfold fin2
  rw [norm_self h, if_neg (by omega)]
theorem two_left {b : List Rn} (h : good b = true) : twoL (nothing (inL b)) b = (b, 0) := by
  have s := sums_good h
  obtain ⟨n1, n2, n3, _⟩ := nothing_ok s.1 s.2.1
  rw [two_yes (meet_iff.2 ⟨n1, h, n3⟩), both_left (good_ok h).2.2.2 (good_ok n1).2.2.2, fin2_good h]
theorem two_right {a : List Rn} (h : good a = true) : twoL a (nothing (outL a)) = (a, 0) := by
  have s := sums_good h
  obtain ⟨n1, n2, n3, _⟩ := nothing_ok s.2.2.1 s.2.2.2
  rw [two_yes (meet_iff.2 ⟨h, n1, n2.symm⟩), both_right (good_ok h).2.2.2 (good_ok n1).2.2.2, fin2_good h]
end Go.Proofs.Ytbfdplmgefcogaa.ComposeT
end

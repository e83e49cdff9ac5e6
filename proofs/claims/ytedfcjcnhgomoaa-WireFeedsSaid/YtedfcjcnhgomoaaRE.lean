import Derived.RangeFuncNested
import Derived.RangeFuncBound
import Derived.RangeFuncCalls
import Derived.RangeFuncLeaves
import Derived.Shelf.Abstract
import Derived.Shelf.RegionOpen
import Derived.WalkKit
import Derived.OwnWalkIn
import Derived.TacticsInMore
import Derived.LoopNIn
import Derived.LoopIn
import Derived.Test.YtedfcjcnhgomoaaQB
import Derived.Test.YtedfcjcnhgomoaaQC
import Derived.Lib.SliceRun
-- MERGED YtedfcjcnhgomoaaWireL
section
/- The plain law of a stream of frames: what bytes come to, in one piece or in many; no program in sight. -/
namespace Go.Proofs.Ytedfcjcnhgomoaa.WireL
open Go.RowKit Go.Proofs.Ytedfcjcnhgomoaa.Own Go.Proofs.Ytedfcjcnhgomoaa.Vy Go.Proofs.Ytedfcjcnhgomoaa.FrameP Go.Proofs.Ytedfcjcnhgomoaa.FrameL

theorem get_n (b : List Int) : (FrameL.get b).2.1 = 0 ∨ ((FrameL.get b).2.1 = sizeL b ∧ sizeL b ≤ b.length ∧ FrameL.get b = getTail (sizeL b) (segL b) ∧ (numL b).2 ≠ 0) := by
  unfold FrameL.get
  split
  · exact .inl rfl
  · split
    · exact .inl rfl
    · split
      · exact .inl rfl
      · refine .inr ⟨?_, by omega, rfl, by assumption⟩
        unfold getTail
        split
        · rfl
        · split <;> rfl
theorem get_le (b : List Int) : (FrameL.get b).2.1 ≤ b.length := by
  rcases get_n b with h | h
  · omega
  · omega
theorem get_ok {b : List Int} (h : (FrameL.get b).2.2 = 0) : 0 < (FrameL.get b).2.1 := by
  rcases get_n b with h1 | h1
  · exfalso
    unfold FrameL.get at h h1
    split at h
    · simp at h
    · split at h
      · simp at h
      · split at h
        · simp at h
        · rename_i c1 c2 c3
          rw [if_neg c1, if_neg c2, if_neg c3] at h1
          have : (getTail (sizeL b) (segL b)).2.1 = sizeL b := by
            unfold getTail
            split
            · rfl
            · split <;> rfl
          have hp : 0 < sizeL b := by unfold sizeL; omega
          omega
  · have := h1.1
    unfold sizeL at this
    omega
/-- A stream's end? -/
def ends (b : List Int) : Bool := decide ((FrameL.get b).2.2 = 11) || (decide (9 ≤ b.length) && decide ((numL b).2 = 0))
/-- What bytes come to: packets, what is kept, how many frames were lost, is it broken. -/
def run (b : List Int) : List Pk × List Int × Nat × Bool :=
  if h : 0 < (FrameL.get b).2.1 then
    let r := run (b.drop (FrameL.get b).2.1)
    if (FrameL.get b).2.2 = 0 then ((FrameL.get b).1 :: r.1, r.2.1, r.2.2.1, r.2.2.2) else (r.1, r.2.1, r.2.2.1 + 1, r.2.2.2)
  else if ends b then ([], [], 0, true) else ([], b, 0, false)
termination_by b.length
decreasing_by
  have := get_le b
  rw [List.length_drop]; omega
end Go.Proofs.Ytedfcjcnhgomoaa.WireL
end
-- MERGED YtedfcjcnhgomoaaWireP
section
/- The small walks of a stream. -/
namespace Go.Proofs.Ytedfcjcnhgomoaa.WireP
open Go.RowKit Go.Proofs.Ytedfcjcnhgomoaa.P Go.Proofs.YtedfcjcnhgomoaaW.PrintWords Go.Proofs.YtedfcjcnhgomoaaW.PrintLast Go.Proofs.YtedfcjcnhgomoaaW.PrintMore Go.Proofs.Ytedfcjcnhgomoaa.Own Go.Proofs.Ytedfcjcnhgomoaa.Vy Go.Proofs.Ytedfcjcnhgomoaa.FrameP Go.Proofs.Ytedfcjcnhgomoaa.FrameL Go.Proofs.Ytedfcjcnhgomoaa.VaryR Go.Proofs.Ytedfcjcnhgomoaa.FrameG
set_option linter.unusedSimpArgs false
set_option linter.unusedVariables false

/-- A stream in block S. -/
def Strm (S : Nat) (v : Value) (lost : Int) (brk made : Bool) (w : World) : Prop := w.heap[S]? = some (.cells #[v, .int .i64 lost, .bool brk, .bool made] 61 (0, 0))
theorem Strm.lt {S : Nat} {v : Value} {lost : Int} {brk made : Bool} {w : World} (h : Strm S v lost brk made w) : S < w.heap.size := lt_of h
theorem Strm.c0 {S : Nat} {v : Value} {lost : Int} {brk made : Bool} {w : World} (h : Strm S v lost brk made w) : w.cell? ⟨S, 0, none⟩ = some v := by rw [cell_of_row w _ 0 _ _ _ h]; rfl
theorem Strm.c1 {S : Nat} {v : Value} {lost : Int} {brk made : Bool} {w : World} (h : Strm S v lost brk made w) : w.cell? ⟨S, 1, none⟩ = some (.int .i64 lost) := by rw [cell_of_row w _ 1 _ _ _ h]; rfl
theorem Strm.c2 {S : Nat} {v : Value} {lost : Int} {brk made : Bool} {w : World} (h : Strm S v lost brk made w) : w.cell? ⟨S, 2, none⟩ = some (.bool brk) := by rw [cell_of_row w _ 2 _ _ _ h]; rfl
theorem Strm.c3 {S : Nat} {v : Value} {lost : Int} {brk made : Bool} {w : World} (h : Strm S v lost brk made w) : w.cell? ⟨S, 3, none⟩ = some (.bool made) := by rw [cell_of_row w _ 3 _ _ _ h]; rfl
theorem Strm.f {S : Nat} {v : Value} {lost : Int} {brk made : Bool} {w : World} (h : Strm S v lost brk made w) (o : Nat) : w.frozen? ⟨S, o, none⟩ = false := frozen_of_row w _ o _ _ h
theorem Strm.below {S : Nat} {v : Value} {lost : Int} {brk made : Bool} {w w' : World} (h : Strm S v lost brk made w) (hb : Below w.heap.size w w') : Strm S v lost brk made w' := (hb.block _ h.lt).trans h
set_option maxHeartbeats 1000000 in
set_option maxRecDepth 100000 in
theorem none_nil (w : World) : Calls Try.prog 74 #[.pointer none] w fun e w' => e = .returned (.bool true) ∧ w' = w := by
  go_enter Try.func74, Try.ntmps74
  go_wp2_with fail
  go_ret
  exact ⟨rfl, rfl⟩
set_option maxHeartbeats 1000000 in
set_option maxRecDepth 100000 in
theorem none_c (S : Nat) (v : Value) (lost : Int) (brk made : Bool) (w : World) (h : Strm S v lost brk made w) : Calls Try.prog 74 #[.pointer (some ⟨S, 0, none⟩)] w fun e w' => e = .returned (.bool (!made)) ∧ w' = w := by
  have c3 := h.c3
  go_enter Try.func74, Try.ntmps74
  go_wp2_with fail
  go_ret
  exact ⟨by cases made <;> rfl, rfl⟩
set_option maxHeartbeats 1000000 in
set_option maxRecDepth 100000 in
theorem noNumber_c (u : Value) (l : List Int) (w : World) (hs : Sl w u l) (hok : Byt.Ok l) (hl : l.length ≤ 1000000) :
    Calls Try.prog 99 #[u] w fun e w' => e = .returned (.bool (decide ((numL l).2 = 0))) ∧ Below w.heap.size w w' := by
  have HS := Aside0.mk hs
  have HO := Aside0.mk hok
  have HL := Aside0.mk hl
  clear hs hok hl
  go_enter Try.func99, Try.ntmps99
  go_wp2_with fail
  refine (VaryR.nRead _ _ l HS.out (by have := HL.out; omega)).mono ?_
  rintro e w8 ⟨rfl, r8, b8, s8⟩
  obtain ⟨g, hg⟩ : ∃ g, g = w.heap.size := ⟨_, rfl⟩
  rw [← hg] at r8 ⊢
  have R8 := Aside0.mk r8
  have B8 := Aside0.mk (show Below g w w8 by rw [hg]; exact b8)
  have HG := Aside0.mk hg
  clear r8 b8 s8 hg
  go_wp2_with fail
  refine (show Calls _ _ _ _ (RdPost g u l 0 false (.int .i64 (stepV 0 false (numL (l.drop 0)).2 (numL (l.drop 0)).1)) (numL (l.drop 0)).2 _) from VaryR.nNum g _ _ l 0 false R8.out HO.out).mono ?_
  rintro e w10 ⟨rfl, r10, b10⟩
  have R10 := Aside0.mk r10
  have HB10 := Aside0.mk (VaryR.But.step b10 B8.out (Nat.le_refl _) (by rw [HG.out]; exact Nat.le_refl _))
  clear r10 b10 R8 B8
  go_wp2_with fail
  refine (VaryR.nBad g _ _ l _ _ R10.out).mono ?_
  rintro e w11 ⟨rfl, rfl⟩
  go_wp2_with fail
  go_ret
  exact ⟨by simp [stepB], by have := HB10.out; rwa [HG.out] at this⟩
set_option maxHeartbeats 1000000 in
set_option maxRecDepth 100000 in
theorem wait_nil (w : World) : Calls Try.prog 32 #[.pointer none] w fun e w' => e = .returned (.int .i64 0) ∧ w' = w := by
  go_enter Try.func32, Try.ntmps32
  go_wp2_with fail
  refine (none_nil _).mono ?_
  rintro e w1 ⟨rfl, rfl⟩
  go_wp2_with fail
  go_ret
  exact ⟨rfl, rfl⟩
set_option maxHeartbeats 1000000 in
set_option maxRecDepth 100000 in
theorem wait_c (S : Nat) (A : Option Addr) (n c : Nat) (lost : Int) (brk made : Bool) (w : World) (h : Strm S (.slice A n c) lost brk made w) : Calls Try.prog 32 #[.pointer (some ⟨S, 0, none⟩)] w fun e w' => e = .returned (.int .i64 (if made then (n : Int) else 0)) ∧ w' = w := by
  have c0 := h.c0
  go_enter Try.func32, Try.ntmps32
  cases made <;>
  · go_wp2_with fail
    refine (none_c S _ lost brk _ _ h).mono ?_
    rintro e w1 ⟨rfl, rfl⟩
    go_wp2_with fail
    go_ret
    exact ⟨rfl, rfl⟩
set_option maxHeartbeats 1000000 in
set_option maxRecDepth 100000 in
theorem lost_nil (w : World) : Calls Try.prog 33 #[.pointer none] w fun e w' => e = .returned (.int .i64 0) ∧ w' = w := by
  go_enter Try.func33, Try.ntmps33
  go_wp2_with fail
  refine (none_nil _).mono ?_
  rintro e w1 ⟨rfl, rfl⟩
  go_wp2_with fail
  go_ret
  exact ⟨rfl, rfl⟩
set_option maxHeartbeats 1000000 in
set_option maxRecDepth 100000 in
theorem lost_c (S : Nat) (v : Value) (lost : Int) (brk made : Bool) (w : World) (h : Strm S v lost brk made w) : Calls Try.prog 33 #[.pointer (some ⟨S, 0, none⟩)] w fun e w' => e = .returned (.int .i64 (if made then lost else 0)) ∧ w' = w := by
  have c0 := h.c1
  go_enter Try.func33, Try.ntmps33
  cases made <;>
  · go_wp2_with fail
    refine (none_c S _ lost brk _ _ h).mono ?_
    rintro e w1 ⟨rfl, rfl⟩
    go_wp2_with fail
    go_ret
    exact ⟨rfl, rfl⟩
set_option maxHeartbeats 1000000 in
set_option maxRecDepth 100000 in
theorem broken_nil (w : World) : Calls Try.prog 34 #[.pointer none] w fun e w' => e = .returned (.bool false) ∧ w' = w := by
  go_enter Try.func34, Try.ntmps34
  go_wp2_with fail
  refine (none_nil _).mono ?_
  rintro e w1 ⟨rfl, rfl⟩
  go_wp2_with fail
  go_ret
  exact ⟨rfl, rfl⟩
set_option maxHeartbeats 1000000 in
set_option maxRecDepth 100000 in
theorem broken_c (S : Nat) (v : Value) (lost : Int) (brk made : Bool) (w : World) (h : Strm S v lost brk made w) : Calls Try.prog 34 #[.pointer (some ⟨S, 0, none⟩)] w fun e w' => e = .returned (.bool (if made then brk else false)) ∧ w' = w := by
  have c0 := h.c2
  go_enter Try.func34, Try.ntmps34
  cases made <;>
  · go_wp2_with fail
    refine (none_c S _ lost brk _ _ h).mono ?_
    rintro e w1 ⟨rfl, rfl⟩
    go_wp2_with fail
    go_ret
    exact ⟨rfl, rfl⟩
set_option maxHeartbeats 1000000 in
set_option maxRecDepth 100000 in
theorem new_c (w : World) : Calls Try.prog 28 #[] w fun e w' => e = .returned (.pointer (some ⟨w.heap.size, 0, none⟩)) ∧ w' = w.alloc (.cells #[.slice none 0 0, .int .i64 0, .bool false, .bool true] 61) := by
  go_enter Try.func28, Try.ntmps28
  go_wp2_with fail
  go_ret
  exact ⟨rfl, rfl⟩
set_option maxHeartbeats 1000000 in
set_option maxRecDepth 100000 in
theorem clone_c (u : Value) (l : List Int) (w : World) (hs : Sl w u l) (hl : l.length ≤ 1000000) : Calls Try.prog 75 #[u] w fun e w' => ∃ v, e = .returned v ∧ Gr w.heap.size 5 w' v l ∧ Below w.heap.size w w' := by
  have HS := Aside0.mk hs
  have HL := Aside0.mk hl
  obtain ⟨A, c, rfl, hc, hC⟩ := hs
  cases A with
  | none =>
    have hz : l = [] := List.eq_nil_of_length_eq_zero (C_none hC rfl)
    subst hz
    clear hC hl
    have he : ∀ W, (binOp .eql 25 (.slice none 0 c) (.slice none 0 0)).run Try.prog W = .ok (.bool true) W := fun W => Lib.run_eql_slice_nil (P := Try.prog) W _ _ none 0 c 0 0 Try.underlying25
    go_enter Try.func75, Try.ntmps75
    go_wp2_with fail
    go_ret
    exact ⟨_, rfl, Gr.nil _ _ _, Below.refl _ _⟩
  | some ad =>
    clear hC hl
    have he : ∀ W, (binOp .eql 25 (.slice (some ad) l.length c) (.slice none 0 0)).run Try.prog W = .ok (.bool false) W := fun W => Lib.run_eql_slice_nil (P := Try.prog) W _ _ (some ad) l.length c 0 0 Try.underlying25
    go_enter Try.func75, Try.ntmps75
    go_wp2_with (at_builtin; refine wpList_gr rfl rfl Try.underlying25 info5 (Nat.le_refl _) rfl (show Gr _ _ _ _ [] from ?g1) rfl (HS.out.alloc _) ?b1 ?_)
    case g1 => exact .inl ⟨some ⟨w.heap.size, 0, none⟩, rfl, ⟨rfl, by simp [maxLen], fun h => absurd h (by simp)⟩⟩
    case b1 => have := HL.out; simp; omega
    intro v' w' hg hb
    have HG := Aside0.mk (hg.mono (show w.heap.size ≤ w.heap.size + 1 by omega))
    have HB := Aside0.mk ((below_alloc (Below.refl w.heap.size w) _).trans (hb.mono (by omega)))
    clear hg hb
    go_wp2_with fail
    go_ret
    exact ⟨_, rfl, HG.out, HB.out⟩
end Go.Proofs.Ytedfcjcnhgomoaa.WireP
end
-- MERGED YtedfcjcnhgomoaaRangeSt
section
/- A range over a function whose iterator keeps a state of its own in cells: one law, over one invariant of the loop's and the iterator's cells together. -/
namespace Go.Proofs.Ytedfcjcnhgomoaa.RangeSt
open Go Go.RowKit

variable {F : Fence} {n : Nat} {P : Program}

/-- How a round's body may be left. -/
def leftBy {σ : Type} (B : Nat) (I : σ → World → Prop) (Ix : Code → σ → World → Prop) (s : σ) (W : World) : Exit → Act → World → Prop
  | .normal, _, W' => KeepsFrom B W W' ∧ I s W'
  | .ret, _, W' => KeepsFrom B W W' ∧ Ix .ret s W'
  | .exit id, _, W' => KeepsFrom B W W' ∧ Ix (.exit id) s W'
  | .goto t, _, W' => KeepsFrom B W W' ∧ Ix (.goto t) s W'
  | .panic _, _, _ => False
  | .outgrown, _, _ => False
/-- The loop's own two blocks lie as they were laid. -/
def Lies (l D : Nat) (r : Loop) (W : World) : Prop := W.heap[l]? = some (.loop r) ∧ W.heap[D]? = some (.deferred (some []))
theorem Lies.keeps {l D B : Nat} {r : Loop} {W W' : World} (h : Lies l D r W) (hl : B ≤ l) (hD : B ≤ D) (hk : KeepsFrom B W W') : Lies l D r W' := ⟨hk.same _ _ hl h.1 rfl, hk.same _ _ hD h.2 rfl⟩
theorem Lies.lt {l D : Nat} {r : Loop} {W : World} (h : Lies l D r W) : l < W.heap.size := (Array.getElem?_eq_some_iff.1 h.1).1
theorem Lies.turned {l D : Nat} {r : Loop} {W : World} (h : Lies l D r W) (hne : D ≠ l) (r' : Loop) : Lies l D r' (W.putObj l (.loop r')) :=
  ⟨World.putObj_heap_same h.lt, (World.putObj_heap_other hne).trans h.2⟩

theorem range_st {α σ : Type} {g : Operand} {ps : Array Tmp} {assign body : Code} {Q : Exit → Act → World → Prop} {a : Act} {w : World}
    (hro : F.round = none) (h1 : 1 ≤ n) {gf : Nat} {lb : Array Value} (hg : a.eval g = .func (.func gf) #[] lb) (hFg : F.fn gf) (eg : ∀ args w, (callFunc gf args).run P w = .ok (.enter gf args) w)
    (encs : α → Array Value) (hps : ∀ x, (encs x).size = ps.size) (nx : σ → α → σ) (may : σ → α → Prop) (Fin : σ → Prop)
    (I : σ → World → Prop) (Ix : Code → σ → World → Prop) (hI : OwnFrom w.heap.size I) (hIx : ∀ c, OwnFrom w.heap.size (Ix c)) (s0 : σ) (h0 : I s0 w)
    (Ax : α → Act → World → Prop) (hAx : ∀ x a', OwnFrom w.heap.size (fun (_ : Unit) W => Ax x a' W))
    (hassign : ∀ (l : Nat) (s : σ) (x : α) (W : World) (K : Act → World → Prop), I s W → (∀ a' W', KeepsFrom w.heap.size W W' → I s W' → Ax x a' W' → K a' W') →
      assign.wpIn (F.inRound l) (n - 1 - 1) P (Exit.then K (fun _ _ _ => False)) { tmps := (ps.zip (encs x)).foldl (fun t (p, v) => t.setIfInBounds p v) a.tmps, defers := [] } W)
    (hbody : ∀ (l : Nat) (s : σ) (x : α) (a' : Act) (W : World), I s W → Ax x a' W → may s x → body.wpIn (F.inRound l) (n - 1 - 1) P (leftBy w.heap.size I Ix (nx s x) W) a' W)
    (hiter : ∀ (l : Nat) (St : World → Prop) (Dn : Code → World → Prop) (W1 : World), (∀ W W', St W → KeepsFrom w.heap.size W W' → St W') → (∀ c W W', Dn c W → KeepsFrom w.heap.size W W' → Dn c W') →
      W1.heap.size = w.heap.size + 2 → Below w.heap.size w W1 → I s0 W1 → St W1 →
      (∀ s x W, I s W → St W → may s x → YieldAt F (n - 1 - 1) P l (encs x) W fun e W' =>
        (e = .returned (.bool true) ∧ I (nx s x) W' ∧ St W') ∨ (e = .returned (.bool false) ∧ ∃ c, Ix c (nx s x) W' ∧ Dn c W')) →
      CallsIn F (n - 1) P gf (#[.func (.yield l) #[] #[]] ++ lb) W1 fun e W' => (∃ v, e = .returned v) ∧ ((∃ s, Fin s ∧ I s W' ∧ St W') ∨ (∃ c s, Ix c s W' ∧ Dn c W')))
    (hdone : ∀ (D : Nat) (s : σ) (W : World), w.heap.size ≤ D → Fin s → I s W → W.heap[D]? = some (.deferred (some [])) → Q .normal { a with defers := { target := .collected D, args := #[] } :: a.defers } W)
    (hstop : ∀ (D : Nat) (c : Code) (s : σ) (W : World), w.heap.size ≤ D → Ix c s W → W.heap[D]? = some (.deferred (some [])) → c.wpIn F n P Q { a with defers := { target := .collected D, args := #[] } :: a.defers } W) :
    (Code.rangeFunc g ps assign body).wpIn F n P Q a w := by
  refine wpIn_rangeFunc fun fn hfn => ?_
  rw [hro]
  obtain ⟨rc, hrc⟩ : ∃ rc : LoopState → Option Code → Loop, rc = fun st pe => { state := st, pending := pe, fn, tmps := a.tmps, params := ps, assign, body, defers := w.heap.size } := ⟨_, rfl⟩
  obtain ⟨W1, hW1⟩ : ∃ W1, W1 = (w.alloc (.deferred (some []))).alloc (.loop (rc .ready none)) := ⟨_, rfl⟩
  obtain ⟨l, hl⟩ : ∃ l, l = w.heap.size + 1 := ⟨_, rfl⟩
  have hne : w.heap.size ≠ l := by omega
  have hle : w.heap.size ≤ l := by omega
  have hL1 : Lies l w.heap.size (rc .ready none) W1 := by
    subst hW1 hl
    refine ⟨?_, (Below.heap_alloc _ _ _ (by simp)).trans (World.alloc_heap_new w _)⟩
    have := World.alloc_heap_new (w.alloc (.deferred (some []))) (.loop (rc .ready none))
    rwa [World.size_alloc] at this
  have hI1 : I s0 W1 := by rw [hW1]; exact hI.alloc _ (hI.alloc _ h0)
  have hb1 : Below w.heap.size w W1 := by rw [hW1]; exact ((Below.refl _ w).alloc (Nat.le_refl _) _).alloc (by simp) _
  have hz1 : W1.heap.size = w.heap.size + 2 := by rw [hW1]; simp
  refine ⟨l, [{ target := .collected w.heap.size, args := #[] }], W1, { target := .fn (.func gf) lb, args := #[.func (.yield l) #[] #[]] }, W1, gf, #[.func (.yield l) #[] #[]] ++ lb, W1, ?_, ?_, ?_, ?_, fun _ => h1, ?_⟩
  · rw [hW1, hrc, hl]; exact run_enterLoop_outer _ _ _ _ _
  · simp only [resolve, hg]
    simp [go_sem]
  · intro f' hf'
    simp [Target.leads] at hf'
    subst hf'
    exact hFg
  · simp [invoke, go_sem, eg]
  refine (hiter l (Lies l w.heap.size (rc .ready none)) (fun c => Lies l w.heap.size (rc .done (some c))) W1 (fun W W' h hk => h.keeps hle (Nat.le_refl _) hk) (fun c W W' h hk => h.keeps hle (Nat.le_refl _) hk) hz1 hb1 hI1 hL1 ?_).mono ?_
  · -- a round
    intro s x W hi hL hmay
    have hy := run_yield (P := P) (args := encs x) hL.1 (by rw [hrc]; exact hps x)
    rw [hrc] at hy
    refine ⟨fn, _, assign, body, hy, roundIn_of_wpIn hfn (hassign _ s x W _ hi ?_)⟩
    intro a' Wa hka hia hax
    have hLa := hL.keeps hle (Nat.le_refl _) hka
    have hLb := hLa.turned hne { rc .ready none with state := .busy }
    refine ⟨_, run_beginRound hLa.1 (by rw [hrc]), ?_⟩
    refine wpIn_mono (hbody _ s x a' _ (hI.putObj _ hia hle hLa.1 rfl) ((hAx x a').putObj (s := ()) _ hax hle hLa.1 rfl) hmay) ?_
    have fin : ∀ (jump : Option Code) (W3 : World), KeepsFrom w.heap.size (Wa.putObj l (.loop { rc .ready none with state := .busy })) W3 →
        (Instr.endRound l jump).run P W3 = .ok (.bool jump.isNone) (W3.putObj l (.loop (rc (if jump.isNone then .ready else .done) jump))) ∧ Lies l w.heap.size { rc .ready none with state := .busy } W3 := by
      intro jump W3 hk3
      have hL3 := hLb.keeps hle (Nat.le_refl _) hk3
      have h := run_endRound (P := P) jump hL3.1
      refine ⟨?_, hL3⟩
      rw [hrc] at h ⊢
      exact h
    rintro e a3 W3 hp
    cases e with
    | normal =>
      obtain ⟨hr, hL3⟩ := fin none W3 hp.1
      exact ⟨_, _, hr, .inl ⟨rfl, hI.putObj _ hp.2 hle hL3.1 rfl, hL3.turned hne _⟩⟩
    | ret =>
      obtain ⟨hr, hL3⟩ := fin (some .ret) W3 hp.1
      exact ⟨_, _, hr, .inr ⟨rfl, .ret, (hIx _).putObj _ hp.2 hle hL3.1 rfl, hL3.turned hne _⟩⟩
    | exit id =>
      obtain ⟨hr, hL3⟩ := fin (some (.exit id)) W3 hp.1
      exact ⟨_, _, hr, .inr ⟨rfl, .exit id, (hIx _).putObj _ hp.2 hle hL3.1 rfl, hL3.turned hne _⟩⟩
    | goto t =>
      obtain ⟨hr, hL3⟩ := fin (some (.goto t)) W3 hp.1
      exact ⟨_, _, hr, .inr ⟨rfl, .goto t, (hIx _).putObj _ hp.2 hle hL3.1 rfl, hL3.turned hne _⟩⟩
    | panic ch => exact hp.elim
    | outgrown => exact hp.elim
  · -- behind the iterator
    rintro e W2 ⟨⟨v, rfl⟩, (⟨s, hf, hi, hL⟩ | ⟨c, s, hi, hL⟩)⟩
    · have hend := run_endLoop (P := P) hL.1 (by rw [hrc]; simp)
      rw [hrc] at hend
      refine ⟨none, _, hend, ?_⟩
      rw [hrc] at hL
      exact hdone _ s _ (Nat.le_refl _) hf (hI.putObj _ hi hle hL.1 rfl) (hL.turned hne _).2
    · have hend := run_endLoop (P := P) hL.1 (by rw [hrc]; simp)
      rw [hrc] at hend
      refine ⟨some c, _, hend, ?_⟩
      rw [hrc] at hL
      exact hstop _ c s _ (Nat.le_refl _) ((hIx c).putObj _ hi hle hL.1 rfl) (hL.turned hne _).2
end Go.Proofs.Ytedfcjcnhgomoaa.RangeSt
end
-- MERGED YtedfcjcnhgomoaaWireI
section
/- The iterator of a stream's packets. -/
namespace Go.Proofs.Ytedfcjcnhgomoaa.WireI
open Go.RowKit Go.Shelf Go.Proofs.Ytedfcjcnhgomoaa.P Go.Proofs.YtedfcjcnhgomoaaW.PrintWords Go.Proofs.YtedfcjcnhgomoaaW.PrintLast Go.Proofs.YtedfcjcnhgomoaaW.PrintMore Go.Proofs.Ytedfcjcnhgomoaa.Own Go.Proofs.Ytedfcjcnhgomoaa.Vy Go.Proofs.Ytedfcjcnhgomoaa.FrameP Go.Proofs.Ytedfcjcnhgomoaa.FrameL Go.Proofs.Ytedfcjcnhgomoaa.VaryR Go.Proofs.Ytedfcjcnhgomoaa.FrameG Go.Proofs.Ytedfcjcnhgomoaa.WireP
attribute [local go_sem] Oper.semAt_some
set_option linter.unusedSimpArgs false
set_option linter.unusedVariables false

def iter.T5 : Bool × List (List Nat × List Nat) := (true, [([], []), ([], []), ([1], [1]), ([2], [2]), ([3], [3]), ([], []), ([4, 5], [4, 5]), ([0, 0, 1, 2, 3, 4, 5, 6], [0]), ([7, 0, 1, 2, 3, 4, 5, 6], [7]), ([8, 6, 0, 1, 2, 3, 4, 5, 6], [6, 8])])
def iter.B5 : List Nat := [0, 0, 2, 6, 14, 0, 62, 127, 255, 511]
theorem iter.tab5 : rtab .any (opsOf Try.f98 5) = iter.T5 := by kernel_rfl
theorem iter.bits5 : waitsOk iter.T5.2 iter.B5 = true := by kernel_rfl
def iter.T7 : Bool × List (List Nat × List Nat) := (true, [([], []), ([], []), ([1], [1]), ([2], [2]), ([3], [3]), ([], []), ([4, 5], [4, 5]), ([0, 0, 1, 2, 3, 4, 5, 6], [0]), ([7, 0, 1, 2, 3, 4, 5, 6], [7]), ([8, 6, 0, 1, 2, 3, 4, 5, 6], [6, 8])])
def iter.B7 : List Nat := [0, 0, 2, 6, 14, 0, 62, 127, 255, 511]
theorem iter.tab7 : rtab .any (opsOf Try.f98 7) = iter.T7 := by kernel_rfl
theorem iter.bits7 : waitsOk iter.T7.2 iter.B7 = true := by kernel_rfl
/-- How many bytes a stream keeps, read off the world. -/
def left (S : Nat) (W : World) : Nat := match W.heap[S]? with
  | some (.cells cs _ _) => (match cs[0]? with | some (Value.slice _ n _) => n | _ => 0)
  | _ => 0
theorem left_eq {S : Nat} {A : Option Addr} {n c : Nat} {lost : Int} {brk made : Bool} {W : World} (h : Strm S (.slice A n c) lost brk made W) : left S W = n := by
  unfold left
  rw [show W.heap[S]? = _ from h]
  rfl
theorem strm_noByte {S : Nat} {A : Option Addr} {n c : Nat} {lost : Int} {brk made : Bool} {W : World} (h : Strm S (.slice A n c) lost brk made W) : ∀ o x, W.cell? ⟨S, o, none⟩ ≠ some (.int .u8 x) := by
  intro o x hc
  rw [cell_of_row W S o _ _ _ h] at hc
  match o with
  | 0 | 1 | 2 | 3 => simp at hc
  | o + 4 => simp at hc
theorem strm_put0 {S : Nat} {v : Value} {lost : Int} {brk made : Bool} {W : World} (u : Value) (h : Strm S v lost brk made W) : Strm S u lost brk made (W.setCell ⟨S, 0, none⟩ u) := blk_put h 0 u rfl
theorem strm_put1 {S : Nat} {v : Value} {lost : Int} {brk made : Bool} {W : World} (x : Int) (h : Strm S v lost brk made W) : Strm S v x brk made (W.setCell ⟨S, 1, none⟩ (.int .i64 x)) := blk_put h 1 _ rfl
theorem strm_put2 {S : Nat} {v : Value} {lost : Int} {brk made : Bool} {W : World} (x : Bool) (h : Strm S v lost brk made W) : Strm S v lost x made (W.setCell ⟨S, 2, none⟩ (.bool x)) := blk_put h 2 _ rfl
/-- The stream while its packets are told: what it keeps reads as the rest. -/
structure Mid (M N S T : Nat) (rest : List Int) (lost : Int) (W : World) : Prop where
  strm : ∃ A c, Strm S (.slice A rest.length c) lost false true W ∧ Sl W (.slice A rest.length c) rest ∧ ∀ ad, A = some ad → 0 < rest.length → ad.block < N ∧ M ≤ ad.block
  far : S < N ∧ T < N
  ok : Byt.Ok rest
  len : rest.length ≤ 1000000
  box : W.heap[T]? = some (.cells #[.pointer (some ⟨S, 0, none⟩)] 50 (0, 0))
theorem Mid.below {M N S T : Nat} {rest : List Int} {lost : Int} {W W' : World} (h : Mid M N S T rest lost W) (hb : Below W.heap.size W W') : Mid M N S T rest lost W' := by
  obtain ⟨A, c, h1, h2, h3⟩ := h.strm
  exact ⟨⟨A, c, h1.below hb, h2.below hb, h3⟩, h.far, h.ok, h.len, (hb.block _ (lt_of h.box)).trans h.box⟩
theorem Mid.ne {M N S T : Nat} {rest : List Int} {lost : Int} {W : World} (h : Mid M N S T rest lost W) : T ≠ S := by
  rintro rfl
  obtain ⟨A, c, h1, h2, _⟩ := h.strm
  have := h.box.symm.trans h1
  simp at this
theorem Mid.set {M N S T : Nat} {rest r2 : List Int} {lost : Int} {W : World} {A2 : Option Addr} {c2 : Nat} (h : Mid M N S T rest lost W) (hu : Sl W (.slice A2 r2.length c2) r2) (hA : ∀ ad, A2 = some ad → 0 < r2.length → ad.block < N ∧ M ≤ ad.block) (hok : Byt.Ok r2) (hl : r2.length ≤ 1000000) : Mid M N S T r2 lost (W.setCell ⟨S, 0, none⟩ (.slice A2 r2.length c2)) := by
  obtain ⟨A, c, h1, h2, _⟩ := h.strm
  exact ⟨⟨A2, c2, strm_put0 _ h1, VaryR.Sl.but hu (But.setCell S 0 W _) (strm_noByte h1), hA⟩, h.far, hok, hl, ((But.setCell S 0 W _).block _ (lt_of h.box) (fun e => h.ne (by injection e))).trans h.box⟩
theorem Mid.more {M N S T : Nat} {rest : List Int} {lost : Int} {W : World} (x : Int) (h : Mid M N S T rest lost W) : Mid M N S T rest x (W.setCell ⟨S, 1, none⟩ (.int .i64 x)) := by
  obtain ⟨A, c, h1, h2, h3⟩ := h.strm
  exact ⟨⟨A, c, strm_put1 _ h1, VaryR.Sl.but h2 (But.setCell S 1 W _) (strm_noByte h1), h3⟩, h.far, h.ok, h.len, ((But.setCell S 1 W _).block _ (lt_of h.box) (fun e => h.ne (by injection e))).trans h.box⟩
/-- Bytes that lie below N abide what is written beyond it. -/
theorem sl_far {N : Nat} {A : Option Addr} {n c : Nat} {l : List Int} {W W' : World} (h : Sl W (.slice A n c) l) (hA : ∀ ad, A = some ad → 0 < n → ad.block < N) (hk : ∀ k, k < N → W'.heap[k]? = W.heap[k]?) : Sl W' (.slice A n c) l := by
  obtain ⟨rfl, hc, hC⟩ := h.toC
  refine ⟨A, c, rfl, hc, hC.1, hC.2.1, fun hp => ?_⟩
  obtain ⟨ad, e, hr⟩ := hC.2.2 hp
  refine ⟨ad, e, fun j p hj => ?_⟩
  obtain ⟨q, h1, h2, h3⟩ := hr j p hj
  refine ⟨q, h1, h2, fun i u hu => ?_⟩
  refine (World.cell?_of_block (hk _ ?_)).trans (h3 i u hu)
  have hb : ∀ m, (ad.add m).block = ad.block := fun m => by unfold Addr.add; split <;> rfl
  simp only [hb]
  exact hA ad e hp
theorem slice_from_in {w : World} {A : Option Addr} {c : Nat} {l : List Int} {M N : Nat} (h : Sl w (.slice A l.length c) l) (hA : ∀ ad, A = some ad → 0 < l.length → ad.block < N ∧ M ≤ ad.block) (k : Nat) (hk : k ≤ l.length) :
    ∃ A2 c2, (∀ W : World, (Instr.slice 25 (.slice A l.length c) (some (.int .i64 (k : Int))) none none).run Try.prog W = .ok (.slice A2 (l.drop k).length c2) W) ∧ Sl w (.slice A2 (l.drop k).length c2) (l.drop k) ∧ ∀ ad, A2 = some ad → 0 < (l.drop k).length → ad.block < N ∧ M ≤ ad.block := by
  obtain ⟨_, hc, hC⟩ := h.toC
  obtain ⟨i0, hi0, _, hsz, _⟩ := info_parts info5
  have hcut := cut_from (P := Try.prog) 25 5 .i64 Try.underlying25 hi0 1 hsz A l.length c (k : Int) (by omega) (by omega)
  rw [Int.toNat_natCast] at hcut
  have hm := Kd.C_drop (m := k) hC hk hc
  have hl : (l.drop k).length = l.length - k := List.length_drop
  refine ⟨if c = k then A else A.map (·.add (k * 1)), c - k, by rw [hl]; exact hcut, ⟨_, _, rfl, by rw [hl]; omega, hm⟩, ?_⟩
  intro ad e hp
  have hp2 : 0 < l.length := by omega
  split at e
  · exact hA ad e hp2
  · cases A with
    | none => cases e
    | some b =>
      simp only [Option.map_some, Option.some.injEq] at e
      subst e
      rw [show (b.add (k * 1)).block = b.block by unfold Addr.add; split <;> rfl]
      exact hA b rfl hp2
/-- What is told at last, some being told already. -/
def res (pre : List Pk) (rest : List Int) (lost : Nat) : List Pk × List Int × Nat × Bool := (pre ++ (WireL.run rest).1, (WireL.run rest).2.1, lost + (WireL.run rest).2.2.1, (WireL.run rest).2.2.2)
theorem res_ok {pre : List Pk} {rest : List Int} {lost k : Nat} {p : Pk} (h : FrameL.get rest = (p, k, 0)) (hk : 0 < k) : res (pre ++ [p]) (rest.drop k) lost = res pre rest lost := by
  have e : WireL.run rest = (p :: (WireL.run (rest.drop k)).1, (WireL.run (rest.drop k)).2.1, (WireL.run (rest.drop k)).2.2.1, (WireL.run (rest.drop k)).2.2.2) := by
    rw [WireL.run, h]
    simp only [dif_pos hk, if_true]
  unfold res
  rw [e]
  simp
theorem res_lost {pre : List Pk} {rest : List Int} {lost k : Nat} {p : Pk} {er : Int} (h : FrameL.get rest = (p, k, er)) (hk : 0 < k) (he : er ≠ 0) : res pre (rest.drop k) (lost + 1) = res pre rest lost := by
  have e : WireL.run rest = ((WireL.run (rest.drop k)).1, (WireL.run (rest.drop k)).2.1, (WireL.run (rest.drop k)).2.2.1 + 1, (WireL.run (rest.drop k)).2.2.2) := by
    rw [WireL.run, h]
    simp only [dif_pos hk, if_neg he]
  unfold res
  rw [e]
  simp only [Prod.mk.injEq, true_and, and_true]
  omega
theorem res_end {pre : List Pk} {rest : List Int} {lost : Nat} {p : Pk} {er : Int} (h : FrameL.get rest = (p, 0, er)) : res pre rest lost = if WireL.ends rest then (pre, [], lost, true) else (pre, rest, lost, false) := by
  have e : WireL.run rest = if WireL.ends rest then ([], [], 0, true) else ([], rest, 0, false) := by
    rw [WireL.run, h]
    simp
  unfold res
  rw [e]
  split <;> simp
theorem get_pos {b : List Int} {p : Pk} {k : Nat} (h : FrameL.get b = (p, k, 0)) : 0 < k := by have := WireL.get_ok (b := b) (by rw [h]); rwa [h] at this
theorem get_le' {b : List Int} {p : Pk} {k : Nat} {e : Int} (h : FrameL.get b = (p, k, e)) : k ≤ b.length := by have := WireL.get_le b; rwa [h] at this
theorem but_of_below {g : Nat} {w w' : World} (h : Below w.heap.size w w') : But g w w' := ⟨h.os, h.tape, h.output, h.size, fun k hk _ => h.block k hk⟩

set_option maxHeartbeats 4000000 in
set_option maxRecDepth 100000 in
theorem iter (n l M N S T : Nat) (hn : 4 ≤ n) (J : List Pk → World → Prop) (St : World → Prop) (hJ : ∀ pre W W', J pre W → But S W W' → J pre W') (hSt : ∀ W W', St W → But S W W' → St W')
    (hY : ∀ (pre : List Pk) (p : Pk) (rest : List Int) (lost : Nat) (W : World), pre.length < 2000000 → J pre W → St W → Mid M N S T rest (lost : Int) W → YieldAt Fence.wide (n - 1) Try.prog l #[p.val] W fun e W' => e = .returned (.bool true) ∧ J (pre ++ [p]) W' ∧ St W' ∧ Mid M N S T rest (lost : Int) W')
    (p0 : List Pk) (r0 : List Int) (l0 : Nat) (hl0 : l0 + r0.length ≤ 4000000) (hp0 : p0.length + r0.length ≤ 2000000) (W : World) (hJ0 : J p0 W) (hS0 : St W) (h0 : Mid M N S T r0 (l0 : Int) W) :
    CallsIn Fence.wide n Try.prog 98 #[.func (.yield l) #[] #[], .pointer (some ⟨T, 0, none⟩)] W fun e W' => (∃ v, e = .returned v) ∧ ∃ pre rest lost brk, res p0 r0 l0 = (pre, rest, lost, brk) ∧ J pre W' ∧ St W' ∧ ∃ A c, Strm S (.slice A rest.length c) (lost : Int) brk true W' ∧ Sl W' (.slice A rest.length c) rest ∧ ∀ ad, A = some ad → 0 < rest.length → M ≤ ad.block := by
  refine callsIn_of_wp Try.func98 rfl trivial ?_ rfl
  have HJ := Aside0.mk hJ
  have HSt := Aside0.mk hSt
  have HY := Aside0.mk hY
  have HN := Aside0.mk hn
  clear hJ hSt hY
  obtain ⟨Fn, hFn⟩ : ∃ Fn, Fn = res p0 r0 l0 := ⟨_, rfl⟩
  rw [← hFn]
  simp only [Try.ntmps98, List.size_toArray, List.length_cons, List.length_nil, Nat.reduceAdd, Nat.reduceSub, Array.replicate_succ, Array.replicate_zero, List.push_toArray, List.append_toArray, List.nil_append, List.cons_append]
  gi_wp2
  gi_loopw [3] (fun _ wr => ∃ (pre : List Pk) (rest : List Int) (lost : Nat), J pre wr ∧ St wr ∧ Mid M N S T rest (lost : Int) wr ∧ lost + rest.length ≤ 4000000 ∧ pre.length + rest.length ≤ 2000000 ∧ Fn = res pre rest lost) (fun _ wr => left S wr)
  case atStart => exact ⟨p0, r0, l0, hJ0, hS0, h0, hl0, hp0, hFn⟩
  case round =>
    obtain ⟨pre, rest, lost, hj, hst, hm, hll, hpl, hfn⟩ := hrel
    have HPL := Aside0.mk hpl
    obtain ⟨A, c, h1, h2, hA0⟩ := hm.strm
    have HA0 := Aside0.mk hA0
    clear hA0
    have HJ0 := Aside0.mk hj
    have HS0 := Aside0.mk hst
    have HLL := Aside0.mk hll
    have HFN := Aside0.mk hfn
    have HM := Aside0.mk hm
    have H2 := Aside0.mk h2
    have cT : wr.cell? ⟨T, 0, none⟩ = some (.pointer (some ⟨S, 0, none⟩)) := by rw [cell_of_row wr _ 0 _ _ _ hm.box]; rfl
    have c0 := h1.c0
    have H1 := Aside0.mk h1
    have HLE := Aside0.mk (left_eq h1)
    have hget := FrameG.get_c _ rest wr h2 hm.ok hm.len
    obtain ⟨g, hg⟩ : ∃ g, FrameL.get rest = g := ⟨_, rfl⟩
    rw [hg] at hget
    obtain ⟨⟨pe, ps, pa, pd⟩, k, er⟩ := g
    unfold Pk.val at hget
    simp only at hget
    have HGET := Aside0.mk hget
    have HG := Aside0.mk hg
    clear hm h1 h2 hget hg h0 hj hst hll hpl hfn hJ0 hS0 hFn hl0 hp0 hn
    gi_wp2
    refine ⟨trivial, fun _ => by have := HN.out; omega, ?_⟩
    refine (callsIn_wide.2 HGET.out).mono ?_
    rintro e w1 ⟨rfl, hb⟩
    have hb1 := below_alloc hb (.cells #[.int .i64 pe, .int .i64 ps, .int .i64 pa, .string pd] 23)
    have HM1 := Aside0.mk (HM.out.below hb1)
    have H11 := Aside0.mk (H1.out.below hb1)
    have H21 := Aside0.mk (H2.out.below hb1)
    have HJ1 := Aside0.mk (HJ.out _ _ _ HJ0.out (but_of_below hb1))
    have HS1 := Aside0.mk (HSt.out _ _ HS0.out (but_of_below hb1))
    have Q1 := Aside0.mk (Own.heap_new w1 (.cells #[.int .i64 pe, .int .i64 ps, .int .i64 pa, .string pd] 23))
    have HSQ := Aside0.mk (show w1.heap.size ≠ S by have := (H1.out.below hb).lt; omega)
    clear hb hb1 c0 cT HGET HJ0 HS0 HM H1 H2
    have hkn : k ≤ rest.length := get_le' HG.out
    by_cases hk0 : k = 0
    · subst hk0
      have he0 : ¬ er = 0 := by
        rintro rfl
        exact absurd (get_pos HG.out) (by omega)
      have hres := res_end (pre := pre) (lost := lost) HG.out
      have cT : (w1.alloc (.cells #[.int .i64 pe, .int .i64 ps, .int .i64 pa, .string pd] 23)).cell? ⟨T, 0, none⟩ = some (.pointer (some ⟨S, 0, none⟩)) := by
        rw [cell_of_row _ _ 0 _ _ _ HM1.out.box]; rfl
      have c0 := H11.out.c0
      have c2 := H11.out.c2
      have f0 := H11.out.f 0
      have f2 := H11.out.f 2
      by_cases he : er = 11
      · subst he
        have hend : WireL.ends rest = true := by unfold WireL.ends; rw [HG.out]; rfl
        rw [hend] at hres
        have HRES := Aside0.mk (HFN.out.trans hres)
        clear hres hend he0 hkn
        gi_wp2
        refine wpIn_wide.2 ?_
        obtain ⟨X, hX⟩ : ∃ X, X = w1.alloc (.cells #[.int .i64 pe, .int .i64 ps, .int .i64 pa, .string pd] 23) := ⟨_, rfl⟩
        rw [← hX] at cT c0 c2 f0 f2 H11 HM1 HJ1 HS1 ⊢
        clear hX
        have h0 := strm_put0 (.slice none 0 0) H11.out
        have h2 := strm_put2 true H11.out
        have b0 := ((But.setCell S 0 X (.slice none 0 0)).block _ (lt_of HM1.out.box) (fun e => HM1.out.ne (by injection e))).trans HM1.out.box
        have b2 := ((But.setCell S 2 X (.bool true)).block _ (lt_of HM1.out.box) (fun e => HM1.out.ne (by injection e))).trans HM1.out.box
        have cT0 : (X.setCell ⟨S, 0, none⟩ (.slice none 0 0)).cell? ⟨T, 0, none⟩ = some (.pointer (some ⟨S, 0, none⟩)) := by rw [cell_of_row _ _ 0 _ _ _ b0]; rfl
        have cT2 : (X.setCell ⟨S, 2, none⟩ (.bool true)).cell? ⟨T, 0, none⟩ = some (.pointer (some ⟨S, 0, none⟩)) := by rw [cell_of_row _ _ 0 _ _ _ b2]; rfl
        have c20 := h0.c2
        have f20 := h0.f 2
        have c02 := h2.c0
        have f02 := h2.f 0
        clear h0 h2 b0 b2
        go_region
        gi_wp2
        refine bodyPost_ret (results_none rfl _ _ _) rfl ?_
        exact ⟨⟨_, rfl⟩, pre, [], lost, true, HRES.out, HJ.out _ _ _ (HJ.out _ _ _ (HJ.out _ _ _ HJ1.out (But.setCell S 0 _ _)) (But.setCell S 2 _ _)) (But.drewN S _ 1), HSt.out _ _ (HSt.out _ _ (HSt.out _ _ HS1.out (But.setCell S 0 _ _)) (But.setCell S 2 _ _)) (But.drewN S _ 1), none, 0, (strm_put2 true (strm_put0 (.slice none 0 0) H11.out)).below (below_drew1 (Below.refl _ _)), Sl.nil _, fun _ e => by cases e⟩
      · have he1 : ¬ er = 11 := he
        by_cases h9 : (9 : Int) ≤ (rest.length : Int)
        · have h9b : decide ((9 : Int) ≤ (rest.length : Int)) = true := decide_eq_true h9
          have HNN := Aside0.mk (noNumber_c _ rest _ H21.out HM1.out.ok HM1.out.len)
          by_cases hn0 : (numL rest).2 = 0
          · have hend : WireL.ends rest = true := by unfold WireL.ends; rw [decide_eq_true (show 9 ≤ rest.length by omega), decide_eq_true hn0]; simp
            rw [hend] at hres
            rw [decide_eq_true hn0] at HNN
            have HRES := Aside0.mk (HFN.out.trans hres)
            clear hres hend hkn hn0
            gi_wp2
            refine ⟨trivial, fun _ => by have := HN.out; omega, ?_⟩
            refine (callsIn_wide.2 HNN.out).mono ?_
            rintro e X ⟨rfl, hb⟩
            have H11' := Aside0.mk (H11.out.below hb)
            have HM1' := Aside0.mk (HM1.out.below hb)
            have HJ1' := Aside0.mk (HJ.out _ _ _ HJ1.out (but_of_below hb))
            have HS1' := Aside0.mk (HSt.out _ _ HS1.out (but_of_below hb))
            clear hb H11 HM1 HJ1 HS1 cT c0 c2 f0 f2
            have H11 := H11'
            have HM1 := HM1'
            have HJ1 := HJ1'
            have HS1 := HS1'
            clear H11' HM1' HJ1' HS1'
            have cT : X.cell? ⟨T, 0, none⟩ = some (.pointer (some ⟨S, 0, none⟩)) := by rw [cell_of_row _ _ 0 _ _ _ HM1.out.box]; rfl
            have c0 := H11.out.c0
            have c2 := H11.out.c2
            have f0 := H11.out.f 0
            have f2 := H11.out.f 2
            gi_wp2
            refine wpIn_wide.2 ?_
            have h0 := strm_put0 (.slice none 0 0) H11.out
            have h2 := strm_put2 true H11.out
            have b0 := ((But.setCell S 0 X (.slice none 0 0)).block _ (lt_of HM1.out.box) (fun e => HM1.out.ne (by injection e))).trans HM1.out.box
            have b2 := ((But.setCell S 2 X (.bool true)).block _ (lt_of HM1.out.box) (fun e => HM1.out.ne (by injection e))).trans HM1.out.box
            have cT0 : (X.setCell ⟨S, 0, none⟩ (.slice none 0 0)).cell? ⟨T, 0, none⟩ = some (.pointer (some ⟨S, 0, none⟩)) := by rw [cell_of_row _ _ 0 _ _ _ b0]; rfl
            have cT2 : (X.setCell ⟨S, 2, none⟩ (.bool true)).cell? ⟨T, 0, none⟩ = some (.pointer (some ⟨S, 0, none⟩)) := by rw [cell_of_row _ _ 0 _ _ _ b2]; rfl
            have c20 := h0.c2
            have f20 := h0.f 2
            have c02 := h2.c0
            have f02 := h2.f 0
            clear h0 h2 b0 b2
            go_region
            gi_wp2
            refine bodyPost_ret (results_none rfl _ _ _) rfl ?_
            exact ⟨⟨_, rfl⟩, pre, [], lost, true, HRES.out, HJ.out _ _ _ (HJ.out _ _ _ (HJ.out _ _ _ HJ1.out (But.setCell S 0 _ _)) (But.setCell S 2 _ _)) (But.drewN S _ 1), HSt.out _ _ (HSt.out _ _ (HSt.out _ _ HS1.out (But.setCell S 0 _ _)) (But.setCell S 2 _ _)) (But.drewN S _ 1), none, 0, (strm_put2 true (strm_put0 (.slice none 0 0) H11.out)).below (below_drew1 (Below.refl _ _)), Sl.nil _, fun _ e => by cases e⟩
          · have hend : WireL.ends rest = false := by unfold WireL.ends; rw [HG.out, decide_eq_false hn0, decide_eq_false he]; simp
            rw [hend] at hres
            rw [decide_eq_false hn0] at HNN
            have HRES := Aside0.mk (HFN.out.trans hres)
            clear hres hend hkn hn0
            gi_wp2
            refine ⟨trivial, fun _ => by have := HN.out; omega, ?_⟩
            refine (callsIn_wide.2 HNN.out).mono ?_
            rintro e X ⟨rfl, hb⟩
            have HBX := Aside0.mk hb
            clear hb
            gi_wp2
            refine bodyPost_ret (results_none rfl _ _ _) rfl ?_
            exact ⟨⟨_, rfl⟩, pre, rest, lost, false, HRES.out, HJ.out _ _ _ HJ1.out (but_of_below HBX.out), HSt.out _ _ HS1.out (but_of_below HBX.out), by obtain ⟨A, c, x, y, z⟩ := (HM1.out.below HBX.out).strm; exact ⟨A, c, x, y, fun ad e h => (z ad e h).2⟩⟩
        · have h9b : decide ((9 : Int) ≤ (rest.length : Int)) = false := decide_eq_false h9
          have h9c : ¬ (9 : Int) ≤ (rest.length : Int) := h9
          have hend : WireL.ends rest = false := by unfold WireL.ends; rw [HG.out, decide_eq_false (show ¬ 9 ≤ rest.length by omega), decide_eq_false he]; simp
          rw [hend] at hres
          have HRES := Aside0.mk (HFN.out.trans hres)
          clear hres hend hkn
          gi_wp2
          refine ⟨trivial, ?_⟩
          gi_wp2
          refine bodyPost_ret (results_none rfl _ _ _) rfl ?_
          exact ⟨⟨_, rfl⟩, pre, rest, lost, false, HRES.out, HJ1.out, HS1.out, by obtain ⟨A, c, x, y, z⟩ := HM1.out.strm; exact ⟨A, c, x, y, fun ad e h => (z ad e h).2⟩⟩
    · obtain ⟨A2, c2, cut, hu, hA2⟩ := slice_from_in H21.out HA0.out k hkn
      obtain ⟨r2, hr2⟩ : ∃ r2, r2 = rest.drop k := ⟨_, rfl⟩
      rw [← hr2] at hu cut hA2
      have HU := Aside0.mk hu
      have HR2 := Aside0.mk hr2
      have hr2l : r2.length = rest.length - k := by rw [hr2, List.length_drop]
      have HRL := Aside0.mk (show r2.length < rest.length by omega)
      have HMS := Aside0.mk (HM1.out.set HU.out hA2 (by rw [hr2]; exact Byt.ok_drop HM1.out.ok _) (by have := HM1.out.len; omega))
      have HJ2 := Aside0.mk (HJ.out _ _ _ HJ1.out (But.setCell S 0 _ (.slice A2 r2.length c2)))
      have HS2 := Aside0.mk (HSt.out _ _ HS1.out (But.setCell S 0 _ (.slice A2 r2.length c2)))
      have Q2 := Aside0.mk (((But.setCell S 0 (w1.alloc (.cells #[.int .i64 pe, .int .i64 ps, .int .i64 pa, .string pd] 23)) (.slice A2 r2.length c2)).block _ (lt_of Q1.out) (fun e => HSQ.out (by injection e))).trans Q1.out)
      have HKP := Aside0.mk (show 0 < k by omega)
      clear hu hA2 hr2 hr2l HJ1 HS1
      have hk1 : (0 : Int) < (k : Int) := by omega
      have cT : (w1.alloc (.cells #[.int .i64 pe, .int .i64 ps, .int .i64 pa, .string pd] 23)).drew.cell? ⟨T, 0, none⟩ = some (.pointer (some ⟨S, 0, none⟩)) := by
        show (w1.alloc _).cell? _ = _
        rw [cell_of_row _ _ 0 _ _ _ HM1.out.box]; rfl
      have HSA : Strm S (.slice A rest.length c) (lost : Int) false true (w1.alloc (.cells #[.int .i64 pe, .int .i64 ps, .int .i64 pa, .string pd] 23)).drew := H11.out
      have c0 := HSA.c0
      have f0 := HSA.f 0
      have HSD := Aside0.mk HSA
      clear HSA
      by_cases he : er = 0
      · subst he
        have HMD : Aside0 (Mid M N S T r2 (lost : Int) ((w1.alloc (.cells #[.int .i64 pe, .int .i64 ps, .int .i64 pa, .string pd] 23)).drew.setCell ⟨S, 0, none⟩ (.slice A2 r2.length c2))) := Aside0.mk (HMS.out.below (below_drew1 (Below.refl _ _)))
        have HJD : Aside0 (J pre ((w1.alloc (.cells #[.int .i64 pe, .int .i64 ps, .int .i64 pa, .string pd] 23)).drew.setCell ⟨S, 0, none⟩ (.slice A2 r2.length c2))) := Aside0.mk (HJ.out _ _ _ HJ2.out (but_of_below (below_drew1 (Below.refl _ _))))
        have HSD2 : Aside0 (St ((w1.alloc (.cells #[.int .i64 pe, .int .i64 ps, .int .i64 pa, .string pd] 23)).drew.setCell ⟨S, 0, none⟩ (.slice A2 r2.length c2))) := Aside0.mk (HSt.out _ _ HS2.out (but_of_below (below_drew1 (Below.refl _ _))))
        have hq : ((w1.alloc (.cells #[.int .i64 pe, .int .i64 ps, .int .i64 pa, .string pd] 23)).drew.setCell ⟨S, 0, none⟩ (.slice A2 r2.length c2)).heap[w1.heap.size]? = some (.cells #[.int .i64 pe, .int .i64 ps, .int .i64 pa, .string pd] 23 (0, 0)) := Q2.out
        obtain ⟨Z, hZ⟩ : ∃ Z, Z = (w1.alloc (.cells #[.int .i64 pe, .int .i64 ps, .int .i64 pa, .string pd] 23)).drew := ⟨_, rfl⟩
        rw [← hZ] at HMD HJD HSD2 hq
        have q0 : (Z.setCell ⟨S, 0, none⟩ (.slice A2 r2.length c2)).cell? ⟨w1.heap.size, 0, none⟩ = some (.int .i64 pe) := by rw [cell_of_row _ _ 0 _ _ _ hq]; rfl
        have q1 : (Z.setCell ⟨S, 0, none⟩ (.slice A2 r2.length c2)).cell? ⟨w1.heap.size, 1, none⟩ = some (.int .i64 ps) := by rw [cell_of_row _ _ 1 _ _ _ hq]; rfl
        have q2 : (Z.setCell ⟨S, 0, none⟩ (.slice A2 r2.length c2)).cell? ⟨w1.heap.size, 2, none⟩ = some (.int .i64 pa) := by rw [cell_of_row _ _ 2 _ _ _ hq]; rfl
        have q3 : (Z.setCell ⟨S, 0, none⟩ (.slice A2 r2.length c2)).cell? ⟨w1.heap.size, 3, none⟩ = some (.string pd) := by rw [cell_of_row _ _ 3 _ _ _ hq]; rfl
        obtain ⟨fn, tmps, assign, body, hy, hR⟩ := HY.out pre ⟨pe, ps, pa, pd⟩ r2 lost _ (by have := HPL.out; have := HRL.out; omega) HJD.out HSD2.out HMD.out
        unfold Pk.val at hy
        simp only at hy
        have HRR := Aside0.mk hR
        clear hR hq
        gi_wp2
        refine wpIn_wide.2 ?_
        refine start_ (n := 10) (S := fun w' => w'.cell? ⟨T, 0, none⟩ = some (.pointer (some ⟨S, 0, none⟩)) ∧ w'.cell? ⟨S, 0, none⟩ = some (.slice A rest.length c)) (ds := [9]) #[false, false, false, false, false, false, false, false, false, false] (by kernel_rfl) rfl rfl ⟨cT, c0⟩ (fun hHeld => ?_); refine with_tabW iter.tab5 iter.bits5 (fun HT_ HW_ => ?_)
        rw [← hZ] at cT c0 f0 hHeld ⊢
        clear hZ
        refine take_ (i := 0) (N := some 38) (v := ?_) (a' := ?_) #[true, false, false, false, false, false, false, false, false, false] rfl rfl (take_ofW HT_.out HW_.out (by kernel_rfl)) (fun _ _ _ h => h) (Or.inl ⟨by rfl, ?_⟩) hHeld ?_ ?_
        rotate_left
        · intro w' s0
          obtain ⟨s0, s1⟩ := s0
          go_simp
          with_reducible rfl
        rotate_left
        · simp only [Act.put, List.setIfInBounds_toArray, List.set_cons_zero, List.set_cons_succ, i64_w, i32_w]
          rfl
        refine take_ (i := 1) (N := some 39) (v := ?_) (a' := ?_) #[true, true, false, false, false, false, false, false, false, false] rfl rfl (take_ofW HT_.out HW_.out (by kernel_rfl)) (fun _ _ _ h => h) (Or.inl ⟨by rfl, ?_⟩) hHeld ?_ ?_
        rotate_left
        · intro w' s0
          obtain ⟨s0, s1⟩ := s0
          go_simp
          with_reducible rfl
        rotate_left
        · simp only [Act.put, List.setIfInBounds_toArray, List.set_cons_zero, List.set_cons_succ, i64_w, i32_w]
          rfl
        refine pure_ (i := 2) (N := some 40) (v := ?_) (a' := ?_) #[true, true, true, false, false, false, false, false, false, false] rfl rfl (any_of HT_.out (by kernel_rfl)) (fun _ _ _ h => h) (Or.inl ⟨by rfl, ?_⟩) ?_ ?_
        rotate_left
        · intro w'
          go_simp
          with_reducible rfl
        rotate_left
        · simp only [Act.put, List.setIfInBounds_toArray, List.set_cons_zero, List.set_cons_succ, i64_w, i32_w]
          rfl
        refine pure_ (i := 3) (N := some 41) (v := ?_) (a' := ?_) #[true, true, true, true, false, false, false, false, false, false] rfl rfl (any_of HT_.out (by kernel_rfl)) (fun _ _ _ h => h) (Or.inl ⟨by rfl, ?_⟩) ?_ ?_
        rotate_left
        · intro w'
          go_simp
          with_reducible rfl
        rotate_left
        · simp only [Act.put, List.setIfInBounds_toArray, List.set_cons_zero, List.set_cons_succ, i64_w, i32_w]
          rfl
        refine take_ (i := 4) (N := some 42) (v := ?_) (a' := ?_) #[true, true, true, true, true, false, false, false, false, false] rfl rfl (take_ofW HT_.out HW_.out (by kernel_rfl)) (fun _ _ _ h => h) (Or.inl ⟨by rfl, ?_⟩) hHeld ?_ ?_
        rotate_left
        · intro w' s0
          obtain ⟨s0, s1⟩ := s0
          go_simp
          with_reducible rfl
        rotate_left
        · simp only [Act.put, List.setIfInBounds_toArray, List.set_cons_zero, List.set_cons_succ, i64_w, i32_w]
          rfl
        refine pure_ (i := 5) (N := some 43) (v := ?_) (a' := ?_) #[true, true, true, true, true, true, false, false, false, false] rfl rfl (any_of HT_.out (by kernel_rfl)) (fun _ _ _ h => h) (Or.inl ⟨by rfl, ?_⟩) ?_ ?_
        rotate_left
        · intro w'
          go_simp
          with_reducible rfl
        rotate_left
        · simp only [Act.put, List.setIfInBounds_toArray, List.set_cons_zero, List.set_cons_succ, i64_w, i32_w]
          rfl
        refine pure_ (i := 6) (N := some 44) (v := ?_) (a' := ?_) #[true, true, true, true, true, true, true, false, false, false] rfl rfl (any_of HT_.out (by kernel_rfl)) (fun _ _ _ h => h) (Or.inl ⟨by rfl, ?_⟩) ?_ ?_
        rotate_left
        · intro w'
          go_simp
          with_reducible rfl
        rotate_left
        · simp only [Act.put, List.setIfInBounds_toArray, List.set_cons_zero, List.set_cons_succ, i64_w, i32_w]
          rfl
        refine pure_ (i := 7) (N := some 45) (v := ?_) (a' := ?_) #[true, true, true, true, true, true, true, true, false, false] rfl rfl (any_of HT_.out (by kernel_rfl)) (fun _ _ _ h => h) (Or.inl ⟨by rfl, ?_⟩) ?_ ?_
        rotate_left
        · intro w'
          go_simp
          with_reducible rfl
        rotate_left
        · simp only [Act.put, List.setIfInBounds_toArray, List.set_cons_zero, List.set_cons_succ, i64_w, i32_w]
          rfl
        refine pure_ (i := 8) (N := some 46) (v := ?_) (a' := ?_) #[true, true, true, true, true, true, true, true, true, false] rfl rfl (any_of HT_.out (by kernel_rfl)) (fun _ _ _ h => h) (Or.inl ⟨by rfl, ?_⟩) ?_ ?_
        rotate_left
        · intro w'
          go_simp
          with_reducible rfl
        rotate_left
        · simp only [Act.put, List.setIfInBounds_toArray, List.set_cons_zero, List.set_cons_succ, i64_w, i32_w]
          rfl
        refine last_ (i := 9) (N := none) #[true, true, true, true, true, true, true, true, true, true] rfl rfl (one_of HT_.out (by kernel_rfl)) (by decide) (fun K hK => ?_)
        refine skip_ (w1 := ?_) (by rfl) rfl ?_ ?_
        rotate_left
        · go_simp
          rfl
        refine hK.out _ _ ?_
        clear hK K
        refine done_ (done_of HT_.out (by kernel_rfl)) ?_
        gi_wp2
        refine ⟨fun _ => by have := HN.out; omega, ?_⟩
        refine HRR.out.mono ?_
        rintro e w3 ⟨rfl, hj3, hs3, hm3⟩
        have HJ3 := Aside0.mk hj3
        have HS3 := Aside0.mk hs3
        have HM3 := Aside0.mk hm3
        clear hj3 hs3 hm3
        gi_wp2
        go_roundw
        case rel => exact ⟨pre ++ [⟨pe, ps, pa, pd⟩], r2, lost, HJ3.out, HS3.out, HM3.out, by have := HLL.out; have := HRL.out; omega, by have := HPL.out; have := HRL.out; simp; omega, by rw [HFN.out, HR2.out]; exact (res_ok HG.out HKP.out).symm⟩
        case measure => rw [HLE.out]; obtain ⟨A3, c3, h3, _⟩ := HM3.out.strm; rw [left_eq h3]; exact HRL.out
      · have HE := Aside0.mk he
        have HMD : Aside0 (Mid M N S T r2 (lost : Int) ((w1.alloc (.cells #[.int .i64 pe, .int .i64 ps, .int .i64 pa, .string pd] 23)).drew.setCell ⟨S, 0, none⟩ (.slice A2 r2.length c2))) := Aside0.mk (HMS.out.below (below_drew1 (Below.refl _ _)))
        have HJD : Aside0 (J pre ((w1.alloc (.cells #[.int .i64 pe, .int .i64 ps, .int .i64 pa, .string pd] 23)).drew.setCell ⟨S, 0, none⟩ (.slice A2 r2.length c2))) := Aside0.mk (HJ.out _ _ _ HJ2.out (but_of_below (below_drew1 (Below.refl _ _))))
        have HSD2 : Aside0 (St ((w1.alloc (.cells #[.int .i64 pe, .int .i64 ps, .int .i64 pa, .string pd] 23)).drew.setCell ⟨S, 0, none⟩ (.slice A2 r2.length c2))) := Aside0.mk (HSt.out _ _ HS2.out (but_of_below (below_drew1 (Below.refl _ _))))
        obtain ⟨Z, hZ⟩ : ∃ Z, Z = (w1.alloc (.cells #[.int .i64 pe, .int .i64 ps, .int .i64 pa, .string pd] 23)).drew := ⟨_, rfl⟩
        rw [← hZ] at HMD HJD HSD2
        obtain ⟨Y, hY⟩ : ∃ Y, Y = Z.setCell ⟨S, 0, none⟩ (.slice A2 r2.length c2) := ⟨_, rfl⟩
        rw [← hY] at HMD HJD HSD2
        have HYE := Aside0.mk hY
        clear hY
        have HB1 := Aside0.mk (show (lost : Int) + 1 ≤ 4000000 by have := HLL.out; have := HRL.out; omega)
        have he1 : ¬ er = 0 := he
        gi_wp2
        refine wpIn_wide.2 ?_
        refine start_ (n := 10) (S := fun w' => w'.cell? ⟨T, 0, none⟩ = some (.pointer (some ⟨S, 0, none⟩)) ∧ w'.cell? ⟨S, 0, none⟩ = some (.slice A rest.length c)) (ds := [9]) #[false, false, false, false, false, false, false, false, false, false] (by kernel_rfl) rfl rfl ⟨cT, c0⟩ (fun hHeld => ?_); refine with_tabW iter.tab7 iter.bits7 (fun HT_ HW_ => ?_)
        rw [← hZ] at cT c0 f0 hHeld ⊢
        clear hZ
        refine take_ (i := 0) (N := some 51) (v := ?_) (a' := ?_) #[true, false, false, false, false, false, false, false, false, false] rfl rfl (take_ofW HT_.out HW_.out (by kernel_rfl)) (fun _ _ _ h => h) (Or.inl ⟨by rfl, ?_⟩) hHeld ?_ ?_
        rotate_left
        · intro w' s0
          obtain ⟨s0, s1⟩ := s0
          go_simp
          with_reducible rfl
        rotate_left
        · simp only [Act.put, List.setIfInBounds_toArray, List.set_cons_zero, List.set_cons_succ, i64_w, i32_w]
          rfl
        refine take_ (i := 1) (N := some 52) (v := ?_) (a' := ?_) #[true, true, false, false, false, false, false, false, false, false] rfl rfl (take_ofW HT_.out HW_.out (by kernel_rfl)) (fun _ _ _ h => h) (Or.inl ⟨by rfl, ?_⟩) hHeld ?_ ?_
        rotate_left
        · intro w' s0
          obtain ⟨s0, s1⟩ := s0
          go_simp
          with_reducible rfl
        rotate_left
        · simp only [Act.put, List.setIfInBounds_toArray, List.set_cons_zero, List.set_cons_succ, i64_w, i32_w]
          rfl
        refine pure_ (i := 2) (N := some 53) (v := ?_) (a' := ?_) #[true, true, true, false, false, false, false, false, false, false] rfl rfl (any_of HT_.out (by kernel_rfl)) (fun _ _ _ h => h) (Or.inl ⟨by rfl, ?_⟩) ?_ ?_
        rotate_left
        · intro w'
          go_simp
          with_reducible rfl
        rotate_left
        · simp only [Act.put, List.setIfInBounds_toArray, List.set_cons_zero, List.set_cons_succ, i64_w, i32_w]
          rfl
        refine pure_ (i := 3) (N := some 54) (v := ?_) (a' := ?_) #[true, true, true, true, false, false, false, false, false, false] rfl rfl (any_of HT_.out (by kernel_rfl)) (fun _ _ _ h => h) (Or.inl ⟨by rfl, ?_⟩) ?_ ?_
        rotate_left
        · intro w'
          go_simp
          with_reducible rfl
        rotate_left
        · simp only [Act.put, List.setIfInBounds_toArray, List.set_cons_zero, List.set_cons_succ, i64_w, i32_w]
          rfl
        refine take_ (i := 4) (N := some 55) (v := ?_) (a' := ?_) #[true, true, true, true, true, false, false, false, false, false] rfl rfl (take_ofW HT_.out HW_.out (by kernel_rfl)) (fun _ _ _ h => h) (Or.inl ⟨by rfl, ?_⟩) hHeld ?_ ?_
        rotate_left
        · intro w' s0
          obtain ⟨s0, s1⟩ := s0
          go_simp
          with_reducible rfl
        rotate_left
        · simp only [Act.put, List.setIfInBounds_toArray, List.set_cons_zero, List.set_cons_succ, i64_w, i32_w]
          rfl
        refine pure_ (i := 5) (N := some 56) (v := ?_) (a' := ?_) #[true, true, true, true, true, true, false, false, false, false] rfl rfl (any_of HT_.out (by kernel_rfl)) (fun _ _ _ h => h) (Or.inl ⟨by rfl, ?_⟩) ?_ ?_
        rotate_left
        · intro w'
          go_simp
          with_reducible rfl
        rotate_left
        · simp only [Act.put, List.setIfInBounds_toArray, List.set_cons_zero, List.set_cons_succ, i64_w, i32_w]
          rfl
        refine pure_ (i := 6) (N := some 57) (v := ?_) (a' := ?_) #[true, true, true, true, true, true, true, false, false, false] rfl rfl (any_of HT_.out (by kernel_rfl)) (fun _ _ _ h => h) (Or.inl ⟨by rfl, ?_⟩) ?_ ?_
        rotate_left
        · intro w'
          go_simp
          with_reducible rfl
        rotate_left
        · simp only [Act.put, List.setIfInBounds_toArray, List.set_cons_zero, List.set_cons_succ, i64_w, i32_w]
          rfl
        refine pure_ (i := 7) (N := some 58) (v := ?_) (a' := ?_) #[true, true, true, true, true, true, true, true, false, false] rfl rfl (any_of HT_.out (by kernel_rfl)) (fun _ _ _ h => h) (Or.inl ⟨by rfl, ?_⟩) ?_ ?_
        rotate_left
        · intro w'
          go_simp
          with_reducible rfl
        rotate_left
        · simp only [Act.put, List.setIfInBounds_toArray, List.set_cons_zero, List.set_cons_succ, i64_w, i32_w]
          rfl
        refine pure_ (i := 8) (N := some 59) (v := ?_) (a' := ?_) #[true, true, true, true, true, true, true, true, true, false] rfl rfl (any_of HT_.out (by kernel_rfl)) (fun _ _ _ h => h) (Or.inl ⟨by rfl, ?_⟩) ?_ ?_
        rotate_left
        · intro w'
          go_simp
          with_reducible rfl
        rotate_left
        · simp only [Act.put, List.setIfInBounds_toArray, List.set_cons_zero, List.set_cons_succ, i64_w, i32_w]
          rfl
        refine last_ (i := 9) (N := none) #[true, true, true, true, true, true, true, true, true, true] rfl rfl (one_of HT_.out (by kernel_rfl)) (by decide) (fun K hK => ?_)
        refine skip_ (w1 := ?_) (by rfl) rfl ?_ ?_
        rotate_left
        · go_simp
          rfl
        refine hK.out _ _ ?_
        clear hK K
        refine done_ (done_of HT_.out (by kernel_rfl)) ?_
        rw [← HYE.out]
        clear HYE cT c0 f0
        obtain ⟨A3, c3, h3, h4⟩ := HMD.out.strm
        have cT : Y.cell? ⟨T, 0, none⟩ = some (.pointer (some ⟨S, 0, none⟩)) := by rw [cell_of_row Y _ 0 _ _ _ HMD.out.box]; rfl
        have c1 := h3.c1
        have f1 := h3.f 1
        have hl1 : (lost : Int) ≤ 4000000 := by have := HB1.out; omega
        clear h3 h4
        gi_wp2
        go_roundw
        case rel => exact ⟨pre, r2, lost + 1, HJ.out _ _ _ HJD.out (But.setCell S 1 _ _), HSt.out _ _ HSD2.out (But.setCell S 1 _ _), HMD.out.more _, by have := HLL.out; have := HRL.out; omega, by have := HPL.out; have := HRL.out; omega, by rw [HFN.out, HR2.out]; exact (res_lost HG.out HKP.out HE.out).symm⟩
        case measure => rw [HLE.out]; obtain ⟨A3, c3, h3, _⟩ := (HMD.out.more ((lost : Int) + 1)).strm; rw [left_eq h3]; exact HRL.out
end Go.Proofs.Ytedfcjcnhgomoaa.WireI
end

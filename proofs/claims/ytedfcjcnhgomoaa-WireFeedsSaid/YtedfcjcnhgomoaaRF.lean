import Derived.Test.YtedfcjcnhgomoaaRE
import Derived.Maps.AppendAt
import Derived.Test.YtedfcjcnhgomoaaQD
-- MERGED YtedfcjcnhgomoaaWireG
section
/- A slice that grows, which is nothing or lies in a row of its own; a copy of bytes. -/
namespace Go.Proofs.Ytedfcjcnhgomoaa.WireG
open Go.RowKit Go.Proofs.Ytedfcjcnhgomoaa.P Go.Proofs.YtedfcjcnhgomoaaW.PrintWords Go.Proofs.YtedfcjcnhgomoaaW.PrintLast Go.Proofs.YtedfcjcnhgomoaaW.PrintMore Go.Proofs.Ytedfcjcnhgomoaa.Own Go.Proofs.Ytedfcjcnhgomoaa.Vy Go.Proofs.Ytedfcjcnhgomoaa.FrameP Go.Proofs.Ytedfcjcnhgomoaa.FrameL Go.Proofs.Ytedfcjcnhgomoaa.VaryR Go.Proofs.Ytedfcjcnhgomoaa.FrameG Go.Proofs.Ytedfcjcnhgomoaa.WireP Go.Proofs.Ytedfcjcnhgomoaa.WireI
set_option linter.unusedSimpArgs false
set_option linter.unusedVariables false

/-- Nothing, or a row of its own. -/
def Gf (B : Nat) (e : TypeId) (w : World) (v : Value) (xs : List Int) : Prop := (xs = [] ∧ ∃ A, v = .slice A 0 0) ∨ w.ownsRow B e 1 v xs.length (nums .u8 xs)
theorem Gf.sl {B : Nat} {e : TypeId} {w : World} {v : Value} {xs : List Int} (h : Gf B e w v xs) : Sl w v xs := by
  rcases h with ⟨rfl, A, rfl⟩ | h
  · exact Sl.mk (show Kd.C (Kd.int .u8) w A ([] : List Int).length [] from ⟨rfl, by simp [maxLen], fun h => absurd h (by simp)⟩) (Nat.le_refl _)
  · exact Sl.of_own h
theorem Gf.mono {B B' : Nat} {e : TypeId} {w : World} {v : Value} {xs : List Int} (h : Gf B e w v xs) (hB : B' ≤ B) : Gf B' e w v xs := h.imp id (fun h => h.mono hB)
theorem Gf.far {B : Nat} {e : TypeId} {w : World} {A : Option Addr} {n c : Nat} {xs : List Int} (h : Gf B e w (.slice A n c) xs) : ∀ ad, A = some ad → 0 < xs.length → B ≤ ad.block := by
  intro ad e hp
  rcases h with ⟨rfl, _⟩ | h
  · simp at hp
  · rcases h.2 with ⟨h1, _⟩ | ⟨g, cap, cur, h1, hg, _⟩
    · injection h1 with h1; rw [h1] at e; cases e
    · injection h1 with h1
      rw [h1] at e
      cases e
      exact hg
theorem exec_gf {P : Program} {w : World} {f : Operand → Value} {o : Oper} {s x : Operand} {t e : TypeId} {B : Nat} (hop : o.op = Op.call { callee := Callee.builtin Builtin.append, args := #[s, x], argTypes := #[t, t] })
    (h1 : P.underlying t = some (.slice e)) (hi : (P.info? e).map (fun i => (i.zero, i.size, i.bytes)) = some (some (.int .u8 0), 1, 1)) (hB : B ≤ w.heap.size)
    {vs : Value} {xs : List Int} (hs : f s = vs) (hx : Gf B e w vs xs) {v : Value} {ys : List Int} (he : f x = v) (hy : Sl w v ys)
    (b1 : xs.length + ys.length ≤ 140737488355328) :
    ∃ v' w', (execOp f o).run P w = .ok (.value v') w' ∧ Gf B e w' v' (xs ++ ys) ∧ Below B w w' := by
  obtain ⟨i0, hi0, hz0, hz1, hz2⟩ := info_parts hi
  obtain ⟨A2, c2, rfl, hc2, hC2⟩ := hy
  have hm : xs.length + ys.length ≤ maxLen := by unfold maxLen; omega
  have e1 : (xs ++ ys).length = xs.length + ys.length := List.length_append
  have e2 : nums .u8 (xs ++ ys) = nums .u8 xs ++ nums .u8 ys := nums_append _ _ _
  rcases Nat.eq_zero_or_pos ys.length with h0 | hp
  · obtain rfl : ys = [] := List.eq_nil_of_length_eq_zero h0
    have hsrc : Src P i0.size t (.slice A2 ([] : List Int).length c2) 0 [] w := by
      cases A2 with
      | none => exact Src.ofNil _ h1 c2
      | some ad => exact Src.ofSlice _ h1 ad 0 c2 [] (by simp) (fun j u hj => by cases j <;> cases hj) (fun u hu => by cases hu)
    obtain ⟨A, c, rfl, hc, _⟩ := hx.sl
    have hrun := run_append_nothing (P := P) w t t o.type e i0 h1 hi0 A xs.length c hc _ hsrc
    refine ⟨.slice A xs.length c, w, ?_, by rw [List.append_nil]; exact hx, Below.refl _ _⟩
    have hrun' : (Builtin.append_ #[t, t] o.type #[Value.slice A xs.length c, Value.slice A2 0 c2]).run P w = .ok (.slice A xs.length c) w := hrun
    simp [execOp, hop, resolve, invoke, builtin, hs, he, hrun', Result.andThen]
  · obtain ⟨ad, hA2, _⟩ := hC2.2.2 hp
    subst hA2
    have hC : ∀ j u, (nums .u8 ys)[j]? = some u → w.cell? (ad.add j) = some u := fun j u hu => C_cells hC2 ad rfl j u hu
    have one : ∀ u ∈ nums .u8 ys, u.oneCell' = true := fun u hu => by
      rw [nums, List.mem_map] at hu
      obtain ⟨z, _, rfl⟩ := hu
      rfl
    have own : ∀ B', B ≤ B' → B' ≤ w.heap.size → w.ownsRow B' e 1 vs xs.length (nums .u8 xs) → ∃ v' w', (execOp f o).run P w = .ok (.value v') w' ∧ Gf B e w' v' (xs ++ ys) ∧ Below B w w' := by
      intro B' hBB hB' ho
      obtain ⟨v', w', hrun, r1, r2, _⟩ := run_append_own (P := P) w B' t o.type e i0 (.int .u8 0) 1 1 h1 hi0 hz0 hz1 hz2 rfl (by decide) vs xs.length (nums .u8 xs) ho ad ys.length c2 (nums .u8 ys) (by rw [nums_length]; omega) hC one hm (by omega) hB'
      refine ⟨v', w', ?_, .inr ?_, (Below.refl _ w).grown r2 hB (fun k e => Nat.le_trans hBB (ho.lt k e).1)⟩
      · simp [execOp, hop, resolve, invoke, builtin, hs, he, hrun, Result.andThen]
      · rw [e1, e2]; exact r1.mono hBB
    rcases hx with ⟨rfl, A, rfl⟩ | ho
    · cases A with
      | some b =>
        obtain ⟨v', w', hrun, r1, r2⟩ := run_append_arg_grows (P := P) w t o.type e i0 (.int .u8 0) 1 1 h1 hi0 hz0 hz1 hz2 rfl (by decide) b 0 0 (nums .u8 []) rfl (fun j u hu => by cases j <;> cases hu) ad ys.length c2 (nums .u8 ys) (by rw [nums_length]; omega) hC (by omega) (by simpa using hm) (by simpa using b1)
        refine ⟨v', w', ?_, .inr ?_, (Below.refl _ w).grown r2 hB (fun k e => by cases e)⟩
        · simp [execOp, hop, resolve, invoke, builtin, hs, he, hrun, Result.andThen]
        · rw [e1, e2]; exact r1.mono hB
      | none => exact own w.heap.size hB (Nat.le_refl _) (World.ownsRow_nil w _ e 1)
    · exact own B (Nat.le_refl _) hB ho
theorem wpList_gf {P : Program} {ops : Array Oper} {rest : List Oper} {o : Oper} {a : Act} {w : World} {Q : Exit → Act → World → Prop} {s x : Operand} {t e : TypeId} {B : Nat} (hg : o.guard = none)
    (hop : o.op = Op.call { callee := Callee.builtin Builtin.append, args := #[s, x], argTypes := #[t, t] })
    (h1 : P.underlying t = some (.slice e)) (hi : (P.info? e).map (fun i => (i.zero, i.size, i.bytes)) = some (some (.int .u8 0), 1, 1)) (hB : B ≤ w.heap.size)
    {vs : Value} {xs : List Int} (hs : a.eval s = vs) (hx : Gf B e w vs xs) {v : Value} {ys : List Int} (he : a.eval x = v) (hy : Sl w v ys) (b1 : xs.length + ys.length ≤ 140737488355328)
    (hK : ∀ v' w', Gf B e w' v' (xs ++ ys) → Below B w w' → wpList P ops Q rest (a.put o.dst v') w') : wpList P ops Q (o :: rest) a w := by
  obtain ⟨v', w', hrun, r1, r2⟩ := exec_gf (P := P) (o := o) (f := a.eval) hop h1 hi hB hs hx he hy b1
  refine wpList_plain hg fun K hK' => ?_
  unfold Oper.wp
  rw [hrun]
  exact hK' _ _ (hK v' w' r1 r2)
theorem wpListIn_gf {F : Fence} {n : Nat} {P : Program} {ops : Array Oper} {rest : List Oper} {o : Oper} {a : Act} {w : World} {Q : Exit → Act → World → Prop} {s x : Operand} {t e : TypeId} {B : Nat} (hg : o.guard = none)
    (hop : o.op = Op.call { callee := Callee.builtin Builtin.append, args := #[s, x], argTypes := #[t, t] })
    (h1 : P.underlying t = some (.slice e)) (hi : (P.info? e).map (fun i => (i.zero, i.size, i.bytes)) = some (some (.int .u8 0), 1, 1)) (hB : B ≤ w.heap.size)
    {vs : Value} {xs : List Int} (hs : a.eval s = vs) (hx : Gf B e w vs xs) {v : Value} {ys : List Int} (he : a.eval x = v) (hy : Sl w v ys) (b1 : xs.length + ys.length ≤ 140737488355328)
    (hK : ∀ v' w', Gf B e w' v' (xs ++ ys) → Below B w w' → wpListIn F n P ops Q rest (a.put o.dst v') w') : wpListIn F n P ops Q (o :: rest) a w := by
  obtain ⟨v', w', hrun, r1, r2⟩ := exec_gf (P := P) (o := o) (f := a.eval) hop h1 hi hB hs hx he hy b1
  refine wpListIn_plain hg fun K hK' => ?_
  unfold Oper.wpIn
  refine ⟨?_, ?_⟩
  · simp [Oper.about, hop, resolve, Target.leads, Sem.run_pure]
  · rw [Oper.semAt_plain F _ _ (by rw [hop]; intro c hc'; cases hc'), hrun]
    exact hK' _ _ (hK v' w' r1 r2)
set_option maxHeartbeats 2000000 in
set_option maxRecDepth 100000 in
theorem clone_f (u : Value) (l : List Int) (w : World) (hs : Sl w u l) (hl : l.length ≤ 1000000) : Calls Try.prog 75 #[u] w fun e w' => ∃ v, e = .returned v ∧ Gf w.heap.size 5 w' v l ∧ Below w.heap.size w w' := by
  have HS := Aside0.mk hs
  have HL := Aside0.mk hl
  obtain ⟨A, c, rfl, hc, hC⟩ := hs
  cases A with
  | none =>
    have hz : l = [] := List.eq_nil_of_length_eq_zero (C_none hC rfl)
    subst hz
    clear hC hl
    have he : ∀ W, (binOp .eql 25 (.slice none 0 c) (.slice none 0 0)).run Try.prog W = .ok (.bool true) W := fun W => Lib.run_eql_slice_nil (P := Try.prog) W _ _ none 0 c 0 0 Try.underlying25
    go_enter Try.func75, Try.ntmps75
    go_wp2_with fail
    go_ret
    exact ⟨_, rfl, .inl ⟨rfl, _, rfl⟩, Below.refl _ _⟩
  | some ad =>
    clear hC hl
    have he : ∀ W, (binOp .eql 25 (.slice (some ad) l.length c) (.slice none 0 0)).run Try.prog W = .ok (.bool false) W := fun W => Lib.run_eql_slice_nil (P := Try.prog) W _ _ (some ad) l.length c 0 0 Try.underlying25
    go_enter Try.func75, Try.ntmps75
    go_wp2_with (at_builtin; refine wpList_gf rfl rfl Try.underlying25 info5 (Nat.le_refl _) rfl (show Gf _ _ _ _ [] from ?g1) rfl (HS.out.alloc _) ?b1 ?_)
    case g1 => exact .inl ⟨rfl, _, rfl⟩
    case b1 => have := HL.out; simp; omega
    intro v' w' hg hb
    have HG := Aside0.mk (hg.mono (show w.heap.size ≤ w.heap.size + 1 by omega))
    have HB := Aside0.mk ((below_alloc (Below.refl w.heap.size w) _).trans (hb.mono (by omega)))
    clear hg hb
    go_wp2_with fail
    go_ret
    exact ⟨_, rfl, HG.out, HB.out⟩
end Go.Proofs.Ytedfcjcnhgomoaa.WireG
end
-- MERGED YtedfcjcnhgomoaaWireF
section
/- The walk of Feed. -/
namespace Go.Proofs.Ytedfcjcnhgomoaa.WireF
open Go.RowKit Go.Shelf Go.Proofs.Ytedfcjcnhgomoaa.P Go.Proofs.YtedfcjcnhgomoaaW.PrintWords Go.Proofs.YtedfcjcnhgomoaaW.PrintLast Go.Proofs.YtedfcjcnhgomoaaW.PrintMore Go.Proofs.Ytedfcjcnhgomoaa.Own Go.Proofs.Ytedfcjcnhgomoaa.Vy Go.Proofs.Ytedfcjcnhgomoaa.FrameP Go.Proofs.Ytedfcjcnhgomoaa.FrameL Go.Proofs.Ytedfcjcnhgomoaa.VaryR Go.Proofs.Ytedfcjcnhgomoaa.FrameG Go.Proofs.Ytedfcjcnhgomoaa.WireP Go.Proofs.Ytedfcjcnhgomoaa.WireI Go.Proofs.Ytedfcjcnhgomoaa.WireG Go.Proofs.Ytedfcjcnhgomoaa.RangeSt
attribute [local go_sem] Oper.semAt_some
set_option linter.unusedSimpArgs false
set_option linter.unusedVariables false

theorem sl_lt {A : Option Addr} {n c : Nat} {l : List Int} {W : World} (h : Sl W (.slice A n c) l) : ∀ ad, A = some ad → 0 < n → ad.block < W.heap.size := by
  intro ad e hp
  obtain ⟨rfl, hc, hC⟩ := h.toC
  obtain ⟨y, hy⟩ : ∃ y, (nums .u8 l)[0]? = some y := ⟨_, List.getElem?_eq_getElem (by rw [nums_length]; exact hp)⟩
  have h1 := C_cells hC ad e 0 _ hy
  have h2 := World.block_lt_of_cell? W _ h1
  rwa [show (ad.add 0).block = ad.block by unfold Addr.add; split <;> rfl] at h2
/-- The cells of packets. -/
def pkCells (l : List Pk) : List Value := l.flatMap fun p => [.int .i64 p.e, .int .i64 p.s, .int .i64 p.a, .string p.d]
theorem pkCells_length (l : List Pk) : (pkCells l).length = l.length * 4 := by
  unfold pkCells
  induction l with
  | nil => rfl
  | cons p l ih => rw [List.flatMap_cons, List.length_append, ih, List.length_cons]; simp; omega
theorem pkCells_snoc (l : List Pk) (p : Pk) : pkCells (l ++ [p]) = pkCells l ++ [.int .i64 p.e, .int .i64 p.s, .int .i64 p.a, .string p.d] := by simp [pkCells]
/-- What is told so far lies in the box O; but for the stream all lies as it lay. -/
def Jp (N S O : Nat) (w : World) (pre : List Pk) (W : World) : Prop := (∃ o, Boxed W O 52 o ∧ W.ownsRow N 23 4 o pre.length (pkCells pre) ∧ True) ∧ But S w W
theorem Jp.but {N S O : Nat} {w W W' : World} {pre : List Pk} (hS : S < N) (hO : O ≠ S) (h : Jp N S O w pre W) (hb : But S W W') : Jp N S O w pre W' := by
  obtain ⟨⟨o, h1, h2, _⟩, h3⟩ := h
  refine ⟨⟨o, h1.kept hb (fun e => hO (by injection e)), h2.kept hb (.inr (fun e => by have := (h2.lt S e).1; omega)), trivial⟩, h3.trans hb⟩
theorem own_but {β : Type} {S B : Nat} {w : World} (hB : w.heap.size ≤ B) : OwnFrom B (fun (_ : β) W => But S w W) := fun s W W' row hs hg hr =>
  ⟨hg.os.trans hs.os, hg.tape.trans hs.tape, hg.output.trans hs.output, Nat.le_trans hs.size hg.size, fun k hk hn => (hg.block k (Nat.lt_of_lt_of_le hk hs.size) (fun e => by have := (hr k e.symm).1; omega)).trans (hs.block k hk hn)⟩
theorem own_jp {β : Type} {N S O B : Nat} {w : World} (f : β → List Pk) (hB : w.heap.size ≤ B) : OwnFrom B (fun (s : β) W => Jp N S O w (f s) W) :=
  OwnFrom.and (Own.from (holdsRow_own N O 52 23 4 (fun s => (f s).length) (fun s => pkCells (f s)) (fun _ _ => True)) B) (own_but hB)
theorem kept_cells {W W' : World} {row : Option Nat} {k : Nat} {cs : Array Value} {t : TypeId} {fr : Nat × Nat} (h : W.heap[k]? = some (.cells cs t fr)) (hg : W.grownBy W' row) (hr : ∀ r, row = some r → ∃ o : Obj, W.heap[r]? = some o ∧ o.isCells = false) : W'.heap[k]? = some (.cells cs t fr) :=
  (hg.block k (lt_of h) (fun e => by obtain ⟨o, ho, hc⟩ := hr k e.symm; rw [h] at ho; cases ho; cases hc)).trans h
theorem kept_sl {W W' : World} {row : Option Nat} {v : Value} {l : List Int} (h : Sl W v l) (hg : W.grownBy W' row) (hr : ∀ r, row = some r → ∃ o : Obj, W.heap[r]? = some o ∧ o.isCells = false) : Sl W' v l := by
  cases row with
  | none => exact h.below ⟨hg.os, hg.tape, hg.output, hg.size, fun k hk => hg.block k hk (fun e => by cases e)⟩
  | some r =>
    obtain ⟨o, ho, hc⟩ := hr r rfl
    refine VaryR.Sl.but h hg (fun i x hx => ?_)
    obtain ⟨o', ho', hc'⟩ := cells_of_cell hx
    rw [ho] at ho'
    cases ho'
    rw [hc] at hc'
    cases hc'
theorem own_mid {β : Type} {M N S T B : Nat} (f : β → List Int) (g : β → Int) : OwnFrom B (fun (s : β) W => Mid M N S T (f s) (g s) W) := Own.from (fun s W W' row hs hg hr => by
  obtain ⟨A, c, h1, h2, h3⟩ := hs.strm
  exact ⟨⟨A, c, kept_cells h1 hg hr, kept_sl h2 hg hr, h3⟩, hs.far, hs.ok, hs.len, kept_cells hs.box hg hr⟩) B
theorem results_c1 {fn : Func} {p : Tmp} {ty e : TypeId} {P : Program} (h : fn.results = #[.cell p ty]) (tmps : Array Value) (w : World) (g : Nat) (v : Value) (hp : tmps.getD p undef = .pointer (some ⟨g, 0, none⟩)) (hu : P.underlying ty = some (.slice e)) (hc : w.cell? ⟨g, 0, none⟩ = some v) : (results fn tmps).run P w = .ok v w := by
  have hp' : tmps[p]?.getD undef = .pointer (some ⟨g, 0, none⟩) := by simpa using hp
  have ha : (isAgg ty).run P w = .ok false w := by simp [isAgg, run_underlying hu, Sem.run_bind, Result.andThen]
  simp [results, h, hp', asAddr, loadVar, ha, hc, Sem.run_bind, Result.andThen, go_sem]
theorem box_noByte {W : World} {O : Nat} {B : Option Addr} {n d : Nat} (h : Boxed W O 52 (.slice B n d)) : ∀ i x, W.cell? ⟨O, i, none⟩ ≠ some (.int .u8 x) := by
  intro i x hc
  rw [cell_of_row W O i _ _ _ h] at hc
  match i with
  | 0 => simp at hc
  | i + 1 => simp at hc
theorem ownsRow_set {W : World} {N O k : Nat} {o : Value} {xs : List Value} (hrow : W.ownsRow N 23 4 o k xs) (hbx : Boxed W O 52 o) (u : Value) : (W.setCell ⟨O, 0, none⟩ u).ownsRow N 23 4 o k xs :=
  hrow.kept (grownBy_setCell' W O u) (.inr (hbx.not_row (by decide) hrow).symm)
theorem infoPk : (Try.prog.info? 23).map (fun i => (i.zero, i.size, i.bytes)) = some (some (.agg #[.int .i64 0, .int .i64 0, .int .i64 0, .string ⟨#[]⟩]), 4, 40) := by kernel_rfl
theorem cells4_new (W : World) (a b c d : Value) (T : TypeId) : ∀ (j : Nat) (u : Value), [a, b, c, d][j]? = some u → (W.alloc (.cells #[a, b, c, d] T)).cell? ((⟨W.heap.size, 0, none⟩ : Addr).add j) = some u := by
  intro j u h
  have e : ((⟨W.heap.size, 0, none⟩ : Addr).add j) = ⟨W.heap.size, j, none⟩ := by simp [Addr.add]; exact fun h => h.symm
  rw [e, cell_of_row _ _ j _ _ _ (Own.heap_new W (.cells #[a, b, c, d] T))]
  simpa using h
/-- A round's append: what it turns. -/
theorem round_keeps {M N S T O : Nat} {w W w1 : World} {pre : List Pk} {rest : List Int} {lost : Int} {o v' : Value} {m : Nat} {ys : List Value} {tmp : Obj} (hwN : w.heap.size ≤ N) (hNW : N ≤ W.heap.size) (hOS : O ≠ S) (hOT : O ≠ T) (hOw : w.heap.size ≤ O)
    (hbx : Boxed W O 52 o) (hrow : W.ownsRow N 23 4 o pre.length (pkCells pre)) (hbut : But S w W) (hmid : Mid M N S T rest lost W)
    (hown' : w1.ownsRow N 23 4 v' m ys) (hgrow : (W.alloc tmp).grownBy w1 o.ownBlock) :
    Boxed w1 O 52 o ∧ KeepsOthers W (w1.setCell ⟨O, 0, none⟩ v') ∧ Boxed (w1.setCell ⟨O, 0, none⟩ v') O 52 v' ∧ (w1.setCell ⟨O, 0, none⟩ v').ownsRow N 23 4 v' m ys ∧ But S w (w1.setCell ⟨O, 0, none⟩ v') ∧ Mid M N S T rest lost (w1.setCell ⟨O, 0, none⟩ v') := by
  have hv1 : Boxed w1 O 52 o := (hbx.alloc tmp).kept hgrow (hbx.not_row (by decide) hrow)
  have same1 : ∀ k, k < N → w1.heap[k]? = W.heap[k]? := fun k hk => (hgrow.block k (by simp; omega) (fun e => by have := (hrow.lt k e.symm).1; omega)).trans (Own.heap_old W tmp k (by omega))
  have hno : ∀ i x, w1.cell? ⟨O, i, none⟩ ≠ some (.int .u8 x) := by
    intro i x hc
    have ho : ∃ A n c, o = .slice A n c := by
      rcases hrow.2 with ⟨rfl, _⟩ | ⟨g, cap, cur, rfl, _⟩
      · exact ⟨_, _, _, rfl⟩
      · exact ⟨_, _, _, rfl⟩
    obtain ⟨A, n, c, rfl⟩ := ho
    rw [cell_of_row w1 O i _ _ _ hv1] at hc
    match i with
    | 0 => simp at hc
    | i + 1 => simp at hc
  have hmid1 : Mid M N S T rest lost w1 := by
    obtain ⟨A, c, h1, h2, h3⟩ := hmid.strm
    exact ⟨⟨A, c, (same1 _ hmid.far.1).trans h1, sl_far h2 (fun ad e h => (h3 ad e h).1) same1, h3⟩, hmid.far, hmid.ok, hmid.len, (same1 _ hmid.far.2).trans hmid.box⟩
  refine ⟨hv1, ?_, hv1.set v', hown'.kept (grownBy_setCell' w1 O v') (.inr (hv1.not_row (by decide) hown').symm), ?_, ?_⟩
  · refine ((KeepsOthers.alloc W tmp).trans (KeepsOthers.of_grownBy hgrow fun j q ej hj => ?_)).trans (KeepsOthers.setCell _ _ _)
    rcases (ownsRow_below hrow (below_alloc (Below.refl _ _) tmp)).2 with ⟨rfl, _⟩ | ⟨g, cap, cur, rfl, _, hgb, _⟩
    · simp [Value.ownBlock] at ej
    · obtain rfl : g = j := by simpa [Value.ownBlock] using ej
      rw [hgb] at hj
      cases hj
      rfl
  · refine ⟨hgrow.os.trans hbut.os, hgrow.tape.trans hbut.tape, hgrow.output.trans hbut.output, ?_, fun k hk hn => ?_⟩
    · have h1 := hgrow.size
      have h2 := hbut.size
      simp at h1 ⊢
      omega
    · rw [heap_setCell_other w1 ⟨O, 0, none⟩ k v' (by show k ≠ O; omega)]
      exact (same1 k (by omega)).trans (hbut.block k hk hn)
  · obtain ⟨A, c, h1, h2, h3⟩ := hmid1.strm
    exact ⟨⟨A, c, (heap_setCell_other w1 ⟨O, 0, none⟩ S v' (by show S ≠ O; omega)).trans h1, VaryR.Sl.but h2 (But.setCell O 0 w1 v') hno, h3⟩, hmid1.far, hmid1.ok, hmid1.len, (heap_setCell_other w1 ⟨O, 0, none⟩ T v' (by show T ≠ O; omega)).trans hmid1.box⟩
/-- The ghost: packets are being told; or all is told. -/
inductive Sg
  | on (pre : List Pk) (rest : List Int) (lost : Nat)
  | off (pre : List Pk) (rest : List Int) (lost : Nat) (brk : Bool)
def I (N S T O : Nat) (w : World) : Sg → World → Prop
  | .on pre rest lost, W => Jp N S O w pre W ∧ Mid w.heap.size N S T rest (lost : Int) W
  | .off pre rest lost brk, W => Jp N S O w pre W ∧ ∃ A c, Strm S (.slice A rest.length c) (lost : Int) brk true W ∧ Sl W (.slice A rest.length c) rest ∧ ∀ ad, A = some ad → 0 < rest.length → w.heap.size ≤ ad.block
def nx : Sg → Pk → Sg
  | .on pre rest lost, p => .on (pre ++ [p]) rest lost
  | .off pre rest lost brk, _ => .off pre rest lost brk
def may : Sg → Prop
  | .on pre _ _ => pre.length < 2000000
  | .off _ _ _ _ => False
theorem own_I {N S T O B : Nat} {w : World} (hB : w.heap.size ≤ B) : OwnFrom B (I N S T O w) := by
  intro s W W' row hs hg hr
  cases s with
  | on pre rest lost => exact ⟨own_jp (β := Unit) (fun _ => pre) hB () W W' row hs.1 hg hr, own_mid (β := Unit) (B := B) (fun _ => rest) (fun _ => (lost : Int)) () W W' row hs.2 hg hr⟩
  | off pre rest lost brk =>
    obtain ⟨h0, A, c, h1, h2, h3⟩ := hs
    exact ⟨own_jp (β := Unit) (fun _ => pre) hB () W W' row h0 hg hr, A, c, kept_cells h1 hg (fun r e => (hr r e).2), kept_sl h2 hg (fun r e => (hr r e).2), h3⟩
set_option maxHeartbeats 1000000 in
set_option maxRecDepth 100000 in
theorem packets_c (S : Nat) (w : World) : Calls Try.prog 76 #[.pointer (some ⟨S, 0, none⟩)] w fun e w' => e = .returned (.func (.func 98) #[] #[.pointer (some ⟨w.heap.size, 0, none⟩)]) ∧ w' = w.alloc (.cells #[.pointer (some ⟨S, 0, none⟩)] 50) := by
  go_enter Try.func76, Try.ntmps76
  go_wp2_with fail
  go_ret
  exact ⟨rfl, rfl⟩
theorem wpListIn_gr {F : Fence} {n : Nat} {P : Program} {ops : Array Oper} {rest : List Oper} {o : Oper} {a : Act} {w : World} {Q : Exit → Act → World → Prop} {s x : Operand} {t e : TypeId} {B : Nat} (hg : o.guard = none)
    (hop : o.op = Op.call { callee := Callee.builtin Builtin.append, args := #[s, x], argTypes := #[t, t] })
    (h1 : P.underlying t = some (.slice e)) (hi : (P.info? e).map (fun i => (i.zero, i.size, i.bytes)) = some (some (.int .u8 0), 1, 1)) (hB : B ≤ w.heap.size)
    {vs : Value} {xs : List Int} (hs : a.eval s = vs) (hx : Gr B e w vs xs) {v : Value} {ys : List Int} (he : a.eval x = v) (hy : Sl w v ys) (b1 : xs.length + ys.length ≤ 140737488355328)
    (hK : ∀ v' w', Gr B e w' v' (xs ++ ys) → Below B w w' → wpListIn F n P ops Q rest (a.put o.dst v') w') : wpListIn F n P ops Q (o :: rest) a w := by
  obtain ⟨v', w', hrun, r1, r2⟩ := exec_gr (P := P) (o := o) (f := a.eval) hop h1 hi hB hs hx he hy b1
  refine wpListIn_plain hg fun K hK' => ?_
  unfold Oper.wpIn
  refine ⟨?_, ?_⟩
  · simp [Oper.about, hop, resolve, Target.leads, Sem.run_pure]
  · rw [Oper.semAt_plain F _ _ (by rw [hop]; intro c hc'; cases hc'), hrun]
    exact hK' _ _ (hK v' w' r1 r2)
set_option maxHeartbeats 4000000 in
set_option maxRecDepth 100000 in
theorem feed_c (S : Nat) (A : Option Addr) (c : Nat) (rest b : List Int) (lost : Nat) (u : Value) (w : World) (hS : Strm S (.slice A rest.length c) (lost : Int) false true w) (hs : Sl w (.slice A rest.length c) rest) (hb : Sl w u b) (ho : Byt.Ok rest) (hob : Byt.Ok b) (hl : rest.length + b.length ≤ 1000000) (hll : lost + (rest.length + b.length) ≤ 4000000) :
    Calls Try.prog 29 #[.pointer (some ⟨S, 0, none⟩), u] w fun e w' => ∃ o pre rest' lost' brk, e = .returned o ∧ res [] (rest ++ b) lost = (pre, rest', lost', brk) ∧ w'.ownsRow w.heap.size 23 4 o pre.length (pkCells pre) ∧ (∃ A c, Strm S (.slice A rest'.length c) (lost' : Int) brk true w' ∧ Sl w' (.slice A rest'.length c) rest' ∧ ∀ ad, A = some ad → 0 < rest'.length → w.heap.size ≤ ad.block) ∧ But S w w' := by
  refine (callsIn_wide (n := 12)).1 ?_
  obtain ⟨A2, c2, rfl, hc2, hC2⟩ := hb
  have HSB := Aside0.mk (Sl.mk hC2 hc2)
  have HST := Aside0.mk hS
  have HSR := Aside0.mk hs
  have HO := Aside0.mk ho
  have HOB := Aside0.mk hob
  have HL := Aside0.mk hl
  have HLL := Aside0.mk hll
  have cb := hS.c2
  clear hC2 hS hs ho hob hl hll
  refine callsIn_of_wp_marks Try.func29 rfl trivial ?_ rfl
  simp only [Try.ntmps29, List.size_toArray, List.length_cons, List.length_nil, Nat.reduceAdd, Nat.reduceSub, Array.replicate_succ, Array.replicate_zero, List.push_toArray, List.append_toArray, List.nil_append, List.cons_append]
  gi_wp2
  obtain ⟨w1, hw1⟩ : ∃ w1, w1 = w.alloc (.cells #[.slice none 0 0] 52) := ⟨_, rfl⟩
  have hb1 : Below w.heap.size w w1 := by rw [hw1]; exact below_alloc (Below.refl _ _) _
  have HBX := Aside0.mk (show Boxed w1 w.heap.size 52 (.slice none 0 0) by rw [hw1]; exact Boxed.new _ _ _)
  have HZ1 := Aside0.mk (show w1.heap.size = w.heap.size + 1 by rw [hw1]; simp)
  rw [← hw1]
  have H1 := Aside0.mk (HST.out.below hb1)
  have cb1 := H1.out.c2
  have ck1 := H1.out.c0
  have HB1 := Aside0.mk hb1
  clear hw1 hb1 cb
  refine ⟨trivial, ?_⟩
  refine (callsIn_wide.2 (none_c S _ _ _ _ _ H1.out)).mono ?_
  rintro e W ⟨rfl, rfl⟩
  gi_wp2
  refine ⟨trivial, ?_⟩
  refine (callsIn_wide.2 (clone_f _ rest _ (HSR.out.below HB1.out) (by have := HL.out; omega))).mono ?_
  rintro e w2 ⟨v2, rfl, hg2, hb2⟩
  have H2 := Aside0.mk (H1.out.below hb2)
  have HB2 := Aside0.mk (HB1.out.trans (hb2.mono HB1.out.size))
  have HG2 := Aside0.mk hg2
  have HZ2 := Aside0.mk hb2.size
  have HBX2 := Aside0.mk (show Boxed w2 w.heap.size 52 (.slice none 0 0) from (hb2.block _ HBX.out.lt).trans HBX.out)
  clear hg2 hb2 HBX H1 cb1 ck1
  gi_wp2_with (gi_at_builtin; refine wpListIn_gf rfl rfl Try.underlying25 info5 HZ2.out rfl HG2.out rfl (HSB.out.below HB2.out) ?b1 ?_)
  case b1 => have := HL.out; omega
  intro v5 w5 hg5 hb5
  have H5 := Aside0.mk (show Strm S (.slice A rest.length c) (lost : Int) false true w5 from (hb5.block _ (by have := H2.out.lt; have := HST.out.lt; have := HZ1.out; omega)).trans H2.out)
  have HBX5 := Aside0.mk (show Boxed w5 w.heap.size 52 (.slice none 0 0) from (hb5.block _ (by have := HZ1.out; omega)).trans HBX2.out)
  have HB5 := Aside0.mk (HB2.out.trans (hb5.mono (by have := HZ1.out; omega)))
  have S5 := Aside0.mk hg5.sl
  have hok := Byt.ok_append HO.out HOB.out
  have hlen : (rest ++ b).length = rest.length + b.length := List.length_append
  obtain ⟨r0, hr0⟩ : ∃ r0, r0 = rest ++ b := ⟨_, rfl⟩
  have HR0 := Aside0.mk hr0
  rw [← hr0] at S5 hok hlen
  have HOK := Aside0.mk hok
  have HLEN := Aside0.mk hlen
  have hv := S5.out
  obtain ⟨A5, c5, rfl, hc5, hC5⟩ := hv
  have HF5 := Aside0.mk (fun ad e hp => Nat.le_trans HB1.out.size (hg5.far ad e hp))
  have k0 := H5.out.c0
  have f0 := H5.out.f 0
  clear hg5 hb5 HG2 H2 HBX2 hr0 hok hlen hC5 HB2 HSR HZ2
  gi_wp2
  refine ⟨trivial, ?_⟩
  refine (callsIn_wide.2 (packets_c S _)).mono ?_
  rintro e w7 ⟨rfl, hw7⟩
  gi_wp2
  clear hw7
  obtain ⟨w7, hw7⟩ : ∃ w7, w7 = (w5.setCell ⟨S, 0, none⟩ (.slice A5 r0.length c5)).alloc (.cells #[.pointer (some ⟨S, 0, none⟩)] 50) := ⟨_, rfl⟩
  have hSlt : S < w.heap.size := HST.out.lt
  have hmid : Mid w.heap.size w7.heap.size S w5.heap.size r0 (lost : Int) w7 := by
    have hz : (w5.setCell ⟨S, 0, none⟩ (.slice A5 r0.length c5)).heap.size = w5.heap.size := by simp
    have h1 := strm_put0 (.slice A5 r0.length c5) H5.out
    have h2 := VaryR.Sl.but S5.out (But.setCell S 0 w5 (.slice A5 r0.length c5)) (strm_noByte H5.out)
    have hS5 := H5.out.lt
    have hA5 := sl_lt S5.out
    rw [hw7]
    refine ⟨⟨A5, c5, h1.below (below_alloc (Below.refl _ _) _), h2.alloc _, fun ad e hp => ⟨by have := hA5 ad e hp; simp; omega, HF5.out ad e (by rw [← HR0.out]; exact hp)⟩⟩, ⟨by simp; omega, by simp⟩, HOK.out, by have := HLEN.out; have := HL.out; omega, ?_⟩
    have := Own.heap_new (w5.setCell ⟨S, 0, none⟩ (.slice A5 r0.length c5)) (.cells #[.pointer (some ⟨S, 0, none⟩)] 50)
    rwa [hz] at this
  have hjp : Jp w7.heap.size S w.heap.size w [] w7 := by
    have hS7 : S < w7.heap.size := hmid.far.1
    have hJ5 : Jp w7.heap.size S w.heap.size w [] w5 := ⟨⟨.slice none 0 0, HBX5.out, World.ownsRow_nil _ _ _ _, trivial⟩, but_of_below HB5.out⟩
    have hb7 : But S w5 w7 := by rw [hw7]; exact (But.setCell S 0 _ _).trans (but_of_below (below_alloc (Below.refl _ _) _))
    exact hJ5.but hS7 (by omega) hb7
  have hz7 : w.heap.size < w7.heap.size := by rw [hw7]; have := HBX5.out.lt; simp; omega
  have hz5 : w5.heap.size < w7.heap.size := by rw [hw7]; simp
  have hze : w7.heap.size = w5.heap.size + 1 := by rw [hw7]; simp
  have hot : w.heap.size < w5.heap.size := HBX5.out.lt
  rw [← hw7]
  have HMID := Aside0.mk hmid
  have HJP := Aside0.mk hjp
  have HZ7 := Aside0.mk hz7
  have HZ5 := Aside0.mk hz5
  have HZE := Aside0.mk hze
  have HOT := Aside0.mk hot
  have HSLT := Aside0.mk hSlt
  clear hmid hjp hw7 hz7 hz5 hze hot hSlt k0 f0 H5 HBX5 HB5 S5
  refine range_st (F := Fence.wide) (n := 12) (w := w7) rfl (by omega) (gf := 98) (lb := #[.pointer (some ⟨w5.heap.size, 0, none⟩)]) rfl trivial (enters_of Try.func98 (by kernel_rfl) rfl)
    (fun p : Pk => #[.agg #[.int .i64 p.e, .int .i64 p.s, .int .i64 p.a, .string p.d]]) (fun _ => rfl) nx (fun s _ => may s) (fun s => ∃ pre r l k, s = .off pre r l k ∧ res [] r0 lost = (pre, r, l, k)) (I w7.heap.size S w5.heap.size w.heap.size w) (fun _ _ _ => False) (own_I (by have := HZ7.out; omega)) (fun _ _ _ _ _ h _ _ => h) (.on [] r0 lost) ⟨HJP.out, HMID.out⟩
    (fun p a' W => ∃ Bx, W.heap[Bx]? = some (.cells #[.int .i64 p.e, .int .i64 p.s, .int .i64 p.a, .string p.d] 23 (0, 0)) ∧ a' = { tmps := #[.pointer (some ⟨S, 0, none⟩), .slice A2 b.length c2, undef, undef, .pointer (some ⟨w.heap.size, 0, none⟩), .pointer (some ⟨Bx, 0, none⟩), .pointer (some ⟨S, 0, none⟩), .bool false, .bool false, .pointer (some ⟨S, 0, none⟩), .pointer (some ⟨S, 0, none⟩), .pointer (some ⟨S, 2, none⟩), .bool false, .bool false, .pointer (some ⟨S, 0, none⟩), .pointer (some ⟨S, 0, none⟩), .pointer (some ⟨S, 0, none⟩), .pointer (some ⟨S, 0, none⟩), .slice A rest.length c, v2, .slice A2 b.length c2, .slice A5 r0.length c5, .pointer (some ⟨S, 0, none⟩), .pointer (some ⟨S, 0, none⟩), .pointer (some ⟨S, 0, none⟩), .func (.func 98) #[] #[.pointer (some ⟨w5.heap.size, 0, none⟩)], .agg #[.int .i64 p.e, .int .i64 p.s, .int .i64 p.a, .string p.d], undef, undef, undef, undef, undef], defers := [] })
    (fun x a' s W W' row hs hg hr => by obtain ⟨Bx, h1, h2⟩ := hs; exact ⟨Bx, kept_cells h1 hg (fun r e => (hr r e).2), h2⟩) ?assign ?body ?iter ?done ?stop
  case assign =>
    intro l s x W K hi hK
    gi_wp2
    exact hK _ _ ((KeepsOthers.alloc _ _).from _) ((own_I (B := w7.heap.size) (by have := HZ7.out; omega)).alloc _ hi) ⟨W.heap.size, Own.heap_new _ _, rfl⟩
  case body =>
    rintro l s x a' W hi ⟨Bx, hx, rfl⟩ hm
    cases s with
    | off pre rr ll k => exact hm.elim
    | on pre rr ll =>
      obtain ⟨⟨⟨o, hbx, hrow, _⟩, hbut⟩, hmid⟩ := hi
      have hlen : pre.length < 2000000 := hm
      have HBXo := Aside0.mk hbx
      have HROW := Aside0.mk hrow
      have HBUT := Aside0.mk hbut
      have HMI := Aside0.mk hmid
      have o0 := hbx.cell
      have fo := hbx.frozen
      have x0 : W.cell? ⟨Bx, 0, none⟩ = some (.int .i64 x.e) := by rw [cell_of_row _ _ 0 _ _ _ hx]; rfl
      have x1 : W.cell? ⟨Bx, 1, none⟩ = some (.int .i64 x.s) := by rw [cell_of_row _ _ 1 _ _ _ hx]; rfl
      have x2 : W.cell? ⟨Bx, 2, none⟩ = some (.int .i64 x.a) := by rw [cell_of_row _ _ 2 _ _ _ hx]; rfl
      have x3 : W.cell? ⟨Bx, 3, none⟩ = some (.string x.d) := by rw [cell_of_row _ _ 3 _ _ _ hx]; rfl
      clear hx hbx hrow hbut hmid hm
      have hN7 : w7.heap.size ≤ W.heap.size := by have := lt_of HMI.out.box; have := HZE.out; omega
      have HN7 := Aside0.mk hN7
      obtain ⟨i0, hi0, hz0, hz1, hz2⟩ := info_parts infoPk
      have hrowA := ownsRow_below HROW.out (below_alloc (Below.refl _ _) (.cells #[.int .i64 x.e, .int .i64 x.s, .int .i64 x.a, .string x.d] 23))
      have HRA := Aside0.mk hrowA
      have HI0 := Aside0.mk hi0
      have HLP := Aside0.mk hlen
      clear hrowA hN7 hi0 hlen
      gi_wp2_with (gi_at_builtin; refine wpListIn_append_own _ rfl _ _ 52 rfl w7.heap.size 23 i0 _ 4 40 Try.underlying52 HI0.out hz0 hz1 hz2 rfl (by decide) _ _ _ rfl HRA.out ⟨W.heap.size, 0, none⟩ 1 1 [.int .i64 x.e, .int .i64 x.s, .int .i64 x.a, .string x.d] rfl rfl (cells4_new _ _ _ _ _ _) (by simp [Value.oneCell']) (by have := HLP.out; unfold maxLen; omega) (by have := HLP.out; omega) (by have := HN7.out; simp; omega) ?_; intro v' w8 hown' hgrow _; obtain ⟨g', cap', rfl⟩ := ownsRow_succ hown'; obtain ⟨hv1, hk2, hv2, hr2, hb2, hm2⟩ := round_keeps (by have := HZ7.out; omega) HN7.out (by have := HSLT.out; omega) (by have := HOT.out; omega) (Nat.le_refl _) HBXo.out HROW.out HBUT.out HMI.out hown' hgrow; have hc1 := hv1.cell; have hf1 := hv1.frozen)
      exact ⟨hk2.from _, ⟨⟨_, hv2, by rw [pkCells_snoc, List.length_append]; exact hr2, trivial⟩, hb2⟩, hm2⟩
  case iter =>
    intro l St Dn W1 hSt hDn hz1 hb1 hI1 hSt1 hY
    have hS7 : S < w7.heap.size := HMID.out.far.1
    have hOS : w.heap.size ≠ S := by have := HSLT.out; omega
    refine (iter 11 l w.heap.size w7.heap.size S w5.heap.size (by omega) (fun pre W => Jp w7.heap.size S w.heap.size w pre W) St (fun pre W W' h hb => h.but hS7 hOS hb)
      (fun W W' h hb => hSt W W' h ⟨hb.size, fun k o hk ho _ => (hb.block k (lt_of ho) (fun e => by injection e with e; omega)).trans ho⟩)
      (fun pre p rest lost W hlen hj hs hm => (hY (.on pre rest lost) p W ⟨hj, hm⟩ hs hlen).mono fun e W' h => ?_)
      [] r0 lost (by have := HLEN.out; have := HLL.out; omega) (by have := HLEN.out; have := HL.out; simp; omega) W1 hI1.1 hSt1 hI1.2).mono ?_
    · rcases h with ⟨rfl, ⟨h1, h2⟩, h3⟩ | ⟨_, _, h, _⟩
      · exact ⟨rfl, h1, h3, h2⟩
      · exact h.elim
    · rintro e W' ⟨hv, pre, rest', lost', brk, hres, hj, hs, A', c', h1, h2, h3⟩
      exact ⟨hv, .inl ⟨.off pre rest' lost' brk, ⟨pre, rest', lost', brk, rfl, hres⟩, ⟨hj, A', c', h1, h2, h3⟩, hs⟩⟩
  case done =>
    rintro D s W hD ⟨pre, rest', lost', brk, rfl, hres⟩ ⟨⟨⟨o, hbx, hrow, _⟩, hbut⟩, A', c', h1, h2, h3⟩ hK
    have o0 := hbx.cell
    have fo := hbx.frozen
    have HRES := Aside0.mk hres
    have HBX := Aside0.mk hbx
    have HROW := Aside0.mk hrow
    have HBUT := Aside0.mk hbut
    have HS1 := Aside0.mk h1
    have HS2 := Aside0.mk h2
    have HS3 := Aside0.mk h3
    have HK := Aside0.mk hK
    have HD := Aside0.mk hD
    clear hres hbx hrow hbut h1 h2 h3 hK hD
    have ho : ∃ B' n' c', o = .slice B' n' c' := by
      rcases HROW.out.2 with ⟨rfl, _⟩ | ⟨g, cap, cur, rfl, _⟩
      · exact ⟨_, _, _, rfl⟩
      · exact ⟨_, _, _, rfl⟩
    obtain ⟨B', n', d', rfl⟩ := ho
    gi_wp2
    have hK2 : (W.setCell ⟨w.heap.size, 0, none⟩ (.slice B' n' d')).heap[D]? = some (.deferred (some [])) := (KeepsOthers.setCell _ _ _).same D _ HK.out rfl
    refine ⟨by simp, .inl ⟨_, _, rfl, run_takeDeferred hK2, ?_⟩⟩
    have hbx2 : Boxed (W.setCell ⟨w.heap.size, 0, none⟩ (.slice B' n' d')) w.heap.size 52 (.slice B' n' d') := HBX.out.set _
    have hbx3 : Boxed ((W.setCell ⟨w.heap.size, 0, none⟩ (.slice B' n' d')).putObj D (.deferred none)) w.heap.size 52 (.slice B' n' d') := hbx2.kept (grownBy_putObj' _ D _) (fun e => by have := HD.out; have := HZ7.out; injection e with e; omega)
    have c3 := hbx3.cell
    refine ⟨.slice B' n' d', ?_, _, pre, rest', lost', brk, rfl, ?_, ?_, ?_, ?_⟩
    · exact results_c1 rfl _ _ _ _ rfl Try.underlying52 c3
    · rw [← HR0.out]; exact HRES.out
    · have h0 := (ownsRow_set HROW.out HBX.out (.slice B' n' d'))
      exact (ownsRow_putObj h0 _ hK2 rfl).mono (by have := HZ7.out; omega)
    · have hSO : S ≠ w.heap.size := by have := HSLT.out; omega
      have hD := HD.out
      have hfar := HMID.out.far
      have hb : W.grownBy (W.setCell ⟨w.heap.size, 0, none⟩ (.slice B' n' d')) (some w.heap.size) := grownBy_setCell' _ _ _
      have hst := (heap_setCell_other W ⟨w.heap.size, 0, none⟩ S (.slice B' n' d') hSO).trans HS1.out
      have hsl : Sl (W.setCell ⟨w.heap.size, 0, none⟩ (.slice B' n' d')) _ _ := VaryR.Sl.but HS2.out (But.setCell w.heap.size 0 W _) (box_noByte HBX.out)
      exact ⟨A', c', (World.putObj_heap_other (by omega)).trans hst, kept_sl hsl (grownBy_putObj' _ D _) (fun r e => by cases e; exact ⟨_, hK2, rfl⟩), HS3.out⟩
    · have hD := HD.out
      have h7 := HZ7.out
      refine ⟨HBUT.out.os, HBUT.out.tape, HBUT.out.output, by have := HBUT.out.size; simp; omega, fun k hk hn => ?_⟩
      rw [World.putObj_heap_other (by omega), heap_setCell_other W ⟨w.heap.size, 0, none⟩ k _ (by show k ≠ w.heap.size; omega)]
      exact HBUT.out.block k hk hn
  case stop =>
    rintro D c s W _ h _
    exact h.elim
end Go.Proofs.Ytedfcjcnhgomoaa.WireF
end
-- MERGED YtedfcjcnhgomoaaWireQ
section
/- The plain law of pieces: what bytes come to, more standing behind them; no program in sight. -/
namespace Go.Proofs.Ytedfcjcnhgomoaa.WireQ
open Go.RowKit Go.Proofs.Ytedfcjcnhgomoaa.Own Go.Proofs.Ytedfcjcnhgomoaa.Vy Go.Proofs.Ytedfcjcnhgomoaa.FrameP Go.Proofs.Ytedfcjcnhgomoaa.FrameL Go.Proofs.Ytedfcjcnhgomoaa.WireL

theorem numL_app {a b : List Int} (hok : Byt.Ok a) (h : (numL a).2 ≠ 0) : numL (a ++ b) = numL a := by
  obtain ⟨m, h1, h2, h3, h4, h5⟩ := numL_one hok h
  obtain ⟨k, hk⟩ : ∃ k, k = (numL a).2 := ⟨_, rfl⟩
  rw [← hk] at h2
  have e : a = enc m ++ a.drop k := by rw [← h2, List.take_append_drop]
  have e1 : numL a = ((m : Int), (enc m).length) := by rw [e]; exact numL_enc m h3 _
  have e2 : numL (a ++ b) = ((m : Int), (enc m).length) := by rw [e, List.append_assoc]; exact numL_enc m h3 _
  rw [e1, e2]
theorem numL_no {a b : List Int} (hoka : Byt.Ok a) (hokb : Byt.Ok b) (h9 : 9 ≤ a.length) (h : (numL a).2 = 0) : (numL (a ++ b)).2 = 0 := by
  apply Classical.byContradiction
  intro hc
  obtain ⟨m, h1, h2, h3, h4, h5⟩ := numL_one (Byt.ok_append hoka hokb) hc
  obtain ⟨k, hk⟩ : ∃ k, k = (numL (a ++ b)).2 := ⟨_, rfl⟩
  rw [← hk] at h2 h5
  rw [List.take_append_of_le_length (by omega)] at h2
  have e : a = enc m ++ a.drop k := by rw [← h2, List.take_append_drop]
  have e1 : numL a = ((m : Int), (enc m).length) := by rw [e]; exact numL_enc m h3 _
  rw [e1] at h
  have := enc_pos m
  simp only at h
  omega
theorem get_app {a b : List Int} (hok : Byt.Ok a) (h : 0 < (FrameL.get a).2.1) : FrameL.get (a ++ b) = FrameL.get a := by
  rcases get_n a with h0 | ⟨h1, h2, h3, h4⟩
  · omega
  · have hn := numL_app (b := b) hok h4
    have hz : sizeL (a ++ b) = sizeL a := by unfold sizeL; rw [hn]
    have hs : segL (a ++ b) = segL a := by
      unfold segL
      rw [hn]
      have : (a ++ b).take ((numL a).2 + (numL a).1.toNat + 4) = a.take ((numL a).2 + (numL a).1.toNat + 4) := List.take_append_of_le_length (by unfold sizeL at h2; omega)
      rw [this]
    rw [h3]
    unfold FrameL.get at h1 h3 ⊢
    rw [hn, hz, hs]
    rw [if_neg h4] at h3 h1 ⊢
    by_cases hb : 65576 < (numL a).1
    · rw [if_pos hb] at h1
      have : 0 < sizeL a := by unfold sizeL; omega
      simp at h1
      omega
    · rw [if_neg hb, if_neg (by rw [List.length_append]; omega)]
theorem get_big {a : List Int} (h : (FrameL.get a).2.2 = 11) (h0 : (FrameL.get a).2.1 = 0) : (numL a).2 ≠ 0 ∧ 65576 < (numL a).1 := by
  unfold FrameL.get at h h0
  split at h
  · simp at h
  · rename_i c1
    rw [if_neg c1] at h0
    split at h
    · rename_i c2; exact ⟨c1, c2⟩
    · rename_i c2
      rw [if_neg c2] at h0
      split at h
      · simp at h
      · rename_i c3
        rw [if_neg c3] at h0
        have hp : 0 < sizeL a := by unfold sizeL; omega
        have : (getTail (sizeL a) (segL a)).2.1 = sizeL a := by
          unfold getTail
          split
          · rfl
          · split <;> rfl
        omega
theorem ends_app {a b : List Int} (hoka : Byt.Ok a) (hokb : Byt.Ok b) (h0 : (FrameL.get a).2.1 = 0) (h : ends a = true) : (FrameL.get (a ++ b)).2.1 = 0 ∧ ends (a ++ b) = true := by
  unfold ends at h
  rw [Bool.or_eq_true, Bool.and_eq_true, decide_eq_true_eq, decide_eq_true_eq, decide_eq_true_eq] at h
  rcases h with h | ⟨h1, h2⟩
  · obtain ⟨c1, c2⟩ := get_big h h0
    have hn := numL_app (b := b) hoka c1
    have e : FrameL.get (a ++ b) = (zp, 0, 11) := by unfold FrameL.get; rw [hn, if_neg c1, if_pos c2]
    refine ⟨by rw [e], ?_⟩
    unfold ends
    rw [e]; rfl
  · have hn := numL_no hoka hokb h1 h2
    have e : FrameL.get (a ++ b) = (zp, 0, 10) := by unfold FrameL.get; rw [if_pos hn]
    refine ⟨by rw [e], ?_⟩
    unfold ends
    rw [hn, decide_eq_true (show 9 ≤ (a ++ b).length by rw [List.length_append]; omega)]
    simp
theorem run_pos {a : List Int} (h : 0 < (FrameL.get a).2.1) : run a = if (FrameL.get a).2.2 = 0 then ((FrameL.get a).1 :: (run (a.drop (FrameL.get a).2.1)).1, (run (a.drop (FrameL.get a).2.1)).2.1, (run (a.drop (FrameL.get a).2.1)).2.2.1, (run (a.drop (FrameL.get a).2.1)).2.2.2) else ((run (a.drop (FrameL.get a).2.1)).1, (run (a.drop (FrameL.get a).2.1)).2.1, (run (a.drop (FrameL.get a).2.1)).2.2.1 + 1, (run (a.drop (FrameL.get a).2.1)).2.2.2) := by
  rw [run, dif_pos h]
theorem run_end {a : List Int} (h : (FrameL.get a).2.1 = 0) : run a = if ends a then ([], [], 0, true) else ([], a, 0, false) := by
  rw [run, dif_neg (by omega)]
/-- Bytes in two pieces. -/
theorem run_app (b : List Int) (hokb : Byt.Ok b) : ∀ (n : Nat) (a : List Int), a.length ≤ n → Byt.Ok a → run (a ++ b) = if (run a).2.2.2 then ((run a).1, [], (run a).2.2.1, true)
    else ((run a).1 ++ (run ((run a).2.1 ++ b)).1, (run ((run a).2.1 ++ b)).2.1, (run a).2.2.1 + (run ((run a).2.1 ++ b)).2.2.1, (run ((run a).2.1 ++ b)).2.2.2) := by
  intro n
  induction n with
  | zero =>
    intro a hl hok
    obtain rfl : a = [] := List.eq_nil_of_length_eq_zero (by omega)
    have e : run [] = ([], [], 0, false) := by
      have h0 : (FrameL.get []).2.1 = 0 := by have := get_le []; simpa using this
      rw [run_end h0]; rfl
    rw [e]
    simp
  | succ n ih =>
    intro a hl hok
    by_cases h : 0 < (FrameL.get a).2.1
    · have hg := get_app (b := b) hok h
      have hle := get_le a
      have hd : (a ++ b).drop (FrameL.get a).2.1 = a.drop (FrameL.get a).2.1 ++ b := List.drop_append_of_le_length hle
      have hi := ih (a.drop (FrameL.get a).2.1) (by rw [List.length_drop]; omega) (Byt.ok_drop hok _)
      rw [run_pos (by rw [hg]; exact h), hg, hd, hi, run_pos h]
      split <;> split <;> simp_all <;> omega
    · have h0 : (FrameL.get a).2.1 = 0 := by omega
      rw [run_end h0]
      cases he : ends a with
      | true =>
        obtain ⟨h1, h2⟩ := ends_app hok hokb h0 he
        rw [run_end h1, h2]; rfl
      | false => simp
end Go.Proofs.Ytedfcjcnhgomoaa.WireQ
end
-- MERGED YtedfcjcnhgomoaaWireN
section
/- Feed on a stream that no call made, or that is broken. -/
namespace Go.Proofs.Ytedfcjcnhgomoaa.WireN
open Go.RowKit Go.Proofs.Ytedfcjcnhgomoaa.P Go.Proofs.YtedfcjcnhgomoaaW.PrintWords Go.Proofs.YtedfcjcnhgomoaaW.PrintLast Go.Proofs.YtedfcjcnhgomoaaW.PrintMore Go.Proofs.Ytedfcjcnhgomoaa.Own Go.Proofs.Ytedfcjcnhgomoaa.Vy Go.Proofs.Ytedfcjcnhgomoaa.FrameP Go.Proofs.Ytedfcjcnhgomoaa.FrameL Go.Proofs.Ytedfcjcnhgomoaa.VaryR Go.Proofs.Ytedfcjcnhgomoaa.FrameG Go.Proofs.Ytedfcjcnhgomoaa.WireP Go.Proofs.Ytedfcjcnhgomoaa.WireF
set_option linter.unusedSimpArgs false
set_option linter.unusedVariables false

set_option maxHeartbeats 2000000 in
set_option maxRecDepth 100000 in
theorem feed_nil (u : Value) (w : World) : Calls Try.prog 29 #[.pointer none, u] w fun e w' => e = .returned (.slice none 0 0) ∧ Below w.heap.size w w' := by
  go_enter Try.func29, Try.ntmps29
  go_wp2_with fail
  refine (none_nil _).mono ?_
  rintro e w1 ⟨rfl, rfl⟩
  go_wp2_with fail
  refine bodyPost_ret (results_c1 rfl _ _ _ _ rfl Try.underlying52 (Boxed.new w 52 (.slice none 0 0)).cell) rfl ?_
  exact ⟨rfl, below_alloc (Below.refl _ _) _⟩
set_option maxHeartbeats 2000000 in
set_option maxRecDepth 100000 in
theorem feed_off (S : Nat) (v u : Value) (lost : Int) (brk made : Bool) (w : World) (h : Strm S v lost brk made w) (hm : made = false ∨ brk = true) : Calls Try.prog 29 #[.pointer (some ⟨S, 0, none⟩), u] w fun e w' => e = .returned (.slice none 0 0) ∧ Below w.heap.size w w' := by
  have hb := below_alloc (Below.refl w.heap.size w) (.cells #[.slice none 0 0] 52)
  have h1 := h.below hb
  have c2 := h1.c2
  cases made with
  | false =>
    clear hm h hb
    go_enter Try.func29, Try.ntmps29
    go_wp2_with fail
    refine (none_c S _ _ _ _ _ h1).mono ?_
    rintro e w1 ⟨rfl, rfl⟩
    go_wp2_with fail
    refine bodyPost_ret (results_c1 rfl _ _ _ _ rfl Try.underlying52 (Boxed.new w 52 (.slice none 0 0)).cell) rfl ?_
    exact ⟨rfl, below_alloc (Below.refl _ _) _⟩
  | true =>
    obtain rfl : brk = true := by rcases hm with h | h; cases h; exact h
    clear hm h hb
    go_enter Try.func29, Try.ntmps29
    go_wp2_with fail
    refine (none_c S _ _ _ _ _ h1).mono ?_
    rintro e w1 ⟨rfl, rfl⟩
    go_wp2_with fail
    refine bodyPost_ret (results_c1 rfl _ _ _ _ rfl Try.underlying52 (Boxed.new w 52 (.slice none 0 0)).cell) rfl ?_
    exact ⟨rfl, below_alloc (Below.refl _ _) _⟩
end Go.Proofs.Ytedfcjcnhgomoaa.WireN
end
-- MERGED YtedfcjcnhgomoaaWireR
section
/- The reference's Same of packets. -/
namespace Go.Proofs.Ytedfcjcnhgomoaa.WireR
open Go.RowKit Go.Proofs.Ytedfcjcnhgomoaa.P Go.Proofs.YtedfcjcnhgomoaaW.PrintWords Go.Proofs.YtedfcjcnhgomoaaW.PrintLast Go.Proofs.YtedfcjcnhgomoaaW.PrintMore Go.Proofs.Ytedfcjcnhgomoaa.Own Go.Proofs.Ytedfcjcnhgomoaa.Vy Go.Proofs.Ytedfcjcnhgomoaa.FrameP Go.Proofs.Ytedfcjcnhgomoaa.FrameL Go.Proofs.Ytedfcjcnhgomoaa.VaryR Go.Proofs.Ytedfcjcnhgomoaa.FrameG Go.Proofs.Ytedfcjcnhgomoaa.WireP Go.Proofs.Ytedfcjcnhgomoaa.WireF
set_option linter.unusedSimpArgs false
set_option linter.unusedVariables false

/-- A row of packets that is read. -/
def Pks (w : World) (v : Value) (l : List Pk) : Prop := ∃ A c, v = .slice A l.length c ∧ ∀ (i : Nat) (p : Pk), l[i]? = some p → ∃ ad : Addr, A = some ad ∧ w.cell? (ad.add (4 * i)) = some (.int .i64 p.e) ∧ w.cell? (ad.add (4 * i + 1)) = some (.int .i64 p.s) ∧ w.cell? (ad.add (4 * i + 2)) = some (.int .i64 p.a) ∧ w.cell? (ad.add (4 * i + 3)) = some (.string p.d)
theorem pkCells_at (l : List Pk) : ∀ (i : Nat) (p : Pk), l[i]? = some p → (pkCells l)[4 * i]? = some (.int .i64 p.e) ∧ (pkCells l)[4 * i + 1]? = some (.int .i64 p.s) ∧ (pkCells l)[4 * i + 2]? = some (.int .i64 p.a) ∧ (pkCells l)[4 * i + 3]? = some (.string p.d) := by
  induction l with
  | nil => intro i p h; simp at h
  | cons q l ih =>
    intro i p h
    have e : pkCells (q :: l) = [.int .i64 q.e, .int .i64 q.s, .int .i64 q.a, .string q.d] ++ pkCells l := rfl
    rw [e]
    cases i with
    | zero =>
      obtain rfl : q = p := by simpa using h
      exact ⟨rfl, rfl, rfl, rfl⟩
    | succ i =>
      have h2 : l[i]? = some p := by simpa using h
      obtain ⟨a1, a2, a3, a4⟩ := ih i p h2
      have f : ∀ k, ([.int .i64 q.e, .int .i64 q.s, .int .i64 q.a, .string q.d] ++ pkCells l)[4 * (i + 1) + k]? = (pkCells l)[4 * i + k]? := fun k => by
        rw [List.getElem?_append_right (by simp; omega)]
        congr 1
        simp; omega
      exact ⟨(f 0).trans a1, (f 1).trans a2, (f 2).trans a3, (f 3).trans a4⟩
theorem Pks.of_own {N : Nat} {w : World} {v : Value} {l : List Pk} (h : w.ownsRow N 23 4 v l.length (pkCells l)) : Pks w v l := by
  obtain ⟨_, ⟨rfl, h0⟩ | ⟨g, cap, cur, rfl, hg, hh, hn, hc, hs, ht⟩⟩ := h
  · obtain rfl : l = [] := List.eq_nil_of_length_eq_zero h0
    exact ⟨none, 0, rfl, fun i p hp => by simp at hp⟩
  · refine ⟨some ⟨g, 0, none⟩, cap, rfl, fun i p hp => ⟨_, rfl, ?_⟩⟩
    obtain ⟨a1, a2, a3, a4⟩ := pkCells_at l i p hp
    have hcell : ∀ (j : Nat) (u : Value), (pkCells l)[j]? = some u → w.cell? ((⟨g, 0, none⟩ : Addr).add j) = some u := by
      intro j u hu
      have e : ((⟨g, 0, none⟩ : Addr).add j) = ⟨g, j, none⟩ := by simp [Addr.add]; exact fun h => h.symm
      rw [e, cell_of_row w g j _ _ _ hh]
      rw [← ht, List.getElem?_take] at hu
      split at hu
      · simpa using hu
      · cases hu
    exact ⟨hcell _ _ a1, hcell _ _ a2, hcell _ _ a3, hcell _ _ a4⟩
end Go.Proofs.Ytedfcjcnhgomoaa.WireR
end
-- MERGED YtedfcjcnhgomoaaWireLives
section
/- The chapter's example of streams. -/
namespace Go.Proofs.Ytedfcjcnhgomoaa.WireLives
open Go.RowKit Go.Proofs.Ytedfcjcnhgomoaa.P Go.Proofs.YtedfcjcnhgomoaaW.PrintWords Go.Proofs.YtedfcjcnhgomoaaW.PrintLast Go.Proofs.YtedfcjcnhgomoaaW.PrintMore Go.Proofs.Ytedfcjcnhgomoaa.Own Go.Proofs.Ytedfcjcnhgomoaa.Vy Go.Proofs.Ytedfcjcnhgomoaa.FrameP Go.Proofs.Ytedfcjcnhgomoaa.FrameL Go.Proofs.Ytedfcjcnhgomoaa.VaryR Go.Proofs.Ytedfcjcnhgomoaa.FrameG Go.Proofs.Ytedfcjcnhgomoaa.WireP Go.Proofs.Ytedfcjcnhgomoaa.WireI Go.Proofs.Ytedfcjcnhgomoaa.WireF Go.Proofs.Ytedfcjcnhgomoaa.WireR
set_option linter.unusedSimpArgs false
set_option linter.unusedVariables false

theorem put_small (l : List Int) (n : Nat) (h : n < 128) : putL l (n : Int) = l ++ [(n : Int)] := by rw [putL_good (by have : M = 4611686018427387904 := rfl; omega), enc_lt h]
def pk : Pk := ⟨1, 1, 0, ⟨#[97, 98]⟩⟩
theorem body_pk : body pk = [1, 1, 0, 2, 97, 98] := by
  unfold body putTL pk
  simp only
  rw [show (1 : Int) = ((1 : Nat) : Int) from rfl, put_small _ _ (by decide), put_small _ _ (by decide), show (0 : Int) = ((0 : Nat) : Int) from rfl, put_small _ _ (by decide), show ((numsOf ⟨#[97, 98]⟩).length : Int) = ((2 : Nat) : Int) from rfl, put_small _ _ (by decide)]
  rfl
theorem frame_pk : ∃ t, frame pk = [6, 1, 1, 0] ++ ([2, 97, 98] ++ t) ∧ t.length = 4 := by
  refine ⟨Crc.le4 (Crc.sum (body pk)), ?_, rfl⟩
  unfold frame Nice.sealL
  rw [body_pk, show (([1, 1, 0, 2, 97, 98] : List Int).length : Int) = ((6 : Nat) : Int) from rfl, put_small _ _ (by decide)]; rfl
theorem good_pk : good pk = true := by decide +kernel
theorem num6 : numL [6, 1, 1, 0] = (6, 1) := by decide +kernel
theorem run_1 : WireL.run [6, 1, 1, 0] = ([], [6, 1, 1, 0], 0, false) := by
  have g : FrameL.get [6, 1, 1, 0] = (zp, 0, 10) := by
    unfold FrameL.get sizeL
    rw [num6]
    rw [if_neg (by decide), if_neg (by decide), if_pos (by decide)]
  rw [WireQ.run_end (by rw [g]), if_neg]
  unfold WireL.ends
  rw [g, num6]
  decide
theorem run_nil : WireL.run [] = ([], [], 0, false) := by
  have n0 : numL [] = (0, 0) := by decide +kernel
  have g : FrameL.get [] = (zp, 0, 10) := by
    unfold FrameL.get
    rw [n0]; rfl
  rw [WireQ.run_end (by rw [g]), if_neg]
  unfold WireL.ends
  rw [g, n0]
  decide
theorem run_2 : WireL.run (frame pk) = ([pk], [], 0, false) := by
  have g := FrameBackL.get_back good_pk []
  rw [List.append_nil] at g
  have h : 0 < (FrameL.get (frame pk)).2.1 := by
    obtain ⟨t, ht, _⟩ := frame_pk
    rw [g, ht]; simp
  rw [WireQ.run_pos h, if_pos (by rw [g])]
  rw [g]
  simp only [List.drop_length, run_nil]
theorem Sl.drop {w : World} {A : Option Addr} {n c : Nat} {l : List Int} (h : Sl w (.slice A n c) l) (k : Nat) (hk : k ≤ n) : Sl w (.slice (if c = k then A else A.map (·.add (k * 1))) (n - k) (c - k)) (l.drop k) := by
  obtain ⟨hn, hc, hC⟩ := h.toC
  subst hn
  have := Kd.C_drop (k := Kd.int .u8) hC hk hc
  rw [show l.length - k = (l.drop k).length by rw [List.length_drop]]
  exact Sl.mk this (by rw [List.length_drop]; omega)
set_option maxHeartbeats 16000000 in
set_option maxRecDepth 100000 in
theorem lives_c (w : World) : Calls Try.prog 27 #[] w fun e w' => e = .returned (.bool true) ∧ Below w.heap.size w w' := by
  have hp := put_c pk
  unfold Pk.val at hp
  rw [good_pk, if_pos rfl, if_pos rfl] at hp
  obtain ⟨t, hf, ht⟩ := frame_pk
  have hlen : (frame pk).length = 11 := by rw [hf]; simp [ht]
  have hokF : Byt.Ok (frame pk) := ok_frame pk
  obtain ⟨F, hF⟩ : ∃ F, F = frame pk := ⟨_, rfl⟩
  rw [← hF] at hp hlen hokF hf
  have HP := Aside0.mk (show ∀ w, Calls Try.prog 13 #[.agg #[.int .i64 1, .int .i64 1, .int .i64 0, .string ⟨#[97, 98]⟩]] w fun e w' => ∃ v, e = .returned (.tuple #[v, .int .i64 0]) ∧ Gr w.heap.size 5 w' v F ∧ Below w.heap.size w w' from hp)
  have HF := Aside0.mk hf
  have HFE := Aside0.mk hF
  have HFL := Aside0.mk hlen
  have HOK := Aside0.mk hokF
  have HT := Aside0.mk (show F.take 4 = [6, 1, 1, 0] by rw [hf]; rfl)
  have HD := Aside0.mk (show [6, 1, 1, 0] ++ F.drop 4 = F by rw [hf]; rfl)
  clear hp hf ht hF hlen hokF
  go_enter Try.func27, Try.ntmps27
  go_wp2_with fail
  refine (HP.out _).mono ?_
  rintro e w1 ⟨v, rfl, hg, hb⟩
  obtain ⟨A, c, rfl, hc, hC⟩ := hg.sl
  have hs1 := Sl.mk hC hc
  rw [HFL.out] at hs1 hc ⊢
  have HS1 := Aside0.mk hs1
  have HB := Aside0.mk hb
  obtain ⟨i0, hi0, _, hsz, _⟩ := info_parts info5
  have hcut1 := cut_to (P := Try.prog) 25 5 .i64 Try.underlying25 hi0 A 11 c 4 (by omega) (by omega) hc
  have hcut2 := cut_from (P := Try.prog) 25 5 .i64 Try.underlying25 hi0 1 hsz A 11 c 4 (by omega) (by omega)
  rw [show (4 : Int).toNat = 4 from rfl] at hcut1 hcut2
  obtain ⟨A2, hA2⟩ : ∃ A2, A2 = (if c = 4 then A else A.map (·.add (4 * 1))) := ⟨_, rfl⟩
  rw [← hA2] at hcut2
  have HA2 := Aside0.mk hA2
  have HCUT1 := Aside0.mk hcut1
  have HCUT2 := Aside0.mk hcut2
  clear hg hC hb hs1 hc hi0 hsz hcut1 hcut2 hA2
  go_wp2_with fail
  refine (new_c _).mono ?_
  rintro e w2 ⟨rfl, hw2⟩
  obtain ⟨S, hS⟩ : ∃ S, S = w1.heap.size := ⟨_, rfl⟩
  have hb2 : Below w1.heap.size w1 w2 := by rw [hw2]; exact below_alloc (Below.refl _ _) _
  have HST := Aside0.mk (show Strm S (.slice none 0 0) ((0 : Nat) : Int) false true w2 by rw [hw2, hS]; exact Own.heap_new _ _)
  have HS2 := Aside0.mk (HS1.out.below hb2)
  have HLT := Aside0.mk (fun ad (e : A = some ad) => (show ad.block < S by rw [hS]; exact sl_lt HS1.out ad e (by decide)))
  have HSW := Aside0.mk (show w.heap.size ≤ S by rw [hS]; exact HB.out.size)
  have HB2 := Aside0.mk (below_step HB.out hb2)
  rw [← hS]
  clear hw2 hS hb2
  have HFE1 := Aside0.mk (feed_c S none 0 [] [6, 1, 1, 0] 0 (.slice A 4 c) w2 HST.out (Sl.nil _) (by have := HS2.out.take 4 (by omega); rwa [HT.out] at this) (fun x hx => by cases hx) (fun x hx => by have := HOK.out x (List.mem_of_mem_take (i := 4) (by rw [HT.out]; exact hx)); exact this) (by simp) (by simp))
  have hcut := HCUT1.out
  go_wp2_with fail
  refine HFE1.out.mono ?_
  rintro e w3 ⟨o, pre, rest', lost', brk, rfl, hres, hown, ⟨A3, c3, hst, hsl, _⟩, hbut⟩
  unfold res at hres
  simp only [List.nil_append, run_1] at hres
  injection hres with h1 h2
  injection h2 with h2 h3
  injection h3 with h3 h4
  subst h1
  subst h2
  subst h3
  subst h4
  obtain ⟨A4, c4, rfl, _⟩ := Pks.of_own hown
  have HST3 := Aside0.mk hst
  have HSL3 := Aside0.mk hsl
  have HS3 := Aside0.mk (sl_far HS2.out (fun ad e _ => HLT.out ad e) (N := S) (W' := w3) fun k hk => hbut.block k (by have := HST.out.lt; omega) (fun e => by injection e with e; omega))
  have HB3 := Aside0.mk (show Below w.heap.size w w3 from HB2.out.trans ⟨hbut.os, hbut.tape, hbut.output, hbut.size, fun k hk => hbut.block k (by have := HST.out.lt; have := HSW.out; omega) (fun e => by injection e with e; have := HSW.out; omega)⟩)
  clear hst hsl hown hbut HFE1 HST hcut
  have HFE2 := Aside0.mk (feed_c S A3 c3 [6, 1, 1, 0] (F.drop 4) 0 (.slice A2 7 (c - 4)) w3 HST3.out HSL3.out (by have := Sl.drop HS3.out 4 (by omega); rwa [← HA2.out] at this) (fun x hx => by have := HOK.out x (List.mem_of_mem_take (i := 4) (by rw [HT.out]; exact hx)); exact this) (fun x hx => HOK.out x (List.mem_of_mem_drop hx)) (by rw [List.length_drop, HFL.out]; decide) (by rw [List.length_drop, HFL.out]; decide))
  have hcut := HCUT2.out
  go_wp2_with fail
  refine HFE2.out.mono ?_
  rintro e w4 ⟨o, pre, rest', lost', brk, rfl, hres, hown, ⟨A5, c5, hst, hsl, _⟩, hbut⟩
  rw [HD.out, HFE.out] at hres
  unfold res at hres
  simp only [List.nil_append, run_2] at hres
  injection hres with h1 h2
  injection h2 with h2 h3
  injection h3 with h3 h4
  subst h1
  subst h2
  subst h3
  subst h4
  obtain ⟨A6, c6, rfl, hpk⟩ := Pks.of_own hown
  obtain ⟨ad, rfl, _, _, _, hd⟩ := hpk 0 pk rfl
  have hd3 : w4.cell? ⟨ad.block, ad.off + 3, none⟩ = some (.string ⟨#[97, 98]⟩) := hd
  have HST4 := Aside0.mk hst
  have HB4 := Aside0.mk (show Below w.heap.size w w4 from HB3.out.trans ⟨hbut.os, hbut.tape, hbut.output, hbut.size, fun k hk => hbut.block k (by have := HB3.out.size; omega) (fun e => by injection e with e; have := HSW.out; omega)⟩)
  clear hst hsl hown hbut HFE2 hpk hd hcut
  go_wp2_with fail
  refine (wait_c S _ _ _ _ _ _ _ HST4.out).mono ?_
  rintro e w5 ⟨rfl, rfl⟩
  go_wp2_with fail
  go_ret
  exact ⟨rfl, HB4.out⟩
end Go.Proofs.Ytedfcjcnhgomoaa.WireLives
end

/- A slice of bytes that grows: either it is full (nothing can be written into it) or its row is the call's own; appends, of bytes and of strings, in the walk and in regions. -/
import Derived.Test.YtedfcjcnhgomoaaOwn
import Derived.Test.YtedfcjcnhgomoaaByt
namespace Go.Proofs.Ytedfcjcnhgomoaa.Own
open Go.RowKit Go.Proofs.YtedfcjcnhgomoaaW.PrintWords Go.Proofs.YtedfcjcnhgomoaaW.PrintLast Go.Proofs.YtedfcjcnhgomoaaW.PrintMore

/-- A string's bytes, as numbers. -/
def numsOf (s : ByteArray) : List Int := s.data.toList.map fun b => (b.toNat : Int)
theorem numsOf_length (s : ByteArray) : (numsOf s).length = s.size := by
  unfold numsOf; rw [List.length_map, Array.length_toList]; rfl
theorem nums_numsOf (s : ByteArray) : nums .u8 (numsOf s) = Lib.strCells s := by
  unfold nums numsOf Lib.strCells; rw [List.map_map]; rfl
theorem ok_numsOf (s : ByteArray) : Byt.Ok (numsOf s) := by
  intro x hx
  unfold numsOf at hx
  rw [List.mem_map] at hx
  obtain ⟨b, _, rfl⟩ := hx
  have := b.toNat_lt
  omega
theorem strOf_numsOf (s : ByteArray) : strOfNums (numsOf s) = s := by
  have e : ((fun n : Int => UInt8.ofNat n.toNat) ∘ fun b : UInt8 => (b.toNat : Int)) = id := by
    funext b; simp
  apply ByteArray.ext
  unfold strOfNums numsOf
  rw [List.map_map, e, List.map_id]

def Gr (B : Nat) (e : TypeId) (w : World) (v : Value) (xs : List Int) : Prop :=
  (∃ A, v = .slice A xs.length xs.length ∧ Kd.C (Kd.int .u8) w A xs.length xs) ∨ w.ownsRow B e 1 v xs.length (nums .u8 xs)

theorem ownsRow_below {w w' : World} {B : Nat} {e : TypeId} {size : Nat} {v : Value} {n : Nat} {xs : List Value} (h : w.ownsRow B e size v n xs) (hb : Below w.heap.size w w') : w'.ownsRow B e size v n xs :=
  h.kept (row := none) ⟨hb.os, hb.tape, hb.output, hb.size, fun k hk _ => hb.block k hk⟩ (by cases v.ownBlock <;> simp)
theorem Sl.of_own {w : World} {B : Nat} {e : TypeId} {v : Value} {xs : List Int} (h : w.ownsRow B e 1 v xs.length (nums .u8 xs)) : Sl w v xs :=
  Sl.of_R (e := e) (base := B) (ok := fun _ => True) (Kd.R_of_own h (fun _ _ => trivial))
theorem Gr.sl {B : Nat} {e : TypeId} {w : World} {v : Value} {xs : List Int} (h : Gr B e w v xs) : Sl w v xs := by
  rcases h with ⟨A, rfl, hC⟩ | h
  · exact ⟨A, xs.length, rfl, Nat.le_refl _, hC⟩
  · exact Sl.of_own h
theorem Gr.below {B : Nat} {e : TypeId} {w w' : World} {v : Value} {xs : List Int} (h : Gr B e w v xs) (hb : Below w.heap.size w w') : Gr B e w' v xs := by
  rcases h with ⟨A, rfl, hC⟩ | h
  · exact .inl ⟨A, rfl, Kd.C_below hC hb⟩
  · exact .inr (ownsRow_below h hb)
theorem Gr.mono {B B' : Nat} {e : TypeId} {w : World} {v : Value} {xs : List Int} (h : Gr B e w v xs) (hB : B' ≤ B) : Gr B' e w v xs := h.imp id (fun h => h.mono hB)
theorem Gr.drew {B : Nat} {e : TypeId} {w : World} {v : Value} {xs : List Int} (h : Gr B e w v xs) : Gr B e w.drew v xs := h.below (below_drew1 (Below.refl _ _))
theorem Gr.alloc {B : Nat} {e : TypeId} {w : World} {v : Value} {xs : List Int} (h : Gr B e w v xs) (o : Obj) : Gr B e (w.alloc o) v xs := h.below (below_alloc (Below.refl _ _) o)
theorem Gr.cut {w : World} {A : Option Addr} {n c : Nat} {xs : List Int} (B : Nat) (e : TypeId) (h : Sl w (.slice A n c) xs) : Gr B e w (.slice A n n) xs := by
  obtain ⟨rfl, _, hC⟩ := h.toC
  exact .inl ⟨A, rfl, hC⟩
theorem Gr.nil (B : Nat) (e : TypeId) (w : World) : Gr B e w (.slice none 0 0) [] := .inl ⟨none, rfl, Kd.C_nil _ _⟩
theorem Gr.of_R {B : Nat} {e : TypeId} {w : World} {ok : Nat → Prop} {v : Value} {xs : List Int} (h : Kd.R (Kd.int .u8) e w B ok v xs) : Gr B e w v xs := .inr (Kd.own_of_R h)
/-- One byte that has just been laid. -/
theorem Sl.one (w : World) (x : Int) (T : TypeId) (fr : Nat × Nat) : Sl (w.alloc (.cells #[.int .u8 x] T fr)) (.slice (some ⟨w.heap.size, 0, none⟩) 1 1) [x] :=
  Sl.mk (C_of_lit .u8 [x] (heap_new w _) rfl (by simp)) (by simp)

theorem C_len {w : World} {A : Option Addr} {n : Nat} {xs : List Int} (h : Kd.C (Kd.int .u8) w A n xs) : xs.length = n := h.1
/-- An append to a slice that grows: of a slice's bytes. -/
theorem exec_gr {P : Program} {w : World} {f : Operand → Value} {o : Oper} {s x : Operand} {t e : TypeId} {B : Nat} (hop : o.op = Op.call { callee := Callee.builtin Builtin.append, args := #[s, x], argTypes := #[t, t] })
    (h1 : P.underlying t = some (.slice e)) (hi : (P.info? e).map (fun i => (i.zero, i.size, i.bytes)) = some (some (.int .u8 0), 1, 1)) (hB : B ≤ w.heap.size)
    {vs : Value} {xs : List Int} (hs : f s = vs) (hx : Gr B e w vs xs) {v : Value} {ys : List Int} (he : f x = v) (hy : Sl w v ys)
    (b1 : xs.length + ys.length ≤ 140737488355328) :
    ∃ v' w', (execOp f o).run P w = .ok (.value v') w' ∧ Gr B e w' v' (xs ++ ys) ∧ Below B w w' := by
  obtain ⟨i0, hi0, hz0, hz1, hz2⟩ := info_parts hi
  obtain ⟨A2, c2, rfl, hc2, hC2⟩ := hy
  have hm : xs.length + ys.length ≤ maxLen := by unfold maxLen; omega
  have e1 : (xs ++ ys).length = xs.length + ys.length := List.length_append
  have e2 : nums .u8 (xs ++ ys) = nums .u8 xs ++ nums .u8 ys := nums_append _ _ _
  rcases Nat.eq_zero_or_pos ys.length with h0 | hp
  · obtain rfl : ys = [] := List.eq_nil_of_length_eq_zero h0
    have hsrc : Src P i0.size t (.slice A2 ([] : List Int).length c2) 0 [] w := by
      cases A2 with
      | none => exact Src.ofNil _ h1 c2
      | some ad => exact Src.ofSlice _ h1 ad 0 c2 [] (by simp) (fun j u hj => by cases j <;> cases hj) (fun u hu => by cases hu)
    obtain ⟨A, c, rfl, hc, _⟩ := hx.sl
    have hrun := run_append_nothing (P := P) w t t o.type e i0 h1 hi0 A xs.length c hc _ hsrc
    refine ⟨.slice A xs.length c, w, ?_, by rw [List.append_nil]; exact hx, Below.refl _ _⟩
    have hrun' : (Builtin.append_ #[t, t] o.type #[Value.slice A xs.length c, Value.slice A2 0 c2]).run P w = .ok (.slice A xs.length c) w := hrun
    simp [execOp, hop, resolve, invoke, builtin, hs, he, hrun', Result.andThen]
  · obtain ⟨ad, hA2, _⟩ := hC2.2.2 hp
    subst hA2
    have hC : ∀ j u, (nums .u8 ys)[j]? = some u → w.cell? (ad.add j) = some u := fun j u hu => C_cells hC2 ad rfl j u hu
    have one : ∀ u ∈ nums .u8 ys, u.oneCell' = true := fun u hu => by
      rw [nums, List.mem_map] at hu
      obtain ⟨z, _, rfl⟩ := hu
      rfl
    have own : ∀ B', B ≤ B' → B' ≤ w.heap.size → w.ownsRow B' e 1 vs xs.length (nums .u8 xs) → ∃ v' w', (execOp f o).run P w = .ok (.value v') w' ∧ Gr B e w' v' (xs ++ ys) ∧ Below B w w' := by
      intro B' hBB hB' ho
      obtain ⟨v', w', hrun, r1, r2, _⟩ := run_append_own (P := P) w B' t o.type e i0 (.int .u8 0) 1 1 h1 hi0 hz0 hz1 hz2 rfl (by decide) vs xs.length (nums .u8 xs) ho ad ys.length c2 (nums .u8 ys) (by rw [nums_length]; omega) hC one hm (by omega) hB'
      refine ⟨v', w', ?_, .inr ?_, (Below.refl _ w).grown r2 hB (fun k e => Nat.le_trans hBB (ho.lt k e).1)⟩
      · simp [execOp, hop, resolve, invoke, builtin, hs, he, hrun, Result.andThen]
      · rw [e1, e2]; exact r1.mono hBB
    rcases hx with ⟨A, rfl, hx⟩ | ho
    · cases A with
      | some b =>
        obtain ⟨v', w', hrun, r1, r2⟩ := run_append_arg_grows (P := P) w t o.type e i0 (.int .u8 0) 1 1 h1 hi0 hz0 hz1 hz2 rfl (by decide) b xs.length xs.length (nums .u8 xs) (by rw [nums_length]; omega) (fun j u hu => C_cells hx b rfl j u hu) ad ys.length c2 (nums .u8 ys) (by rw [nums_length]; omega) hC (by omega) hm (by omega)
        refine ⟨v', w', ?_, .inr ?_, (Below.refl _ w).grown r2 hB (fun k e => by cases e)⟩
        · simp [execOp, hop, resolve, invoke, builtin, hs, he, hrun, Result.andThen]
        · rw [e1, e2]; exact r1.mono hB
      | none =>
        have h0 : xs.length = 0 := C_none hx rfl
        obtain rfl : xs = [] := List.eq_nil_of_length_eq_zero h0
        exact own w.heap.size hB (Nat.le_refl _) (World.ownsRow_nil w _ e 1)
    · exact own B (Nat.le_refl _) hB ho
/-- .. of a string's bytes. -/
theorem exec_gr_str {P : Program} {w : World} {f : Operand → Value} {o : Oper} {s x : Operand} {t tx e : TypeId} {B : Nat} (hop : o.op = Op.call { callee := Callee.builtin Builtin.append, args := #[s, x], argTypes := #[t, tx] })
    (h1 : P.underlying t = some (.slice e)) (h2 : P.underlying tx = some .string) (hi : (P.info? e).map (fun i => (i.zero, i.size, i.bytes)) = some (some (.int .u8 0), 1, 1)) (hB : B ≤ w.heap.size)
    {vs : Value} {xs : List Int} (hs : f s = vs) (hx : Gr B e w vs xs) {u : ByteArray} (he : f x = .string u)
    (b1 : xs.length + u.size ≤ 140737488355328) :
    ∃ v' w', (execOp f o).run P w = .ok (.value v') w' ∧ Gr B e w' v' (xs ++ numsOf u) ∧ Below B w w' := by
  obtain ⟨i0, hi0, hz0, hz1, hz2⟩ := info_parts hi
  have hm : xs.length + u.size ≤ maxLen := by unfold maxLen; omega
  have e1 : (xs ++ numsOf u).length = xs.length + u.size := by rw [List.length_append, numsOf_length]
  have e2 : nums .u8 (xs ++ numsOf u) = nums .u8 xs ++ Lib.strCells u := by rw [nums_append, nums_numsOf]
  have own : ∀ B', B ≤ B' → B' ≤ w.heap.size → w.ownsRow B' e 1 vs xs.length (nums .u8 xs) → ∃ v' w', (execOp f o).run P w = .ok (.value v') w' ∧ Gr B e w' v' (xs ++ numsOf u) ∧ Below B w w' := by
    intro B' hBB hB' ho
    obtain ⟨v', w', hrun, r1, r2, _⟩ := Lib.run_append_own_string (P := P) w B' t tx o.type e i0 h1 h2 hi0 hz0 hz1 hz2 vs xs.length (nums .u8 xs) ho u hm b1 hB'
    refine ⟨v', w', ?_, .inr ?_, (Below.refl _ w).grown r2 hB (fun k e => Nat.le_trans hBB (ho.lt k e).1)⟩
    · simp [execOp, hop, resolve, invoke, builtin, hs, he, hrun, Result.andThen]
    · rw [e1, e2]; exact r1.mono hBB
  rcases hx with ⟨A, rfl, hx⟩ | ho
  · rcases Nat.eq_zero_or_pos u.size with h0 | hp
    · have hn : numsOf u = [] := List.eq_nil_of_length_eq_zero (by rw [numsOf_length]; exact h0)
      have hb0 : byteCells u = [] := List.eq_nil_of_length_eq_zero (by rw [byteCells_length]; exact h0)
      have hsrc := Src.ofString (P := P) w h2 u
      rw [h0, hb0] at hsrc
      have hrun := run_append_nothing (P := P) w t tx o.type e i0 h1 hi0 A xs.length xs.length (Nat.le_refl _) (.string u) (hz1 ▸ hsrc)
      refine ⟨.slice A xs.length xs.length, w, ?_, .inl ⟨A, by rw [hn, List.append_nil], by rw [hn, List.append_nil]; exact hx⟩, Below.refl _ _⟩
      simp [execOp, hop, resolve, invoke, builtin, hs, he, hrun, Result.andThen]
    · cases A with
      | none =>
        have h0 : xs.length = 0 := C_none hx rfl
        obtain rfl : xs = [] := List.eq_nil_of_length_eq_zero h0
        exact own w.heap.size hB (Nat.le_refl _) (World.ownsRow_nil w _ e 1)
      | some b =>
        have hC : ∀ j v, (nums .u8 xs)[j]? = some v → w.cell? (b.add j) = some v := fun j v hv => C_cells hx b rfl j v hv
        have hold := run_firstCells_some (P := P) w.drew i0.size xs.length b xs.length xs.length (nums .u8 xs) (by rw [nums_length, hz1]; omega) hC
        have hsrc := Src.ofString (P := P) w h2 u
        have hgc := growslice_fits (need := xs.length + u.size) (old := xs.length) (bytes := 1) (by omega) (by omega)
        have hrun := run_append_grow_src (P := P) w t tx o.type e i0 (.int .u8 0) h1 hi0 hz0 (some b) xs.length xs.length (nums .u8 xs) hold (.string u) u.size (byteCells u) (hz1 ▸ hsrc) (by omega) (by omega) (by rw [hz2]; exact hgc)
        have H : ∀ v' w', (Builtin.append_ #[t, tx] o.type #[Value.slice (some b) xs.length xs.length, Value.string u]).run P w = .ok v' w' → (execOp f o).run P w = .ok (.value v') w' := fun v' w' hr => by
          simp [execOp, hop, resolve, invoke, builtin, hs, he, hr, Result.andThen]
        refine ⟨_, _, H _ _ hrun, .inr ?_, (below_alloc (below_drew1 (Below.refl w.heap.size w)) _).mono hB⟩
        rw [e1]
        have hcl : (nums .u8 xs ++ byteCells u) = nums .u8 (xs ++ numsOf u) := by rw [e2]; rfl
        have hlen : (nums .u8 (xs ++ numsOf u)).length = xs.length + u.size := by rw [nums_length, e1]
        refine ⟨by rw [hlen]; omega, .inr ⟨w.heap.size, _, _, rfl, hB, heap_alloc_new w.drew _, grownCap_ge w _ _ e, grownCap_le_maxLen w _ _ e hm, ?_, ?_⟩⟩
        · have hge := grownCap_ge w (xs.length + u.size) xs.length e
          rw [hcl]
          simp only [Array.size_append, List.size_toArray, size_zeroCells, hlen]
          simp only [Value.cells, Array.size]
          simp
          omega
        · rw [hcl]
          simp only [Array.toList_append, Nat.mul_one]
          rw [← hlen]
          exact List.take_left
  · exact own B (Nat.le_refl _) hB ho

/-- What an operation comes to, for the walk. -/
theorem wpList_ex {P : Program} {ops : Array Oper} {rest : List Oper} {o : Oper} {a : Act} {w w' : World} {v' : Value} {Q : Exit → Act → World → Prop} (hg : o.guard = none) (hrun : (execOp a.eval o).run P w = .ok (.value v') w')
    (hK : wpList P ops Q rest (a.put o.dst v') w') : wpList P ops Q (o :: rest) a w := by
  refine wpList_plain hg fun K hK' => ?_
  unfold Oper.wp
  rw [hrun]
  exact hK' _ _ hK
theorem wpList_gr {P : Program} {ops : Array Oper} {rest : List Oper} {o : Oper} {a : Act} {w : World} {Q : Exit → Act → World → Prop} {s x : Operand} {t e : TypeId} {B : Nat} (hg : o.guard = none)
    (hop : o.op = Op.call { callee := Callee.builtin Builtin.append, args := #[s, x], argTypes := #[t, t] })
    (h1 : P.underlying t = some (.slice e)) (hi : (P.info? e).map (fun i => (i.zero, i.size, i.bytes)) = some (some (.int .u8 0), 1, 1)) (hB : B ≤ w.heap.size)
    {vs : Value} {xs : List Int} (hs : a.eval s = vs) (hx : Gr B e w vs xs) {v : Value} {ys : List Int} (he : a.eval x = v) (hy : Sl w v ys) (b1 : xs.length + ys.length ≤ 140737488355328)
    (hK : ∀ v' w', Gr B e w' v' (xs ++ ys) → Below B w w' → wpList P ops Q rest (a.put o.dst v') w') : wpList P ops Q (o :: rest) a w := by
  obtain ⟨v', w', hrun, r1, r2⟩ := exec_gr (P := P) (o := o) (f := a.eval) hop h1 hi hB hs hx he hy b1
  exact wpList_ex hg hrun (hK v' w' r1 r2)
theorem wpList_gr_str {P : Program} {ops : Array Oper} {rest : List Oper} {o : Oper} {a : Act} {w : World} {Q : Exit → Act → World → Prop} {s x : Operand} {t tx e : TypeId} {B : Nat} (hg : o.guard = none)
    (hop : o.op = Op.call { callee := Callee.builtin Builtin.append, args := #[s, x], argTypes := #[t, tx] })
    (h1 : P.underlying t = some (.slice e)) (h2 : P.underlying tx = some .string) (hi : (P.info? e).map (fun i => (i.zero, i.size, i.bytes)) = some (some (.int .u8 0), 1, 1)) (hB : B ≤ w.heap.size)
    {vs : Value} {xs : List Int} (hs : a.eval s = vs) (hx : Gr B e w vs xs) {u : ByteArray} (he : a.eval x = .string u) (b1 : xs.length + u.size ≤ 140737488355328)
    (hK : ∀ v' w', Gr B e w' v' (xs ++ numsOf u) → Below B w w' → wpList P ops Q rest (a.put o.dst v') w') : wpList P ops Q (o :: rest) a w := by
  obtain ⟨v', w', hrun, r1, r2⟩ := exec_gr_str (P := P) (o := o) (f := a.eval) hop h1 h2 hi hB hs hx he b1
  exact wpList_ex hg hrun (hK v' w' r1 r2)
theorem Sl.lit {w : World} {C : Array Value} {T : TypeId} {fr : Nat × Nat} {l : List Int} (hC : C.toList = nums .u8 l) (hm : l.length ≤ 9223372036854775807) : Sl (w.alloc (.cells C T fr)) (.slice (some ⟨w.heap.size, 0, none⟩) l.length l.length) l :=
  Sl.mk (C_of_lit .u8 l (heap_new w _) hC hm) (Nat.le_refl _)
theorem Sl.take {w : World} {A : Option Addr} {n c : Nat} {l : List Int} (h : Sl w (.slice A n c) l) (k : Nat) (hk : k ≤ n) : Sl w (.slice A k c) (l.take k) := by
  obtain ⟨rfl, hc, hC⟩ := h.toC
  have hl : (l.take k).length = k := by rw [List.length_take]; omega
  have := C_take hC k hk
  exact ⟨A, c, by rw [hl], by rw [hl]; omega, by rw [hl]; exact this⟩
/-- A slice literal in a region that draws its order. -/
theorem value_lit {P : Program} {oi : Oper} {ops : Array Oper} {Q : Exit → Act → World → Prop} {N : Option Tmp} {a : Act} {w : World} {K : Act → World → Prop} {C : Array Value} {T : TypeId} {l : List Int} (hw : Region.wanted oi (yielded ops a.tmps) = true) (hN : oi.dst = N)
    (hrun : (execOp a.eval oi).run P w = .ok (.value (.slice (some ⟨w.heap.size, 0, none⟩) l.length l.length)) (w.alloc (.cells C T))) (hC : C.toList = nums .u8 l) (hm : l.length ≤ 9223372036854775807)
    (h : ∀ v' w', Sl w' v' l → Below w.heap.size w w' → K (a.put N v') w') : if Region.wanted oi (yielded ops a.tmps) = true then Oper.wp P oi a w K Q else K (a.put N undef) w :=
  value_ hw hN hrun (h _ _ (Sl.lit hC hm) (below_alloc (Below.refl _ _) _))
end Go.Proofs.Ytedfcjcnhgomoaa.Own

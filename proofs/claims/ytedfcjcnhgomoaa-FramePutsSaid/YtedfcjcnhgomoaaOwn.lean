/- Small words of this session's own, beside the print's: rows that lie in a block that is known whole. -/
import Derived.Test.YtedfcjcnhgomoaaWWords
import Derived.Test.YtedfcjcnhgomoaaWMore
import Derived.Lib.SlBytesConst
import Derived.ArgAppend
import Derived.Deep.AppendLies
import Derived.Lib.SmallJoins
import Derived.Deep.Upon
namespace Go.Proofs.Ytedfcjcnhgomoaa.Own
open Go.RowKit Go.Proofs.YtedfcjcnhgomoaaW.PrintWords Go.Proofs.YtedfcjcnhgomoaaW.PrintLast Go.Proofs.YtedfcjcnhgomoaaW.PrintMore

/-- A row whose elements' cells lie in a block that is known. -/
theorem C_of_block {α : Type} (d : Kd α) {W : World} {g : Nat} {C : Array Value} {t : TypeId} {fr : Nat × Nat} {xs : List α} {inner : List Value} (h : W.heap[g]? = some (.cells C t fr))
    (hr : Reps (d.K W) d.sz xs inner) (hC : ∀ (j : Nat) (u : Value), inner[j]? = some u → C[j]? = some u) (hm : xs.length ≤ 9223372036854775807) : Kd.C d W (some ⟨g, 0, none⟩) xs.length xs := by
  refine ⟨rfl, hm, fun _ => ⟨_, rfl, fun j p hj => ?_⟩⟩
  refine ⟨(inner.drop (j * d.sz)).take d.sz, ?_, hr.2 j p hj, fun i u hu => ?_⟩
  · exact d.K_len (hr.2 j p hj)
  · have hl : i < d.sz := by
      have := (List.getElem?_eq_some_iff.1 hu).1
      rw [List.length_take] at this
      omega
    rw [List.getElem?_take_of_lt hl, List.getElem?_drop] at hu
    rw [add_plain, World.cell?, h]
    simp only []
    exact hC _ _ hu

theorem reps_nums (k : IntKind) (W : World) (xs : List Int) : Reps ((Kd.int k).K W) (Kd.int k).sz xs (nums k xs) := by
  refine ⟨by rw [nums_length]; exact (Nat.mul_one _).symm, fun j p hj => ?_⟩
  show ((nums k xs).drop (j * 1)).take 1 = [.int k p]
  rw [Nat.mul_one]
  have h1 : (nums k xs)[j]? = some (.int k p) := by simp [nums, hj]
  obtain ⟨hl, he⟩ := List.getElem?_eq_some_iff.1 h1
  rw [List.drop_eq_getElem_cons hl, he]
  rfl

theorem C_of_nums (k : IntKind) {W : World} {g : Nat} {C : Array Value} {t : TypeId} {fr : Nat × Nat} (xs : List Int) (h : W.heap[g]? = some (.cells C t fr)) (hC : ∀ (j : Nat) (u : Value), (nums k xs)[j]? = some u → C[j]? = some u)
    (hm : xs.length ≤ 9223372036854775807) : Kd.C (Kd.int k) W (some ⟨g, 0, none⟩) xs.length xs := C_of_block (Kd.int k) h (reps_nums k W xs) hC hm

theorem C_of_lit (k : IntKind) {W : World} {g : Nat} {C : Array Value} {t : TypeId} {fr : Nat × Nat} (xs : List Int) (h : W.heap[g]? = some (.cells C t fr)) (hC : C.toList = nums k xs)
    (hm : xs.length ≤ 9223372036854775807) : Kd.C (Kd.int k) W (some ⟨g, 0, none⟩) xs.length xs := C_of_nums k xs h (fun j u hu => by rw [← hC, Array.getElem?_toList] at hu; exact hu) hm

theorem nums_at {k : IntKind} {xs : List Int} {j : Nat} {u : Value} (h : (nums k xs)[j]? = some u) : ∃ x, xs[j]? = some x ∧ u = .int k x := by
  rw [nums, List.getElem?_map] at h
  cases e : xs[j]? with
  | none => rw [e] at h; cases h
  | some x => rw [e] at h; exact ⟨x, rfl, (Option.some.inj h).symm⟩
/-- The cells of a row of numbers that is read. -/
theorem C_cells {k : IntKind} {w : World} {A : Option Addr} {n : Nat} {xs : List Int} (h : Kd.C (Kd.int k) w A n xs) (b : Addr) (hb : A = some b) (j : Nat) (u : Value) (hu : (nums k xs)[j]? = some u) : w.cell? (b.add j) = some u := by
  obtain ⟨x, hx, rfl⟩ := nums_at hu
  have hl := (List.getElem?_eq_some_iff.1 hx).1
  obtain ⟨ad, e, hc⟩ := h.2.2 (by rw [← h.1]; omega)
  rw [hb] at e
  obtain rfl := Option.some.inj e
  obtain ⟨c, _, hr, hcell⟩ := hc j x hx
  have hc1 : c = [.int k x] := hr
  subst hc1
  have := hcell 0 _ rfl
  rwa [show j * (Kd.int k).sz + 0 = j from Nat.mul_one j] at this
theorem C_none {k : IntKind} {w : World} {A : Option Addr} {n : Nat} {xs : List Int} (h : Kd.C (Kd.int k) w A n xs) (hA : A = none) : n = 0 := by
  rcases Nat.eq_zero_or_pos n with e | e
  · exact e
  · obtain ⟨ad, e2, _⟩ := h.2.2 e
    rw [hA] at e2; cases e2

theorem C_take {α : Type} {d : Kd α} {w : World} {A : Option Addr} {n : Nat} {xs : List α} (h : Kd.C d w A n xs) (m : Nat) (hm : m ≤ n) : Kd.C d w A m (xs.take m) := by
  refine ⟨by rw [List.length_take, h.1]; omega, by have := h.2.1; omega, fun hp => ?_⟩
  obtain ⟨ad, e, hc⟩ := h.2.2 (by omega)
  refine ⟨ad, e, fun j p hj => hc j p ?_⟩
  have hl : j < m := by
    have := (List.getElem?_eq_some_iff.1 hj).1
    rw [List.length_take] at this
    omega
  rwa [List.getElem?_take_of_lt hl] at hj
/-- An append of numbers to a slice that is full ('b[:len(b):len(b)]'): the answer lies in new memory. -/
theorem append_full {P : Program} {w : World} {ops : Array Oper} {rest : List Oper} {o : Oper} {a : Act} {Q : Exit → Act → World → Prop} (k : IntKind)
    (hg : o.guard = none) (s x : Operand) (t e : TypeId) (bytes : Nat) (hop : o.op = Op.call { callee := Callee.builtin Builtin.append, args := #[s, x], argTypes := #[t, t] })
    (h1 : P.underlying t = some (.slice e)) (hi : (P.info? e).map (fun i => (i.zero, i.size, i.bytes)) = some (some (.int k 0), 1, bytes))
    (A : Option Addr) (n : Nat) (xs : List Int) (hs : a.eval s = .slice A n n) (hx : Kd.C (Kd.int k) w A n xs)
    (A2 : Option Addr) (m c2 : Nat) (ys : List Int) (he2 : a.eval x = .slice A2 m c2) (hy : Kd.C (Kd.int k) w A2 m ys) (hm : 0 < m)
    (b1 : n + m ≤ maxLen) (b2 : (n + m) * bytes ≤ 140737488355328)
    (hK : ∀ v' w', Kd.R (Kd.int k) e w' w.heap.size (fun _ => True) v' (xs ++ ys) → Below w.heap.size w w' → wpList P ops Q rest (a.put o.dst v') w') :
    wpList P ops Q (o :: rest) a w := by
  obtain ⟨i0, hi0, hz0, hz1, hz2⟩ := info_parts hi
  obtain ⟨ad, hA2, _⟩ := hy.2.2 hm
  subst hA2
  refine wpList_append_grows w hg s x t hop e i0 (.int k 0) 1 bytes h1 hi0 hz0 hz1 hz2 rfl (by decide) A n n (nums k xs) hs (fun hA => ⟨C_none hx hA, C_none hx hA⟩) (by rw [nums_length, hx.1]; omega)
    (fun b hb j u hu => C_cells hx b hb j u hu) ad m c2 (nums k ys) he2 (by rw [nums_length, hy.1]; omega) (fun j u hu => C_cells hy ad rfl j u hu)
    (fun u hu => by
      rw [nums, List.mem_map] at hu
      obtain ⟨z, _, rfl⟩ := hu
      rfl) (by omega) b1 b2 ?_
  intro v' w' ho hgr
  refine hK v' w' (Kd.R_of_own ?_ (fun _ _ => trivial)) ((Below.refl _ w).grown hgr (Nat.le_refl _) (fun k e => by cases e))
  have e1 : (xs ++ ys).length = n + m := by rw [List.length_append, hx.1, hy.1]
  have e2 : encs (Value.int k) (xs ++ ys) = nums k xs ++ nums k ys := by rw [encs_append]; rfl
  rw [e1, e2]
  exact ho

theorem below_after {B n : Nat} {w W w' : World} (h : Below B w W) (hb : Below n W w') (hn : W.heap.size = n) (hB : B ≤ n) : Below B w w' := by
  subst hn; exact below_then h hB hb

theorem heap_new (W : World) (o : Obj) : (W.alloc o).heap[W.heap.size]? = some o := heap_alloc_new W o
theorem heap_old (W : World) (o : Obj) (k : Nat) (h : k < W.heap.size) : (W.alloc o).heap[k]? = W.heap[k]? := Below.heap_alloc W o k h
theorem heap_new_drewN (W : World) (n : Nat) (o : Obj) : ((W.drewN n).alloc o).heap[W.heap.size]? = some o := heap_alloc_new (W.drewN n) o

/-! A slice of bytes that is read: what it reads as; it may lie anywhere, and is never written. -/
def Sl (w : World) (v : Value) (xs : List Int) : Prop := ∃ A c, v = .slice A xs.length c ∧ xs.length ≤ c ∧ Kd.C (Kd.int .u8) w A xs.length xs
theorem Sl.below {w w' : World} {v : Value} {xs : List Int} (h : Sl w v xs) (hb : Below w.heap.size w w') : Sl w' v xs := by
  obtain ⟨A, c, e, hc, hC⟩ := h
  exact ⟨A, c, e, hc, Kd.C_below hC hb⟩
theorem Sl.drew {w : World} {v : Value} {xs : List Int} (h : Sl w v xs) : Sl w.drew v xs := h.below (below_drew1 (Below.refl _ _))
theorem Sl.drewN {w : World} {v : Value} {xs : List Int} (h : Sl w v xs) (n : Nat) : Sl (w.drewN n) v xs := h.below (pw_below_drewN (Below.refl _ _) n)
theorem Sl.alloc {w : World} {v : Value} {xs : List Int} (h : Sl w v xs) (o : Obj) : Sl (w.alloc o) v xs := h.below (below_alloc (Below.refl _ _) o)
theorem Sl.of_R {w : World} {e base : Nat} {ok : Nat → Prop} {v : Value} {xs : List Int} (h : Kd.R (Kd.int .u8) e w base ok v xs) : Sl w v xs := Kd.R_reads h
theorem Sl.of_V {w : World} {e base : Nat} {ok : Nat → Prop} {v : Value} {xs : List Int} (h : Kd.V (Kd.int .u8) e w base ok v xs) : Sl w v xs := by
  obtain ⟨A, c, rfl, hc, hF⟩ := h
  exact ⟨A, c, rfl, hc, Kd.F_now hF⟩
theorem Sl.to_V {w : World} {e base : Nat} {v : Value} {xs : List Int} (h : Sl w v xs) : Kd.V (Kd.int .u8) e w base (fun k_ => k_ < w.heap.size) v xs := by
  obtain ⟨A, c, rfl, hc, hC⟩ := h
  refine Kd.V_mk hc (fun W' hW => ?_)
  refine ⟨hC.1, hC.2.1, fun hp => ?_⟩
  obtain ⟨ad, e, hr⟩ := hC.2.2 hp
  refine ⟨ad, e, fun j p hj => ?_⟩
  obtain ⟨c, h1, h2, h3⟩ := hr j p hj
  refine ⟨c, h1, h2, fun i u hu => ?_⟩
  have hlt := World.block_lt_of_cell? w _ (h3 i u hu)
  exact (World.cell?_of_block (hW _ hlt hlt)).trans (h3 i u hu)
theorem Sl.nil (w : World) : Sl w (.slice none 0 0) [] := ⟨none, 0, rfl, Nat.le_refl _, Kd.C_nil _ _⟩
theorem Sl.mk {w : World} {A : Option Addr} {c : Nat} {xs : List Int} (h : Kd.C (Kd.int .u8) w A xs.length xs) (hc : xs.length ≤ c) : Sl w (.slice A xs.length c) xs := ⟨A, c, rfl, hc, h⟩
theorem Sl.string {P : Program} {w : World} {src dst e : TypeId} {v : Value} {xs : List Int} (hs : P.underlying src = some (.slice e)) (he : P.underlying e = some (.int .u8)) (hd : P.underlying dst = some .string)
    (h : Sl w v xs) : (convert src dst v).run P w = .ok (.string (strOfNums xs)) w := by
  obtain ⟨A, c, rfl, _, hC⟩ := h
  exact Kd.C_string hs he hd hC
theorem below_of_drawn {w w' : World} (h : Drawn0 w w') : Below w.heap.size w w' := h.below


/-- An append of bytes to a slice that is full, as what the operation comes to. -/
theorem exec_app {P : Program} {w : World} {f : Operand → Value} {o : Oper} {s x : Operand} {t e : TypeId} {bytes : Nat} (hop : o.op = Op.call { callee := Callee.builtin Builtin.append, args := #[s, x], argTypes := #[t, t] })
    (h1 : P.underlying t = some (.slice e)) (hi : (P.info? e).map (fun i => (i.zero, i.size, i.bytes)) = some (some (.int .u8 0), 1, bytes))
    {A : Option Addr} {n : Nat} {xs : List Int} (hs : f s = .slice A n n) (hx : Kd.C (Kd.int .u8) w A n xs) {v : Value} {ys : List Int} (he : f x = v) (hy : Sl w v ys)
    (b1 : n + ys.length ≤ maxLen) (b2 : (n + ys.length) * bytes ≤ 140737488355328) :
    ∃ v' w', (execOp f o).run P w = .ok (.value v') w' ∧ Sl w' v' (xs ++ ys) ∧ Below w.heap.size w w' := by
  obtain ⟨i0, hi0, hz0, hz1, hz2⟩ := info_parts hi
  obtain ⟨A2, c2, rfl, hc2, hC2⟩ := hy
  have hxl : xs.length = n := hx.1
  rcases Nat.eq_zero_or_pos ys.length with h0 | hm
  · obtain rfl : ys = [] := List.eq_nil_of_length_eq_zero h0
    have hsrc : Src P i0.size t (.slice A2 ([] : List Int).length c2) 0 [] w := by
      cases A2 with
      | none => exact Src.ofNil _ h1 c2
      | some ad => exact Src.ofSlice _ h1 ad 0 c2 [] (by simp) (fun j u hj => by cases j <;> cases hj) (fun u hu => by cases hu)
    have hrun := run_append_nothing (P := P) w t t o.type e i0 h1 hi0 A n n (Nat.le_refl _) _ hsrc
    refine ⟨.slice A n n, w, ?_, ?_, Below.refl _ _⟩
    · have hrun' : (Builtin.append_ #[t, t] o.type #[Value.slice A n n, Value.slice A2 0 c2]).run P w = .ok (.slice A n n) w := hrun
      simp [execOp, hop, resolve, invoke, builtin, hs, he, hrun', Result.andThen]
    · rw [List.append_nil]
      subst hxl
      exact ⟨A, xs.length, rfl, Nat.le_refl _, hx⟩
  · obtain ⟨ad, hA2, _⟩ := hC2.2.2 hm
    subst hA2
    have hC : ∀ j u, (nums .u8 ys)[j]? = some u → w.cell? (ad.add j) = some u := fun j u hu => C_cells hC2 ad rfl j u hu
    have one : ∀ u ∈ nums .u8 ys, u.oneCell' = true := fun u hu => by
      rw [nums, List.mem_map] at hu
      obtain ⟨z, _, rfl⟩ := hu
      rfl
    have fin : ∀ v' w', w'.ownsRow w.heap.size e 1 v' (n + ys.length) (nums .u8 xs ++ nums .u8 ys) → Sl w' v' (xs ++ ys) := by
      intro v' w' ho
      refine Sl.of_R (e := e) (base := w.heap.size) (ok := fun _ => True) (Kd.R_of_own ?_ (fun _ _ => trivial))
      have e1 : (xs ++ ys).length = n + ys.length := by rw [List.length_append, hxl]
      have e2 : encs (Value.int .u8) (xs ++ ys) = nums .u8 xs ++ nums .u8 ys := by rw [encs_append]; rfl
      rw [e1, e2]
      exact ho
    cases A with
    | some b =>
      obtain ⟨v', w', hrun, r1, r2⟩ := run_append_arg_grows (P := P) w t o.type e i0 (.int .u8 0) 1 bytes h1 hi0 hz0 hz1 hz2 rfl (by decide) b n n (nums .u8 xs) (by rw [nums_length, hxl]; omega) (fun j u hu => C_cells hx b rfl j u hu) ad ys.length c2 (nums .u8 ys) (by rw [nums_length]; omega) hC (by omega) b1 b2
      refine ⟨v', w', ?_, fin v' w' r1, (Below.refl _ w).grown r2 (Nat.le_refl _) (fun k e => by cases e)⟩
      simp [execOp, hop, resolve, invoke, builtin, hs, he, hrun, Result.andThen]
    | none =>
      obtain rfl : n = 0 := C_none hx rfl
      obtain rfl : xs = [] := List.eq_nil_of_length_eq_zero hxl
      obtain ⟨v', w', hrun, r1, r2, _⟩ := run_append_own (P := P) w w.heap.size t o.type e i0 (.int .u8 0) 1 bytes h1 hi0 hz0 hz1 hz2 rfl (by decide) (.slice none 0 0) 0 [] (World.ownsRow_nil w _ e 1) ad ys.length c2 (nums .u8 ys) (by rw [nums_length]; omega) hC one b1 b2 (Nat.le_refl _)
      refine ⟨v', w', ?_, fin v' w' r1, (Below.refl _ w).grown r2 (Nat.le_refl _) (fun k e => by cases e)⟩
      simp [execOp, hop, resolve, invoke, builtin, hs, he, hrun, Result.andThen]
theorem Sl.toC {w : World} {A : Option Addr} {n c : Nat} {xs : List Int} (h : Sl w (.slice A n c) xs) : n = xs.length ∧ n ≤ c ∧ Kd.C (Kd.int .u8) w A n xs := by
  obtain ⟨A', c', e, hc, hC⟩ := h
  injection e with e1 e2 e3
  subst e1; subst e2; subst e3
  exact ⟨rfl, hc, hC⟩
/-- The same in a region that draws its order. -/
theorem value_app {P : Program} {oi : Oper} {ops : Array Oper} {Q : Exit → Act → World → Prop} {N : Option Tmp} {a : Act} {w : World} {K : Act → World → Prop} {s x : Operand} {t e : TypeId} {bytes : Nat} (hw : Region.wanted oi (yielded ops a.tmps) = true) (hN : oi.dst = N)
    (hop : oi.op = Op.call { callee := Callee.builtin Builtin.append, args := #[s, x], argTypes := #[t, t] })
    (h1 : P.underlying t = some (.slice e)) (hi : (P.info? e).map (fun i => (i.zero, i.size, i.bytes)) = some (some (.int .u8 0), 1, bytes))
    {A : Option Addr} {n c : Nat} {xs : List Int} (hs : a.eval s = .slice A n n) (hx : Sl w (.slice A n c) xs) {v : Value} {ys : List Int} (he : a.eval x = v) (hy : Sl w v ys)
    (b1 : n + ys.length ≤ maxLen) (b2 : (n + ys.length) * bytes ≤ 140737488355328)
    (h : ∀ v' w', Sl w' v' (xs ++ ys) → Below w.heap.size w w' → K (a.put N v') w') : if Region.wanted oi (yielded ops a.tmps) = true then Oper.wp P oi a w K Q else K (a.put N undef) w := by
  obtain ⟨v', w', hr, h1', h2⟩ := exec_app (o := oi) (f := a.eval) hop h1 hi hs hx.toC.2.2 he hy b1 b2
  exact value_ hw hN hr (h v' w' h1' h2)
end Go.Proofs.Ytedfcjcnhgomoaa.Own

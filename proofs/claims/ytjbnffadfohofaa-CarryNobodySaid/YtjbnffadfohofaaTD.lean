import Derived.Test.YtjbnffadfohofaaTA
import Derived.Test.YtjbnffadfohofaaTB
import Derived.Outline
import Derived.Lib.SliceRun
import Derived.Test.YtjbnffadfohofaaTC
import Derived.Test.YtjbnffadfohofaaTE
-- MERGED YtjbnffadfohofaaCarryN
section
/- Notes that are read; a copy of notes; Shown: none, Rev, Ops, Notes. -/
namespace Go.Proofs.Ytjbnffadfohofaa.CarryN
open Go.RowKit Go.Proofs.Ytjbnffadfohofaa.P Go.Proofs.YtjbnffadfohofaaW.PrintWords Go.Proofs.YtjbnffadfohofaaW.PrintLast Go.Proofs.YtjbnffadfohofaaW.PrintMore Go.Proofs.Ytjbnffadfohofaa.Own
set_option linter.unusedSimpArgs false
set_option linter.unusedVariables false

abbrev Nt := S44
abbrev NC (w : World) (A : Option Addr) (l : List Nt) : Prop := Kd.C k44 w A l.length l
def ncells (l : List Nt) : List Value := l.flatMap fun x => [.int .i64 x.f0.f0, .int .i64 x.f0.f1, .int .i64 x.f1]
theorem ncells_length (l : List Nt) : (ncells l).length = l.length * 3 := by
  unfold ncells
  induction l with
  | nil => rfl
  | cons p l ih => rw [List.flatMap_cons, List.length_append, ih, List.length_cons]; simp; omega
theorem ncells_at (l : List Nt) : ∀ (j : Nat) (r : Nt), l[j]? = some r → ((ncells l).drop (j * 3)).take 3 = [.int .i64 r.f0.f0, .int .i64 r.f0.f1, .int .i64 r.f1] := by
  induction l with
  | nil => intro j r h; simp at h
  | cons p l ih =>
    intro j r h
    have e : ncells (p :: l) = [.int .i64 p.f0.f0, .int .i64 p.f0.f1, .int .i64 p.f1] ++ ncells l := rfl
    cases j with
    | zero =>
      obtain rfl : p = r := by simpa using h
      rw [e]; simp
    | succ j =>
      have h2 : l[j]? = some r := by simpa using h
      rw [e, show (j + 1) * 3 = 3 + j * 3 by omega, ← List.drop_drop]
      exact ih j r h2
theorem ncells_get (l : List Nt) : ∀ (j : Nat) (u : Value), (ncells l)[j]? = some u → ∃ r, l[j / 3]? = some r ∧ [Value.int .i64 r.f0.f0, .int .i64 r.f0.f1, .int .i64 r.f1][j % 3]? = some u := by
  induction l with
  | nil => intro j u h; simp [ncells] at h
  | cons p l ih =>
    intro j u h
    have e : ncells (p :: l) = [.int .i64 p.f0.f0, .int .i64 p.f0.f1, .int .i64 p.f1] ++ ncells l := rfl
    rw [e] at h
    by_cases hj : j < 3
    · refine ⟨p, by rw [Nat.div_eq_of_lt hj]; rfl, ?_⟩
      rw [Nat.mod_eq_of_lt hj]
      rwa [List.getElem?_append_left (by simpa using hj)] at h
    · rw [List.getElem?_append_right (by simp; omega)] at h
      obtain ⟨r, h1, h2⟩ := ih (j - 3) u (by simpa using h)
      refine ⟨r, ?_, ?_⟩
      · rw [show j / 3 = (j - 3) / 3 + 1 by omega]; simpa using h1
      · rw [show j % 3 = (j - 3) % 3 by omega]; exact h2
theorem ncells_one (l : List Nt) : ∀ u ∈ ncells l, u.oneCell' = true := by
  intro u hu
  unfold ncells at hu
  rw [List.mem_flatMap] at hu
  obtain ⟨x, _, hx⟩ := hu
  simp only [List.mem_cons, List.mem_singleton, List.not_mem_nil, or_false] at hx
  rcases hx with rfl | rfl | rfl <;> rfl
theorem at_nt {w : World} {A : Option Addr} {n : Nat} {xs : List Nt} (h : Kd.C k44 w A n xs) (j : Nat) (h1 : j < n) : ∃ ad , A = some ad ∧ w.cell? (ad.add (j * 3)) = some (.int .i64 (xs.getD j z44).f0.f0) ∧ w.cell? ⟨(ad.add (j * 3)).block, (ad.add (j * 3)).off + 1, none⟩ = some (.int .i64 (xs.getD j z44).f0.f1) ∧ w.cell? ⟨(ad.add (j * 3)).block, (ad.add (j * 3)).off + 2, none⟩ = some (.int .i64 (xs.getD j z44).f1) := by
  have := at_T44 h (j : Int) (by omega) (by omega)
  unfold rd_T44 at this
  rwa [Int.toNat_natCast] at this
theorem NC.below {w w' : World} {A : Option Addr} {l : List Nt} (h : NC w A l) (hb : Below w.heap.size w w') : NC w' A l := Kd.C_below h hb
theorem NC.cells {w : World} {A : Option Addr} {l : List Nt} (h : NC w A l) (ad : Addr) (hA : A = some ad) : ∀ j u, (ncells l)[j]? = some u → w.cell? (ad.add j) = some u := by
  intro j u hu
  obtain ⟨r, h1, h2⟩ := ncells_get l j u hu
  have hlt := (List.getElem?_eq_some_iff.1 h1).1
  obtain ⟨ad', e, y0, y1, y2⟩ := at_nt h (j / 3) hlt
  rw [hA] at e
  obtain rfl := Option.some.inj e
  have hr : l.getD (j / 3) z44 = r := by rw [List.getD_eq_getElem?_getD, h1]; rfl
  rw [hr] at y0 y1 y2
  have hj : j = j / 3 * 3 + j % 3 := by omega
  have h3 : j % 3 = 0 ∨ j % 3 = 1 ∨ j % 3 = 2 := by omega
  have hadd : ∀ i, i < 3 → 0 < i → (ad.add (j / 3 * 3 + i)) = ⟨(ad.add (j / 3 * 3)).block, (ad.add (j / 3 * 3)).off + i, none⟩ := by
    intro i _ hi
    have hc := y1
    obtain ⟨b, o, f⟩ := ad
    unfold Addr.add
    split
    · next hz => omega
    · split
      · next hz => simp [hz]
      · simp; omega
  rcases h3 with h3 | h3 | h3
  · rw [hj, h3, Nat.add_zero]
    rw [h3] at h2
    rw [y0]; simpa using h2
  · rw [hj, h3, hadd 1 (by omega) (by omega)]
    rw [h3] at h2
    rw [y1]; simpa using h2
  · rw [hj, h3, hadd 2 (by omega) (by omega)]
    rw [h3] at h2
    rw [y2]; simpa using h2
theorem NC.of_own {w : World} {B : Nat} {v : Value} {l : List Nt} (h : w.ownsRow B 44 3 v l.length (ncells l)) : Kd.R k44 44 w B (fun _ => True) v l :=
  ⟨fun _ _ => trivial, ncells l, h, by rw [ncells_length]; rfl, fun j p hj => by
    have e := ncells_at l j p hj
    show k44.M _ _ _ p (((ncells l).drop (j * 3)).take 3)
    rw [e]; exact k44_mkM _ _ _ p⟩
/-- A row of notes, at or above B. -/
def Nr (B : Nat) (w : World) (v : Value) (l : List Nt) : Prop := ∃ A c, v = .slice A l.length c ∧ l.length ≤ c ∧ NC w A l ∧ ∀ ad, A = some ad → 0 < l.length → B ≤ ad.block
theorem Nr.of_R {B B' : Nat} {w : World} {v : Value} {l : List Nt} {ok : Nat → Prop} (h : Kd.R k44 44 w B ok v l) (hB : B' ≤ B) : Nr B' w v l := by
  obtain ⟨A, c, rfl, hc, hC⟩ := Kd.R_reads h
  refine ⟨A, c, rfl, hc, hC, fun ad e hp => ?_⟩
  obtain ⟨g, cap, e2, hg, _⟩ := Kd.R_form h hp
  injection e2 with e2
  rw [e2] at e
  cases e
  exact Nat.le_trans hB hg
theorem Nr.below {B : Nat} {w w' : World} {v : Value} {l : List Nt} (h : Nr B w v l) (hb : Below w.heap.size w w') : Nr B w' v l := by
  obtain ⟨A, c, e, hc, hC, hf⟩ := h
  exact ⟨A, c, e, hc, hC.below hb, hf⟩
theorem infoNt : (Try.prog.info? 44).map (fun i => (i.zero, i.size, i.bytes)) = some (some (.agg #[.int .i64 0, .int .i64 0, .int .i64 0]), 3, 24) := by kernel_rfl
theorem exec_nt {P : Program} (hP : P = Try.prog) {w : World} {f : Operand → Value} {o : Oper} {s x : Operand} (hop : o.op = Op.call { callee := Callee.builtin Builtin.append, args := #[s, x], argTypes := #[22, 22] })
    {b : Addr} (hs : f s = .slice (some b) 0 0) {A : Option Addr} {c : Nat} {l : List Nt} (he : f x = .slice A l.length c) (hC : NC w A l) (b1 : l.length ≤ 4398046511104) :
    ∃ v' w', (execOp f o).run P w = .ok (.value v') w' ∧ Nr w.heap.size w' v' l ∧ Below w.heap.size w w' := by
  subst hP
  obtain ⟨i0, hi0, hz0, hz1, hz2⟩ := info_parts infoNt
  rcases Nat.eq_zero_or_pos l.length with h0 | hp
  · obtain rfl : l = [] := List.eq_nil_of_length_eq_zero h0
    have hsrc : Src Try.prog i0.size 22 (.slice A ([] : List Int).length c) 0 [] w := by
      cases A with
      | none => exact Src.ofNil _ Try.underlying22 c
      | some ad => exact Src.ofSlice _ Try.underlying22 ad 0 c [] (by simp) (fun j u hj => by cases j <;> cases hj) (fun u hu => by cases hu)
    have hrun := run_append_nothing (P := Try.prog) w 22 22 o.type 44 i0 Try.underlying22 hi0 (some b) 0 0 (Nat.le_refl _) _ hsrc
    have hrun' : (Builtin.append_ #[22, 22] o.type #[Value.slice (some b) 0 0, Value.slice A 0 c]).run Try.prog w = .ok (.slice (some b) 0 0) w := hrun
    refine ⟨.slice (some b) 0 0, w, ?_, ⟨some b, 0, rfl, Nat.le_refl _, ⟨rfl, by simp [maxLen], fun h => absurd h (by simp)⟩, fun ad e h => absurd h (by simp)⟩, Below.refl _ _⟩
    simp [execOp, hop, resolve, invoke, builtin, hs, he, hrun', Result.andThen]
  · obtain ⟨ad, hA, _⟩ := hC.2.2 hp
    subst hA
    obtain ⟨v', w', hrun, r1, r2⟩ := run_append_arg_grows (P := Try.prog) w 22 o.type 44 i0 _ 3 24 Try.underlying22 hi0 hz0 hz1 hz2 rfl (by decide) b 0 0 [] rfl (fun j u hu => by cases j <;> cases hu) ad l.length c (ncells l) (ncells_length l) (hC.cells ad rfl) (by omega) (by unfold maxLen; omega) (by omega)
    refine ⟨v', w', ?_, Nr.of_R (NC.of_own (by simpa using r1)) (Nat.le_refl _), (Below.refl _ w).grown r2 (Nat.le_refl _) (fun k e => by cases e)⟩
    simp [execOp, hop, resolve, invoke, builtin, hs, he, hrun, Result.andThen]
theorem wpList_nt {P : Program} (hP : P = Try.prog) {ops : Array Oper} {rest : List Oper} {o : Oper} {a : Act} {w : World} {Q : Exit → Act → World → Prop} {s x : Operand} (hg : o.guard = none)
    (hop : o.op = Op.call { callee := Callee.builtin Builtin.append, args := #[s, x], argTypes := #[22, 22] })
    {b : Addr} (hs : a.eval s = .slice (some b) 0 0) {A : Option Addr} {c : Nat} {l : List Nt} (he : a.eval x = .slice A l.length c) (hC : NC w A l) (b1 : l.length ≤ 4398046511104)
    (hK : ∀ v' w', Nr w.heap.size w' v' l → Below w.heap.size w w' → wpList P ops Q rest (a.put o.dst v') w') : wpList P ops Q (o :: rest) a w := by
  obtain ⟨v', w', hrun, r1, r2⟩ := exec_nt hP (o := o) (f := a.eval) hop hs he hC b1
  refine wpList_plain hg fun K hK' => ?_
  unfold Oper.wp
  rw [hrun]
  exact hK' _ _ (hK v' w' r1 r2)
theorem Nr.mono {B B' : Nat} {w : World} {v : Value} {l : List Nt} (h : Nr B w v l) (hB : B' ≤ B) : Nr B' w v l := by
  obtain ⟨A, c, e, hc, hC, hf⟩ := h
  exact ⟨A, c, e, hc, hC, fun ad e hp => Nat.le_trans hB (hf ad e hp)⟩
theorem Nr.nil (B : Nat) (w : World) : Nr B w (.slice none 0 0) [] := ⟨none, 0, rfl, Nat.le_refl _, ⟨rfl, by simp [maxLen], fun h => absurd h (by simp)⟩, fun ad e => by cases e⟩
set_option maxHeartbeats 2000000 in
set_option maxRecDepth 100000 in
theorem clone_n (A : Option Addr) (c : Nat) (l : List Nt) (w : World) (hC : NC w A l) (hl : l.length ≤ 1000000) : Calls Try.prog 31 #[.slice A l.length c] w fun e w' => ∃ v, e = .returned v ∧ Nr w.heap.size w' v l ∧ Below w.heap.size w w' := by
  cases A with
  | none =>
    have hz : l = [] := by
      rcases Nat.eq_zero_or_pos l.length with h | h
      · exact List.eq_nil_of_length_eq_zero h
      · obtain ⟨ad, e, _⟩ := hC.2.2 h
        cases e
    subst hz
    clear hC hl
    have he : ∀ W, (binOp .eql 22 (.slice none 0 c) (.slice none 0 0)).run Try.prog W = .ok (.bool true) W := fun W => Lib.run_eql_slice_nil (P := Try.prog) W _ _ none 0 c 0 0 Try.underlying22
    go_enter Try.func31, Try.ntmps31
    go_wp2_with fail
    go_ret
    exact ⟨_, rfl, Nr.nil _ _, Below.refl _ _⟩
  | some ad =>
    have HC := Aside0.mk (hC.below (below_alloc (Below.refl _ _) (.cells #[] 44)))
    have HL := Aside0.mk (show l.length ≤ 4398046511104 by omega)
    clear hC hl
    have he : ∀ W, (binOp .eql 22 (.slice (some ad) l.length c) (.slice none 0 0)).run Try.prog W = .ok (.bool false) W := fun W => Lib.run_eql_slice_nil (P := Try.prog) W _ _ (some ad) l.length c 0 0 Try.underlying22
    go_enter Try.func31, Try.ntmps31
    go_wp2_with (at_builtin; refine wpList_nt rfl rfl rfl rfl rfl HC.out HL.out ?_)
    intro v' w' hg hb
    have HG := Aside0.mk (hg.mono (show w.heap.size ≤ _ by simp))
    have HB := Aside0.mk ((below_alloc (Below.refl w.heap.size w) (.cells #[] 44)).trans (hb.mono (by omega)))
    clear hg hb
    go_wp2_with fail
    go_ret
    exact ⟨_, rfl, HG.out, HB.out⟩
end Go.Proofs.Ytjbnffadfohofaa.CarryN
end
-- MERGED YtjbnffadfohofaaCarryS
section
/- carry.Shown: none, Rev, Ops, Notes, New. -/
namespace Go.Proofs.Ytjbnffadfohofaa.CarryS
open Go.RowKit Go.Proofs.Ytjbnffadfohofaa.P Go.Proofs.YtjbnffadfohofaaW.PrintWords Go.Proofs.YtjbnffadfohofaaW.PrintLast Go.Proofs.YtjbnffadfohofaaW.PrintMore Go.Proofs.Ytjbnffadfohofaa.Own Go.Proofs.Ytjbnffadfohofaa.CarryN Go.Proofs.Ytjbnffadfohofaa.MsgA
set_option linter.unusedSimpArgs false
set_option linter.unusedVariables false

/-- What lies in Shown. -/
def Sh (g : Nat) (rev : Int) (v : Value) (ops : Int) (b : Bool) (w : World) : Prop := w.heap[g]? = some (.cells #[.int .i64 rev, v, .int .i64 ops, .bool b] 53 (0, 0))
theorem Sh.cells {g : Nat} {rev ops : Int} {v : Value} {b : Bool} {w : World} (h : Sh g rev v ops b w) : w.cell? ⟨g, 0, none⟩ = some (.int .i64 rev) ∧ w.cell? ⟨g, 1, none⟩ = some v ∧ w.cell? ⟨g, 2, none⟩ = some (.int .i64 ops) ∧ w.cell? ⟨g, 3, none⟩ = some (.bool b) := by
  unfold Sh at h
  exact ⟨by rw [cell_of_row w _ 0 _ _ _ h]; rfl, by rw [cell_of_row w _ 1 _ _ _ h]; rfl, by rw [cell_of_row w _ 2 _ _ _ h]; rfl, by rw [cell_of_row w _ 3 _ _ _ h]; rfl⟩
theorem Sh.lt {g : Nat} {rev ops : Int} {v : Value} {b : Bool} {w : World} (h : Sh g rev v ops b w) : g < w.heap.size := (Array.getElem?_eq_some_iff.1 h).1
theorem Sh.fz {g : Nat} {rev ops : Int} {v : Value} {b : Bool} {w : World} (h : Sh g rev v ops b w) (o : Nat) : w.frozen? ⟨g, o, none⟩ = false := frozen_of_row w _ o _ _ h
theorem Sh.below {g : Nat} {rev ops : Int} {v : Value} {b : Bool} {w w' : World} (h : Sh g rev v ops b w) (hb : Below w.heap.size w w') : Sh g rev v ops b w' := (hb.block _ h.lt).trans h
theorem Sh.new (w : World) (rev ops : Int) (v : Value) (b : Bool) : Sh w.heap.size rev v ops b (w.alloc (.cells #[.int .i64 rev, v, .int .i64 ops, .bool b] 53)) := Own.heap_new w _
theorem Sh.set1 {g : Nat} {rev ops : Int} {v : Value} {b : Bool} {w : World} (h : Sh g rev v ops b w) (u : Value) : Sh g rev u ops b (w.setCell ⟨g, 1, none⟩ u) := heap_setCell_same w g 1 _ _ u h
theorem Sh.set2 {g : Nat} {rev ops : Int} {v : Value} {b : Bool} {w : World} (h : Sh g rev v ops b w) (u : Int) : Sh g rev v u b (w.setCell ⟨g, 2, none⟩ (.int .i64 u)) := heap_setCell_same w g 2 _ _ (.int .i64 u) h
set_option maxHeartbeats 2000000 in
set_option maxRecDepth 100000 in
theorem none_c (g : Nat) (rev ops : Int) (v : Value) (b : Bool) (w : World) (h : Sh g rev v ops b w) : Calls Try.prog 29 #[.pointer (some ⟨g, 0, none⟩)] w fun e w' => e = .returned (.bool (!b)) ∧ w' = w := by
  obtain ⟨x0, x1, x2, x3⟩ := h.cells
  clear h
  go_enter Try.func29, Try.ntmps29
  go_wp2_with fail
  go_ret
  exact ⟨by cases b <;> rfl, rfl⟩
set_option maxHeartbeats 2000000 in
set_option maxRecDepth 100000 in
theorem none_nil (w : World) : Calls Try.prog 29 #[.pointer none] w fun e w' => e = .returned (.bool true) ∧ w' = w := by
  go_enter Try.func29, Try.ntmps29
  go_wp2_with fail
  go_ret
  exact ⟨rfl, rfl⟩
/-- No notes: nothing, or a Shown that New did not make. -/
def Off (v : Value) (w : World) : Prop := v = .pointer none ∨ ∃ g, v = .pointer (some ⟨g, 0, none⟩) ∧ Sh g 0 (.slice none 0 0) 0 false w
theorem Off.below {v : Value} {w w' : World} (h : Off v w) (hb : Below w.heap.size w w') : Off v w' := by
  rcases h with h | ⟨g, e, h⟩
  · exact .inl h
  · exact .inr ⟨g, e, h.below hb⟩
theorem none_off (v : Value) (w : World) (h : Off v w) : Calls Try.prog 29 #[v] w fun e w' => e = .returned (.bool true) ∧ w' = w := by
  rcases h with rfl | ⟨g, rfl, h⟩
  · exact none_nil w
  · exact none_c g 0 0 _ false w h
set_option maxHeartbeats 2000000 in
set_option maxRecDepth 100000 in
theorem rev_off (v : Value) (w : World) (h : Off v w) : Calls Try.prog 16 #[v] w fun e w' => e = .returned (.int .i64 0) ∧ w' = w := by
  have HN := Aside0.mk (none_off v w h)
  clear h
  go_enter Try.func16, Try.ntmps16
  go_wp2_with fail
  refine HN.out.mono ?_
  rintro e w1 ⟨rfl, rfl⟩
  go_wp2_with fail
  go_ret
  exact ⟨rfl, rfl⟩
set_option maxHeartbeats 2000000 in
set_option maxRecDepth 100000 in
theorem ops_off (v : Value) (w : World) (h : Off v w) : Calls Try.prog 17 #[v] w fun e w' => e = .returned (.int .i64 0) ∧ w' = w := by
  have HN := Aside0.mk (none_off v w h)
  clear h
  go_enter Try.func17, Try.ntmps17
  go_wp2_with fail
  refine HN.out.mono ?_
  rintro e w1 ⟨rfl, rfl⟩
  go_wp2_with fail
  go_ret
  exact ⟨rfl, rfl⟩
set_option maxHeartbeats 2000000 in
set_option maxRecDepth 100000 in
theorem notes_off (v : Value) (w : World) (h : Off v w) : Calls Try.prog 18 #[v] w fun e w' => e = .returned (.slice none 0 0) ∧ w' = w := by
  have HN := Aside0.mk (none_off v w h)
  clear h
  go_enter Try.func18, Try.ntmps18
  go_wp2_with fail
  refine HN.out.mono ?_
  rintro e w1 ⟨rfl, rfl⟩
  go_wp2_with fail
  go_ret
  exact ⟨rfl, rfl⟩
set_option maxHeartbeats 2000000 in
set_option maxRecDepth 100000 in
theorem own_off (v u : Value) (w : World) (h : Off v w) : Calls Try.prog 15 #[v, u] w fun e w' => e = .returned (.int .i64 1) ∧ w' = w := by
  have HN := Aside0.mk (none_off v w h)
  clear h
  go_enter Try.func15, Try.ntmps15
  go_wp2_with fail
  refine HN.out.mono ?_
  rintro e w1 ⟨rfl, rfl⟩
  go_wp2_with fail
  go_ret
  exact ⟨rfl, rfl⟩
set_option maxHeartbeats 2000000 in
set_option maxRecDepth 100000 in
theorem rev_c (g : Nat) (rev ops : Int) (v : Value) (w : World) (h : Sh g rev v ops true w) : Calls Try.prog 16 #[.pointer (some ⟨g, 0, none⟩)] w fun e w' => e = .returned (.int .i64 rev) ∧ w' = w := by
  have HN := Aside0.mk (none_c g rev ops v true w h)
  obtain ⟨x0, x1, x2, x3⟩ := h.cells
  clear h
  go_enter Try.func16, Try.ntmps16
  go_wp2_with fail
  refine HN.out.mono ?_
  rintro e w1 ⟨rfl, rfl⟩
  go_wp2_with fail
  go_ret
  exact ⟨rfl, rfl⟩
set_option maxHeartbeats 2000000 in
set_option maxRecDepth 100000 in
theorem ops_c (g : Nat) (rev ops : Int) (v : Value) (w : World) (h : Sh g rev v ops true w) : Calls Try.prog 17 #[.pointer (some ⟨g, 0, none⟩)] w fun e w' => e = .returned (.int .i64 ops) ∧ w' = w := by
  have HN := Aside0.mk (none_c g rev ops v true w h)
  obtain ⟨x0, x1, x2, x3⟩ := h.cells
  clear h
  go_enter Try.func17, Try.ntmps17
  go_wp2_with fail
  refine HN.out.mono ?_
  rintro e w1 ⟨rfl, rfl⟩
  go_wp2_with fail
  go_ret
  exact ⟨rfl, rfl⟩
set_option maxHeartbeats 2000000 in
set_option maxRecDepth 100000 in
theorem notes_c (g : Nat) (rev ops : Int) (A : Option Addr) (c : Nat) (l : List Nt) (w : World) (h : Sh g rev (.slice A l.length c) ops true w) (hC : NC w A l) (hl : l.length ≤ 1000000) : Calls Try.prog 18 #[.pointer (some ⟨g, 0, none⟩)] w fun e w' => ∃ u, e = .returned u ∧ Nr w.heap.size w' u l ∧ Below w.heap.size w w' := by
  have HN := Aside0.mk (none_c g rev ops _ true w h)
  have HC := Aside0.mk (clone_n A c l w hC hl)
  obtain ⟨x0, x1, x2, x3⟩ := h.cells
  clear h hC hl
  go_enter Try.func18, Try.ntmps18
  go_wp2_with fail
  refine HN.out.mono ?_
  rintro e w1 ⟨rfl, rfl⟩
  go_wp2_with fail
  refine HC.out.mono ?_
  rintro e w2 ⟨u, rfl, hu, hb⟩
  have HU := Aside0.mk hu
  have HB := Aside0.mk hb
  clear hu hb x0 x1 x2 x3
  go_wp2_with fail
  go_ret
  exact ⟨_, rfl, HU.out, HB.out⟩
/-- What New makes. -/
def Made (rev : Int) (A : Option Addr) (c : Nat) (l : List Nt) (ok : Bool) (w : World) (e : Ending) (w' : World) : Prop :=
  Below w.heap.size w w' ∧ ((ok = false ∧ e = .returned (.pointer none)) ∨ (ok = true ∧ ∃ g, e = .returned (.pointer (some ⟨g, 0, none⟩)) ∧ w.heap.size ≤ g ∧ Sh g rev (.slice A l.length c) 0 true w'))
def notesM (A : Option Addr) (n c : Nat) : Mg := ⟨5, 0, 0, 0, 0, 0, .slice none 0 0, ⟨#[]⟩, .slice A n c⟩
theorem good_notes (A : Option Addr) (n c : Nat) (gn : Bool) : MsgD.goodM (notesM A n c) true gn = gn := by
  cases gn
  · rfl
  · show (!(MsgD.fieldsL 5).isEmpty && MsgC.Mg.same (MsgD.kindM 5) (MsgD.kindM 5) true true) = true
    unfold MsgC.Mg.same MsgC.Mg.nums MsgD.kindM
    simp only [beq_self_eq_true, Bool.and_self, Bool.and_true, Bool.true_and]
    rfl
set_option maxHeartbeats 4000000 in
set_option maxRecDepth 100000 in
theorem new_c (rev : Int) (A : Option Addr) (c : Nat) (l : List Nt) (w : World) (hC : NC w A l) (hc : l.length ≤ c) (hl : l.length ≤ 1000000) (k : Nat) (gn : Bool) (hf : message_fine.f k l = some gn) :
    Calls Try.prog 12 #[.int .i64 rev, .slice A l.length c] w (Made rev A c l (gn && decide (0 ≤ rev)) w) := by
  have HG := Aside0.mk (MsgD.good_c (notesM A l.length c) true gn w ⟨_, _, _, rfl, by decide⟩ ⟨_, _, _, rfl, by omega⟩
    (fun W _ => edit_Good.calls 10 none 0 [] true W (Kd.C_nil _ _) (by simp) (by rfl))
    (fun W hb => message_fine.calls k A c l gn W (hC.below hb) hc hf))
  rw [good_notes] at HG
  clear hC hc hl hf
  go_enter Try.func12, Try.ntmps12
  go_wp2_with fail
  refine HG.out.mono ?_
  rintro e w1 ⟨rfl, hb⟩
  have HB := Aside0.mk hb
  clear hb HG
  cases gn with
  | false =>
    go_wp2_with fail
    go_ret
    exact ⟨HB.out, .inl ⟨rfl, rfl⟩⟩
  | true =>
    by_cases hr : rev < 0
    · have hr' : rev < 0 := hr
      go_wp2_with fail
      go_ret
      exact ⟨HB.out, .inl ⟨by rw [decide_eq_false (show ¬ (0 ≤ rev) by omega)]; rfl, rfl⟩⟩
    · have hr' : 0 ≤ rev := by omega
      have HS := Aside0.mk (Sh.new w1 rev 0 (.slice A l.length c) true)
      have HB2 := Aside0.mk (below_alloc HB.out (.cells #[.int .i64 rev, .slice A l.length c, .int .i64 0, .bool true] 53))
      go_wp2_with fail
      go_ret
      exact ⟨HB2.out, .inr ⟨by rw [decide_eq_true (show 0 ≤ rev by omega)]; rfl, _, rfl, HB.out.size, HS.out⟩⟩
/-- A row of one edit. -/
theorem one_op {w : World} {A : Option Addr} {c : Nat} {op : List S49} (hC : Kd.C k49 w A op.length op) (hc : op.length ≤ c) :
    Kd.C (Kd.slice 49 k49) (w.alloc (.cells #[.slice A op.length c] 34)) (some ⟨w.heap.size, 0, none⟩) ([op] : List (List S49)).length [op] := by
  refine ⟨rfl, by simp, fun _ => ⟨_, rfl, fun j p hj => ?_⟩⟩
  cases j with
  | succ j => simp at hj
  | zero =>
    obtain rfl : op = p := by simpa using hj
    refine ⟨[.slice A op.length c], rfl, ?_, fun i u hu => ?_⟩
    · exact ⟨A, c, rfl, hc, Kd.C_below hC (below_alloc (Below.refl _ _) _)⟩
    · have e : ((⟨w.heap.size, 0, none⟩ : Addr).add (0 * 1 + i)) = ⟨w.heap.size, i, none⟩ := by simp [Addr.add]; exact fun h => h.symm
      show World.cell? _ ((⟨w.heap.size, 0, none⟩ : Addr).add (0 * 1 + i)) = _
      rw [e, cell_of_row _ _ i _ _ _ (Own.heap_new w (.cells #[.slice A op.length c] 34))]
      simpa using hu
/-- Behind an edit: what s shows. -/
def Went (g : Nat) (rev ops : Int) (l' : List Nt) (v : Value) (good : Bool) (w : World) (e : Ending) (w' : World) : Prop :=
  w.grownBy w' (some g) ∧ ((good = false ∧ e = .returned (.int .i64 60) ∧ Sh g rev v ops true w') ∨
    (good = true ∧ e = .returned (.int .i64 0) ∧ ∃ A c, l'.length ≤ c ∧ NC w' A l' ∧ (∀ ad, A = some ad → 0 < l'.length → w.heap.size ≤ ad.block) ∧ Sh g rev (.slice A l'.length c) (ops + 1) true w'))
theorem grownBy_setCell (W : World) (b o : Nat) (v : Value) : W.grownBy (W.setCell ⟨b, o, none⟩ v) (some b) :=
  EditR.grownBy_setCell W b o v
theorem NC.far {w w' : World} {A : Option Addr} {l : List Nt} (h : NC w A l) (hs : ∀ ad, A = some ad → 0 < l.length → w'.heap[ad.block]? = w.heap[ad.block]?) : NC w' A l := by
  refine ⟨h.1, h.2.1, fun hp => ?_⟩
  obtain ⟨ad, e, hr⟩ := h.2.2 hp
  refine ⟨ad, e, fun j p hj => ?_⟩
  obtain ⟨c, h1, h2, h3⟩ := hr j p hj
  refine ⟨c, h1, ?_, fun i u hu => ?_⟩
  · obtain rfl := k44_open h2
    exact k44_mk _ p
  · refine (World.cell?_of_block ?_).trans (h3 i u hu)
    have hb : ∀ m, (ad.add m).block = ad.block := fun m => by unfold Addr.add; split <;> rfl
    rw [hb]
    exact hs ad e hp
set_option maxHeartbeats 8000000 in
set_option maxRecDepth 100000 in
theorem own_c (g : Nat) (rev ops : Int) (A : Option Addr) (c : Nat) (l : List Nt) (Ao : Option Addr) (co : Nat) (op : List S49) (w : World) (hs : Sh g rev (.slice A l.length c) ops true w) (hC : NC w A l) (hc : l.length ≤ c)
    (hO : Kd.C k49 w Ao op.length op) (hco : op.length ≤ co) (k : Nat) (l' : List Nt) (ok : Bool) (hm : carry_Move.f k l [op] = some (l', ok)) (gd : Bool) (hg : edit_Good.f k op = some gd) (ho : 0 ≤ ops ∧ ops ≤ 1000000) :
    Calls Try.prog 15 #[.pointer (some ⟨g, 0, none⟩), .slice Ao op.length co] w (Went g rev ops l' (.slice A l.length c) (ok && gd) w) := by
  have HN := Aside0.mk (none_c g rev ops _ true w hs)
  have HS := Aside0.mk hs
  have HM := Aside0.mk (carry_Move.calls k A c l (some ⟨w.heap.size, 0, none⟩) 1 [op] l' ok (w.alloc (.cells #[.slice Ao op.length co] 34)) (hC.below (below_alloc (Below.refl _ _) _)) hc (one_op hO hco) (by simp) hm)
  have HG := Aside0.mk (fun W (hb : Below w.heap.size w W) => edit_Good.calls k Ao co op gd W (Kd.C_below hO hb) hco hg)
  have HO := Aside0.mk ho
  have HWA := Aside0.mk (below_alloc (Below.refl w.heap.size w) (.cells #[.slice Ao op.length co] 34))
  obtain ⟨x0, x1, x2, x3⟩ := hs.cells
  clear hs hC hc hO hco hm hg ho
  go_enter Try.func15, Try.ntmps15
  go_wp2_with fail
  refine HN.out.mono ?_
  rintro e w1 ⟨rfl, rfl⟩
  go_wp2_with fail
  refine HM.out.mono ?_
  rintro e w2 ⟨v, rfl, hr, hb⟩
  have HB2 := Aside0.mk (HWA.out.trans (hb.mono HWA.out.size))
  have HR2 := Aside0.mk (Nr.of_R (B' := w1.heap.size) hr (by simp))
  have HS2 := Aside0.mk (HS.out.below HB2.out)
  clear hr hb x0 x1 x2 x3 HM HN HWA
  obtain ⟨A', c', rfl, hc', hC', hfar⟩ := HR2.out
  have HC' := Aside0.mk hC'
  have HF' := Aside0.mk hfar
  have HE' := Aside0.mk hc'
  clear hC' hfar hc'
  cases ok with
  | false =>
    go_wp2_with fail
    go_ret
    exact ⟨grown_of_below HB2.out _, .inl ⟨rfl, rfl, HS2.out⟩⟩
  | true =>
    have HG2 := Aside0.mk (HG.out w2 HB2.out)
    clear HG
    go_wp2_with fail
    refine HG2.out.mono ?_
    rintro e w3 ⟨rfl, hb⟩
    have HB3 := Aside0.mk (below_step HB2.out hb)
    have HS3 := Aside0.mk (HS2.out.below hb)
    have HC3 := Aside0.mk (HC'.out.below hb)
    clear hb HG2
    cases gd with
    | false =>
      go_wp2_with fail
      go_ret
      exact ⟨grown_of_below HB3.out _, .inl ⟨rfl, rfl, HS3.out⟩⟩
    | true =>
      have ho := HO.out
      have hgl := HS.out.lt
      have HS4 := Aside0.mk (HS3.out.set1 (.slice A' l'.length c'))
      have HS5 := Aside0.mk (HS4.out.set2 (ops + 1))
      have HW := Aside0.mk (show wrap64 (ops + 1) = ops + 1 by unfold wrap64; omega)
      have HGR := Aside0.mk (((grown_of_below HB3.out (some g)).trans (grownBy_setCell w3 g 1 (.slice A' l'.length c'))).trans (grownBy_setCell (w3.setCell ⟨g, 1, none⟩ (.slice A' l'.length c')) g 2 (.int .i64 (ops + 1))))
      have HC5 := Aside0.mk (NC.far HC3.out (w' := (w3.setCell ⟨g, 1, none⟩ (.slice A' l'.length c')).setCell ⟨g, 2, none⟩ (.int .i64 (ops + 1))) (fun ad e hp => by
        have := HF'.out ad e hp
        rw [Below.heap_setCell _ _ _ _ (show ad.block ≠ g by omega), Below.heap_setCell _ _ _ _ (show ad.block ≠ g by omega)]))
      obtain ⟨x0, x1, x2, x3⟩ := HS3.out.cells
      have f1 := HS3.out.fz 1
      have f2 := HS3.out.fz 2
      have f2' := HS4.out.fz 2
      obtain ⟨y0, y1, y2, y3⟩ := HS4.out.cells
      clear ho hgl
      go_wp2_with (first | rw [HW.out])
      go_ret
      exact ⟨HGR.out, .inr ⟨rfl, rfl, A', c', HE'.out, HC5.out, HF'.out, HS5.out⟩⟩
end Go.Proofs.Ytjbnffadfohofaa.CarryS
end
-- MERGED YtjbnffadfohofaaCarryLives
section
/- The example of the chapter on notes that are carried. -/
namespace Go.Proofs.Ytjbnffadfohofaa.CarryLives
open Go.RowKit Go.Proofs.Ytjbnffadfohofaa.P Go.Proofs.YtjbnffadfohofaaW.PrintWords Go.Proofs.YtjbnffadfohofaaW.PrintLast Go.Proofs.YtjbnffadfohofaaW.PrintMore Go.Proofs.Ytjbnffadfohofaa.Own Go.Proofs.Ytjbnffadfohofaa.CarryN Go.Proofs.Ytjbnffadfohofaa.MsgA Go.Proofs.Ytjbnffadfohofaa.CarryS
set_option linter.unusedSimpArgs false
set_option linter.unusedVariables false

abbrev Rn := S49
def n0 : Nt := ⟨⟨1, 3⟩, 7⟩
def n1 : Nt := ⟨⟨3, 5⟩, 7⟩
def p0 : List Rn := [⟨0, ⟨#[120, 121]⟩, 0⟩, ⟨5, ⟨#[]⟩, 0⟩]
set_option maxRecDepth 100000 in
theorem fine_0 : message_fine.f 10 [n0] = some true := by kernel_rfl
set_option maxRecDepth 100000 in
theorem good_0 : edit_Good.f 100 p0 = some true := by kernel_rfl
set_option maxRecDepth 100000 in
theorem move_0 : carry_Move.f 100 [n0] [p0] = some ([n1], true) := by kernel_rfl
theorem addr0 (b i : Nat) : ((⟨b, 0, none⟩ : Addr).add i) = ⟨b, i, none⟩ := by simp [Addr.add]; exact fun h => h.symm
theorem lit_n (w : World) (x : Nt) : NC (w.alloc (.cells #[.int .i64 x.f0.f0, .int .i64 x.f0.f1, .int .i64 x.f1] 44)) (some ⟨w.heap.size, 0, none⟩) [x] := by
  refine ⟨rfl, by simp, fun _ => ⟨_, rfl, fun j p hj => ?_⟩⟩
  cases j with
  | succ j => simp at hj
  | zero =>
    obtain rfl : x = p := by simpa using hj
    refine ⟨_, rfl, k44_mk _ x, fun i u hu => ?_⟩
    rw [show (0 * k44.sz + i) = i by omega, addr0, cell_of_row _ _ i _ _ _ (Own.heap_new w _)]
    simpa using hu
theorem lit_r2 (w : World) (x y : Rn) : Kd.C k49 (w.alloc (.cells #[.int .i64 x.f0, .string x.f1, .int .i64 x.f2, .int .i64 y.f0, .string y.f1, .int .i64 y.f2] 49)) (some ⟨w.heap.size, 0, none⟩) ([x, y] : List Rn).length [x, y] := by
  refine ⟨rfl, by simp, fun _ => ⟨_, rfl, fun j p hj => ?_⟩⟩
  cases j with
  | zero =>
    obtain rfl : x = p := by simpa using hj
    refine ⟨_, rfl, k49_mk _ x, fun i u hu => ?_⟩
    rw [show (0 * k49.sz + i) = i by omega, addr0, cell_of_row _ _ i _ _ _ (Own.heap_new w _)]
    rcases i with _ | _ | _ | i
    · simpa using hu
    · simpa using hu
    · simpa using hu
    · simp at hu
  | succ j =>
    cases j with
    | succ j => simp at hj
    | zero =>
      obtain rfl : y = p := by simpa using hj
      refine ⟨_, rfl, k49_mk _ y, fun i u hu => ?_⟩
      rw [show ((0 + 1) * k49.sz + i) = 3 + i by show (0 + 1) * 3 + i = _; omega, addr0, cell_of_row _ _ (3 + i) _ _ _ (Own.heap_new w _)]
      rcases i with _ | _ | _ | i
      · simpa using hu
      · simpa using hu
      · simpa using hu
      · simp at hu
set_option maxHeartbeats 8000000 in
set_option maxRecDepth 100000 in
theorem lives_c (w : World) : Calls Try.prog 8 #[] w fun e w' => e = .returned (.bool true) ∧ Below w.heap.size w w' := by
  have HA := Aside0.mk (below_alloc (Below.refl w.heap.size w) (.cells #[.int .i64 1, .int .i64 3, .int .i64 7] 44))
  have HN := Aside0.mk (new_c 3 (some ⟨w.heap.size, 0, none⟩) 1 [n0] _ (lit_n w n0) (by simp) (by simp) 10 true fine_0)
  have HC := Aside0.mk (lit_n w n0)
  have e0 : n0.f0.f0 = 1 := rfl
  have e1 : n0.f0.f1 = 3 := rfl
  have e2 : n0.f1 = 7 := rfl
  rw [e0, e1, e2] at HN HC
  clear e0 e1 e2
  go_enter Try.func8, Try.ntmps8
  go_wp2_with fail
  refine HN.out.mono ?_
  rintro e w1 ⟨hb, h | ⟨_, g, rfl, hg, hs⟩⟩
  · cases h.1
  have HB1 := Aside0.mk (HA.out.trans (hb.mono HA.out.size))
  have HC1 := Aside0.mk (HC.out.below hb)
  have HS1 := Aside0.mk hs
  have HGE := Aside0.mk (show w.heap.size ≤ g by simp at hg; omega)
  clear hb hs hg HN HC HA
  have HB2 := Aside0.mk (below_alloc HB1.out (.cells #[.int .i64 0, .string ⟨#[120, 121]⟩, .int .i64 0, .int .i64 5, .string ⟨#[]⟩, .int .i64 0] 49))
  have HAL := Aside0.mk (below_alloc (Below.refl w1.heap.size w1) (.cells #[.int .i64 0, .string ⟨#[120, 121]⟩, .int .i64 0, .int .i64 5, .string ⟨#[]⟩, .int .i64 0] 49))
  have HO := Aside0.mk (own_c g 3 0 (some ⟨w.heap.size, 0, none⟩) 1 [n0] (some ⟨w1.heap.size, 0, none⟩) 2 p0 _ (HS1.out.below HAL.out) (HC1.out.below HAL.out) (by simp) (lit_r2 w1 ⟨0, ⟨#[120, 121]⟩, 0⟩ ⟨5, ⟨#[]⟩, 0⟩) (by decide) 100 [n1] true move_0 true good_0 (by omega))
  go_wp2_with fail
  refine HO.out.mono ?_
  rintro e w2 ⟨hgr, h | ⟨_, rfl, A, c, hc, hC, _, hs⟩⟩
  · cases h.1
  have HB3 := Aside0.mk (HB2.out.grown hgr HB2.out.size (fun k e => by cases e; exact HGE.out))
  have HS3 := Aside0.mk hs
  have HNN := Aside0.mk (notes_c g 3 (0 + 1) A c [n1] w2 hs hC (by simp))
  clear hgr hs hC hc HO HAL HB2 HS1 HC1 HB1
  go_wp2_with fail
  refine HNN.out.mono ?_
  rintro e w3 ⟨u, rfl, ⟨Au, cu, rfl, hcu, hCu, _⟩, hb⟩
  have HB4 := Aside0.mk (below_step HB3.out hb)
  have HS4 := Aside0.mk (HS3.out.below hb)
  obtain ⟨ad, rfl, y0, y1, y2⟩ := at_nt hCu 0 (by simp)
  rw [show ([n1] : List Nt).getD 0 z44 = n1 from rfl] at y0 y1 y2
  rw [show n1.f0.f0 = 3 from rfl] at y0
  rw [show n1.f0.f1 = 5 from rfl] at y1
  rw [show n1.f1 = 7 from rfl] at y2
  rw [show ad.add (0 * 3) = ad from by simp [Addr.add]] at y0 y1 y2
  clear hb hCu hcu HNN HS3 HB3
  have HR := Aside0.mk (rev_c g 3 _ _ w3 HS4.out)
  have HP := Aside0.mk (ops_c g 3 _ _ w3 HS4.out)
  go_wp2_with (first | (go_at_call 16; refine HR.out.mono ?_; rintro e w4 ⟨rfl, rfl⟩) | (go_at_call 17; refine HP.out.mono ?_; rintro e w4 ⟨rfl, rfl⟩))
  go_ret
  exact ⟨rfl, HB4.out⟩
end Go.Proofs.Ytjbnffadfohofaa.CarryLives
end

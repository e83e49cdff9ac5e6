import Derived.Test.YtjbnffadfohofaaRows
import Derived.Test.YtjbnffadfohofaaTD
import Derived.Test.YtjbnffadfohofaaWWords
import Derived.Deep.Slices
import Derived.ChangeArms
import Derived.OpenShut
import Derived.ShutString
import Derived.WalkKit
import Derived.ProofKit
import Derived.ChangeOld
import Derived.Below
import Derived.SizedLaws
import Derived.Test.YtjbnffadfohofaaWSized
-- MERGED YtjbnffadfohofaaCarryNob
section
/- The law CarryNobody: notes that no call made. -/
namespace Go.Proofs.Ytjbnffadfohofaa.CarryNob
open Go.RowKit Go.Proofs.Ytjbnffadfohofaa.P Go.Proofs.YtjbnffadfohofaaW.PrintWords Go.Proofs.YtjbnffadfohofaaW.PrintLast Go.Proofs.YtjbnffadfohofaaW.PrintMore Go.Proofs.Ytjbnffadfohofaa.Own Go.Proofs.Ytjbnffadfohofaa.CarryN Go.Proofs.Ytjbnffadfohofaa.CarryS Go.Proofs.Ytjbnffadfohofaa.CarryLives
set_option linter.unusedSimpArgs false
set_option linter.unusedVariables false

set_option maxHeartbeats 16000000 in
set_option maxRecDepth 100000 in
theorem row (a : Int) (w : World) (_ : (Lit.int .i64 a).wf = true) :
    Calls Try.prog 6 #[.int .i64 a] w fun e w' => e = .returned (.bool true) ∧ Below w.heap.size w w' := by
  obtain ⟨S, hS⟩ : ∃ S, S = w.heap.size := ⟨_, rfl⟩
  obtain ⟨T, hT⟩ : ∃ T, T = w.heap.size + 1 := ⟨_, rfl⟩
  obtain ⟨w1, hw1⟩ : ∃ w1, w1 = (w.alloc (.cells #[.int .i64 0, .slice none 0 0, .int .i64 0, .bool false] 53)).alloc (.cells #[.pointer none, .pointer (some ⟨S, 0, none⟩)] 31) := ⟨_, rfl⟩
  have HB0 := Aside0.mk (show Below w.heap.size w w1 by rw [hw1]; exact below_alloc (below_alloc (Below.refl _ _) _) _)
  have HS0 := Aside0.mk (show Sh S 0 (.slice none 0 0) 0 false w1 by
    show w1.heap[S]? = _
    rw [hw1, hS, Own.heap_old _ _ _ (by simp)]; exact Own.heap_new _ _)
  have HT0 := Aside0.mk (show w1.heap[T]? = some (.cells #[.pointer none, .pointer (some ⟨S, 0, none⟩)] 31 (0, 0)) by
    rw [hw1, hT]
    have := Own.heap_new (w.alloc (.cells #[.int .i64 0, .slice none 0 0, .int .i64 0, .bool false] 53)) (.cells #[.pointer none, .pointer (some ⟨S, 0, none⟩)] 31)
    rwa [World.size_alloc] at this)
  have HW1 := Aside0.mk hw1
  have HSE := Aside0.mk hS
  have HTE := Aside0.mk hT
  clear hw1 hS hT
  go_enter Try.func6, Try.ntmps6
  go_wp2_with fail
  rw [← HTE.out, ← HSE.out, ← HW1.out]
  go_loopw [11] (fun iv wr => ∃ j : Nat, j ≤ 2 ∧ iv = .int .i64 (j : Int) ∧ Below w.heap.size w wr ∧ Sh S 0 (.slice none 0 0) 0 false wr ∧ wr.heap[T]? = some (.cells #[.pointer none, .pointer (some ⟨S, 0, none⟩)] 31 (0, 0))) (fun iv _ => 2 - (intOf iv).toNat)
  case atStart => exact ⟨0, by omega, rfl, HB0.out, HS0.out, HT0.out⟩
  case round =>
    clear HB0 HS0 HT0
    obtain ⟨j, hj, rfl, hb, hs, ht⟩ := hrel
    have HB := Aside0.mk hb
    have HS := Aside0.mk hs
    have HT := Aside0.mk ht
    have t0 : wr.cell? ⟨T, 0, none⟩ = some (.pointer none) := by rw [cell_of_row _ _ 0 _ _ _ ht]; rfl
    have t1 : wr.cell? ⟨T, 1, none⟩ = some (.pointer (some ⟨S, 0, none⟩)) := by rw [cell_of_row _ _ 1 _ _ _ ht]; rfl
    have HA := Aside0.mk (below_alloc (Below.refl wr.heap.size wr) (.cells #[.int .i64 a, .string ⟨#[]⟩, .int .i64 0] 49))
    clear hb hs ht
    have h5 : j = 0 ∨ j = 1 ∨ j = 2 := by omega
    rcases h5 with rfl | rfl | rfl
    · clear hj
      go_wp2_with fail
      refine (own_off _ _ _ (.inl rfl)).mono ?_
      rintro e w2 ⟨rfl, rfl⟩
      go_wp2_with fail
      refine (rev_off _ _ (.inl rfl)).mono ?_
      rintro e w3 ⟨rfl, rfl⟩
      go_wp2_with fail
      refine (ops_off _ _ (.inl rfl)).mono ?_
      rintro e w4 ⟨rfl, rfl⟩
      go_wp2_with fail
      refine (notes_off _ _ (.inl rfl)).mono ?_
      rintro e w5 ⟨rfl, rfl⟩
      go_wp2_with fail
      go_roundw
      case rel => exact ⟨1, by omega, rfl, below_step HB.out HA.out, HS.out.below HA.out, (HA.out.block _ (Array.getElem?_eq_some_iff.1 HT.out).1).trans HT.out⟩
      case measure => simp [intOf]
    · clear hj
      have HO := Aside0.mk (show Off (.pointer (some ⟨S, 0, none⟩)) (wr.alloc (.cells #[.int .i64 a, .string ⟨#[]⟩, .int .i64 0] 49)) from .inr ⟨S, rfl, HS.out.below HA.out⟩)
      go_wp2_with fail
      refine (own_off _ _ _ HO.out).mono ?_
      rintro e w2 ⟨rfl, rfl⟩
      go_wp2_with fail
      refine (rev_off _ _ HO.out).mono ?_
      rintro e w3 ⟨rfl, rfl⟩
      go_wp2_with fail
      refine (ops_off _ _ HO.out).mono ?_
      rintro e w4 ⟨rfl, rfl⟩
      go_wp2_with fail
      refine (notes_off _ _ HO.out).mono ?_
      rintro e w5 ⟨rfl, rfl⟩
      go_wp2_with fail
      go_roundw
      case rel => exact ⟨2, by omega, rfl, below_step HB.out HA.out, HS.out.below HA.out, (HA.out.block _ (Array.getElem?_eq_some_iff.1 HT.out).1).trans HT.out⟩
      case measure => simp [intOf]
    · clear hj
      go_wp2_with fail
      refine (lives_c _).mono ?_
      rintro e w2 ⟨rfl, hb2⟩
      have HB2 := Aside0.mk (below_step HB.out hb2)
      clear hb2
      go_wp2_with fail
      go_ret
      exact ⟨rfl, HB2.out⟩
end Go.Proofs.Ytjbnffadfohofaa.CarryNob
end
-- MERGED YtjbnffadfohofaaOpens
section
/- Arguments of any shape, opened: what a datum's cells read as, by the kind of its type. -/
namespace Go.Proofs.Ytjbnffadfohofaa.Opens
open Go.ChangeShapes Go.WideShapes Go.Deep Go.RowKit Go.Proofs.YtjbnffadfohofaaW.PrintWords

/-- What is read as a datum of type t has cells of the kind d, and what they say is right. -/
def Opens {α : Type} (P : Program) (t : TypeId) (d : Kd α) (ok : α → Prop) : Prop :=
  P.cellsOf t = d.sz ∧ ∀ (H : Type) (enc : TypeId × Value → H) (w : World) (base : Nat) (sp : Nat → Bool) (held : Bool) (fuel : Nat) (cs : List Value) (x : DataW H × List MemPlace),
    DataW.trod enc P w base sp held fuel t cs = some x → ∃ a : α, d.K w a cs ∧ ok a
theorem list_of {α : Type} (Q : Nat → α → Prop) : ∀ len : Nat, (∀ i, i < len → ∃ x, Q i x) → ∃ l : List α, l.length = len ∧ ∀ i x, l[i]? = some x → Q i x
  | 0, _ => ⟨[], rfl, fun i x hx => by simp at hx⟩
  | k + 1, each => by
    obtain ⟨l, hl, hf⟩ := list_of Q k (fun i hi => each i (by omega))
    obtain ⟨x, h1⟩ := each k (by omega)
    refine ⟨l ++ [x], by simp [hl], fun i y hy => ?_⟩
    by_cases hik : i < l.length
    · rw [List.getElem?_append_left hik] at hy
      exact hf i y hy
    · rw [List.getElem?_append_right (by omega)] at hy
      have hi0 : i - l.length = 0 := by
        rcases Nat.eq_zero_or_pos (i - l.length) with h | h
        · exact h
        · rw [List.getElem?_eq_none (by simp; omega)] at hy; cases hy
      rw [hi0] at hy
      obtain rfl : x = y := by simpa using hy
      obtain rfl : i = k := by omega
      exact h1
section
variable {P : Program} {t e : TypeId} {α β γ δ : Type}
theorem int_ {k : IntKind} (ht : P.underlying t = some (.int k)) (hc : P.cellsOf t = 1) : Opens P t (Kd.int k) (fun n => (Lit.int k n).wf = true) :=
  ⟨hc, fun _ _ _ _ _ _ _ _ _ h => by
    obtain ⟨n, rfl, _, hw⟩ := DataW.trod_int ht h
    exact ⟨n, rfl, hw⟩⟩
theorem string_ (ht : P.underlying t = some .string) (hc : P.cellsOf t = 1) : Opens P t Kd.string (fun s => s.size ≤ maxLen) :=
  ⟨hc, fun _ _ _ _ _ _ _ _ _ h => by
    obtain ⟨n, rfl, _, hw⟩ := DataW.trod_string ht h
    exact ⟨n, rfl, hw⟩⟩
theorem bool_ (ht : P.underlying t = some .bool) (hc : P.cellsOf t = 1) : Opens P t Kd.bool (fun _ => True) :=
  ⟨hc, fun _ _ _ _ _ _ _ _ _ h => by
    obtain ⟨n, rfl, _⟩ := DataW.trod_bool ht h
    exact ⟨n, rfl, trivial⟩⟩
theorem slice_ {d : Kd α} {ok : α → Prop} (ht : P.underlying t = some (.slice e)) (hc : P.cellsOf t = 1) (he : Opens P e d ok) : Opens P t (Kd.slice e d) (fun l => l.length ≤ maxLen ∧ ∀ x ∈ l, ok x) := by
  refine ⟨hc, fun H enc w base sp held fuel cs x h => ?_⟩
  rcases open_slice ht h with ⟨rfl, _⟩ | ⟨a, len, cap, m, n, D, Pl, rfl, hb, hl, hm, hmm, _, hi⟩
  · refine ⟨[], ⟨none, 0, rfl, Nat.le_refl _, rfl, Nat.zero_le _, fun h => absurd h (by simp)⟩, Nat.zero_le _, fun _ h => by cases h⟩
  · have hlm : len ≤ m := by rw [hmm]; split <;> omega
    have each : ∀ i, i < len → ∃ (x : α) (cs' : List Value), w.cells? base (a.add (i * P.cellsOf e)) (P.cellsOf e) = some cs' ∧ d.K w x cs' ∧ ok x := by
      intro i hlt
      obtain ⟨cs', h1, h2⟩ := hi i (by omega)
      obtain ⟨x, h3, h4⟩ := he.2 H enc w base sp held n cs' _ h2
      exact ⟨x, cs', h1, h3, h4⟩
    have hex := list_of (fun i x => ∃ cs' : List Value, w.cells? base (a.add (i * P.cellsOf e)) (P.cellsOf e) = some cs' ∧ d.K w x cs' ∧ ok x) len each
    obtain ⟨l, hll, hf⟩ := hex
    subst hll
    refine ⟨l, ⟨some a, cap, rfl, hl, rfl, ?_, fun _ => ⟨a, rfl, fun j p hj => ?_⟩⟩, by omega, fun x hx => ?_⟩
    · unfold maxLen at hm; omega
    · obtain ⟨cs', h1, h2, _⟩ := hf j p hj
      obtain ⟨_, h3, h4⟩ := World.cells?_some h1
      refine ⟨cs', d.K_len h2, h2, fun i u hu => ?_⟩
      have hil : i < P.cellsOf e := by
        have := (List.getElem?_eq_some_iff.1 hu).1
        omega
      rw [← Go.Deep.add_add, ← he.1, h4 i hil, hu]
    · obtain ⟨i, hi⟩ := List.getElem?_of_mem hx
      obtain ⟨_, _, _, h⟩ := hf i x hi
      exact h
theorem struct2_ {d0 : Kd α} {d1 : Kd β} {ok0 : α → Prop} {ok1 : β → Prop} {f0 f1 : Field} (ht : P.underlying t = some (.struct #[f0, f1])) (hc : P.cellsOf t = d0.sz + d1.sz) (h0 : Opens P f0.type d0 ok0) (h1 : Opens P f1.type d1 ok1) (o0 : f0.offset = 0) (o1 : f1.offset = d0.sz) :
    Opens P t (Kd.pair d0 d1) (fun x => ok0 x.1 ∧ ok1 x.2) := by
  refine ⟨hc, fun H enc w base sp held fuel cs x h => ?_⟩
  obtain ⟨ys, n, _, _, hl, hyl, hf⟩ := DataW.trod_struct ht h
  have g0 := hf 0 f0 rfl
  have g1 := hf 1 f1 rfl
  simp only [List.size_toArray, List.length_cons, List.length_nil] at hyl
  rw [List.getElem?_eq_getElem (by omega)] at g0 g1
  obtain ⟨a, ka, oa⟩ := h0.2 _ _ _ _ _ _ _ _ _ g0
  obtain ⟨b, kb, ob⟩ := h1.2 _ _ _ _ _ _ _ _ _ g1
  refine ⟨(a, b), ⟨_, _, ?_, ka, kb⟩, oa, ob⟩
  rw [o0, o1, h0.1, h1.1, List.drop_zero]
  rw [hc] at hl
  have e1 : (cs.drop d0.sz).take d1.sz = cs.drop d0.sz := List.take_of_length_le (by rw [List.length_drop]; omega)
  rw [e1, List.take_append_drop]
theorem struct3_ {d0 : Kd α} {d1 : Kd β} {d2 : Kd γ} {ok0 : α → Prop} {ok1 : β → Prop} {ok2 : γ → Prop} {f0 f1 f2 : Field} (ht : P.underlying t = some (.struct #[f0, f1, f2])) (hc : P.cellsOf t = d0.sz + (d1.sz + d2.sz)) (h0 : Opens P f0.type d0 ok0) (h1 : Opens P f1.type d1 ok1) (h2 : Opens P f2.type d2 ok2)
    (o0 : f0.offset = 0) (o1 : f1.offset = d0.sz) (o2 : f2.offset = d0.sz + d1.sz) : Opens P t (Kd.pair d0 (Kd.pair d1 d2)) (fun x => ok0 x.1 ∧ ok1 x.2.1 ∧ ok2 x.2.2) := by
  refine ⟨hc, fun H enc w base sp held fuel cs x h => ?_⟩
  obtain ⟨ys, n, _, _, hl, hyl, hf⟩ := DataW.trod_struct ht h
  have g0 := hf 0 f0 rfl
  have g1 := hf 1 f1 rfl
  have g2 := hf 2 f2 rfl
  simp only [List.size_toArray, List.length_cons, List.length_nil] at hyl
  rw [List.getElem?_eq_getElem (by omega)] at g0 g1 g2
  obtain ⟨a, ka, oa⟩ := h0.2 _ _ _ _ _ _ _ _ _ g0
  obtain ⟨b, kb, ob⟩ := h1.2 _ _ _ _ _ _ _ _ _ g1
  obtain ⟨c, kc, oc⟩ := h2.2 _ _ _ _ _ _ _ _ _ g2
  refine ⟨(a, b, c), ⟨_, _, ?_, ka, _, _, rfl, kb, kc⟩, oa, ob, oc⟩
  rw [o0, o1, o2, h0.1, h1.1, h2.1, List.drop_zero]
  rw [hc] at hl
  have e1 : (cs.drop (d0.sz + d1.sz)).take d2.sz = cs.drop (d0.sz + d1.sz) := List.take_of_length_le (by rw [List.length_drop]; omega)
  rw [e1, ← List.drop_drop, List.take_append_drop, List.take_append_drop]
theorem struct4_ {d0 : Kd α} {d1 : Kd β} {d2 : Kd γ} {d3 : Kd δ} {ok0 : α → Prop} {ok1 : β → Prop} {ok2 : γ → Prop} {ok3 : δ → Prop} {f0 f1 f2 f3 : Field} (ht : P.underlying t = some (.struct #[f0, f1, f2, f3])) (hc : P.cellsOf t = d0.sz + (d1.sz + (d2.sz + d3.sz)))
    (h0 : Opens P f0.type d0 ok0) (h1 : Opens P f1.type d1 ok1) (h2 : Opens P f2.type d2 ok2) (h3 : Opens P f3.type d3 ok3) (o0 : f0.offset = 0) (o1 : f1.offset = d0.sz) (o2 : f2.offset = d0.sz + d1.sz) (o3 : f3.offset = d0.sz + d1.sz + d2.sz) :
    Opens P t (Kd.pair d0 (Kd.pair d1 (Kd.pair d2 d3))) (fun x => ok0 x.1 ∧ ok1 x.2.1 ∧ ok2 x.2.2.1 ∧ ok3 x.2.2.2) := by
  refine ⟨hc, fun H enc w base sp held fuel cs x h => ?_⟩
  obtain ⟨ys, n, _, _, hl, hyl, hf⟩ := DataW.trod_struct ht h
  have g0 := hf 0 f0 rfl
  have g1 := hf 1 f1 rfl
  have g2 := hf 2 f2 rfl
  have g3 := hf 3 f3 rfl
  simp only [List.size_toArray, List.length_cons, List.length_nil] at hyl
  rw [List.getElem?_eq_getElem (by omega)] at g0 g1 g2 g3
  obtain ⟨a, ka, oa⟩ := h0.2 _ _ _ _ _ _ _ _ _ g0
  obtain ⟨b, kb, ob⟩ := h1.2 _ _ _ _ _ _ _ _ _ g1
  obtain ⟨c, kc, oc⟩ := h2.2 _ _ _ _ _ _ _ _ _ g2
  obtain ⟨q, kq, oq⟩ := h3.2 _ _ _ _ _ _ _ _ _ g3
  refine ⟨(a, b, c, q), ⟨_, _, ?_, ka, _, _, rfl, kb, _, _, rfl, kc, kq⟩, oa, ob, oc, oq⟩
  rw [o0, o1, o2, o3, h0.1, h1.1, h2.1, h3.1, List.drop_zero]
  rw [hc] at hl
  have e1 : (cs.drop (d0.sz + d1.sz + d2.sz)).take d3.sz = cs.drop (d0.sz + d1.sz + d2.sz) := List.take_of_length_le (by rw [List.length_drop]; omega)
  rw [e1, ← List.drop_drop (i := d2.sz), List.take_append_drop, ← List.drop_drop, List.take_append_drop, List.take_append_drop]
/-- A parameter of such a type. -/
theorem arg_ {d : Kd α} {ok : α → Prop} (ho : Opens P t d ok) {H : Type} {enc : TypeId × Value → H} {w : World} {base : Nat} {sp : Nat → Bool} {held : Bool} {v : Value} {x : DataW H} {ps : List MemPlace} (h : DataW.Trod enc P w base sp held t v x ps) : ∃ a : α, d.K w a v.cells.toList ∧ ok a := by
  obtain ⟨fuel, hf⟩ := h
  exact ho.2 _ _ _ _ _ _ _ _ _ hf
end
theorem slice_shape {α : Type} {e : Nat} {d : Kd α} {w : World} {a : Option Addr} {n c : Nat} {l : List α} (h : (Kd.slice e d).K w l (Value.slice a n c).cells.toList) : n = l.length ∧ l.length ≤ c ∧ Kd.C d w a l.length l := by
  obtain ⟨A, c', e1, hc, hC⟩ := h
  simp only [Value.cells, List.cons.injEq, Value.slice.injEq] at e1
  obtain ⟨⟨rfl, rfl, rfl⟩, _⟩ := e1
  exact ⟨rfl, hc, hC⟩
end Go.Proofs.Ytjbnffadfohofaa.Opens
end
-- MERGED YtjbnffadfohofaaLawCarryNobody
section
/- Notes that no call made are none, and go nowhere. -/
namespace Go.Proofs.Ytjbnffadfohofaa.carryNobody
open Go.ChangeShapes Go.WideShapes Go.ChangeAt Go.RowKit Go.Proofs.YtjbnffadfohofaaW.PrintWords
open Go.ChangeMaps (open_string shut_string)
set_option linter.unusedVariables false
theorem own : ownKnob Try.prog.godebug = none := by kernel_rfl
theorem laidOut : laidOutB Try.prog = true := by kernel_rfl
set_option maxRecDepth 100000 in
theorem lifted (os : Os) (started : os.Started) (H : Type) (enc : TypeId × Value → H) :
    ReturnsInHanded {} Try.checked os 6 .any (Rows.carryNobodySpec.pre6 enc Try.prog Try.f6 Rows.carryNobodyRow.domain false) (Rows.carryNobodySpec.post enc Try.prog Try.f6 false true false false) := by
  refine returnsInHanded_of_change_sized (C := Try.checked) own started (by kernel_rfl) Try.func6
    (ChangeSpec.witness6 (enc := enc) (C := Try.checked) false ⟨#[], #[(.int .i64 0)], []⟩ 8 (by kernel_rfl) (by kernel_rfl) (by kernel_rfl) (by kernel_rfl)) ?_
  intro W base args ds gs before hval0 hW hcnd hsz0 _
  have hsz : (DataW.weightsEach Try.prog (Try.f6.params.toList ++ Rows.carryNobodySpec.plain.varTypes Try.prog) (ds ++ gs)).all (· ≤ reachBytes) = true := hsz0
  have hval : ∀ (j : Nat) t v, Try.f6.params[j]? = some t → args[j]? = some v → Value.okWide Try.prog W .any base t v := hval0
  have hW' := hW
  obtain ⟨p, q, hA0, hV, rfl, hfz, hnd⟩ := hW
  have hA : DataW.TrodAll enc Try.prog W 0 (fun _ => true) true Try.f6.params.toList args.toList ds p := hA0
  rw [Try.params6] at hA hval hsz
  obtain ⟨v0, vs0, d0, ds0, p0, q0, hargs, rfl, rfl, h0, r0⟩ := trodAll_cons hA
  obtain ⟨rfl, rfl, rfl⟩ := trodAll_nil r0
  obtain rfl : args = #[v0] := by cases args; simp_all
  obtain ⟨rfl, rfl⟩ := trodVars_none hV
  obtain ⟨a0, rfl, rfl, rfl, w0⟩ := open_int Try.underlying3 (hval 0 3 v0 rfl rfl) h0
  clear hA0 hval0 hsz0 hsz
  refine (CarryNob.row a0 W w0).mono fun e W' ⟨he, bel⟩ => ?_
  subst he
  exact ⟨_, rfl, _, _, _, [], _, [], hW', trodAll_mk1 (shut_bool Try.underlying4 _), (trodAll_cons_mk (shut_int Try.underlying3 w0) trodAll_mk0), rfl, bel.frame _, fun h => by cases h⟩
theorem over : Rows.carryNobodyRow.holds Try.pinned (OpenSpec.ofChange Rows.carryNobodySpec) :=
  OpenClaim.holds_of_wide 6 Try.f6 rfl rfl rfl rfl rfl rfl rfl ⟨rfl, rfl, rfl, rfl, rfl⟩ rfl rfl rfl rfl rfl (by kernel_rfl) Try.func6 (by kernel_rfl)
    (of_decide_eq_true (by kernel_rfl)) (by unfold Func.isWrapper; first | (rw [if_pos (by decide +kernel)]; kernel_rfl) | (rw [if_neg (by decide +kernel)]; exact ⟨rfl, rfl⟩))
    (fun os started H enc _ => lifted os started H enc)
theorem proved : Rows.CarryNobodySaid := over
#print axioms proved
end Go.Proofs.Ytjbnffadfohofaa.carryNobody
namespace Go.Proofs.Ytjbnffadfohofaa
/-- The row, under a short name, for the claim. -/
theorem carryNobody_holds : Rows.CarryNobodySaid := carryNobody.proved
end Go.Proofs.Ytjbnffadfohofaa
end

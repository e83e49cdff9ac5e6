import Derived.Test.YthocalfgeaclgaaYA
import Derived.Shelf.Strings.BuilderK
import Derived.Test.YthocalfgeaclgaaYB
import Derived.Test.YthocalfgeaclgaaYD
-- MERGED YthocalfgeaclgaaBld
section

namespace Go.Proofs.Ythocalfgeaclgaa.Bld
open Go.RowKit Go.Shelf Go.Proofs
def rf : Nat → Nat
 | 166 => 60
 | 169 => 61
 | 240 => 68
 | 276 => 70
 | x => x
def rt : Nat → Nat
 | 37 => 86
 | 70 => 85
 | 72 => 88
 | 75 => 90
 | 80 => 93
 | 127 => 99
 | 164 => 101
 | x => x
def ρ : Ren := ⟨rf, rt, fun x => x⟩
theorem extra : Builder.Extra Try.prog ρ where
 sizeBuilder := by kernel_rfl
 liesBuilder := by kernel_rfl
 t5 := Try.underlying5
 a5 := Try.isAgg5
 z5 := Try.sizeOf5
 v5 := Try.zeroValue5
 infoByte := by kernel_rfl
 cellsByte := by kernel_rfl
 sizeByte := by kernel_rfl
 neB5 := by decide
theorem l166 : Lays.n166 Try.prog ρ where
 mixed := by kernel_rfl
 f166 := by kernel_rfl
 f240 := by kernel_rfl
 f276 := by kernel_rfl
 t0 := Try.underlying0
 a0 := Try.isAgg0
 z0 := Try.sizeOf0
 v0 := Try.zeroValue0
 t3 := Try.underlying3
 a3 := Try.isAgg3
 z3 := Try.sizeOf3
 v3 := Try.zeroValue3
 t4 := Try.underlying4
 a4 := Try.isAgg4
 z4 := Try.sizeOf4
 v4 := Try.zeroValue4
 t9 := Try.underlying9
 a9 := Try.isAgg9
 z9 := Try.sizeOf9
 v9 := Try.zeroValue9
 t20 := Try.underlying20
 a20 := Try.isAgg20
 z20 := Try.sizeOf20
 v20 := Try.zeroValue20
 t37 := Try.underlying86
 a37 := Try.isAgg86
 z37 := Try.sizeOf86
 v37 := Try.zeroValue86
 t70 := Try.underlying85
 a70 := Try.isAgg85
 z70 := Try.sizeOf85
 v70 := Try.zeroValue85
 t72 := Try.underlying88
 a72 := Try.isAgg88
 z72 := Try.sizeOf88
 v72 := Try.zeroValue88
 t75 := Try.underlying90
 a75 := Try.isAgg90
 z75 := Try.sizeOf90
 v75 := Try.zeroValue90
 t164 := Try.underlying101
 a164 := Try.isAgg101
 z164 := Try.sizeOf101
 v164 := Try.zeroValue101
theorem l169 : Lays.n169 Try.prog ρ where
 mixed := by kernel_rfl
 f169 := by kernel_rfl
 t0 := Try.underlying0
 a0 := Try.isAgg0
 z0 := Try.sizeOf0
 v0 := Try.zeroValue0
 t3 := Try.underlying3
 a3 := Try.isAgg3
 z3 := Try.sizeOf3
 v3 := Try.zeroValue3
 t9 := Try.underlying9
 a9 := Try.isAgg9
 z9 := Try.sizeOf9
 v9 := Try.zeroValue9
 t37 := Try.underlying86
 a37 := Try.isAgg86
 z37 := Try.sizeOf86
 v37 := Try.zeroValue86
 t70 := Try.underlying85
 a70 := Try.isAgg85
 z70 := Try.sizeOf85
 v70 := Try.zeroValue85
 t72 := Try.underlying88
 a72 := Try.isAgg88
 z72 := Try.sizeOf88
 v72 := Try.zeroValue88
 t127 := Try.underlying99
 a127 := Try.isAgg99
 z127 := Try.sizeOf99
 v127 := Try.zeroValue99
def Bl (B b : Nat) (s : ByteArray) (w : World) : Prop := Lib.IsBuilderF 88 5 B b (Lib.strCells s) w
theorem strCells_app (a b : ByteArray) : Lib.strCells a ++ Lib.strCells b = Lib.strCells (a ++ b) := by
 rw [Lib.strCells_eq, Lib.strCells_eq, Lib.strCells_eq, ← Lib.byteCells_append, ByteArray.data_append, Array.toList_append]
theorem write_c (B b : Nat) (s t : ByteArray) (w : World) (h : Bl B b s w) (hl : s.size + t.size ≤ 140737488355328) (hB : B ≤ w.heap.size) :
  Calls Try.prog 60 #[.pointer (some ⟨b, 0, none⟩), .string t] w fun e w' => e = .returned (.tuple #[.int .i64 t.size, .nilIface]) ∧ Bl B b (s ++ t) w' ∧ Below B w w' ∧ Lib.OthersKept 5 (some b) w w' := by
 refine (Any.Builder_WriteString_k (P := Try.prog) (ρ := ρ) l166 extra B b (Lib.strCells s) t w h (by rw [Lib.strCells_length]; exact hl) hB).mono ?_
 rintro e w' ⟨rfl, h1, h2, h3⟩
 refine ⟨rfl, .inr ?_, h2, h3⟩
 rw [← strCells_app]
 exact h1
theorem text_c (B b : Nat) (s : ByteArray) (w : World) (h : Bl B b s w) (hB : B ≤ w.heap.size) :
  Calls Try.prog 61 #[.pointer (some ⟨b, 0, none⟩)] w fun e w' => e = .returned (.string s) ∧ Below B w w' := by
 refine (Any.Builder_String_any_k (P := Try.prog) (ρ := ρ) l169 extra B b s.data.toList w h hB).mono ?_
 rintro e w' ⟨rfl, h1, h2, h3⟩
 refine ⟨?_, h2⟩
 rfl
end Go.Proofs.Ythocalfgeaclgaa.Bld
end
-- MERGED YthocalfgeaclgaaPrunfits
section

namespace Go.Proofs.Ythocalfgeaclgaa.P
open Go.RowKit Go.Proofs.YthocalfgeaclgaaW.PrintWords Go.Proofs.YthocalfgeaclgaaW.PrintLast Go.Proofs.YthocalfgeaclgaaW.PrintMore
attribute [local go_sem] max2_int min2_int max_two min_two max_three min_three max_four min_four
set_option linter.unusedVariables false
set_option linter.unusedSimpArgs false
def run_fits.f (k : Nat) (l0 : List (S37)) (a1 : Int) : Option (Bool) := (jj10.f k l0).bind fun t573 => (if t573 = true then ((jj11.f k l0).bind fun t574 => (some (t574 == a1))) else (some false))
theorem run_fits.mono : ∀ a0 a1 k, LeO (run_fits.f k a0 a1) (run_fits.f (k + 1) a0 a1) := by
 intro a0 a1 k
 unfold run_fits.f
 repeat' first
   | (with_reducible exact jj10.mono _ _)
   | (with_reducible exact jj11.mono _ _)
   | (with_reducible exact LeO.refl _)
   | (with_reducible exact LeO.none _)
   | (with_reducible refine LeO.ite ?_ ?_)
   | (with_reducible refine LeO.bind ?_ (fun _ => ?_))
   | exact jj10.mono _ _
   | exact jj11.mono _ _
   | exact LeO.none _
   | refine LeO.ite ?_ ?_
   | refine LeO.bind ?_ (fun _ => ?_)
set_option maxHeartbeats 8000000 in
set_option maxRecDepth 100000 in
theorem run_fits.calls (k : Nat) (A0 : Option Addr) (c0 : Nat) (l0 : List (S37)) (a1 : Int) (r : Bool) (w : World) (hr0 : Kd.C k37 w A0 l0.length l0) (hc0 : l0.length ≤ c0) (h : run_fits.f k l0 a1 = some r) :
  Calls Try.prog 59 #[.slice A0 l0.length c0, .int .i64 a1] w fun e w' => e = .returned (.bool r) ∧ Below w.heap.size w w' := by
 have HR0 := Aside0.mk hr0
 have HC0 := Aside0.mk hc0
 clear hr0 hc0
 have HB := Aside0.mk (Below.refl w.heap.size w)
 have H : ((jj10.f k l0).bind fun t573 => (if t573 = true then ((jj11.f k l0).bind fun t574 => (some (t574 == a1))) else (some false))) = some r := h
 clear h
 replace H := Option.bind_eq_some_iff.mp H
 obtain ⟨t573, A30, H⟩ := H
 replace H : (if t573 = true then ((jj11.f k l0).bind fun t574 => (some (t574 == a1))) else (some false)) = some r := H
 have A3 := Aside0.mk A30
 clear A30
 by_cases c4 : t573 = true
 ·subst c4
  have H1 : ((jj11.f k l0).bind fun t574 => (some (t574 == a1))) = some r := by rw [if_pos rfl] at H; exact H
  clear H
  have H := H1
  clear H1
  replace H := Option.bind_eq_some_iff.mp H
  obtain ⟨t574, A50, H⟩ := H
  replace H : (some (t574 == a1)) = some r := H
  have A5 := Aside0.mk A50
  clear A50
  obtain rfl := Option.some.inj H
  go_enter Try.func59, Try.ntmps59
  go_wp2_with (first | ((with_reducible refine gate_callee (f := 24) rfl ?_); refine goesL_ (some 6) rfl rfl Try.func24 (by kernel_rfl) rfl #[.slice A0 l0.length c0] rfl (by (try simp only [List.map_toArray, List.map_cons, List.map_nil]); first | done | rfl | (simp only [List.length_drop, List.length_take]; rfl)) ?_; (with_reducible refine (jj10.calls k _ _ l0 true _ ?side1 ?side2 A3.out).mono ?_); (case side1 => repeat (first | exact HR0.out | (with_reducible refine Kd.C_alloc ?_ _) | (with_reducible refine Kd.C_drewN ?_ _) | (with_reducible refine Kd.C_drew ?_))); (case side2 => exact HC0.out); rintro e w6 ⟨rfl, hb⟩; refine ⟨_, rfl, ?_⟩; have n0_ := Aside0.mk (below_step (by repeat (first | (with_reducible first | exact HB.out | apply below_alloc | apply pw_below_drewN | apply below_drew1) | exact HB.out)) hb); clear HB; have HB := n0_; clear n0_; (try clear hb); (try clear hb2); (try clear hk); (try clear hi)) | (go_at_call 26; (with_reducible refine (jj11.calls k _ _ l0 t574 _ ?side1 ?side2 A5.out).mono ?_); (case side1 => repeat (first | exact (Kd.C_below HR0.out HB.out) | (with_reducible refine Kd.C_alloc ?_ _) | (with_reducible refine Kd.C_drewN ?_ _) | (with_reducible refine Kd.C_drew ?_))); (case side2 => exact HC0.out); rintro e w7 ⟨rfl, hb⟩; have n0_ := Aside0.mk (below_step (by repeat (first | (with_reducible first | exact HB.out | apply below_alloc | apply pw_below_drewN | apply below_drew1) | exact HB.out)) hb); clear HB; have HB := n0_; clear n0_; (try clear hb); (try clear hb2); (try clear hk); (try clear hi)))
  go_ret
  exact ⟨by first | rfl | (simp [errW_none, errW_some] <;> rfl) | (simp [*, errW_none, errW_some] <;> rfl), by repeat (first | (with_reducible first | exact HB.out | apply below_alloc | apply pw_below_drewN | apply below_drew1) | exact HB.out)⟩
 ·replace c4 := Bool.eq_false_iff.mpr c4
  subst c4
  have H1 : (some false) = some r := by rw [if_neg (show ¬ (false = true) by decide)] at H; exact H
  clear H
  have H := H1
  clear H1
  obtain rfl := Option.some.inj H
  go_enter Try.func59, Try.ntmps59
  go_wp2_with (first | ((with_reducible refine gate_callee (f := 24) rfl ?_); refine goesL_ (some 6) rfl rfl Try.func24 (by kernel_rfl) rfl #[.slice A0 l0.length c0] rfl (by (try simp only [List.map_toArray, List.map_cons, List.map_nil]); first | done | rfl | (simp only [List.length_drop, List.length_take]; rfl)) ?_; (with_reducible refine (jj10.calls k _ _ l0 false _ ?side1 ?side2 A3.out).mono ?_); (case side1 => repeat (first | exact HR0.out | (with_reducible refine Kd.C_alloc ?_ _) | (with_reducible refine Kd.C_drewN ?_ _) | (with_reducible refine Kd.C_drew ?_))); (case side2 => exact HC0.out); rintro e w8 ⟨rfl, hb⟩; refine ⟨_, rfl, ?_⟩; have n0_ := Aside0.mk (below_step (by repeat (first | (with_reducible first | exact HB.out | apply below_alloc | apply pw_below_drewN | apply below_drew1) | exact HB.out)) hb); clear HB; have HB := n0_; clear n0_; (try clear hb); (try clear hb2); (try clear hk); (try clear hi)))
  go_ret
  exact ⟨by first | rfl | (simp [errW_none, errW_some] <;> rfl) | (simp [*, errW_none, errW_some] <;> rfl), by repeat (first | (with_reducible first | exact HB.out | apply below_alloc | apply pw_below_drewN | apply below_drew1) | exact HB.out)⟩
end Go.Proofs.Ythocalfgeaclgaa.P
end
-- MERGED YthocalfgeaclgaaRunA
section

namespace Go.Proofs.Ythocalfgeaclgaa.RunA
open Go.RowKit Go.Shelf Go.Proofs.Ythocalfgeaclgaa.P Go.Proofs.YthocalfgeaclgaaW.PrintWords Go.Proofs.YthocalfgeaclgaaW.PrintLast Go.Proofs.YthocalfgeaclgaaW.PrintMore Go.Proofs.Ythocalfgeaclgaa.Own Go.Proofs.Ythocalfgeaclgaa.EditL Go.Proofs.Ythocalfgeaclgaa.EditK Go.Proofs.Ythocalfgeaclgaa.EditF Go.Proofs.Ythocalfgeaclgaa.EditG Go.Proofs.Ythocalfgeaclgaa.EditR Go.Proofs.Ythocalfgeaclgaa.Bld Go.Proofs.Ythocalfgeaclgaa.EditJ
attribute [local go_sem] max2_int min2_int max_two min_two
set_option linter.unusedSimpArgs false
set_option linter.unusedVariables false
def apL : List Rn → ByteArray → ByteArray
 | [], _ => E
 | r :: l, s => (s.extract 0 r.f0.toNat ++ r.f1) ++ apL l (s.extract (r.f0 + r.f2).toNat s.size)
def fitsL (op : List Rn) (n : Int) : Bool := good op && decide (inL op = n)
theorem fits_f {op : List Rn} (hl : op.length ≤ 140737488351232) (n : Int) (k : Nat) (hk : op.length < k) : run_fits.f k op n = some (fitsL op n) := by
 unfold run_fits.f fitsL
 rw [good_f hl k hk, Option.bind_some]
 cases hg : good op with
 | false => rw [if_neg Bool.false_ne_true]; rfl
 | true =>
  rw [if_pos rfl, in_f hl k hk, Option.bind_some, hg, if_pos rfl, Bool.true_and]
  rfl
theorem fits_c (A0 : Option Addr) (c0 : Nat) (l0 : List Rn) (n : Int) (hc : l0.length ≤ c0) (hl : l0.length ≤ 140737488351232) (W : World) (h : RC W A0 l0) : Calls Try.prog 59 #[.slice A0 l0.length c0, .int .i64 n] W fun e w' => e = .returned (.bool (fitsL l0 n)) ∧ Below W.heap.size W w' :=
 run_fits.calls (l0.length + 1) A0 c0 l0 n _ W h hc (fits_f hl n _ (Nat.lt_succ_self _))
def ApPost (v : ByteArray × Int) (w : World) (e : Ending) (w' : World) : Prop := e = .returned (.tuple #[.string v.1, .int .i64 v.2]) ∧ Below w.heap.size w w'
set_option maxHeartbeats 4000000 in
set_option maxRecDepth 100000 in
theorem apply_no (A0 : Option Addr) (c0 : Nat) (l0 : List Rn) (s : ByteArray) (w : World) (h : RC w A0 l0) (hc : l0.length ≤ c0) (hl : l0.length ≤ 140737488351232) (hs : s.size ≤ 140737488351232) (hf : fitsL l0 s.size = false) :
  Calls Try.prog 39 #[.slice A0 l0.length c0, .string s] w (ApPost (E, 60) w) := by
 have HG := Aside0.mk (fits_c A0 c0 l0 s.size hc hl)
 rw [hf] at HG
 have H0 := Aside0.mk h
 clear h hc hl hf
 go_enter Try.func39, Try.ntmps39
 go_wp2_with (first | (go_at_call 59; refine (HG.out _ H0.out).mono ?_; rintro e w1 ⟨rfl, hb⟩; have HB := Aside0.mk hb; clear hb))
 go_ret2
 exact ⟨rfl, HB.out⟩
theorem grown_alloc (w : World) (o : Obj) : w.grownBy (w.alloc o) none := ⟨rfl, rfl, rfl, by simp, fun k hk _ => Own.heap_old w o k hk⟩
theorem Bl.alloc {B b : Nat} {s : ByteArray} {w : World} (h : Bl B b s w) (o : Obj) : Bl B b s (w.alloc o) := by
 have hat : ∀ p bs, Lib.BuilderAtF 88 5 B b p bs w → Lib.BuilderAtF 88 5 B b p bs (w.alloc o) := by
  rintro p bs ⟨hB, v, hb, hr, hne⟩
  exact ⟨hB, v, (Own.heap_old w o b (Array.getElem?_eq_some_iff.1 hb).1).trans hb, hr.kept (grown_alloc w o) (by cases v.ownBlock <;> simp), hne⟩
 exact h.elim (fun x => .inl (hat _ _ x)) (fun x => .inr (hat _ _ x))
theorem Bl.lt {B b : Nat} {s : ByteArray} {w : World} (h : Bl B b s w) : b < w.heap.size := by
 rcases h with ⟨_, v, hb, _⟩ | ⟨_, v, hb, _⟩ <;> exact (Array.getElem?_eq_some_iff.1 hb).1
theorem Bl.new (w : World) : Bl w.heap.size w.heap.size E (w.alloc (.cells #[.pointer none, .slice none 0 0] 88)) := Lib.IsBuilderF.of (Lib.fresh_isBuilder 88 5 w)
theorem ext_all (s : ByteArray) : s.extract 0 s.size = s := by
 apply ByteArray.ext; simp
theorem ext_none (s : ByteArray) : s.extract 0 0 = E := by
 apply ByteArray.ext; simp [E]
theorem ext_size (s : ByteArray) (a b : Nat) : (s.extract a b).size = min b s.size - a := ByteArray.size_extract
theorem app_assoc (a b c : ByteArray) : a ++ b ++ c = a ++ (b ++ c) := ByteArray.append_assoc
set_option maxHeartbeats 8000000 in
set_option maxRecDepth 100000 in
theorem apply_yes (A0 : Option Addr) (c0 : Nat) (l0 : List Rn) (s : ByteArray) (w : World) (h : RC w A0 l0) (hc : l0.length ≤ c0) (hl : l0.length ≤ 140737488351232) (hs : s.size ≤ 140737488351232) (hf : fitsL l0 s.size = true) :
  Calls Try.prog 39 #[.slice A0 l0.length c0, .string s] w (ApPost (apL l0 s, 0) w) := by
 have HG := Aside0.mk (fits_c A0 c0 l0 s.size hc hl)
 rw [hf] at HG
 unfold fitsL at hf
 simp only [Bool.and_eq_true, decide_eq_true_eq] at hf
 obtain ⟨hg, hin⟩ := hf
 have HI := Aside0.mk hin
 obtain ⟨_, hll, hfit, hk⟩ := good_ok hg
 have HO := Aside0.mk ((fits_iff hk 0 0 (by omega) (by omega)).1 hfit)
 have HK := Aside0.mk hk
 have H0 := Aside0.mk h
 clear h hc hl hg hin hfit hk
 go_enter Try.func39, Try.ntmps39
 go_wp2_with (first | (go_at_call 59; refine (HG.out _ H0.out).mono ?_; rintro e w1 ⟨rfl, hb⟩; have HB1 := Aside0.mk hb; clear hb))
 have HN := Aside0.mk (Bl.new w1)
 have HB2 := Aside0.mk (below_alloc HB1.out (.cells #[.pointer none, .slice none 0 0] 88))
 have HL2 := Aside0.mk (show w1.heap.size < (w1.alloc (.cells #[.pointer none, .slice none 0 0] 88)).heap.size by simp)
 obtain ⟨w2, hw2⟩ : ∃ w2, w2 = w1.alloc (.cells #[.pointer none, .slice none 0 0] 88) := ⟨_, rfl⟩
 have HB0 := Aside0.mk HB1.out.size
 rw [← hw2] at HN HB2 HL2 ⊢
 obtain ⟨B0, hB0⟩ : ∃ b, b = w1.heap.size := ⟨_, rfl⟩
 rw [← hB0] at HN HL2 HB0 ⊢
 clear hw2 hB0 HB1 HG
 go_loopw [1, 16] (fun sv iv wr => ∃ (j : Nat) (acc rest : ByteArray), j ≤ l0.length ∧ sv = .string rest ∧ iv = .int .i64 (j : Int) ∧ Bl B0 B0 acc wr ∧ acc ++ apL (l0.drop j) rest = apL l0 s ∧ inL (l0.drop j) = (rest.size : Int) ∧ (acc.size : Int) + outL (l0.drop j) ≤ 16777216 ∧ rest.size ≤ s.size ∧ Below w.heap.size w wr) (fun _ iv _ => l0.length - (intOf iv).toNat)
 case atStart => exact ⟨0, E, s, Nat.zero_le _, rfl, rfl, HN.out, E_add _, HI.out, by rw [E_size, List.drop_zero]; have := HO.out; omega, Nat.le_refl _, HB2.out⟩
 case round =>
  obtain ⟨j, acc, rest, hj, rfl, rfl, hbl, ha, hi, ho, hz, hb⟩ := hrel
  have HBL := Aside0.mk hbl
  have HA := Aside0.mk ha
  have HI1 := Aside0.mk hi
  have HO1 := Aside0.mk ho
  have HB := Aside0.mk hb
  clear hbl ha hi ho hb HN HB2 HI HO
  by_cases hlt : j < l0.length
  ·have hlt' : (j : Int) < (l0.length : Int) := by omega
   obtain ⟨ad, rfl, x0, x1, x2⟩ := at_nat (Kd.C_below H0.out HB.out) j hlt
   have hd := drop_get hlt
   have hmem : l0.getD j z37 ∈ l0 := by rw [List.getD_eq_getElem?_getD, List.getElem?_eq_getElem hlt]; exact List.getElem_mem hlt
   obtain ⟨r, hr⟩ : ∃ r, r = l0.getD j z37 := ⟨_, rfl⟩
   rw [← hr] at x0 x1 x2 hd hmem
   have h1 := HI1.out
   have h2 := HO1.out
   have h3 := HA.out
   rw [hd] at h1 h2 h3
   have h4 := inL_nonneg (l := l0.drop (j + 1)) (fun x hx => HK.out x (List.mem_of_mem_drop hx))
   have hne := HK.out r hmem
   clear hd hr
   obtain ⟨T, hT⟩ : ∃ T, T = l0.drop (j + 1) := ⟨_, rfl⟩
   have HT := Aside0.mk hT
   rw [← hT] at h1 h2 h3 h4
   clear hT hmem
   simp only [inL, outL, apL] at h1 h2 h3
   rcases knd_three hne with hk1 | hk1 | hk1
   ·obtain ⟨hre, hp, he1, he2⟩ := run_eq hk1
    clear hk1 hne
    obtain ⟨a, b, d⟩ := r
    simp only at x0 x1 x2 h1 h2 h3 hp he1 he2
    subst he1 he2
    clear hre
    have hsz : (rest.extract 0 a.toNat).size = a.toNat := by rw [ext_size]; omega
    have haR : a ≤ (rest.size : Int) := by omega
    have ha0 : 0 ≤ a := by omega
    have hw : wrap64 a = a := w64 (by omega) (by omega)
    have HAC := Aside0.mk (show acc.size + (rest.extract 0 a.toNat).size ≤ 140737488355328 by rw [hsz]; omega)
    have PA := Aside0.mk (show (acc ++ rest.extract 0 a.toNat) ++ apL (l0.drop (j + 1)) (rest.extract a.toNat rest.size) = apL l0 s by
     rw [Int.add_zero, add_E] at h3
     rw [← HT.out, app_assoc]; exact h3)
    have PI := Aside0.mk (show inL (l0.drop (j + 1)) = ((rest.extract a.toNat rest.size).size : Int) by rw [← HT.out, ext_size]; omega)
    have PZ := Aside0.mk (show (rest.extract a.toNat rest.size).size ≤ s.size by rw [ext_size]; omega)
    have PO := Aside0.mk (show ((acc ++ rest.extract 0 a.toNat).size : Int) + outL (l0.drop (j + 1)) ≤ 16777216 by rw [← HT.out, size_add, hsz]; rw [E_size] at h2; omega)
    have hbx : (wr.alloc (.cells #[.int .i64 a, .string E, .int .i64 0] 37)).heap[wr.heap.size]? = some (rcs a E 0) := Own.heap_new _ _
    have HBX := Aside0.mk hbx
    clear h1 h2 h3 h4 hsz hbx hz
    go_wp2_with (first | (go_at_call 60; refine (write_c B0 B0 acc _ _ (Bl.alloc HBL.out _) HAC.out (by have := (Bl.lt HBL.out); simp; omega)).mono ?_; rintro e w3 ⟨rfl, hbl, hb, hk⟩; have HBL3 := Aside0.mk hbl; have HBB := Aside0.mk ((below_alloc HB.out (.cells #[.int .i64 a, .string E, .int .i64 0] 37)).trans (hb.mono HB0.out)); obtain ⟨y0, y1, y2⟩ := blk_cells (hk _ _ HBX.out (by have := (Bl.lt HBL.out); intro e; injection e; omega) (by intro c fz e; unfold rcs at e; injection e; contradiction)); clear hbl hb hk x0 x1 x2))
    go_roundw
    case rel => exact ⟨j + 1, _, _, by omega, rfl, by go_num, HBL3.out, PA.out, PI.out, PO.out, PZ.out, HBB.out⟩
    case measure => simp [intOf]; omega
   ·obtain ⟨hre, hp, he1, he2⟩ := run_eq2 hk1
    clear hk1 hne
    obtain ⟨a, b, d⟩ := r
    simp only at x0 x1 x2 h1 h2 h3 hp he1 he2
    subst hp he2
    clear hre
    have HAC := Aside0.mk (show acc.size + b.size ≤ 140737488355328 by omega)
    have PA := Aside0.mk (show (acc ++ b) ++ apL (l0.drop (j + 1)) rest = apL l0 s by
     rw [show Int.toNat 0 = 0 from rfl, ext_none, E_add, show ((0 : Int) + 0).toNat = 0 from rfl, ext_all] at h3
     rw [← HT.out, app_assoc]; exact h3)
    have PI := Aside0.mk (show inL (l0.drop (j + 1)) = (rest.size : Int) by rw [← HT.out]; omega)
    have PZ := Aside0.mk hz
    have PO := Aside0.mk (show ((acc ++ b).size : Int) + outL (l0.drop (j + 1)) ≤ 16777216 by rw [← HT.out, size_add]; omega)
    clear h1 h2 h3 h4 hz
    go_wp2_with (first | (go_at_call 60; refine (write_c B0 B0 acc _ _ (Bl.alloc HBL.out _) HAC.out (by have := (Bl.lt HBL.out); simp; omega)).mono ?_; rintro e w3 ⟨rfl, hbl, hb, hk⟩; have HBL3 := Aside0.mk hbl; have HBB := Aside0.mk ((below_alloc HB.out (.cells #[.int .i64 0, .string b, .int .i64 0] 37)).trans (hb.mono HB0.out)); clear hbl hb hk x0 x1 x2))
    go_roundw
    case rel => exact ⟨j + 1, _, _, by omega, rfl, by go_num, HBL3.out, PA.out, PI.out, PO.out, PZ.out, HBB.out⟩
    case measure => simp [intOf]; omega
   ·obtain ⟨hre, hp, he1, he2⟩ := run_eq3 hk1
    clear hk1 hne
    obtain ⟨a, b, d⟩ := r
    simp only at x0 x1 x2 h1 h2 h3 hp he1 he2
    subst hp he1
    clear hre
    have hdR : d ≤ (rest.size : Int) := by omega
    have hd0 : 0 ≤ d := by omega
    have hw : wrap64 d = d := w64 (by omega) (by omega)
    have PA := Aside0.mk (show acc ++ apL (l0.drop (j + 1)) (rest.extract d.toNat rest.size) = apL l0 s by
     rw [show Int.toNat 0 = 0 from rfl, ext_none, E_add, E_add, Int.zero_add] at h3
     rw [← HT.out]; exact h3)
    have PI := Aside0.mk (show inL (l0.drop (j + 1)) = ((rest.extract d.toNat rest.size).size : Int) by rw [← HT.out, ext_size]; omega)
    have PZ := Aside0.mk (show (rest.extract d.toNat rest.size).size ≤ s.size by rw [ext_size]; omega)
    have PO := Aside0.mk (show (acc.size : Int) + outL (l0.drop (j + 1)) ≤ 16777216 by rw [← HT.out]; rw [E_size] at h2; omega)
    clear h1 h2 h3 h4 hz
    go_wp2_with fail
    go_roundw
    case rel => exact ⟨j + 1, _, _, by omega, rfl, by go_num, Bl.alloc HBL.out _, PA.out, PI.out, PO.out, PZ.out, below_alloc HB.out _⟩
    case measure => simp [intOf]; omega
  ·obtain rfl : j = l0.length := by omega
   have h3 := HA.out
   rw [List.drop_length] at h3
   have HE := Aside0.mk (show acc = apL l0 s by rw [← h3]; exact (add_E _).symm)
   clear h3
   have hlt' : ¬ ((l0.length : Int) < (l0.length : Int)) := by omega
   go_wp2_with (first | (go_at_call 61; refine (text_c B0 B0 acc _ HBL.out (by have := (Bl.lt HBL.out); omega)).mono ?_; rintro e w3 ⟨rfl, hb⟩; have HBB := Aside0.mk (HB.out.trans (hb.mono HB0.out)); clear hb))
   go_ret2
   exact ⟨by rw [HE.out]; rfl, HBB.out⟩
def app (l : List Rn) (s : ByteArray) : ByteArray × Int := if fitsL l s.size = true then (apL l s, 0) else (E, 60)
theorem apply_c (A0 : Option Addr) (c0 : Nat) (l0 : List Rn) (s : ByteArray) (w : World) (h : Kd.C k37 w A0 l0.length l0) (hc : l0.length ≤ c0) (hl : l0.length ≤ 140737488351232) (hs : s.size ≤ 140737488351232) :
  Calls Try.prog 39 #[.slice A0 l0.length c0, .string s] w fun e w' => e = .returned (.tuple #[.string (app l0 s).1, .int .i64 (app l0 s).2]) ∧ Below w.heap.size w w' := by
 unfold app
 by_cases hf : fitsL l0 s.size = true
 ·rw [if_pos hf]; exact apply_yes A0 c0 l0 s w h hc hl hs hf
 ·rw [if_neg hf]; exact apply_no A0 c0 l0 s w h hc hl hs (by simpa using hf)
end Go.Proofs.Ythocalfgeaclgaa.RunA
end
-- MERGED YthocalfgeaclgaaRunL
section

namespace Go.Proofs.Ythocalfgeaclgaa.RunL
open Go.RowKit Go.Proofs.Ythocalfgeaclgaa.P Go.Proofs.Ythocalfgeaclgaa.EditL Go.Proofs.Ythocalfgeaclgaa.EditK Go.Proofs.Ythocalfgeaclgaa.EditG Go.Proofs.Ythocalfgeaclgaa.RunA
set_option linter.unusedSimpArgs false
set_option linter.unusedVariables false
def L (s : ByteArray) : List UInt8 := s.data.toList
theorem L_len (s : ByteArray) : (L s).length = s.size := by unfold L; rw [Array.length_toList]; rfl
theorem L_app (a b : ByteArray) : L (a ++ b) = L a ++ L b := by unfold L; rw [ByteArray.data_append, Array.toList_append]
theorem L_cut (s : ByteArray) (a b : Nat) : L (s.extract a b) = ((L s).drop a).take (b - a) := by unfold L; rw [ByteArray.data_extract, Array.toList_extract, List.extract_eq_take_drop]
theorem L_take (s : ByteArray) (n : Nat) : L (s.extract 0 n) = (L s).take n := by rw [L_cut]; simp
theorem L_drop (s : ByteArray) (n : Nat) : L (s.extract n s.size) = (L s).drop n := by
 rw [L_cut, List.take_of_length_le]; rw [List.length_drop, L_len]; omega
theorem L_inj {a b : ByteArray} (h : L a = L b) : a = b := by
 apply ByteArray.ext
 exact Array.toList_inj.1 h
theorem L_E : L E = [] := rfl
theorem L_nil {a : ByteArray} (h : a.size = 0) : L a = [] := List.eq_nil_of_length_eq_zero (by rw [L_len]; exact h)
def apW : List Rn → List UInt8 → List UInt8
 | [], _ => []
 | r :: l, w => (w.take r.f0.toNat ++ L r.f1) ++ apW l (w.drop (r.f0 + r.f2).toNat)
theorem apW_eq (l : List Rn) : ∀ s : ByteArray, L (apL l s) = apW l (L s) := by
 induction l with
 | nil => intro s; rfl
 | cons r l ih =>
  intro s
  simp only [apL, apW]
  rw [L_app, L_app, L_take, ih, L_drop]
def nn (r : Rn) : Prop := 0 ≤ r.f0 ∧ 0 ≤ r.f2
theorem sums_nn {l : List Rn} (h : ∀ r ∈ l, nn r) : 0 ≤ inL l ∧ 0 ≤ outL l := by
 induction l with
 | nil => exact ⟨Int.le_refl _, Int.le_refl _⟩
 | cons r l ih =>
  have h1 := h r List.mem_cons_self
  have h2 := ih fun x hx => h x (List.mem_cons_of_mem _ hx)
  unfold nn at h1
  simp only [inL, outL]
  omega
theorem apW_len (l : List Rn) : ∀ w : List UInt8, (∀ r ∈ l, nn r) → inL l = (w.length : Int) → ((apW l w).length : Int) = outL l := by
 induction l with
 | nil => intro w _ _; rfl
 | cons r l ih =>
  intro w h hi
  have h1 := h r List.mem_cons_self
  have h2 : ∀ x ∈ l, nn x := fun x hx => h x (List.mem_cons_of_mem _ hx)
  have h3 := sums_nn h2
  unfold nn at h1
  simp only [inL] at hi
  simp only [outL, apW]
  rw [List.length_append, List.length_append, List.length_take, L_len]
  have := ih (w.drop (r.f0 + r.f2).toNat) h2 (by rw [List.length_drop]; omega)
  omega
theorem ap_keep {k : Int} (hk : 0 ≤ k) (m : List Rn) (w : List UInt8) : apW ((if 0 < k then [⟨k, E, 0⟩] else []) ++ m) w = w.take k.toNat ++ apW m (w.drop k.toNat) := by
 by_cases h : 0 < k
 ·rw [if_pos h]
  show (w.take k.toNat ++ L E) ++ apW m (w.drop (k + 0).toNat) = _
  rw [L_E, List.append_nil, Int.add_zero]
 ·obtain rfl : k = 0 := by omega
  rw [if_neg h]; rfl
theorem ap_add (a : ByteArray) (m : List Rn) (w : List UInt8) : apW ((if a.size ≠ 0 then [⟨0, a, 0⟩] else []) ++ m) w = L a ++ apW m w := by
 by_cases h : a.size = 0
 ·rw [if_neg (fun e => e h), L_nil h]; rfl
 ·rw [if_pos h]; rfl
theorem ap_drop {d : Int} (hd : 0 ≤ d) (m : List Rn) (w : List UInt8) : apW ((if 0 < d then [⟨0, E, d⟩] else []) ++ m) w = apW m (w.drop d.toNat) := by
 by_cases h : 0 < d
 ·rw [if_pos h]
  show (w.take (0 : Int).toNat ++ L E) ++ apW m (w.drop (0 + d).toNat) = _
  rw [L_E, List.append_nil, Int.zero_add]; rfl
 ·obtain rfl : d = 0 := by omega
  rw [if_neg h]; rfl
theorem ap_fl {k d : Int} (hk : 0 ≤ k) (hd : 0 ≤ d) (a : ByteArray) (m : List Rn) (w : List UInt8) : apW (fl k a d ++ m) w = apW (⟨k, a, d⟩ :: m) w := by
 unfold fl
 rw [List.append_assoc, List.append_assoc, ap_keep hk, ap_add, ap_drop hd, List.drop_drop]
 show _ = (w.take k.toNat ++ L a) ++ apW m (w.drop (k + d).toNat)
 rw [List.append_assoc, show (k + d).toNat = k.toNat + d.toNat by omega]
theorem ap_jn (l : List Rn) (h : ∀ r ∈ l, knd r ≠ 0) : ∀ (k : Int) (a : ByteArray) (d : Int) (w : List UInt8), 0 ≤ k → 0 ≤ d → apW (jn l k a d) w = apW (⟨k, a, d⟩ :: l) w := by
 induction l with
 | nil =>
  intro k a d w hk hd
  show apW (fl k a d) w = _
  rw [← ap_fl hk hd a [] w, List.append_nil]
 | cons r l ih =>
  intro k a d w hk hd
  have ih := ih fun x hx => h x (List.mem_cons_of_mem _ hx)
  have hr := h r List.mem_cons_self
  have hp := knd_pos hr
  by_cases hf : knd r = 1 ∧ (a.size ≠ 0 ∨ 0 < d)
  ·rw [jn_flush hf.1 hf.2, ap_fl hk hd]
   show (w.take k.toNat ++ L a) ++ apW (jn l r.f0 r.f1 r.f2) _ = (w.take k.toNat ++ L a) ++ apW (r :: l) _
   rw [ih _ _ _ _ hp.1 hp.2]
  ·rw [jn_on hf, ih _ _ _ _ (by omega) (by omega)]
   show (w.take (k + r.f0).toNat ++ L (a ++ r.f1)) ++ apW l (w.drop ((k + r.f0) + (d + r.f2)).toNat) = (w.take k.toNat ++ L a) ++ (((w.drop (k + d).toNat).take r.f0.toNat ++ L r.f1) ++ apW l ((w.drop (k + d).toNat).drop (r.f0 + r.f2).toNat))
   rw [List.drop_drop, show (k + d).toNat + (r.f0 + r.f2).toNat = ((k + r.f0) + (d + r.f2)).toNat by omega, L_app]
   by_cases h1 : knd r = 1
   ·obtain ⟨_, _, e1, e2⟩ := run_eq h1
    have ha : a.size = 0 ∧ d = 0 := by
     refine ⟨Classical.byContradiction fun e => hf ⟨h1, .inl e⟩, ?_⟩
     have : ¬ 0 < d := fun e => hf ⟨h1, .inr e⟩
     omega
    rw [L_nil ha.1, e1, L_E, ha.2, Int.add_zero, List.append_nil, List.append_nil, List.append_nil, List.append_nil, show (k + r.f0).toNat = k.toNat + r.f0.toNat by omega, List.take_add, List.append_assoc]
   ·have e0 : r.f0 = 0 := by
     rcases knd_three hr with h2 | h2 | h2
     ·exact absurd h2 h1
     ·exact (run_eq2 h2).2.1
     ·exact (run_eq3 h2).2.1
    rw [e0, Int.add_zero, show Int.toNat 0 = 0 from rfl, List.take_zero, List.nil_append, List.append_assoc, List.append_assoc, List.append_assoc]
def plain (r : Rn) : Prop := knd r ≠ 0 ∨ (r.f0 = 0 ∧ r.f1.size = 0 ∧ r.f2 = 0)
theorem plain_keep {k : Int} (h : 0 ≤ k) : plain ⟨k, E, 0⟩ := by
 by_cases h1 : 0 < k
 ·exact .inl (by rw [knd_keep h1]; decide)
 ·exact .inr ⟨by show k = 0; omega, rfl, rfl⟩
theorem plain_add (a : ByteArray) : plain ⟨0, a, 0⟩ := by
 by_cases h : a.size = 0
 ·exact .inr ⟨rfl, h, rfl⟩
 ·exact .inl (by rw [knd_add h]; decide)
theorem plain_drop {d : Int} (h : 0 ≤ d) : plain ⟨0, E, d⟩ := by
 by_cases h1 : 0 < d
 ·exact .inl (by rw [knd_drop h1]; decide)
 ·exact .inr ⟨rfl, rfl, by show d = 0; omega⟩
theorem sums_fine {l : List Rn} (h : ∀ r ∈ l, plain r) : inL (fine l) = inL l ∧ outL (fine l) = outL l := by
 induction l with
 | nil => exact ⟨rfl, rfl⟩
 | cons r l ih =>
  have h1 := ih fun x hx => h x (List.mem_cons_of_mem _ hx)
  have h2 := h r List.mem_cons_self
  rw [fine_cons]
  by_cases c : knd r = 0
  ·rw [if_neg (fun h => h c)]
   rcases h2 with h2 | h2
   ·exact absurd c h2
   ·simp only [inL, outL]; omega
  ·rw [if_pos c]
   simp only [inL, outL]; omega
theorem ap_fine {l : List Rn} (h : ∀ r ∈ l, plain r) : ∀ w, apW (fine l) w = apW l w := by
 induction l with
 | nil => intro w; rfl
 | cons r l ih =>
  intro w
  have h1 := ih fun x hx => h x (List.mem_cons_of_mem _ hx)
  have h2 := h r List.mem_cons_self
  rw [fine_cons]
  by_cases c : knd r = 0
  ·rw [if_neg (fun h => h c)]
   rcases h2 with h2 | ⟨e0, e1, e2⟩
   ·exact absurd c h2
   ·simp only [apW]
    rw [e0, e2, L_nil e1, h1]; rfl
  ·rw [if_pos c]
   simp only [apW]
   rw [h1]
structure Normed (l : List Rn) (m : List Rn) : Prop where
 good : good m = true
 i : inL m = inL l
 o : outL m = outL l
 ap : ∀ w, apW m w = apW l w
 len : m.length ≤ 3 * l.length + 3
theorem norm_ok {l : List Rn} (h : ∀ r ∈ l, plain r) (hi : inL l ≤ 16777216) (ho : outL l ≤ 16777216) (hl : 3 * l.length + 3 ≤ 65536) : Normed l (norm l) := by
 have h1 := sums_fine h
 have hf : fits (fine l) 0 0 = true := (fits_iff (fine_ok l) 0 0 (by decide) (by decide)).2 (by omega)
 have h2 := norm_sums (l := l) hf hl
 refine ⟨h2.1, h2.2.1.trans h1.1, h2.2.2.trans h1.2, fun w => ?_, ?_⟩
 ·rw [(norm_fits hf hl).1]
  unfold out
  rw [ap_jn _ (fine_ok l) _ _ _ _ (Int.le_refl _) (Int.le_refl _)]
  show (w.take (0 : Int).toNat ++ L E) ++ apW (fine l) (w.drop (0 + 0 : Int).toNat) = _
  exact ap_fine h w
 ·rw [(norm_fits hf hl).1]; exact out_len l
def backL : List Rn → ByteArray → List Rn
 | [], _ => []
 | r :: l, s => [⟨r.f0, E, 0⟩, ⟨0, E, (r.f1.size : Int)⟩, ⟨0, s.extract r.f0.toNat (r.f0 + r.f2).toNat, 0⟩] ++ backL l (s.extract (r.f0 + r.f2).toNat s.size)
theorem back_len (l : List Rn) : ∀ s, (backL l s).length = 3 * l.length := by
 induction l with
 | nil => intro s; rfl
 | cons r l ih => intro s; simp only [backL]; rw [List.length_append, ih]; simp; omega
theorem back_in (l : List Rn) : ∀ s, inL (backL l s) = outL l := by
 induction l with
 | nil => intro s; rfl
 | cons r l ih =>
  intro s
  simp only [backL, outL]
  rw [inL_append, ih]
  simp only [inL]; omega
theorem back_out (l : List Rn) : ∀ s : ByteArray, (∀ r ∈ l, nn r) → inL l = (s.size : Int) → outL (backL l s) = inL l := by
 induction l with
 | nil => intro s _ _; rfl
 | cons r l ih =>
  intro s h hi
  have h1 := h r List.mem_cons_self
  have h2 : ∀ x ∈ l, nn x := fun x hx => h x (List.mem_cons_of_mem _ hx)
  have h3 := sums_nn h2
  unfold nn at h1
  simp only [inL] at hi
  simp only [backL, inL]
  rw [outL_append, ih _ h2 (by rw [ext_size]; omega)]
  simp only [outL]
  rw [ext_size, E_size]
  omega
theorem back_plain (l : List Rn) : ∀ s : ByteArray, (∀ r ∈ l, nn r) → ∀ r ∈ backL l s, plain r := by
 induction l with
 | nil => intro s _ r hr; cases hr
 | cons r l ih =>
  intro s h x hx
  simp only [backL] at hx
  rcases List.mem_append.1 hx with hx | hx
  ·simp only [List.mem_cons, List.not_mem_nil, or_false] at hx
   rcases hx with rfl | rfl | rfl
   ·exact plain_keep (h r List.mem_cons_self).1
   ·exact plain_drop (by omega)
   ·exact plain_add _
  ·exact ih _ (fun x hx => h x (List.mem_cons_of_mem _ hx)) x hx
theorem back_ap (l : List Rn) : ∀ s : ByteArray, (∀ r ∈ l, nn r) → inL l = (s.size : Int) → apW (backL l s) (apW l (L s)) = L s := by
 induction l with
 | nil =>
  intro s _ hi
  exact (L_nil (by have : (0 : Int) = (s.size : Int) := hi; omega)).symm
 | cons r l ih =>
  intro s h hi
  have h1 := h r List.mem_cons_self
  have h2 : ∀ x ∈ l, nn x := fun x hx => h x (List.mem_cons_of_mem _ hx)
  have h3 := sums_nn h2
  unfold nn at h1
  simp only [inL] at hi
  have hl := L_len s
  have e := ih (s.extract (r.f0 + r.f2).toNat s.size) h2 (by rw [ext_size]; omega)
  rw [L_drop] at e
  have ha : r.f0.toNat ≤ (L s).length := by omega
  show (((((L s).take r.f0.toNat ++ L r.f1) ++ apW l ((L s).drop (r.f0 + r.f2).toNat)).take r.f0.toNat ++ L E) ++ apW ([⟨0, E, (r.f1.size : Int)⟩, ⟨0, s.extract r.f0.toNat (r.f0 + r.f2).toNat, 0⟩] ++ backL l (s.extract (r.f0 + r.f2).toNat s.size)) ((((L s).take r.f0.toNat ++ L r.f1) ++ apW l ((L s).drop (r.f0 + r.f2).toNat)).drop (r.f0 + 0).toNat)) = L s
  rw [Int.add_zero, L_E, List.append_nil, List.append_assoc, List.take_append_of_le_length (by rw [List.length_take]; omega), List.take_take, Nat.min_self, List.drop_append_of_le_length (by rw [List.length_take]; omega), List.drop_eq_nil_of_le (by rw [List.length_take]; omega), List.nil_append]
  generalize hV : apW l ((L s).drop (r.f0 + r.f2).toNat) = V at e ⊢
  show _ ++ (((L r.f1 ++ V).take (0 : Int).toNat ++ L E) ++ (((((L r.f1 ++ V).drop (0 + (r.f1.size : Int)).toNat).take (0 : Int).toNat) ++ L (s.extract r.f0.toNat (r.f0 + r.f2).toNat)) ++ apW (backL l (s.extract (r.f0 + r.f2).toNat s.size)) (((L r.f1 ++ V).drop (0 + (r.f1.size : Int)).toNat).drop ((0 : Int) + 0).toNat))) = L s
  rw [show (0 : Int).toNat = 0 from rfl, show ((0 : Int) + 0).toNat = 0 from rfl, List.take_zero, List.take_zero, List.drop_zero, L_E, List.nil_append, List.nil_append, Int.zero_add, Int.toNat_natCast, ← L_len r.f1, List.drop_left, e, L_cut]
  rw [show (r.f0 + r.f2).toNat = r.f0.toNat + ((r.f0 + r.f2).toNat - r.f0.toNat) by omega, ← List.drop_drop, Nat.add_sub_cancel_left, List.nil_append, List.take_append_drop, List.take_append_drop]
theorem nn_good {l : List Rn} (h : good l = true) : ∀ r ∈ l, nn r := fun r hr => knd_pos ((good_ok h).2.2.2 r hr)
theorem sums_good {l : List Rn} (h : good l = true) : 0 ≤ inL l ∧ inL l ≤ 16777216 ∧ 0 ≤ outL l ∧ outL l ≤ 16777216 := by
 obtain ⟨_, _, h2, h3⟩ := good_ok h
 have h4 := (fits_iff h3 0 0 (by decide) (by decide)).1 h2
 have h5 := inL_nonneg h3
 omega
theorem ap_size {l : List Rn} (h : good l = true) {s : ByteArray} (hi : inL l = (s.size : Int)) : ((apL l s).size : Int) = outL l := by
 rw [← L_len, apW_eq]
 exact apW_len l (L s) (nn_good h) (by rw [L_len]; exact hi)
theorem undo {l : List Rn} (h : good l = true) {s : ByteArray} (hi : inL l = (s.size : Int)) (hl : l.length ≤ 5000) :
  Normed (backL l s) (norm (backL l s)) ∧ inL (norm (backL l s)) = ((apL l s).size : Int) ∧ apL (norm (backL l s)) (apL l s) = s := by
 have hn := nn_good h
 have hs := sums_good h
 have ho := back_out l s hn hi
 have hN : Normed (backL l s) (norm (backL l s)) := norm_ok (back_plain l s hn) (by rw [back_in]; omega) (by rw [ho]; omega) (by rw [back_len]; omega)
 refine ⟨hN, by rw [hN.i, back_in, ap_size h hi], L_inj ?_⟩
 rw [apW_eq, hN.ap, apW_eq, back_ap l s hn hi]
end Go.Proofs.Ythocalfgeaclgaa.RunL
end
-- MERGED YthocalfgeaclgaaPvariorumref07Fits
section

namespace Go.Proofs.Ythocalfgeaclgaa.P
open Go.RowKit Go.Proofs.YthocalfgeaclgaaW.PrintWords Go.Proofs.YthocalfgeaclgaaW.PrintLast Go.Proofs.YthocalfgeaclgaaW.PrintMore
attribute [local go_sem] max2_int min2_int max_two min_two max_three min_three max_four min_four
set_option linter.unusedVariables false
set_option linter.unusedSimpArgs false
def jj46.f (k : Nat) (l0 : List (S37)) (a1 : ByteArray) : Option (Bool) := (jj2.f l0).bind fun t459 => (if t459 = true then ((jj3.f k l0).bind fun t460 => (some (t460 == (a1.size : Int)))) else (some false))
theorem jj46.mono : ∀ a0 a1 k, LeO (jj46.f k a0 a1) (jj46.f (k + 1) a0 a1) := by
 intro a0 a1 k
 unfold jj46.f
 repeat' first
   | (with_reducible exact jj3.mono _ _)
   | (with_reducible exact LeO.refl _)
   | (with_reducible exact LeO.none _)
   | (with_reducible refine LeO.ite ?_ ?_)
   | (with_reducible refine LeO.bind ?_ (fun _ => ?_))
   | exact jj3.mono _ _
   | exact LeO.none _
   | refine LeO.ite ?_ ?_
   | refine LeO.bind ?_ (fun _ => ?_)
set_option maxHeartbeats 8000000 in
set_option maxRecDepth 100000 in
theorem jj46.calls (k : Nat) (A0 : Option Addr) (c0 : Nat) (l0 : List (S37)) (a1 : ByteArray) (r : Bool) (w : World) (hr0 : Kd.C k37 w A0 l0.length l0) (hc0 : l0.length ≤ c0) (h : jj46.f k l0 a1 = some r) :
  Calls Try.prog 38 #[.slice A0 l0.length c0, .string a1] w fun e w' => e = .returned (.bool r) ∧ Below w.heap.size w w' := by
 have HR0 := Aside0.mk hr0
 have HC0 := Aside0.mk hc0
 clear hr0 hc0
 have HB := Aside0.mk (Below.refl w.heap.size w)
 have H : ((jj2.f l0).bind fun t459 => (if t459 = true then ((jj3.f k l0).bind fun t460 => (some (t460 == (a1.size : Int)))) else (some false))) = some r := h
 clear h
 replace H := Option.bind_eq_some_iff.mp H
 obtain ⟨t459, A30, H⟩ := H
 replace H : (if t459 = true then ((jj3.f k l0).bind fun t460 => (some (t460 == (a1.size : Int)))) else (some false)) = some r := H
 have A3 := Aside0.mk A30
 clear A30
 by_cases c4 : t459 = true
 ·subst c4
  have H1 : ((jj3.f k l0).bind fun t460 => (some (t460 == (a1.size : Int)))) = some r := by rw [if_pos rfl] at H; exact H
  clear H
  have H := H1
  clear H1
  replace H := Option.bind_eq_some_iff.mp H
  obtain ⟨t460, A50, H⟩ := H
  replace H : (some (t460 == (a1.size : Int))) = some r := H
  have A5 := Aside0.mk A50
  clear A50
  obtain rfl := Option.some.inj H
  go_enter Try.func38, Try.ntmps38
  go_wp2_with (first | ((with_reducible refine gate_callee (f := 18) rfl ?_); refine goesL_ (some 6) rfl rfl Try.func18 (by kernel_rfl) rfl #[.slice A0 l0.length c0] rfl (by (try simp only [List.map_toArray, List.map_cons, List.map_nil]); first | done | rfl | (simp only [List.length_drop, List.length_take]; rfl)) ?_; (with_reducible refine (jj2.calls _ _ l0 true _ ?side1 ?side2 A3.out).mono ?_); (case side1 => repeat (first | exact HR0.out | (with_reducible refine Kd.C_alloc ?_ _) | (with_reducible refine Kd.C_drewN ?_ _) | (with_reducible refine Kd.C_drew ?_))); (case side2 => exact HC0.out); rintro e w6 ⟨rfl, hb⟩; refine ⟨_, rfl, ?_⟩; have n0_ := Aside0.mk (below_step (by repeat (first | (with_reducible first | exact HB.out | apply below_alloc | apply pw_below_drewN | apply below_drew1) | exact HB.out)) hb); clear HB; have HB := n0_; clear n0_; (try clear hb); (try clear hb2); (try clear hk); (try clear hi)) | (go_at_call 19; (with_reducible refine (jj3.calls k _ _ l0 t460 _ ?side1 ?side2 A5.out).mono ?_); (case side1 => repeat (first | exact (Kd.C_below HR0.out HB.out) | (with_reducible refine Kd.C_alloc ?_ _) | (with_reducible refine Kd.C_drewN ?_ _) | (with_reducible refine Kd.C_drew ?_))); (case side2 => exact HC0.out); rintro e w7 ⟨rfl, hb⟩; have n0_ := Aside0.mk (below_step (by repeat (first | (with_reducible first | exact HB.out | apply below_alloc | apply pw_below_drewN | apply below_drew1) | exact HB.out)) hb); clear HB; have HB := n0_; clear n0_; (try clear hb); (try clear hb2); (try clear hk); (try clear hi)))
  go_ret
  exact ⟨by first | rfl | (simp [errW_none, errW_some] <;> rfl) | (simp [*, errW_none, errW_some] <;> rfl), by repeat (first | (with_reducible first | exact HB.out | apply below_alloc | apply pw_below_drewN | apply below_drew1) | exact HB.out)⟩
 ·replace c4 := Bool.eq_false_iff.mpr c4
  subst c4
  have H1 : (some false) = some r := by rw [if_neg (show ¬ (false = true) by decide)] at H; exact H
  clear H
  have H := H1
  clear H1
  obtain rfl := Option.some.inj H
  go_enter Try.func38, Try.ntmps38
  go_wp2_with (first | ((with_reducible refine gate_callee (f := 18) rfl ?_); refine goesL_ (some 6) rfl rfl Try.func18 (by kernel_rfl) rfl #[.slice A0 l0.length c0] rfl (by (try simp only [List.map_toArray, List.map_cons, List.map_nil]); first | done | rfl | (simp only [List.length_drop, List.length_take]; rfl)) ?_; (with_reducible refine (jj2.calls _ _ l0 false _ ?side1 ?side2 A3.out).mono ?_); (case side1 => repeat (first | exact HR0.out | (with_reducible refine Kd.C_alloc ?_ _) | (with_reducible refine Kd.C_drewN ?_ _) | (with_reducible refine Kd.C_drew ?_))); (case side2 => exact HC0.out); rintro e w8 ⟨rfl, hb⟩; refine ⟨_, rfl, ?_⟩; have n0_ := Aside0.mk (below_step (by repeat (first | (with_reducible first | exact HB.out | apply below_alloc | apply pw_below_drewN | apply below_drew1) | exact HB.out)) hb); clear HB; have HB := n0_; clear n0_; (try clear hb); (try clear hb2); (try clear hk); (try clear hi)))
  go_ret
  exact ⟨by first | rfl | (simp [errW_none, errW_some] <;> rfl) | (simp [*, errW_none, errW_some] <;> rfl), by repeat (first | (with_reducible first | exact HB.out | apply below_alloc | apply pw_below_drewN | apply below_drew1) | exact HB.out)⟩
end Go.Proofs.Ythocalfgeaclgaa.P
end
-- MERGED YthocalfgeaclgaaPrunApply
section

namespace Go.Proofs.Ythocalfgeaclgaa.P
open Go.RowKit Go.Proofs.YthocalfgeaclgaaW.PrintWords Go.Proofs.YthocalfgeaclgaaW.PrintLast Go.Proofs.YthocalfgeaclgaaW.PrintMore
attribute [local go_sem] max2_int min2_int max_two min_two max_three min_three max_four min_four
set_option linter.unusedVariables false
set_option linter.unusedSimpArgs false
def run_Apply.f (l0 : List (S37)) (a1 : ByteArray) : Option (ByteArray × Int) := if l0.length ≤ 140737488351232 ∧ a1.size ≤ 140737488351232 then some (RunA.app l0 a1) else none
theorem run_Apply.calls (A0 : Option Addr) (c0 : Nat) (l0 : List (S37)) (a1 : ByteArray) (r1 : ByteArray) (r2 : Int) (w : World) (hr0 : Kd.C k37 w A0 l0.length l0) (hc0 : l0.length ≤ c0) (h : run_Apply.f l0 a1 = some (r1, r2)) :
  Calls Try.prog 39 #[.slice A0 l0.length c0, .string a1] w fun e w' => e = .returned (.tuple #[.string r1, .int .i64 r2]) ∧ Below w.heap.size w w' := by
 unfold run_Apply.f at h
 by_cases hl : l0.length ≤ 140737488351232 ∧ a1.size ≤ 140737488351232
 ·rw [if_pos hl] at h
  have h2 := Option.some.inj h
  have := RunA.apply_c A0 c0 l0 a1 w hr0 hc0 hl.1 hl.2
  rw [h2] at this
  exact this
 ·rw [if_neg hl] at h; cases h
end Go.Proofs.Ythocalfgeaclgaa.P
end

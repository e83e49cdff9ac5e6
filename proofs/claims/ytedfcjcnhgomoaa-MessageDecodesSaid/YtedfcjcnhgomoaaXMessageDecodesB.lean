/- Shaken: what the claim's theorem needs of our texts, of the printed ones and of the print's words. -/
import Derived.Test.YtedfcjcnhgomoaaXMessageDecodesA
import Derived.Test.YtedfcjcnhgomoaaProg
import Derived.Below
import Derived.Deep.Draws
import Derived.Deep.AppendLies
import Derived.Maps.AppendAt
import Derived.OwnWalk
import Derived.Laws.BytesArg
import Derived.Laws.MakeOwn
import Derived.Laws.OwnMore
import Derived.Deep.OwnRows
import Derived.Tactics
import Derived.Lib.ConvBytes
import Derived.Laws.Slices
import Derived.WalkKit
import Derived.KernelRfl
import Derived.RowKit3
import Derived.Deep.LoopGhost
import Derived.Deep.QuietTactic
import Derived.BigQuiet
import Derived.WideLaws
import Derived.Deep.DeepCutAuto
import Derived.Deep.CutBlock
import Derived.Deep.RegionHeld3
import Derived.Laws.Rows
import Derived.Lib.AppendStr
import Derived.ArgAppend
import Derived.Laws.IdiomCopy
import Derived.OrdersHeld
import Derived.Laws.BitsLemmas
import Derived.RowKit
import Derived.Lib.SlBytesConst
import Derived.Lib.SmallJoins
import Derived.Deep.Upon
import Derived.Lib.Bytes
import GoSem.Claim
import Derived.Outline
-- MERGED YtedfcjcnhgomoaaPBase
section
namespace Go.Proofs.Ytedfcjcnhgomoaa.P
open Go.RowKit Go.Proofs.YtedfcjcnhgomoaaW.PrintWords Go.Proofs.YtedfcjcnhgomoaaW.PrintLast Go.Proofs.YtedfcjcnhgomoaaW.PrintMore
attribute [local go_sem] max2_int min2_int max_two min_two max_three min_three max_four min_four   -- for this text's walks alone
set_option linter.unusedVariables false
set_option linter.unusedSimpArgs false
def errW : Option Int → Value
 | none => .nilIface
 | some c => .iface 0 (.int .i64 c)
theorem errW_none : errW none = .nilIface := rfl
theorem errW_some (c : Int) : errW (some c) = .iface 0 (.int .i64 c) := rfl
theorem info5 : (Try.prog.info? 5).map (fun i => (i.zero, i.size, i.bytes)) = some (some (.int .u8 0), 1, 1) := by kernel_rfl
structure S85 where
 f0 : Int
 f1 : ByteArray
 f2 : Int
def z85 : S85 := ⟨(0 : Int), (⟨#[]⟩ : ByteArray), (0 : Int)⟩
def k85 : Kd S85 := Kd.iso (Kd.pair (Kd.int .i64) (Kd.pair Kd.string (Kd.int .i64))) (fun x : S85 => (x.f0, x.f1, x.f2))
theorem k85_open {w : World} {x : S85} {cs : List Value} (h : k85.K w x cs) : cs = [.int .i64 x.f0, .string x.f1, .int .i64 x.f2] := by
 obtain ⟨_, _, rfl, rfl, ⟨_, _, rfl, rfl, rfl⟩⟩ := h
 exact rfl
theorem k85_mk (w : World) (x : S85)  : k85.K w x [.int .i64 x.f0, .string x.f1, .int .i64 x.f2] := ⟨[.int .i64 x.f0], [.string x.f1, .int .i64 x.f2], rfl, rfl, ⟨[.string x.f1], [.int .i64 x.f2], rfl, rfl, rfl⟩⟩
theorem k85_mkM (w : World) (base : Nat) (ok : Nat → Prop) (x : S85)  : k85.M w base ok x [.int .i64 x.f0, .string x.f1, .int .i64 x.f2] := ⟨[.int .i64 x.f0], [.string x.f1, .int .i64 x.f2], rfl, rfl, ⟨[.string x.f1], [.int .i64 x.f2], rfl, rfl, rfl⟩⟩
def rd_T85 (xs : List S85) (i : Int) : S85 := xs.getD i.toNat z85
theorem at_T85 {w : World} {A : Option Addr} {n : Nat} {xs : List S85} (h : Kd.C k85 w A n xs) (i : Int) (h0 : 0 ≤ i) (h1 : i < n) : ∃ ad , A = some ad ∧ w.cell? (ad.add (i.toNat * 3)) = some (.int .i64 (rd_T85 xs i).f0) ∧ w.cell? ⟨(ad.add (i.toNat * 3)).block, (ad.add (i.toNat * 3)).off + 1, none⟩ = some (.string (rd_T85 xs i).f1) ∧ w.cell? ⟨(ad.add (i.toNat * 3)).block, (ad.add (i.toNat * 3)).off + 2, none⟩ = some (.int .i64 (rd_T85 xs i).f2) := by
 obtain ⟨ad, c, e, _, hK, hc0⟩ := Kd.C_get h z85 i h0 h1
 have hc : ∀ j u, c[j]? = some u → w.cell? (ad.add (i.toNat * 3 + j)) = some u := hc0
 obtain rfl := k85_open hK
 exact ⟨ad, e, hc 0 _ rfl, by rw [← add_field _ _ 1 (by omega)]; exact hc 1 _ rfl, by rw [← add_field _ _ 2 (by omega)]; exact hc 2 _ rfl⟩
structure S102 where
 f0 : Int
 f1 : Int
def z102 : S102 := ⟨(0 : Int), (0 : Int)⟩
def k102 : Kd S102 := Kd.iso (Kd.pair (Kd.int .i64) (Kd.int .i64)) (fun x : S102 => (x.f0, x.f1))
theorem k102_open {w : World} {x : S102} {cs : List Value} (h : k102.K w x cs) : cs = [.int .i64 x.f0, .int .i64 x.f1] := by
 obtain ⟨_, _, rfl, rfl, rfl⟩ := h
 exact rfl
theorem k102_mk (w : World) (x : S102)  : k102.K w x [.int .i64 x.f0, .int .i64 x.f1] := ⟨[.int .i64 x.f0], [.int .i64 x.f1], rfl, rfl, rfl⟩
theorem k102_mkM (w : World) (base : Nat) (ok : Nat → Prop) (x : S102)  : k102.M w base ok x [.int .i64 x.f0, .int .i64 x.f1] := ⟨[.int .i64 x.f0], [.int .i64 x.f1], rfl, rfl, rfl⟩
structure S104 where
 f0 : S102
 f1 : Int
def z104 : S104 := ⟨z102, (0 : Int)⟩
def k104 : Kd S104 := Kd.iso (Kd.pair k102 (Kd.int .i64)) (fun x : S104 => (x.f0, x.f1))
theorem k104_open {w : World} {x : S104} {cs : List Value} (h : k104.K w x cs) : cs = [.int .i64 x.f0.f0, .int .i64 x.f0.f1, .int .i64 x.f1] := by
 obtain ⟨_, _, rfl, s0, rfl⟩ := h
 obtain rfl := k102_open s0
 exact rfl
theorem k104_mk (w : World) (x : S104)  : k104.K w x [.int .i64 x.f0.f0, .int .i64 x.f0.f1, .int .i64 x.f1] := ⟨[.int .i64 x.f0.f0, .int .i64 x.f0.f1], [.int .i64 x.f1], rfl, (k102_mk w x.f0 ), rfl⟩
theorem k104_mkM (w : World) (base : Nat) (ok : Nat → Prop) (x : S104)  : k104.M w base ok x [.int .i64 x.f0.f0, .int .i64 x.f0.f1, .int .i64 x.f1] := ⟨[.int .i64 x.f0.f0, .int .i64 x.f0.f1], [.int .i64 x.f1], rfl, (k102_mkM w base ok x.f0 ), rfl⟩
def rd_T104 (xs : List S104) (i : Int) : S104 := xs.getD i.toNat z104
theorem at_T104 {w : World} {A : Option Addr} {n : Nat} {xs : List S104} (h : Kd.C k104 w A n xs) (i : Int) (h0 : 0 ≤ i) (h1 : i < n) : ∃ ad , A = some ad ∧ w.cell? (ad.add (i.toNat * 3)) = some (.int .i64 (rd_T104 xs i).f0.f0) ∧ w.cell? ⟨(ad.add (i.toNat * 3)).block, (ad.add (i.toNat * 3)).off + 1, none⟩ = some (.int .i64 (rd_T104 xs i).f0.f1) ∧ w.cell? ⟨(ad.add (i.toNat * 3)).block, (ad.add (i.toNat * 3)).off + 2, none⟩ = some (.int .i64 (rd_T104 xs i).f1) := by
 obtain ⟨ad, c, e, _, hK, hc0⟩ := Kd.C_get h z104 i h0 h1
 have hc : ∀ j u, c[j]? = some u → w.cell? (ad.add (i.toNat * 3 + j)) = some u := hc0
 obtain rfl := k104_open hK
 exact ⟨ad, e, hc 0 _ rfl, by rw [← add_field _ _ 1 (by omega)]; exact hc 1 _ rfl, by rw [← add_field _ _ 2 (by omega)]; exact hc 2 _ rfl⟩
end Go.Proofs.Ytedfcjcnhgomoaa.P
end
-- MERGED YtedfcjcnhgomoaaOwn
section
namespace Go.Proofs.Ytedfcjcnhgomoaa.Own
open Go.RowKit Go.Proofs.YtedfcjcnhgomoaaW.PrintWords Go.Proofs.YtedfcjcnhgomoaaW.PrintLast Go.Proofs.YtedfcjcnhgomoaaW.PrintMore
theorem C_of_block {α : Type} (d : Kd α) {W : World} {g : Nat} {C : Array Value} {t : TypeId} {fr : Nat × Nat} {xs : List α} {inner : List Value} (h : W.heap[g]? = some (.cells C t fr))
  (hr : Reps (d.K W) d.sz xs inner) (hC : ∀ (j : Nat) (u : Value), inner[j]? = some u → C[j]? = some u) (hm : xs.length ≤ 9223372036854775807) : Kd.C d W (some ⟨g, 0, none⟩) xs.length xs := by
 refine ⟨rfl, hm, fun _ => ⟨_, rfl, fun j p hj => ?_⟩⟩
 refine ⟨(inner.drop (j * d.sz)).take d.sz, ?_, hr.2 j p hj, fun i u hu => ?_⟩
 ·exact d.K_len (hr.2 j p hj)
 ·have hl : i < d.sz := by
   have := (List.getElem?_eq_some_iff.1 hu).1
   rw [List.length_take] at this
   omega
  rw [List.getElem?_take_of_lt hl, List.getElem?_drop] at hu
  rw [add_plain, World.cell?, h]
  simp only []
  exact hC _ _ hu
theorem reps_nums (k : IntKind) (W : World) (xs : List Int) : Reps ((Kd.int k).K W) (Kd.int k).sz xs (nums k xs) := by
 refine ⟨by rw [nums_length]; exact (Nat.mul_one _).symm, fun j p hj => ?_⟩
 show ((nums k xs).drop (j * 1)).take 1 = [.int k p]
 rw [Nat.mul_one]
 have h1 : (nums k xs)[j]? = some (.int k p) := by simp [nums, hj]
 obtain ⟨hl, he⟩ := List.getElem?_eq_some_iff.1 h1
 rw [List.drop_eq_getElem_cons hl, he]
 rfl
theorem C_of_nums (k : IntKind) {W : World} {g : Nat} {C : Array Value} {t : TypeId} {fr : Nat × Nat} (xs : List Int) (h : W.heap[g]? = some (.cells C t fr)) (hC : ∀ (j : Nat) (u : Value), (nums k xs)[j]? = some u → C[j]? = some u)
  (hm : xs.length ≤ 9223372036854775807) : Kd.C (Kd.int k) W (some ⟨g, 0, none⟩) xs.length xs := C_of_block (Kd.int k) h (reps_nums k W xs) hC hm
theorem C_of_lit (k : IntKind) {W : World} {g : Nat} {C : Array Value} {t : TypeId} {fr : Nat × Nat} (xs : List Int) (h : W.heap[g]? = some (.cells C t fr)) (hC : C.toList = nums k xs)
  (hm : xs.length ≤ 9223372036854775807) : Kd.C (Kd.int k) W (some ⟨g, 0, none⟩) xs.length xs := C_of_nums k xs h (fun j u hu => by rw [← hC, Array.getElem?_toList] at hu; exact hu) hm
theorem nums_at {k : IntKind} {xs : List Int} {j : Nat} {u : Value} (h : (nums k xs)[j]? = some u) : ∃ x, xs[j]? = some x ∧ u = .int k x := by
 rw [nums, List.getElem?_map] at h
 cases e : xs[j]? with
 | none => rw [e] at h; cases h
 | some x => rw [e] at h; exact ⟨x, rfl, (Option.some.inj h).symm⟩
theorem C_cells {k : IntKind} {w : World} {A : Option Addr} {n : Nat} {xs : List Int} (h : Kd.C (Kd.int k) w A n xs) (b : Addr) (hb : A = some b) (j : Nat) (u : Value) (hu : (nums k xs)[j]? = some u) : w.cell? (b.add j) = some u := by
 obtain ⟨x, hx, rfl⟩ := nums_at hu
 have hl := (List.getElem?_eq_some_iff.1 hx).1
 obtain ⟨ad, e, hc⟩ := h.2.2 (by rw [← h.1]; omega)
 rw [hb] at e
 obtain rfl := Option.some.inj e
 obtain ⟨c, _, hr, hcell⟩ := hc j x hx
 have hc1 : c = [.int k x] := hr
 subst hc1
 have := hcell 0 _ rfl
 rwa [show j * (Kd.int k).sz + 0 = j from Nat.mul_one j] at this
theorem C_none {k : IntKind} {w : World} {A : Option Addr} {n : Nat} {xs : List Int} (h : Kd.C (Kd.int k) w A n xs) (hA : A = none) : n = 0 := by
 rcases Nat.eq_zero_or_pos n with e | e
 ·exact e
 ·obtain ⟨ad, e2, _⟩ := h.2.2 e
  rw [hA] at e2; cases e2
theorem heap_new (W : World) (o : Obj) : (W.alloc o).heap[W.heap.size]? = some o := heap_alloc_new W o
theorem heap_old (W : World) (o : Obj) (k : Nat) (h : k < W.heap.size) : (W.alloc o).heap[k]? = W.heap[k]? := Below.heap_alloc W o k h
def Sl (w : World) (v : Value) (xs : List Int) : Prop := ∃ A c, v = .slice A xs.length c ∧ xs.length ≤ c ∧ Kd.C (Kd.int .u8) w A xs.length xs
theorem Sl.below {w w' : World} {v : Value} {xs : List Int} (h : Sl w v xs) (hb : Below w.heap.size w w') : Sl w' v xs := by
 obtain ⟨A, c, e, hc, hC⟩ := h
 exact ⟨A, c, e, hc, Kd.C_below hC hb⟩
theorem Sl.drewN {w : World} {v : Value} {xs : List Int} (h : Sl w v xs) (n : Nat) : Sl (w.drewN n) v xs := h.below (pw_below_drewN (Below.refl _ _) n)
theorem Sl.alloc {w : World} {v : Value} {xs : List Int} (h : Sl w v xs) (o : Obj) : Sl (w.alloc o) v xs := h.below (below_alloc (Below.refl _ _) o)
theorem Sl.of_R {w : World} {e base : Nat} {ok : Nat → Prop} {v : Value} {xs : List Int} (h : Kd.R (Kd.int .u8) e w base ok v xs) : Sl w v xs := Kd.R_reads h
theorem Sl.of_V {w : World} {e base : Nat} {ok : Nat → Prop} {v : Value} {xs : List Int} (h : Kd.V (Kd.int .u8) e w base ok v xs) : Sl w v xs := by
 obtain ⟨A, c, rfl, hc, hF⟩ := h
 exact ⟨A, c, rfl, hc, Kd.F_now hF⟩
theorem Sl.to_V {w : World} {e base : Nat} {v : Value} {xs : List Int} (h : Sl w v xs) : Kd.V (Kd.int .u8) e w base (fun k_ => k_ < w.heap.size) v xs := by
 obtain ⟨A, c, rfl, hc, hC⟩ := h
 refine Kd.V_mk hc (fun W' hW => ?_)
 refine ⟨hC.1, hC.2.1, fun hp => ?_⟩
 obtain ⟨ad, e, hr⟩ := hC.2.2 hp
 refine ⟨ad, e, fun j p hj => ?_⟩
 obtain ⟨c, h1, h2, h3⟩ := hr j p hj
 refine ⟨c, h1, h2, fun i u hu => ?_⟩
 have hlt := World.block_lt_of_cell? w _ (h3 i u hu)
 exact (World.cell?_of_block (hW _ hlt hlt)).trans (h3 i u hu)
theorem Sl.nil (w : World) : Sl w (.slice none 0 0) [] := ⟨none, 0, rfl, Nat.le_refl _, Kd.C_nil _ _⟩
theorem Sl.mk {w : World} {A : Option Addr} {c : Nat} {xs : List Int} (h : Kd.C (Kd.int .u8) w A xs.length xs) (hc : xs.length ≤ c) : Sl w (.slice A xs.length c) xs := ⟨A, c, rfl, hc, h⟩
theorem Sl.string {P : Program} {w : World} {src dst e : TypeId} {v : Value} {xs : List Int} (hs : P.underlying src = some (.slice e)) (he : P.underlying e = some (.int .u8)) (hd : P.underlying dst = some .string)
  (h : Sl w v xs) : (convert src dst v).run P w = .ok (.string (strOfNums xs)) w := by
 obtain ⟨A, c, rfl, _, hC⟩ := h
 exact Kd.C_string hs he hd hC
theorem Sl.toC {w : World} {A : Option Addr} {n c : Nat} {xs : List Int} (h : Sl w (.slice A n c) xs) : n = xs.length ∧ n ≤ c ∧ Kd.C (Kd.int .u8) w A n xs := by
 obtain ⟨A', c', e, hc, hC⟩ := h
 injection e with e1 e2 e3
 subst e1; subst e2; subst e3
 exact ⟨rfl, hc, hC⟩
end Go.Proofs.Ytedfcjcnhgomoaa.Own
end
-- MERGED YtedfcjcnhgomoaaByt
section
namespace Go.Proofs.Ytedfcjcnhgomoaa.Byt
open Go.RowKit
def Ok (l : List Int) : Prop := ∀ x ∈ l, 0 ≤ x ∧ x ≤ 255
theorem ok_nil : Ok [] := fun _ h => by cases h
theorem ok_cons {x : Int} {l : List Int} (h : 0 ≤ x ∧ x ≤ 255) (hl : Ok l) : Ok (x :: l) := fun y hy => by
 rcases List.mem_cons.1 hy with rfl | hy
 ·exact h
 ·exact hl y hy
theorem ok_append {l m : List Int} (hl : Ok l) (hm : Ok m) : Ok (l ++ m) := fun y hy => by
 rcases List.mem_append.1 hy with hy | hy
 ·exact hl y hy
 ·exact hm y hy
theorem ok_drop {l : List Int} (h : Ok l) (n : Nat) : Ok (l.drop n) := fun x hx => h x (List.mem_of_mem_drop hx)
theorem wf_u8 {x : Int} : (Lit.int .u8 x).wf = true ↔ (0 ≤ x ∧ x ≤ 255) := by
 simp [Lit.wf, IntKind.min, IntKind.max, IntKind.signed, IntKind.bits]
theorem ok_of_wf {l : List Int} (h : ∀ x ∈ l, (Lit.int .u8 x).wf = true) : Ok l := fun x hx => wf_u8.1 (h x hx)
theorem byte_inj {x y : Int} (hx : 0 ≤ x ∧ x ≤ 255) (hy : 0 ≤ y ∧ y ≤ 255) (h : UInt8.ofNat x.toNat = UInt8.ofNat y.toNat) : x = y := by
 have := congrArg UInt8.toNat h
 simp only [UInt8.toNat_ofNat'] at this
 omega
theorem map_inj : ∀ {l m : List Int}, Ok l → Ok m → l.map (fun n => UInt8.ofNat n.toNat) = m.map (fun n => UInt8.ofNat n.toNat) → l = m
 | [], [], _, _, _ => rfl
 | [], _ :: _, _, _, h => by simp at h
 | _ :: _, [], _, _, h => by simp at h
 | x :: l, y :: m, hl, hm, h => by
  simp only [List.map_cons, List.cons.injEq] at h
  have e := byte_inj (hl x (by simp)) (hm y (by simp)) h.1
  rw [e, map_inj (fun z hz => hl z (List.mem_cons_of_mem _ hz)) (fun z hz => hm z (List.mem_cons_of_mem _ hz)) h.2]
theorem str_eq {l m : List Int} (hl : Ok l) (hm : Ok m) : (strOfNums l).toList = (strOfNums m).toList ↔ l = m := by
 rw [Lib.strOfNums_toList, Lib.strOfNums_toList]
 exact ⟨map_inj hl hm, fun h => by rw [h]⟩
theorem wrap_in (x : Int) (h : -9223372036854775808 ≤ x ∧ x ≤ 9223372036854775807) : wrap64 x = x := by unfold wrap64; omega
theorem rd_at (l : List Int) (i : Nat) (h : i < l.length) : l.getD ((i : Int)).toNat 0 = l[i] := by
 rw [Int.toNat_natCast, List.getD_eq_getElem?_getD, List.getElem?_eq_getElem h]; rfl
end Go.Proofs.Ytedfcjcnhgomoaa.Byt
end
-- MERGED YtedfcjcnhgomoaaGr
section
namespace Go.Proofs.Ytedfcjcnhgomoaa.Own
open Go.RowKit Go.Proofs.YtedfcjcnhgomoaaW.PrintWords Go.Proofs.YtedfcjcnhgomoaaW.PrintLast Go.Proofs.YtedfcjcnhgomoaaW.PrintMore
def numsOf (s : ByteArray) : List Int := s.data.toList.map fun b => (b.toNat : Int)
theorem numsOf_length (s : ByteArray) : (numsOf s).length = s.size := by
 unfold numsOf; rw [List.length_map, Array.length_toList]; rfl
theorem nums_numsOf (s : ByteArray) : nums .u8 (numsOf s) = Lib.strCells s := by
 unfold nums numsOf Lib.strCells; rw [List.map_map]; rfl
theorem ok_numsOf (s : ByteArray) : Byt.Ok (numsOf s) := by
 intro x hx
 unfold numsOf at hx
 rw [List.mem_map] at hx
 obtain ⟨b, _, rfl⟩ := hx
 have := b.toNat_lt
 omega
theorem strOf_numsOf (s : ByteArray) : strOfNums (numsOf s) = s := by
 have e : ((fun n : Int => UInt8.ofNat n.toNat) ∘ fun b : UInt8 => (b.toNat : Int)) = id := by
  funext b; simp
 apply ByteArray.ext
 unfold strOfNums numsOf
 rw [List.map_map, e, List.map_id]
def Gr (B : Nat) (e : TypeId) (w : World) (v : Value) (xs : List Int) : Prop :=
 (∃ A, v = .slice A xs.length xs.length ∧ Kd.C (Kd.int .u8) w A xs.length xs) ∨ w.ownsRow B e 1 v xs.length (nums .u8 xs)
theorem ownsRow_below {w w' : World} {B : Nat} {e : TypeId} {size : Nat} {v : Value} {n : Nat} {xs : List Value} (h : w.ownsRow B e size v n xs) (hb : Below w.heap.size w w') : w'.ownsRow B e size v n xs :=
 h.kept (row := none) ⟨hb.os, hb.tape, hb.output, hb.size, fun k hk _ => hb.block k hk⟩ (by cases v.ownBlock <;> simp)
theorem Sl.of_own {w : World} {B : Nat} {e : TypeId} {v : Value} {xs : List Int} (h : w.ownsRow B e 1 v xs.length (nums .u8 xs)) : Sl w v xs :=
 Sl.of_R (e := e) (base := B) (ok := fun _ => True) (Kd.R_of_own h (fun _ _ => trivial))
theorem Gr.sl {B : Nat} {e : TypeId} {w : World} {v : Value} {xs : List Int} (h : Gr B e w v xs) : Sl w v xs := by
 rcases h with ⟨A, rfl, hC⟩ | h
 ·exact ⟨A, xs.length, rfl, Nat.le_refl _, hC⟩
 ·exact Sl.of_own h
theorem Gr.below {B : Nat} {e : TypeId} {w w' : World} {v : Value} {xs : List Int} (h : Gr B e w v xs) (hb : Below w.heap.size w w') : Gr B e w' v xs := by
 rcases h with ⟨A, rfl, hC⟩ | h
 ·exact .inl ⟨A, rfl, Kd.C_below hC hb⟩
 ·exact .inr (ownsRow_below h hb)
theorem Gr.alloc {B : Nat} {e : TypeId} {w : World} {v : Value} {xs : List Int} (h : Gr B e w v xs) (o : Obj) : Gr B e (w.alloc o) v xs := h.below (below_alloc (Below.refl _ _) o)
theorem Gr.cut {w : World} {A : Option Addr} {n c : Nat} {xs : List Int} (B : Nat) (e : TypeId) (h : Sl w (.slice A n c) xs) : Gr B e w (.slice A n n) xs := by
 obtain ⟨rfl, _, hC⟩ := h.toC
 exact .inl ⟨A, rfl, hC⟩
theorem Sl.one (w : World) (x : Int) (T : TypeId) (fr : Nat × Nat) : Sl (w.alloc (.cells #[.int .u8 x] T fr)) (.slice (some ⟨w.heap.size, 0, none⟩) 1 1) [x] :=
 Sl.mk (C_of_lit .u8 [x] (heap_new w _) rfl (by simp)) (by simp)
theorem exec_gr {P : Program} {w : World} {f : Operand → Value} {o : Oper} {s x : Operand} {t e : TypeId} {B : Nat} (hop : o.op = Op.call { callee := Callee.builtin Builtin.append, args := #[s, x], argTypes := #[t, t] })
  (h1 : P.underlying t = some (.slice e)) (hi : (P.info? e).map (fun i => (i.zero, i.size, i.bytes)) = some (some (.int .u8 0), 1, 1)) (hB : B ≤ w.heap.size)
  {vs : Value} {xs : List Int} (hs : f s = vs) (hx : Gr B e w vs xs) {v : Value} {ys : List Int} (he : f x = v) (hy : Sl w v ys)
  (b1 : xs.length + ys.length ≤ 140737488355328) :
  ∃ v' w', (execOp f o).run P w = .ok (.value v') w' ∧ Gr B e w' v' (xs ++ ys) ∧ Below B w w' := by
 obtain ⟨i0, hi0, hz0, hz1, hz2⟩ := info_parts hi
 obtain ⟨A2, c2, rfl, hc2, hC2⟩ := hy
 have hm : xs.length + ys.length ≤ maxLen := by unfold maxLen; omega
 have e1 : (xs ++ ys).length = xs.length + ys.length := List.length_append
 have e2 : nums .u8 (xs ++ ys) = nums .u8 xs ++ nums .u8 ys := nums_append _ _ _
 rcases Nat.eq_zero_or_pos ys.length with h0 | hp
 ·obtain rfl : ys = [] := List.eq_nil_of_length_eq_zero h0
  have hsrc : Src P i0.size t (.slice A2 ([] : List Int).length c2) 0 [] w := by
   cases A2 with
   | none => exact Src.ofNil _ h1 c2
   | some ad => exact Src.ofSlice _ h1 ad 0 c2 [] (by simp) (fun j u hj => by cases j <;> cases hj) (fun u hu => by cases hu)
  obtain ⟨A, c, rfl, hc, _⟩ := hx.sl
  have hrun := run_append_nothing (P := P) w t t o.type e i0 h1 hi0 A xs.length c hc _ hsrc
  refine ⟨.slice A xs.length c, w, ?_, by rw [List.append_nil]; exact hx, Below.refl _ _⟩
  have hrun' : (Builtin.append_ #[t, t] o.type #[Value.slice A xs.length c, Value.slice A2 0 c2]).run P w = .ok (.slice A xs.length c) w := hrun
  simp [execOp, hop, resolve, invoke, builtin, hs, he, hrun', Result.andThen]
 ·obtain ⟨ad, hA2, _⟩ := hC2.2.2 hp
  subst hA2
  have hC : ∀ j u, (nums .u8 ys)[j]? = some u → w.cell? (ad.add j) = some u := fun j u hu => C_cells hC2 ad rfl j u hu
  have one : ∀ u ∈ nums .u8 ys, u.oneCell' = true := fun u hu => by
   rw [nums, List.mem_map] at hu
   obtain ⟨z, _, rfl⟩ := hu
   rfl
  have own : ∀ B', B ≤ B' → B' ≤ w.heap.size → w.ownsRow B' e 1 vs xs.length (nums .u8 xs) → ∃ v' w', (execOp f o).run P w = .ok (.value v') w' ∧ Gr B e w' v' (xs ++ ys) ∧ Below B w w' := by
   intro B' hBB hB' ho
   obtain ⟨v', w', hrun, r1, r2, _⟩ := run_append_own (P := P) w B' t o.type e i0 (.int .u8 0) 1 1 h1 hi0 hz0 hz1 hz2 rfl (by decide) vs xs.length (nums .u8 xs) ho ad ys.length c2 (nums .u8 ys) (by rw [nums_length]; omega) hC one hm (by omega) hB'
   refine ⟨v', w', ?_, .inr ?_, (Below.refl _ w).grown r2 hB (fun k e => Nat.le_trans hBB (ho.lt k e).1)⟩
   ·simp [execOp, hop, resolve, invoke, builtin, hs, he, hrun, Result.andThen]
   ·rw [e1, e2]; exact r1.mono hBB
  rcases hx with ⟨A, rfl, hx⟩ | ho
  ·cases A with
   | some b =>
    obtain ⟨v', w', hrun, r1, r2⟩ := run_append_arg_grows (P := P) w t o.type e i0 (.int .u8 0) 1 1 h1 hi0 hz0 hz1 hz2 rfl (by decide) b xs.length xs.length (nums .u8 xs) (by rw [nums_length]; omega) (fun j u hu => C_cells hx b rfl j u hu) ad ys.length c2 (nums .u8 ys) (by rw [nums_length]; omega) hC (by omega) hm (by omega)
    refine ⟨v', w', ?_, .inr ?_, (Below.refl _ w).grown r2 hB (fun k e => by cases e)⟩
    ·simp [execOp, hop, resolve, invoke, builtin, hs, he, hrun, Result.andThen]
    ·rw [e1, e2]; exact r1.mono hB
   | none =>
    have h0 : xs.length = 0 := C_none hx rfl
    obtain rfl : xs = [] := List.eq_nil_of_length_eq_zero h0
    exact own w.heap.size hB (Nat.le_refl _) (World.ownsRow_nil w _ e 1)
  ·exact own B (Nat.le_refl _) hB ho
theorem exec_gr_str {P : Program} {w : World} {f : Operand → Value} {o : Oper} {s x : Operand} {t tx e : TypeId} {B : Nat} (hop : o.op = Op.call { callee := Callee.builtin Builtin.append, args := #[s, x], argTypes := #[t, tx] })
  (h1 : P.underlying t = some (.slice e)) (h2 : P.underlying tx = some .string) (hi : (P.info? e).map (fun i => (i.zero, i.size, i.bytes)) = some (some (.int .u8 0), 1, 1)) (hB : B ≤ w.heap.size)
  {vs : Value} {xs : List Int} (hs : f s = vs) (hx : Gr B e w vs xs) {u : ByteArray} (he : f x = .string u)
  (b1 : xs.length + u.size ≤ 140737488355328) :
  ∃ v' w', (execOp f o).run P w = .ok (.value v') w' ∧ Gr B e w' v' (xs ++ numsOf u) ∧ Below B w w' := by
 obtain ⟨i0, hi0, hz0, hz1, hz2⟩ := info_parts hi
 have hm : xs.length + u.size ≤ maxLen := by unfold maxLen; omega
 have e1 : (xs ++ numsOf u).length = xs.length + u.size := by rw [List.length_append, numsOf_length]
 have e2 : nums .u8 (xs ++ numsOf u) = nums .u8 xs ++ Lib.strCells u := by rw [nums_append, nums_numsOf]
 have own : ∀ B', B ≤ B' → B' ≤ w.heap.size → w.ownsRow B' e 1 vs xs.length (nums .u8 xs) → ∃ v' w', (execOp f o).run P w = .ok (.value v') w' ∧ Gr B e w' v' (xs ++ numsOf u) ∧ Below B w w' := by
  intro B' hBB hB' ho
  obtain ⟨v', w', hrun, r1, r2, _⟩ := Lib.run_append_own_string (P := P) w B' t tx o.type e i0 h1 h2 hi0 hz0 hz1 hz2 vs xs.length (nums .u8 xs) ho u hm b1 hB'
  refine ⟨v', w', ?_, .inr ?_, (Below.refl _ w).grown r2 hB (fun k e => Nat.le_trans hBB (ho.lt k e).1)⟩
  ·simp [execOp, hop, resolve, invoke, builtin, hs, he, hrun, Result.andThen]
  ·rw [e1, e2]; exact r1.mono hBB
 rcases hx with ⟨A, rfl, hx⟩ | ho
 ·rcases Nat.eq_zero_or_pos u.size with h0 | hp
  ·have hn : numsOf u = [] := List.eq_nil_of_length_eq_zero (by rw [numsOf_length]; exact h0)
   have hb0 : byteCells u = [] := List.eq_nil_of_length_eq_zero (by rw [byteCells_length]; exact h0)
   have hsrc := Src.ofString (P := P) w h2 u
   rw [h0, hb0] at hsrc
   have hrun := run_append_nothing (P := P) w t tx o.type e i0 h1 hi0 A xs.length xs.length (Nat.le_refl _) (.string u) (hz1 ▸ hsrc)
   refine ⟨.slice A xs.length xs.length, w, ?_, .inl ⟨A, by rw [hn, List.append_nil], by rw [hn, List.append_nil]; exact hx⟩, Below.refl _ _⟩
   simp [execOp, hop, resolve, invoke, builtin, hs, he, hrun, Result.andThen]
  ·cases A with
   | none =>
    have h0 : xs.length = 0 := C_none hx rfl
    obtain rfl : xs = [] := List.eq_nil_of_length_eq_zero h0
    exact own w.heap.size hB (Nat.le_refl _) (World.ownsRow_nil w _ e 1)
   | some b =>
    have hC : ∀ j v, (nums .u8 xs)[j]? = some v → w.cell? (b.add j) = some v := fun j v hv => C_cells hx b rfl j v hv
    have hold := run_firstCells_some (P := P) w.drew i0.size xs.length b xs.length xs.length (nums .u8 xs) (by rw [nums_length, hz1]; omega) hC
    have hsrc := Src.ofString (P := P) w h2 u
    have hgc := growslice_fits (need := xs.length + u.size) (old := xs.length) (bytes := 1) (by omega) (by omega)
    have hrun := run_append_grow_src (P := P) w t tx o.type e i0 (.int .u8 0) h1 hi0 hz0 (some b) xs.length xs.length (nums .u8 xs) hold (.string u) u.size (byteCells u) (hz1 ▸ hsrc) (by omega) (by omega) (by rw [hz2]; exact hgc)
    have H : ∀ v' w', (Builtin.append_ #[t, tx] o.type #[Value.slice (some b) xs.length xs.length, Value.string u]).run P w = .ok v' w' → (execOp f o).run P w = .ok (.value v') w' := fun v' w' hr => by
     simp [execOp, hop, resolve, invoke, builtin, hs, he, hr, Result.andThen]
    refine ⟨_, _, H _ _ hrun, .inr ?_, (below_alloc (below_drew1 (Below.refl w.heap.size w)) _).mono hB⟩
    rw [e1]
    have hcl : (nums .u8 xs ++ byteCells u) = nums .u8 (xs ++ numsOf u) := by rw [e2]; rfl
    have hlen : (nums .u8 (xs ++ numsOf u)).length = xs.length + u.size := by rw [nums_length, e1]
    refine ⟨by rw [hlen]; omega, .inr ⟨w.heap.size, _, _, rfl, hB, heap_alloc_new w.drew _, grownCap_ge w _ _ e, grownCap_le_maxLen w _ _ e hm, ?_, ?_⟩⟩
    ·have hge := grownCap_ge w (xs.length + u.size) xs.length e
     rw [hcl]
     simp only [Array.size_append, List.size_toArray, size_zeroCells, hlen]
     simp only [Value.cells, Array.size]
     simp
     omega
    ·rw [hcl]
     simp only [Array.toList_append, Nat.mul_one]
     rw [← hlen]
     exact List.take_left
 ·exact own B (Nat.le_refl _) hB ho
theorem wpList_ex {P : Program} {ops : Array Oper} {rest : List Oper} {o : Oper} {a : Act} {w w' : World} {v' : Value} {Q : Exit → Act → World → Prop} (hg : o.guard = none) (hrun : (execOp a.eval o).run P w = .ok (.value v') w')
  (hK : wpList P ops Q rest (a.put o.dst v') w') : wpList P ops Q (o :: rest) a w := by
 refine wpList_plain hg fun K hK' => ?_
 unfold Oper.wp
 rw [hrun]
 exact hK' _ _ hK
theorem wpList_gr {P : Program} {ops : Array Oper} {rest : List Oper} {o : Oper} {a : Act} {w : World} {Q : Exit → Act → World → Prop} {s x : Operand} {t e : TypeId} {B : Nat} (hg : o.guard = none)
  (hop : o.op = Op.call { callee := Callee.builtin Builtin.append, args := #[s, x], argTypes := #[t, t] })
  (h1 : P.underlying t = some (.slice e)) (hi : (P.info? e).map (fun i => (i.zero, i.size, i.bytes)) = some (some (.int .u8 0), 1, 1)) (hB : B ≤ w.heap.size)
  {vs : Value} {xs : List Int} (hs : a.eval s = vs) (hx : Gr B e w vs xs) {v : Value} {ys : List Int} (he : a.eval x = v) (hy : Sl w v ys) (b1 : xs.length + ys.length ≤ 140737488355328)
  (hK : ∀ v' w', Gr B e w' v' (xs ++ ys) → Below B w w' → wpList P ops Q rest (a.put o.dst v') w') : wpList P ops Q (o :: rest) a w := by
 obtain ⟨v', w', hrun, r1, r2⟩ := exec_gr (P := P) (o := o) (f := a.eval) hop h1 hi hB hs hx he hy b1
 exact wpList_ex hg hrun (hK v' w' r1 r2)
theorem wpList_gr_str {P : Program} {ops : Array Oper} {rest : List Oper} {o : Oper} {a : Act} {w : World} {Q : Exit → Act → World → Prop} {s x : Operand} {t tx e : TypeId} {B : Nat} (hg : o.guard = none)
  (hop : o.op = Op.call { callee := Callee.builtin Builtin.append, args := #[s, x], argTypes := #[t, tx] })
  (h1 : P.underlying t = some (.slice e)) (h2 : P.underlying tx = some .string) (hi : (P.info? e).map (fun i => (i.zero, i.size, i.bytes)) = some (some (.int .u8 0), 1, 1)) (hB : B ≤ w.heap.size)
  {vs : Value} {xs : List Int} (hs : a.eval s = vs) (hx : Gr B e w vs xs) {u : ByteArray} (he : a.eval x = .string u) (b1 : xs.length + u.size ≤ 140737488355328)
  (hK : ∀ v' w', Gr B e w' v' (xs ++ numsOf u) → Below B w w' → wpList P ops Q rest (a.put o.dst v') w') : wpList P ops Q (o :: rest) a w := by
 obtain ⟨v', w', hrun, r1, r2⟩ := exec_gr_str (P := P) (o := o) (f := a.eval) hop h1 h2 hi hB hs hx he b1
 exact wpList_ex hg hrun (hK v' w' r1 r2)
theorem Sl.lit {w : World} {C : Array Value} {T : TypeId} {fr : Nat × Nat} {l : List Int} (hC : C.toList = nums .u8 l) (hm : l.length ≤ 9223372036854775807) : Sl (w.alloc (.cells C T fr)) (.slice (some ⟨w.heap.size, 0, none⟩) l.length l.length) l :=
 Sl.mk (C_of_lit .u8 l (heap_new w _) hC hm) (Nat.le_refl _)
end Go.Proofs.Ytedfcjcnhgomoaa.Own
end
-- MERGED YtedfcjcnhgomoaaVaryL
section
namespace Go.Proofs.Ytedfcjcnhgomoaa.Vy
open Go.RowKit
abbrev M : Int := 4611686018427387904
def enc (n : Nat) : List Int := if n < 128 then [(n : Int)] else ((n % 128 + 128 : Nat) : Int) :: enc (n / 128)
termination_by n
decreasing_by omega
theorem enc_lt {n : Nat} (h : n < 128) : enc n = [(n : Int)] := by rw [enc, if_pos h]
theorem enc_ge {n : Nat} (h : 128 ≤ n) : enc n = ((n % 128 + 128 : Nat) : Int) :: enc (n / 128) := by rw [enc, if_neg (by omega)]
theorem enc_pos (n : Nat) : 0 < (enc n).length := by
 rw [enc]; split <;> simp
theorem enc_len : ∀ (k n : Nat), n < 128 ^ (k + 1) → (enc n).length ≤ k + 1 := by
 intro k
 induction k with
 | zero => intro n h; rw [enc_lt (by simpa using h)]; simp
 | succ k ih =>
  intro n h
  by_cases hn : n < 128
  ·rw [enc_lt hn]; simp
  ·rw [enc_ge (by omega), List.length_cons]
   have := ih (n / 128) (by rw [Nat.div_lt_iff_lt_mul (by decide)]; rw [Nat.pow_succ] at h; exact h)
   omega
theorem enc_len9 {n : Nat} (h : n ≤ 4611686018427387904) : (enc n).length ≤ 9 := enc_len 8 n (by omega)
theorem ok_enc (n : Nat) : Byt.Ok (enc n) := by
 induction n using Nat.strongRecOn with
 | _ n ih =>
  by_cases hn : n < 128
  ·rw [enc_lt hn]; exact Byt.ok_cons (by omega) Byt.ok_nil
  ·rw [enc_ge (by omega)]; exact Byt.ok_cons (by omega) (ih (n / 128) (by omega))
def numG (i : Nat) (n : Int) : List Int → Int × Nat
 | [] => (0, 0)
 | c :: t =>
  if 9 ≤ i then (0, 0)
  else if 0 < c % 128 ∧ (M - n) / 128 ^ i < c % 128 then (0, 0)
  else if 128 ≤ c then numG (i + 1) (n + c % 128 * 128 ^ i) t
  else if c % 128 = 0 ∧ 0 < i then (0, 0)
  else (n + c % 128 * 128 ^ i, i + 1)
def numL (l : List Int) : Int × Nat := numG 0 0 l
theorem pow_pos (i : Nat) : (0 : Int) < 128 ^ i := Int.pow_pos (by decide)
theorem le_div (k a s : Int) (hs : 0 < s) : k ≤ a / s ↔ k * s ≤ a := Int.le_ediv_iff_mul_le hs
theorem numG_enc : ∀ (m i : Nat) (n : Int) (rest : List Int), i + (enc m).length ≤ 9 → n + (m : Int) * 128 ^ i ≤ M → (0 < m ∨ i = 0) →
  numG i n (enc m ++ rest) = (n + (m : Int) * 128 ^ i, i + (enc m).length) := by
 intro m
 induction m using Nat.strongRecOn with
 | _ m ih =>
  intro i n rest hl hb hp
  have hpw := pow_pos i
  by_cases hm : m < 128
  ·rw [enc_lt hm] at hl ⊢
   have e : (m : Int) % 128 = m := by omega
   have hd : ¬ ((M - n) / 128 ^ i < (m : Int)) := by
    rw [Int.not_lt, le_div _ _ _ hpw]; omega
   simp only [List.singleton_append, numG, e]
   rw [if_neg (by simp at hl; omega), if_neg (fun h => hd h.2), if_neg (by omega), if_neg (by omega)]
   simp
  ·rw [enc_ge (by omega)] at hl ⊢
   have e : (((m % 128 + 128 : Nat) : Int)) % 128 = ((m % 128 : Nat) : Int) := by omega
   have hsplit : (m : Int) * 128 ^ i = ((m % 128 : Nat) : Int) * 128 ^ i + ((m / 128 : Nat) : Int) * 128 ^ (i + 1) := by
    have h1 : (m : Int) = ((m % 128 : Nat) : Int) + ((m / 128 : Nat) : Int) * 128 := by omega
    rw [Int.pow_succ]
    conv => lhs; rw [h1, Int.add_mul]
    rw [Int.mul_assoc, Int.mul_comm 128]
   have hnn : (0 : Int) ≤ ((m / 128 : Nat) : Int) * 128 ^ (i + 1) := Int.mul_nonneg (by omega) (Int.le_of_lt (pow_pos _))
   have hd : ¬ ((M - n) / 128 ^ i < ((m % 128 : Nat) : Int)) := by
    rw [Int.not_lt, le_div _ _ _ hpw]; omega
   simp only [List.cons_append, numG, e]
   simp only [List.length_cons] at hl ⊢
   rw [if_neg (by omega), if_neg (fun h => hd h.2), if_pos (by omega)]
   rw [ih (m / 128) (by omega) (i + 1) _ rest (by omega) (by omega) (by omega)]
   refine Prod.ext ?_ (by simp; omega)
   show _ + _ = _
   rw [hsplit]; omega
theorem numG_one : ∀ (l : List Int) (i : Nat) (n : Int), Byt.Ok l → 0 ≤ n → n ≤ M → (numG i n l).2 ≠ 0 →
  ∃ m : Nat, (numG i n l).1 = n + (m : Int) * 128 ^ i ∧ i < (numG i n l).2 ∧ l.take ((numG i n l).2 - i) = enc m ∧ (0 < m ∨ i = 0) ∧ (numG i n l).2 ≤ i + l.length ∧ (numG i n l).1 ≤ M ∧ (numG i n l).2 ≤ 9 := by
 intro l
 induction l with
 | nil => intro i n _ _ _ h; exact absurd rfl h
 | cons c t ih =>
  intro i n hok h0 hM h
  have hpw := pow_pos i
  have hc := hok c (by simp)
  have hot : Byt.Ok t := fun x hx => hok x (by simp [hx])
  simp only [numG] at h ⊢
  by_cases h9 : 9 ≤ i
  ·rw [if_pos h9] at h; exact absurd rfl h
  rw [if_neg h9] at h ⊢
  by_cases hg : 0 < c % 128 ∧ (M - n) / 128 ^ i < c % 128
  ·rw [if_pos hg] at h; exact absurd rfl h
  rw [if_neg hg] at h ⊢
  have hle : n + c % 128 * 128 ^ i ≤ M := by
   by_cases hk : 0 < c % 128
   ·have := (le_div (c % 128) (M - n) (128 ^ i) hpw).1 (by omega)
    omega
   ·have : c % 128 = 0 := by omega
    rw [this]; omega
  have hnn : 0 ≤ c % 128 * 128 ^ i := Int.mul_nonneg (by omega) (by omega)
  by_cases hge : 128 ≤ c
  ·rw [if_pos hge] at h ⊢
   obtain ⟨m, h1, h2, h3, h4, h5, h6, h7⟩ := ih (i + 1) _ hot (by omega) hle h
   have hm : 0 < m := by omega
   refine ⟨m * 128 + (c % 128).toNat, ?_, by omega, ?_, .inl (by omega), by simp; omega, h6, h7⟩
   ·rw [h1, Int.pow_succ]
    have e1 : ((m * 128 + (c % 128).toNat : Nat) : Int) = (m : Int) * 128 + c % 128 := by omega
    rw [e1, Int.add_mul, show (m : Int) * 128 * 128 ^ i = (m : Int) * (128 ^ i * 128) by rw [Int.mul_assoc, Int.mul_comm 128]]; omega
   ·have e1 : (numG (i + 1) (n + c % 128 * 128 ^ i) t).2 - i = ((numG (i + 1) (n + c % 128 * 128 ^ i) t).2 - (i + 1)) + 1 := by omega
    rw [e1, List.take_succ_cons, h3, enc_ge (n := m * 128 + (c % 128).toNat) (by omega)]
    have e2 : (m * 128 + (c % 128).toNat) / 128 = m := by omega
    have e3 : (((m * 128 + (c % 128).toNat) % 128 + 128 : Nat) : Int) = c := by omega
    rw [e2, e3]
  ·rw [if_neg hge] at h ⊢
   by_cases hz : c % 128 = 0 ∧ 0 < i
   ·rw [if_pos hz] at h; exact absurd rfl h
   rw [if_neg hz]
   have e : c % 128 = c := by omega
   refine ⟨c.toNat, ?_, by simp, ?_, by omega, by simp, hle, by simp; omega⟩
   ·rw [e, show ((c.toNat : Nat) : Int) = c by omega]
   ·have e1 : i + 1 - i = 0 + 1 := by omega
    rw [e1, List.take_succ_cons, List.take_zero, enc_lt (by omega)]
    congr 1; omega
theorem numL_enc (m : Nat) (hm : (m : Int) ≤ M) (rest : List Int) : numL (enc m ++ rest) = ((m : Int), (enc m).length) := by
 unfold numL
 have := numG_enc m 0 0 rest (by have := enc_len9 (n := m) (by have : M = 4611686018427387904 := rfl; omega); omega) (by simpa using hm) (.inr rfl)
 simpa using this
theorem numL_one {l : List Int} (hok : Byt.Ok l) (h : (numL l).2 ≠ 0) : ∃ m : Nat, (numL l).1 = (m : Int) ∧ l.take (numL l).2 = enc m ∧ (m : Int) ≤ M ∧ (numL l).2 ≤ l.length ∧ (numL l).2 ≤ 9 := by
 obtain ⟨m, h1, h2, h3, h4, h5, h6, h7⟩ := numG_one l 0 0 hok (by omega) (by decide) h
 refine ⟨m, by show (numG 0 0 l).1 = _; simpa using h1, h3, ?_, by show (numG 0 0 l).2 ≤ _; simpa using h5, h7⟩
 have : (numG 0 0 l).1 = (m : Int) := by simpa using h1
 rw [← this]; exact h6
theorem numG_zero : ∀ (l : List Int) (i : Nat) (n : Int), (numG i n l).2 = 0 → (numG i n l).1 = 0 := by
 intro l
 induction l with
 | nil => intro i n _; rfl
 | cons c t ih =>
  intro i n h
  simp only [numG] at h ⊢
  repeat' split
  all_goals first | rfl | (rename_i h1 h2 h3; rw [if_neg h1, if_neg h2, if_pos h3] at h; exact ih _ _ h) | skip
  rename_i h1 h2 h3 h4
  rw [if_neg h1, if_neg h2, if_neg h3, if_neg h4] at h
  simp at h
theorem numL_zero {l : List Int} (h : (numL l).2 = 0) : (numL l).1 = 0 := numG_zero l 0 0 h
theorem numL_nonneg {l : List Int} (hok : Byt.Ok l) : 0 ≤ (numL l).1 ∧ (numL l).1 ≤ M := by
 by_cases h : (numL l).2 = 0
 ·rw [numL_zero h]; exact ⟨by omega, by decide⟩
 ·obtain ⟨m, h1, _, h2, _⟩ := numL_one hok h
  rw [h1]; exact ⟨by omega, h2⟩
theorem numL_le {l : List Int} (hok : Byt.Ok l) : (numL l).2 ≤ l.length := by
 by_cases h : (numL l).2 = 0
 ·omega
 ·obtain ⟨m, _, _, _, h2, _⟩ := numL_one hok h
  exact h2
def zig (n : Int) : Int := if n < 0 then -2 * n - 1 else 2 * n
def zag (n : Int) : Int := if n % 2 = 1 then -((n + 1) / 2) else n / 2
theorem zag_zig (n : Int) : zag (zig n) = n := by unfold zag zig; split <;> split <;> omega
def putL (l : List Int) (n : Int) : List Int := if n < 0 ∨ M < n then l else l ++ enc n.toNat
def putSL (l : List Int) (n : Int) : List Int := if n < -2305843009213693952 ∨ 2305843009213693952 < n then l else putL l (zig n)
def putTL (l s : List Int) : List Int := putL l (s.length : Int) ++ s
theorem putL_good {l : List Int} {n : Nat} (h : (n : Int) ≤ M) : putL l (n : Int) = l ++ enc n := by
 unfold putL; rw [if_neg (by omega), Int.toNat_natCast]
theorem putL_len (l : List Int) (n : Int) : (putL l n).length ≤ l.length + 9 := by
 unfold putL
 split
 ·omega
 ·rw [List.length_append]
  have := enc_len9 (n := n.toNat) (by have : M = 4611686018427387904 := rfl; omega)
  omega
theorem ok_putL {l : List Int} (h : Byt.Ok l) (n : Int) : Byt.Ok (putL l n) := by
 unfold putL; split
 ·exact h
 ·exact Byt.ok_append h (ok_enc _)
theorem ok_putSL {l : List Int} (h : Byt.Ok l) (n : Int) : Byt.Ok (putSL l n) := by
 unfold putSL; split
 ·exact h
 ·exact ok_putL h _
theorem putSL_len (l : List Int) (n : Int) : (putSL l n).length ≤ l.length + 9 := by
 unfold putSL; split
 ·omega
 ·exact putL_len _ _
theorem ok_putTL {l s : List Int} (h : Byt.Ok l) (hs : Byt.Ok s) : Byt.Ok (putTL l s) := Byt.ok_append (ok_putL h _) hs
def sgnL (l : List Int) : Int × Nat := (zag (numL l).1, (numL l).2)
def textL (l : List Int) : List Int × Nat :=
 if (numL l).2 = 0 ∨ (l.length : Int) - (numL l).2 < (numL l).1 then ([], 0) else ((l.drop (numL l).2).take (numL l).1.toNat, (numL l).2 + (numL l).1.toNat)
theorem textL_le {l : List Int} (hok : Byt.Ok l) : (textL l).2 ≤ l.length := by
 unfold textL
 have h1 := numL_le hok
 have h2 := numL_nonneg hok
 split
 ·exact Nat.zero_le _
 ·simp only; omega
theorem textL_put (s rest : List Int) (hs : (s.length : Int) ≤ M) : textL (putTL [] s ++ rest) = (s, (enc s.length).length + s.length) := by
 unfold textL putTL
 rw [putL_good hs, List.nil_append, List.append_assoc, numL_enc s.length hs]
 have hp := enc_pos s.length
 simp only
 have e1 : ((enc s.length ++ (s ++ rest)).length : Int) = (enc s.length).length + (s.length + rest.length) := by simp
 rw [if_neg (by rw [e1]; omega)]
 simp
end Go.Proofs.Ytedfcjcnhgomoaa.Vy
end
-- MERGED YtedfcjcnhgomoaaVaryP
section
namespace Go.Proofs.Ytedfcjcnhgomoaa.VaryP
open Go.RowKit Go.Proofs.Ytedfcjcnhgomoaa.P Go.Proofs.YtedfcjcnhgomoaaW.PrintWords Go.Proofs.YtedfcjcnhgomoaaW.PrintLast Go.Proofs.YtedfcjcnhgomoaaW.PrintMore Go.Proofs.Ytedfcjcnhgomoaa.Own Go.Proofs.Ytedfcjcnhgomoaa.Vy
set_option maxHeartbeats 1000000 in
set_option maxRecDepth 100000 in
theorem put_c (v : Value) (l : List Int) (n : Nat) (w : World) (hs : Sl w v l) (hl : l.length ≤ 140737488355000) (hn : n ≤ 4611686018427387904) :
  Calls Try.prog 38 #[v, .int .i64 (n : Int)] w fun e w' => ∃ v', e = .returned v' ∧ Gr w.heap.size 5 w' v' (l ++ enc n) ∧ Below w.heap.size w w' := by
 obtain ⟨A, c, rfl, hc, hC⟩ := hs
 have HG := Aside0.mk (Gr.cut w.heap.size 5 (Sl.mk hC hc))
 have HL := Aside0.mk hl
 have h63 : (l.length : Int) ≤ 140737488355000 := by omega
 have g1 : decide (4611686018427387904 < (n : Int)) = false := by simp; omega
 have g0 : decide ((n : Int) < 0) = false := by simp
 have HN := Aside0.mk hn
 clear hC hl hn
 go_enter Try.func38, Try.ntmps38
 go_wp2_with fail
 go_loopw [0, 1] (fun sv nv wr => ∃ (ys : List Int) (m : Nat), nv = .int .i64 (m : Int) ∧ m ≤ 4611686018427387904 ∧ Gr w.heap.size 5 wr sv ys ∧ ys ++ enc m = l ++ enc n ∧ Below w.heap.size w wr) (fun _ nv _ => (intOf nv).toNat)
 case atStart => exact ⟨l, n, rfl, HN.out, HG.out, rfl, Below.refl _ _⟩
 case round =>
  obtain ⟨ys, m, rfl, hm, hg, he, hb⟩ := hrel
  have HGR := Aside0.mk hg
  have HE := Aside0.mk he
  have HB := Aside0.mk hb
  clear hg he hb
  have HM := Aside0.mk hm
  by_cases hlt : m < 128
  ·skip
   go_wp2_with (at_builtin; refine wpList_gr rfl rfl Try.underlying25 info5 ?hB rfl (HGR.out.alloc _) rfl (Sl.one _ _ _ _) ?b1 ?_)
   case hB => have := HB.out.size; simp; omega
   case b1 => have := HE.out; have h2 := congrArg List.length this; rw [List.length_append, List.length_append] at h2; have := enc_len9 HN.out; have := enc_pos m; have := HL.out; simp; omega
   intro v' w' hg hb
   clear HGR
   have hx : ∀ x : Int, x = (m : Int) → Gr w.heap.size 5 w' v' (ys ++ [x]) → Gr w.heap.size 5 w' v' (l ++ enc n) := fun x e h => by
    have he := HE.out
    rw [enc_lt hlt] at he
    rw [← he, ← e]; exact h
   have HR := Aside0.mk (hx _ (by omega) hg)
   have HBR := Aside0.mk ((below_alloc HB.out _).trans hb)
   clear hg hb hx
   go_wp2_with fail
   go_ret
   exact ⟨v', rfl, HR.out, HBR.out⟩
  ·skip
   go_wp2_with (at_builtin; refine wpList_gr rfl rfl Try.underlying25 info5 ?hB rfl (HGR.out.alloc _) rfl (Sl.one _ _ _ _) ?b1 ?_)
   case hB => have := HB.out.size; simp; omega
   case b1 => have := HE.out; have h2 := congrArg List.length this; rw [List.length_append, List.length_append] at h2; have := enc_len9 HN.out; have := enc_pos m; have := HL.out; simp; omega
   intro v' w' hg hb
   clear HGR
   have hx : ∀ x : Int, x = ((m % 128 + 128 : Nat) : Int) → Gr w.heap.size 5 w' v' (ys ++ [x]) → Gr w.heap.size 5 w' v' (ys ++ [((m % 128 + 128 : Nat) : Int)]) := fun x e h => by rw [← e]; exact h
   have HR := Aside0.mk (hx _ (by omega) hg)
   have HBR := Aside0.mk ((below_alloc HB.out _).trans hb)
   have HE2 := Aside0.mk (show (ys ++ [((m % 128 + 128 : Nat) : Int)]) ++ enc (m / 128) = l ++ enc n by rw [List.append_assoc, ← HE.out, enc_ge (n := m) (by omega)]; rfl)
   clear hg hb hx
   go_wp2_with fail
   go_roundw
   case rel => exact ⟨_, m / 128, by go_num, by omega, HR.out, HE2.out, HBR.out⟩
   case measure => simp [intOf]; omega
theorem put_bad (v : Value) (l : List Int) (n : Int) (w : World) (hs : Sl w v l) (hl : l.length ≤ 140737488355000) (hn : n < 0 ∨ 4611686018427387904 < n) :
  Calls Try.prog 38 #[v, .int .i64 n] w fun e w' => ∃ v', e = .returned v' ∧ Gr w.heap.size 5 w' v' l ∧ Below w.heap.size w w' := by
 obtain ⟨A, c, rfl, hc, hC⟩ := hs
 have HG := Aside0.mk (Gr.cut w.heap.size 5 (Sl.mk hC hc))
 have h63 : (l.length : Int) ≤ 140737488355000 := by omega
 clear hC hl
 rcases hn with h | h
 ·go_enter Try.func38, Try.ntmps38
  go_wp2_with fail
  go_ret
  exact ⟨_, rfl, HG.out, Below.refl _ _⟩
 ·have h0 : decide (n < 0) = false := by simp; omega
  go_enter Try.func38, Try.ntmps38
  go_wp2_with fail
  go_ret
  exact ⟨_, rfl, HG.out, Below.refl _ _⟩
theorem nPut (v : Value) (l : List Int) (n : Int) (w : World) (hs : Sl w v l) (hl : l.length ≤ 140737488355000) :
  Calls Try.prog 38 #[v, .int .i64 n] w fun e w' => ∃ v', e = .returned v' ∧ Gr w.heap.size 5 w' v' (putL l n) ∧ Below w.heap.size w w' := by
 unfold putL
 by_cases h : n < 0 ∨ M < n
 ·rw [if_pos h]; exact put_bad v l n w hs hl h
 ·obtain ⟨m, rfl⟩ : ∃ m : Nat, n = (m : Int) := ⟨n.toNat, by omega⟩
  rw [if_neg h, Int.toNat_natCast]
  exact put_c v l m w hs hl (by have : M = 4611686018427387904 := rfl; omega)
set_option maxHeartbeats 1000000 in
set_option maxRecDepth 100000 in
theorem nPutSigned (v : Value) (l : List Int) (n : Int) (w : World) (hs : Sl w v l) (hl : l.length ≤ 140737488355000) :
  Calls Try.prog 92 #[v, .int .i64 n] w fun e w' => ∃ v', e = .returned v' ∧ Gr w.heap.size 5 w' v' (putSL l n) ∧ Below w.heap.size w w' := by
 have HC := hs
 obtain ⟨A, c, rfl, hc, hC⟩ := hs
 have HG := Aside0.mk (Gr.cut w.heap.size 5 (Sl.mk hC hc))
 have HS := Aside0.mk HC
 have HL := Aside0.mk hl
 have h63 : (l.length : Int) ≤ 140737488355000 := by omega
 clear hC hl HC
 unfold putSL
 by_cases h1 : n < -2305843009213693952
 ·rw [if_pos (.inl h1)]
  go_enter Try.func92, Try.ntmps92
  go_wp2_with fail
  go_ret
  exact ⟨_, rfl, HG.out, Below.refl _ _⟩
 ·have g1 : decide (n < -2305843009213693952) = false := by simp; omega
  by_cases h2 : 2305843009213693952 < n
  ·rw [if_pos (.inr h2)]
   go_enter Try.func92, Try.ntmps92
   go_wp2_with fail
   go_ret
   exact ⟨_, rfl, HG.out, Below.refl _ _⟩
  ·have g2 : decide (2305843009213693952 < n) = false := by simp; omega
   rw [if_neg (by omega)]
   by_cases h3 : n < 0
   ·have HZ := Aside0.mk (show zig n = -2 * n - 1 by unfold zig; rw [if_pos h3])
    go_enter Try.func92, Try.ntmps92
    go_wp2_with fail
    rw [← HZ.out]
    refine (nPut _ l (zig n) _ HS.out HL.out).mono ?_
    rintro e w1 ⟨v', rfl, hg, hb⟩
    have HG1 := Aside0.mk hg
    have HB1 := Aside0.mk hb
    clear hg hb
    go_wp2_with fail
    go_ret
    exact ⟨_, rfl, HG1.out, HB1.out⟩
   ·have HZ := Aside0.mk (show zig n = 2 * n by unfold zig; rw [if_neg h3])
    go_enter Try.func92, Try.ntmps92
    go_wp2_with fail
    rw [← HZ.out]
    refine (nPut _ l (zig n) _ HS.out HL.out).mono ?_
    rintro e w1 ⟨v', rfl, hg, hb⟩
    have HG1 := Aside0.mk hg
    have HB1 := Aside0.mk hb
    clear hg hb
    go_wp2_with fail
    go_ret
    exact ⟨_, rfl, HG1.out, HB1.out⟩
set_option maxHeartbeats 1000000 in
set_option maxRecDepth 100000 in
theorem nPutText (v : Value) (l : List Int) (s : ByteArray) (w : World) (hs : Sl w v l) (hl : l.length + s.size ≤ 140737488355000) :
  Calls Try.prog 60 #[v, .string s] w fun e w' => ∃ v', e = .returned v' ∧ Gr w.heap.size 5 w' v' (putTL l (numsOf s)) ∧ Below w.heap.size w w' := by
 have HS := Aside0.mk hs
 have HL := Aside0.mk hl
 obtain ⟨A, c, rfl, hc, hC⟩ := hs
 have h63 : (s.size : Int) ≤ 140737488355000 := by omega
 clear hC hl
 go_enter Try.func60, Try.ntmps60
 go_wp2_with fail
 refine (nPut _ l (s.size : Int) _ HS.out (by have := HL.out; omega)).mono ?_
 rintro e w1 ⟨v', rfl, hg, hb⟩
 have HG1 := Aside0.mk hg
 have HB1 := Aside0.mk hb
 clear hg hb
 go_wp2_with (at_builtin; refine wpList_gr_str rfl rfl Try.underlying25 Try.underlying9 info5 HB1.out.size rfl HG1.out rfl ?b1 ?_)
 case b1 => have := HL.out; have := putL_len l (s.size : Int); omega
 intro v2 w2 hg hb
 have HG2 := Aside0.mk hg
 have HB2 := Aside0.mk (HB1.out.trans hb)
 clear hg hb HG1 HB1
 go_wp2_with fail
 go_ret
 exact ⟨_, rfl, by unfold putTL; rw [numsOf_length]; exact HG2.out, HB2.out⟩
end Go.Proofs.Ytedfcjcnhgomoaa.VaryP
end
-- MERGED YtedfcjcnhgomoaaVaryR
section
namespace Go.Proofs.Ytedfcjcnhgomoaa.VaryR
open Go.RowKit Go.Proofs.Ytedfcjcnhgomoaa.P Go.Proofs.YtedfcjcnhgomoaaW.PrintWords Go.Proofs.YtedfcjcnhgomoaaW.PrintLast Go.Proofs.YtedfcjcnhgomoaaW.PrintMore Go.Proofs.Ytedfcjcnhgomoaa.Own Go.Proofs.Ytedfcjcnhgomoaa.Vy
def rdCells (v : Value) (at_ : Nat) (bad made : Bool) : Array Value := #[v, .int .i64 (at_ : Int), .bool bad, .bool made]
structure RdAt (g : Nat) (w : World) (v : Value) (l : List Int) (at_ : Nat) (bad : Bool) : Prop where
 heap : w.heap[g]? = some (.cells (rdCells v at_ bad true) 132 (0, 0))
 sl : Sl w v l
 le : at_ ≤ l.length
 len : l.length ≤ 140737488355000
theorem ret_int {k : IntKind} {a b : Int} (h : a = b) : Ending.returned (.int k a) = .returned (.int k b) := by rw [h]
theorem ahead_c (g : Nat) (w : World) (v : Value) (l : List Int) (at_ : Nat) (bad : Bool) (h : RdAt g w v l at_ bad) :
  Calls Try.prog 88 #[.pointer (some ⟨g, 0, none⟩)] w fun e w' => e = .returned (.int .i64 (((l.length - at_ : Nat)) : Int)) ∧ Drawn0 w w' := by
 have H := h.heap
 obtain ⟨A, c, hv, hc, hC⟩ := h.sl
 subst hv
 have hl := h.le
 have hlen := h.len
 have c0 : w.cell? ⟨g, 0, none⟩ = some (.slice A l.length c) := by rw [cell_of_row w g 0 _ _ _ H]; rfl
 have c1 : w.cell? ⟨g, 1, none⟩ = some (.int .i64 (at_ : Int)) := by rw [cell_of_row w g 1 _ _ _ H]; rfl
 clear H
 go_enter Try.func88, Try.ntmps88
 go_wp2_with fail
 go_quiet (fail)
 go_wp2_with fail
 go_ret
 exact ⟨ret_int (by omega), ⟨_, rfl⟩⟩
theorem fail_c (g : Nat) (w : World) (v : Value) (l : List Int) (at_ : Nat) (bad : Bool) (h : RdAt g w v l at_ bad) :
  Calls Try.prog 108 #[.pointer (some ⟨g, 0, none⟩)] w fun e w' => e = .returned (.int .i64 0) ∧ w' = w.setCell ⟨g, 2, none⟩ (.bool true) := by
 have H := h.heap
 have c2 : w.cell? ⟨g, 2, none⟩ = some (.bool bad) := by rw [cell_of_row w g 2 _ _ _ H]; rfl
 have f2 : w.frozen? ⟨g, 2, none⟩ = false := frozen_of_row w g 2 _ _ H
 clear H
 go_enter Try.func108, Try.ntmps108
 go_wp2_with fail
 go_ret
 exact ⟨rfl, rfl⟩
def scal (k : Nat) : Int := if k ≤ 8 then 128 ^ k else -9223372036854775808
theorem scal_le {k : Nat} (h : k < 9) : scal k = 128 ^ k := if_pos (by omega)
theorem pow_le8 : ∀ {k : Nat}, k ≤ 8 → (128 : Int) ^ k ≤ 72057594037927936
 | 0, _ | 1, _ | 2, _ | 3, _ | 4, _ | 5, _ | 6, _ | 7, _ | 8, _ => by decide
theorem scal_next {k : Nat} (h : k < 9) : wrap64 (scal k * 128) = scal (k + 1) := by
 rw [scal_le h]
 by_cases h8 : k < 8
 ·rw [scal_le (by omega), Int.pow_succ]
  have h1 := pow_le8 (k := k + 1) (by omega)
  rw [Int.pow_succ] at h1
  have h2 := Vy.pow_pos k
  exact Byt.wrap_in _ (by omega)
 ·obtain rfl : k = 8 := by omega
  decide +kernel
theorem numG_bad {k : Nat} {n x : Int} {t : List Int} (h : k < 9) (h1 : 0 < x % 128) (h2 : (M - n) / 128 ^ k < x % 128) : numG k n (x :: t) = (0, 0) := by
 simp only [numG]; rw [if_neg (by omega), if_pos ⟨h1, h2⟩]
theorem numG_more {k : Nat} {n x : Int} {t : List Int} (h : k < 9) (h1 : ¬ (0 < x % 128 ∧ (M - n) / 128 ^ k < x % 128)) (h2 : 128 ≤ x) : numG k n (x :: t) = numG (k + 1) (n + x % 128 * 128 ^ k) t := by
 rw [numG, if_neg (by omega), if_neg h1, if_pos h2]
theorem numG_idle {k : Nat} {n x : Int} {t : List Int} (h : k < 9) (h2 : x < 128) (h3 : x % 128 = 0) (h4 : 0 < k) : numG k n (x :: t) = (0, 0) := by
 simp only [numG]; rw [if_neg (by omega), if_neg (by omega), if_neg (by omega), if_pos ⟨h3, h4⟩]
theorem numG_last {k : Nat} {n x : Int} {t : List Int} (h : k < 9) (h1 : ¬ (0 < x % 128 ∧ (M - n) / 128 ^ k < x % 128)) (h2 : x < 128) (h3 : ¬ (x % 128 = 0 ∧ 0 < k)) : numG k n (x :: t) = (n + x % 128 * 128 ^ k, k + 1) := by
 simp only [numG]; rw [if_neg (by omega), if_neg h1, if_neg (by omega), if_neg h3]
theorem numG_end {k : Nat} {n : Int} {t : List Int} (h : 9 ≤ k ∨ t = []) : numG k n t = (0, 0) := by
 cases t with
 | nil => rfl
 | cons x t => simp only [numG]; rw [if_pos (by simpa using h)]
def NumEnd (g at_ : Nat) (l : List Int) (w : World) (e : Ending) (w' : World) : Prop :=
 e = .returned (.int .i64 (numL (l.drop at_)).1) ∧ (∃ n, w' = if (numL (l.drop at_)).2 = 0 then (w.drewN n).setCell ⟨g, 2, none⟩ (.bool true) else (w.drewN n).setCell ⟨g, 1, none⟩ (.int .i64 ((at_ + (numL (l.drop at_)).2 : Nat) : Int)))
theorem numEnd_none {g at_ : Nat} {l : List Int} {w : World} (d : Nat) (h : numL (l.drop at_) = (0, 0)) : NumEnd g at_ l w (.returned (.int .i64 0)) ((w.drewN d).setCell ⟨g, 2, none⟩ (.bool true)) := by
 unfold NumEnd; rw [h]; exact ⟨rfl, d, by rw [if_pos rfl]⟩
theorem numEnd_some {g at_ k : Nat} {n m : Int} {l : List Int} {w : World} (d : Nat) (h : numL (l.drop at_) = (n, k + 1)) (hm : m = (at_ : Int) + ((k : Int) + 1)) : NumEnd g at_ l w (.returned (.int .i64 n)) ((w.drewN d).setCell ⟨g, 1, none⟩ (.int .i64 m)) := by
 unfold NumEnd; rw [h]; refine ⟨rfl, d, ?_⟩
 rw [if_neg (by simp), hm]; congr 2
theorem RdAt.drewN {g : Nat} {w : World} {v : Value} {l : List Int} {at_ : Nat} {bad : Bool} (h : RdAt g w v l at_ bad) (n : Nat) : RdAt g (w.drewN n) v l at_ bad :=
 ⟨h.heap, h.sl.drewN n, h.le, h.len⟩
set_option maxHeartbeats 2000000 in
set_option maxRecDepth 100000 in
theorem num_c (g : Nat) (w : World) (v : Value) (l : List Int) (at_ : Nat) (h : RdAt g w v l at_ false) (hok : Byt.Ok l) :
  Calls Try.prog 87 #[.pointer (some ⟨g, 0, none⟩)] w (NumEnd g at_ l w) := by
 have HR := Aside0.mk h
 obtain ⟨N, hN⟩ : ∃ N, l.length - at_ = N := ⟨_, rfl⟩
 have ha := fun w => ahead_c g w v l at_ false
 rw [hN] at ha
 have HN := Aside0.mk hN
 have HOK := Aside0.mk hok
 have hb0 := h.le
 have hb1 := h.len
 clear h hN hok
 go_enter Try.func87, Try.ntmps87
 go_wp2_with fail
 refine (ha _ HR.out).mono ?_
 rintro e w1 ⟨rfl, nd, rfl⟩
 clear ha
 go_wp2_with fail
 all_goals
  go_loopw [2, 3, 10] (fun nv sv iv wr => ∃ (n : Int) (k : Nat) (d : Nat), nv = .int .i64 n ∧ sv = .int .i64 (scal k) ∧ iv = .int .i64 (k : Int) ∧ 0 ≤ n ∧ n ≤ 4611686018427387904 ∧ k ≤ 9 ∧ k ≤ N ∧ numG k n (l.drop (at_ + k)) = numL (l.drop at_) ∧ wr = w.drewN d) (fun _ _ iv _ => 9 - (intOf iv).toNat)
  case atStart => exact ⟨0, 0, nd, rfl, rfl, rfl, by omega, by omega, by omega, by omega, rfl, rfl⟩
  case round =>
   obtain ⟨n, k, d, rfl, rfl, rfl, h0, h1, hk9, hkN, hG, rfl⟩ := hrel
   by_cases hlt : k < 9 ∧ k < N
   ·obtain ⟨hk, hkn⟩ := hlt
    have ha1 : (k : Int) < 9 := by omega
    have ha2 : (k : Int) < (N : Int) := by omega
    have hsl := HR.out.sl
    have hhp := HR.out.heap
    have hNl := HN.out
    have hlt : at_ + k < l.length := by omega
    obtain ⟨x, hx⟩ : ∃ x, l[at_ + k]? = some x := ⟨_, List.getElem?_eq_getElem hlt⟩
    have hxr := HOK.out x (List.mem_of_getElem? hx)
    obtain ⟨hx0, hx1⟩ := hxr
    obtain ⟨A, c, hv, hc, hC⟩ := hsl
    obtain ⟨ad, hA, _⟩ := hC.2.2 (by omega)
    subst hA
    have hcell : w.cell? (ad.add (at_ + k)) = some (.int .u8 x) := C_cells hC ad rfl (at_ + k) _ (by simp [nums, hx])
    rw [hv] at hhp
    have c0 : w.cell? ⟨g, 0, none⟩ = some (.slice (some ad) l.length c) := by rw [cell_of_row w g 0 _ _ _ hhp]; rfl
    have c1 : w.cell? ⟨g, 1, none⟩ = some (.int .i64 (at_ : Int)) := by rw [cell_of_row w g 1 _ _ _ hhp]; rfl
    have i1 : ((at_ : Int) + (k : Int)).toNat = at_ + k := by omega
    have i2 : (0 : Int) ≤ (at_ : Int) + (k : Int) := by omega
    have i3 : (at_ : Int) + (k : Int) < (l.length : Int) := by omega
    have i4 : IntKind.i64.wrap ((at_ : Int) + (k : Int)) = (at_ : Int) + (k : Int) := by rw [IntKind.wrap_i64]; omega
    have HG := Aside0.mk hG
    have HD := Aside0.mk (show l.drop (at_ + k) = x :: l.drop (at_ + k + 1) by rw [List.drop_eq_getElem_cons hlt]; rw [List.getElem?_eq_getElem hlt] at hx; rw [Option.some.inj hx])
    have f1 : w.frozen? ⟨g, 1, none⟩ = false := frozen_of_row w g 1 _ _ hhp
    clear hG hx hC hv hhp hNl hlt
    go_wp2_with fail
    go_quiet (fail)
    clear i1 i2 i3 i4 c0 hcell
    obtain ⟨s, hs⟩ : ∃ s, s = scal k := ⟨_, rfl⟩
    have hs0 : 0 < s := by rw [hs, scal_le hk]; exact Vy.pow_pos k
    have hs1 : s ≤ 72057594037927936 := by rw [hs, scal_le hk]; exact pow_le8 (by omega)
    have HS := Aside0.mk hs
    rw [← hs]
    have hsp : s = 128 ^ k := by rw [hs, scal_le hk]
    have HP := Aside0.mk hsp
    clear hs hsp
    by_cases hb : 0 < x % 128 ∧ (4611686018427387904 - n) / s < x % 128
    ·obtain ⟨hb1, hb2⟩ := hb
     have HZ := Aside0.mk (HG.out.symm.trans ((congrArg (numG k n) HD.out).trans (numG_bad hk hb1 (by rw [← HP.out]; exact hb2))))
     go_wp2_with fail
     refine (fail_c g _ v l at_ false (HR.out.drewN _)).mono ?_
     rintro e w1 ⟨rfl, rfl⟩
     go_wp2_with fail
     go_ret
     exact numEnd_none _ HZ.out
    ·have hP0 : 0 ≤ x % 128 * s := Int.mul_nonneg (by omega) (by omega)
     have hP2 : n + x % 128 * s ≤ 4611686018427387904 := by
      by_cases hk : 0 < x % 128
      ·have := (le_div (x % 128) (4611686018427387904 - n) s hs0).1 (by omega)
       omega
      ·have : x % 128 = 0 := by omega
       rw [this]; omega
     have hP1 : x % 128 * s ≤ 4611686018427387904 := by omega
     have HNB := Aside0.mk (show ¬ (0 < x % 128 ∧ (M - n) / 128 ^ k < x % 128) by rw [← HP.out]; exact hb)
     by_cases hge : 128 ≤ x
     ·have HM := Aside0.mk ((numG_more (t := l.drop (at_ + k + 1)) hk HNB.out hge).symm.trans ((by rw [← HD.out]; exact HG.out : numG k n (x :: l.drop (at_ + k + 1)) = numL (l.drop at_))))
      have HW := Aside0.mk (scal_next hk)
      rw [← HS.out] at HW
      clear hb
      by_cases h1 : 0 < x % 128
      ·have h2 : x % 128 ≤ (4611686018427387904 - n) / s := by
        have := HNB.out
        rw [← HP.out] at this
        have e : M = 4611686018427387904 := rfl
        rw [e] at this; omega
       go_wp2_with fail
       go_roundw
       case rel => exact ⟨_, k + 1, _, rfl, by rw [HW.out], by go_num, by omega, by omega, by omega, by omega, by rw [← HM.out, HP.out]; rfl, rfl⟩
       case measure => simp [intOf]; omega
      ·have h2 : ¬ 0 < x % 128 := h1
       go_wp2_with fail
       go_roundw
       case rel => exact ⟨_, k + 1, _, rfl, by rw [HW.out], by go_num, by omega, by omega, by omega, by omega, by rw [← HM.out, HP.out]; rfl, rfl⟩
       case measure => simp [intOf]; omega
     ·have hlt8 : x < 128 := by omega
      by_cases hz : x % 128 = 0 ∧ 0 < k
      ·obtain ⟨hz1, hz2⟩ := hz
       have HZ := Aside0.mk (HG.out.symm.trans ((congrArg (numG k n) HD.out).trans (numG_idle hk hlt8 hz1 hz2)))
       have hz3 : (0 : Int) < (k : Int) := by omega
       obtain rfl : x = 0 := by omega
       clear hb hP0 hP1 hP2 hz1
       go_wp2_with fail
       refine (fail_c g _ v l at_ false (HR.out.drewN _)).mono ?_
       rintro e w1 ⟨rfl, rfl⟩
       go_wp2_with fail
       go_ret
       exact numEnd_none _ HZ.out
      ·have HM := Aside0.mk (HG.out.symm.trans ((congrArg (numG k n) HD.out).trans (numG_last hk HNB.out hlt8 hz)))
       rw [← HP.out] at HM
       clear hb
       by_cases h1 : 0 < x % 128
       ·have h2 : x % 128 ≤ (4611686018427387904 - n) / s := by
         have := HNB.out
         rw [← HP.out] at this
         have e : M = 4611686018427387904 := rfl
         rw [e] at this; omega
        have h3 : ¬ x % 128 = 0 := by omega
        clear hz
        go_wp2_with fail
        go_ret
        exact numEnd_some _ HM.out (by omega)
       ·obtain rfl : x = 0 := by omega
        obtain rfl : k = 0 := by omega
        clear hz h1 hP0 hP1 hP2
        go_wp2_with fail
        go_ret
        exact numEnd_some _ (HM.out.trans (by rw [show (0 : Int) % 128 = 0 from rfl, Int.zero_mul, Int.add_zero])) (by omega)
   ·have HZ := Aside0.mk (hG.symm.trans (numG_end (by
     by_cases h9 : 9 ≤ k
     ·exact .inl h9
     ·exact .inr (List.drop_of_length_le (by have := HN.out; omega)))))
    clear hG
    go_wp2_with fail
    all_goals first | (exfalso; omega) | skip
    refine (fail_c g _ v l at_ false (HR.out.drewN _)).mono ?_
    rintro e w1 ⟨rfl, rfl⟩
    go_wp2_with fail
    go_ret
    exact numEnd_none _ HZ.out
abbrev But (g : Nat) (w w' : World) : Prop := w.grownBy w' (some g)
theorem But.refl (g : Nat) (w : World) : But g w w := ⟨rfl, rfl, rfl, Nat.le_refl _, fun _ _ _ => rfl⟩
theorem But.trans {g : Nat} {w w1 w2 : World} (h : But g w w1) (h2 : But g w1 w2) : But g w w2 :=
 ⟨h2.os.trans h.os, h2.tape.trans h.tape, h2.output.trans h.output, Nat.le_trans h.size h2.size, fun k hk hn => (h2.block k (Nat.lt_of_lt_of_le hk h.size) hn).trans (h.block k hk hn)⟩
theorem But.drewN (g : Nat) (w : World) (n : Nat) : But g w (w.drewN n) := ⟨rfl, rfl, rfl, Nat.le_refl _, fun _ _ _ => rfl⟩
theorem But.setCell (g o : Nat) (w : World) (u : Value) : But g w (w.setCell ⟨g, o, none⟩ u) :=
 ⟨rfl, rfl, rfl, by simp, fun k _ hn => heap_setCell_other w ⟨g, o, none⟩ k u (fun e => hn (by rw [e]))⟩
theorem Sl.but {g : Nat} {w w' : World} {v : Value} {xs : List Int} (h : Sl w v xs) (hg : But g w w') (hno : ∀ o x, w.cell? ⟨g, o, none⟩ ≠ some (.int .u8 x)) : Sl w' v xs := by
 obtain ⟨A, c, rfl, hc, hC⟩ := h
 refine ⟨A, c, rfl, hc, hC.1, hC.2.1, fun hp => ?_⟩
 obtain ⟨ad, e, hr⟩ := hC.2.2 hp
 refine ⟨ad, e, fun j p hj => ?_⟩
 obtain ⟨c, h1, h2, h3⟩ := hr j p hj
 refine ⟨c, h1, h2, fun i u hu => ?_⟩
 have hcell := h3 i u hu
 have hlt := World.block_lt_of_cell? w _ hcell
 have hc' : c = [.int .u8 p] := h2
 subst hc'
 have hu' : u = .int .u8 p := by
  cases i with
  | zero => exact (Option.some.inj hu).symm
  | succ i => cases hu
 subst hu'
 refine (World.cell?_of_block (hg.block _ hlt (fun e => ?_))).trans hcell
 have hb : (ad.add (j * (Kd.int .u8).sz + i)).block = g := by injection e
 have hs : (ad.add (j * (Kd.int .u8).sz + i)).spot = none := by
  cases hq : (ad.add (j * (Kd.int .u8).sz + i)).spot with
  | none => rfl
  | some q =>
   unfold World.cell? at hcell
   rw [hq] at hcell
   split at hcell
   ·simp at hcell
   ·cases hcell
 refine hno (ad.add (j * (Kd.int .u8).sz + i)).off p ?_
 have he : (⟨g, (ad.add (j * (Kd.int .u8).sz + i)).off, none⟩ : Addr) = ad.add (j * (Kd.int .u8).sz + i) := by
  rw [← hb, ← hs]
 rw [he]; exact hcell
theorem RdAt.noByte {g : Nat} {w : World} {v : Value} {l : List Int} {a : Nat} {bad : Bool} (h : RdAt g w v l a bad) : ∀ o x, w.cell? ⟨g, o, none⟩ ≠ some (.int .u8 x) := by
 intro o x hc
 rw [cell_of_row w g o _ _ _ h.heap] at hc
 obtain ⟨A, c, hv, _, _⟩ := h.sl
 subst hv
 unfold rdCells at hc
 match o with
 | 0 | 1 | 2 | 3 => simp at hc
 | o + 4 => simp at hc
theorem RdAt.setAt {g : Nat} {w : World} {v : Value} {l : List Int} {a : Nat} {bad : Bool} (h : RdAt g w v l a bad) (a' : Nat) (ha : a' ≤ l.length) : RdAt g (w.setCell ⟨g, 1, none⟩ (.int .i64 (a' : Int))) v l a' bad :=
 ⟨by rw [heap_setCell_same _ _ _ _ _ _ h.heap]; rfl, Sl.but h.sl (But.setCell g 1 w _) h.noByte, ha, h.len⟩
theorem RdAt.setBad {g : Nat} {w : World} {v : Value} {l : List Int} {a : Nat} {bad : Bool} (h : RdAt g w v l a bad) (b : Bool) : RdAt g (w.setCell ⟨g, 2, none⟩ (.bool b)) v l a b :=
 ⟨by rw [heap_setCell_same _ _ _ _ _ _ h.heap]; rfl, Sl.but h.sl (But.setCell g 2 w _) h.noByte, h.le, h.len⟩
theorem RdAt.but {g g' : Nat} {w w' : World} {v : Value} {l : List Int} {a : Nat} {bad : Bool} (h : RdAt g w v l a bad) (hg : But g' w w') (hne : g ≠ g') (hno : ∀ o x, w.cell? ⟨g', o, none⟩ ≠ some (.int .u8 x)) : RdAt g w' v l a bad :=
 ⟨(hg.block g (Array.getElem?_eq_some_iff.1 h.heap).1 (fun e => hne (by injection e))).trans h.heap, Sl.but h.sl hg hno, h.le, h.len⟩
theorem RdAt.below {g : Nat} {w w' : World} {v : Value} {l : List Int} {a : Nat} {bad : Bool} (h : RdAt g w v l a bad) (hb : Below w.heap.size w w') : RdAt g w' v l a bad :=
 ⟨(hb.block g (Array.getElem?_eq_some_iff.1 h.heap).1).trans h.heap, h.sl.below hb, h.le, h.len⟩
theorem slice_mid {P : Program} (t e : TypeId) {z : Option Value} {b : Nat} (ht : P.underlying t = some (.slice e)) (hi : (P.info? e).map (fun i => (i.zero, i.size, i.bytes)) = some (z, 1, b)) {w : World} {v : Value} {l : List Int} (h : Sl w v l) (lo hi' : Int) (h0 : 0 ≤ lo) (h1 : lo ≤ hi') (h2 : hi' ≤ l.length) :
  ∃ u, (∀ W : World, (Instr.slice t v (some (.int .i64 lo)) (some (.int .i64 hi')) none).run P W = .ok u W) ∧ Sl w u ((l.take hi'.toNat).drop lo.toNat) := by
 obtain ⟨A, c, rfl, hc, hC⟩ := h
 cases hq : P.info? e with
 | none => rw [hq] at hi; cases hi
 | some i =>
  rw [hq] at hi
  have hsz : i.size = 1 := by
   simp only [Option.map_some, Option.some.injEq, Prod.mk.injEq] at hi
   exact hi.2.1
  refine ⟨_, cut_mid t e .i64 .i64 ht hq 1 hsz A l.length c lo hi' h0 h1 h2 hc, ?_⟩
  have hm := Kd.C_mid (lo := lo.toNat) (hi := hi'.toNat) hC (by omega) (by omega) hc
  have hl : ((l.take hi'.toNat).drop lo.toNat).length = hi'.toNat - lo.toNat := by rw [List.length_drop, List.length_take]; omega
  rw [hl] at hm
  exact ⟨_, _, by rw [hl], by rw [hl]; omega, by rw [hl]; exact hm⟩
def WayPost (g : Nat) (v : Value) (l : List Int) (a : Nat) (val : Value) (k : Nat) (w : World) (e : Ending) (w' : World) : Prop :=
 ∃ a', e = .returned val ∧ RdAt g w' v l a' (decide (k = 0)) ∧ (k ≠ 0 → a' = a + k) ∧ But g w w'
theorem num_way (g : Nat) (w : World) (v : Value) (l : List Int) (a : Nat) (h : RdAt g w v l a false) (hok : Byt.Ok l) :
  Calls Try.prog 87 #[.pointer (some ⟨g, 0, none⟩)] w (WayPost g v l a (.int .i64 (numL (l.drop a)).1) (numL (l.drop a)).2 w) := by
 refine (num_c g w v l a h hok).mono ?_
 rintro e w' ⟨rfl, n, rfl⟩
 have hle := numL_le (Byt.ok_drop hok a)
 rw [List.length_drop] at hle
 have hal := h.le
 by_cases hk : (numL (l.drop a)).2 = 0
 ·rw [if_pos hk, hk]
  exact ⟨a, rfl, (h.drewN n).setBad true, fun h => absurd rfl h, (But.drewN g w n).trans (But.setCell g 2 _ _)⟩
 ·rw [if_neg hk]
  refine ⟨a + (numL (l.drop a)).2, rfl, ?_, fun _ => rfl, (But.drewN g w n).trans (But.setCell g 1 _ _)⟩
  rw [decide_eq_false hk]
  exact (h.drewN n).setAt _ (by omega)
set_option maxHeartbeats 1000000 in
theorem numFn_c (g : Nat) (w : World) (v : Value) (l : List Int) (a : Nat) (h : RdAt g w v l a false) (hok : Byt.Ok l) :
  Calls Try.prog 86 #[.pointer (some ⟨g, 0, none⟩)] w (WayPost g v l a (.int .i64 (numL (l.drop a)).1) (numL (l.drop a)).2 w) := by
 have H := Aside0.mk h
 clear h
 go_enter Try.func86, Try.ntmps86
 go_wp2_with fail
 refine (num_way g _ v l a H.out hok).mono ?_
 rintro e w' ⟨a', rfl, h1, h2, h3⟩
 have H1 := Aside0.mk h1
 have H2 := Aside0.mk h2
 have H3 := Aside0.mk h3
 clear h1 h2 h3
 go_wp2_with fail
 go_ret
 exact ⟨a', rfl, H1.out, H2.out, H3.out⟩
set_option maxHeartbeats 1000000 in
theorem bad_c (g : Nat) (w : World) (v : Value) (l : List Int) (a : Nat) (bad : Bool) (h : RdAt g w v l a bad) :
  Calls Try.prog 48 #[.pointer (some ⟨g, 0, none⟩)] w fun e w' => e = .returned (.bool bad) ∧ w' = w := by
 have H := h.heap
 have c3 : w.cell? ⟨g, 3, none⟩ = some (.bool true) := by rw [cell_of_row w g 3 _ _ _ H]; rfl
 have c2 : w.cell? ⟨g, 2, none⟩ = some (.bool bad) := by rw [cell_of_row w g 2 _ _ _ H]; rfl
 clear H h
 go_enter Try.func48, Try.ntmps48
 go_wp2_with fail
 go_ret
 exact ⟨rfl, rfl⟩
set_option maxHeartbeats 1000000 in
theorem signed_c (g : Nat) (w : World) (v : Value) (l : List Int) (a : Nat) (h : RdAt g w v l a false) (hok : Byt.Ok l) :
  Calls Try.prog 112 #[.pointer (some ⟨g, 0, none⟩)] w (WayPost g v l a (.int .i64 (sgnL (l.drop a)).1) (sgnL (l.drop a)).2 w) := by
 have H := Aside0.mk h
 have hn := numL_nonneg (Byt.ok_drop hok a)
 clear h
 unfold sgnL
 obtain ⟨r, hr⟩ : ∃ r, r = (numL (l.drop a)).1 := ⟨_, rfl⟩
 rw [← hr] at hn ⊢
 have HR := Aside0.mk hr
 obtain ⟨hn0, hn1⟩ := hn
 have hn2 : r ≤ 4611686018427387904 := hn1
 clear hn1 hr
 by_cases hodd : r % 2 = 1
 ·have HZ := Aside0.mk (show wrap64 (-(r + 1).tdiv 2) = zag r by
   have e : (r + 1).tdiv 2 = (r + 1) / 2 := Int.tdiv_eq_ediv_of_nonneg (by omega)
   rw [e, Byt.wrap_in _ (by omega)]; unfold zag; rw [if_pos hodd])
  go_enter Try.func112, Try.ntmps112
  go_wp2_with fail
  refine (num_way g _ v l a H.out hok).mono ?_
  rintro e w' ⟨a', rfl, h1, h2, h3⟩
  have H1 := Aside0.mk h1
  have H2 := Aside0.mk h2
  have H3 := Aside0.mk h3
  clear h1 h2 h3
  rw [← HR.out]
  go_wp2_with fail
  go_ret
  exact ⟨a', ret_int HZ.out, H1.out, H2.out, H3.out⟩
 ·have HZ := Aside0.mk (show r / 2 = zag r by unfold zag; rw [if_neg hodd])
  go_enter Try.func112, Try.ntmps112
  go_wp2_with fail
  refine (num_way g _ v l a H.out hok).mono ?_
  rintro e w' ⟨a', rfl, h1, h2, h3⟩
  have H1 := Aside0.mk h1
  have H2 := Aside0.mk h2
  have H3 := Aside0.mk h3
  clear h1 h2 h3
  rw [← HR.out]
  go_wp2_with fail
  go_ret
  exact ⟨a', ret_int HZ.out, H1.out, H2.out, H3.out⟩
set_option maxHeartbeats 1000000 in
set_option maxRecDepth 100000 in
theorem text_c (g : Nat) (w : World) (v : Value) (l : List Int) (a : Nat) (h : RdAt g w v l a false) (hok : Byt.Ok l) :
  Calls Try.prog 90 #[.pointer (some ⟨g, 0, none⟩)] w (WayPost g v l a (.string (strOfNums (textL (l.drop a)).1)) (textL (l.drop a)).2 w) := by
 have H := Aside0.mk h
 obtain ⟨hn0, hn1⟩ := numL_nonneg (Byt.ok_drop hok a)
 have hle := numL_le (Byt.ok_drop hok a)
 rw [List.length_drop] at hle
 have hal := h.le
 have hll := h.len
 clear h
 obtain ⟨r, hr⟩ : ∃ r : Nat, (r : Int) = (numL (l.drop a)).1 := ⟨(numL (l.drop a)).1.toNat, by omega⟩
 obtain ⟨k, hk⟩ : ∃ k : Nat, k = (numL (l.drop a)).2 := ⟨_, rfl⟩
 have hn2 : (r : Int) ≤ 4611686018427387904 := by rw [hr]; exact hn1
 rw [← hk] at hle
 have HRR := Aside0.mk hr
 have HK := Aside0.mk hk
 have HT1 := Aside0.mk (show k = 0 ∨ (l.length : Int) - a - k < r → textL (l.drop a) = ([], 0) by
  intro hz
  unfold textL
  rw [← hr, ← hk, List.length_drop, if_pos (by rcases hz with h | h <;> omega)])
 have HT2 := Aside0.mk (show k ≠ 0 → (r : Int) ≤ (l.length : Int) - a - k → textL (l.drop a) = ((l.take (a + k + r)).drop (a + k), k + r) by
  intro hz hq
  unfold textL
  rw [← hr, ← hk, List.length_drop, if_neg (by omega), Int.toNat_natCast, List.drop_drop, List.drop_take, Nat.add_sub_cancel_left])
 clear hn0 hn1 hr hk
 go_enter Try.func90, Try.ntmps90
 go_wp2_with fail
 refine (num_way g _ v l a H.out hok).mono ?_
 rintro e w' ⟨a', rfl, h1, h2, h3⟩
 rw [← HRR.out]
 rw [← HK.out] at h1 h2
 have H1 := Aside0.mk h1
 have H3 := Aside0.mk h3
 have hh := h1.heap
 by_cases hz : k = 0
 ·have c2 : w'.cell? ⟨g, 2, none⟩ = some (.bool true) := by rw [cell_of_row w' g 2 _ _ _ hh]; simp [rdCells, hz]
  have HT := Aside0.mk (HT1.out (.inl hz))
  clear h1 h2 h3 hh hz
  go_wp2_with fail
  refine (fail_c g _ v l a' _ H1.out).mono ?_
  rintro e w1 ⟨rfl, rfl⟩
  go_wp2_with fail
  go_ret
  unfold WayPost
  rw [HT.out]
  exact ⟨a', rfl, H1.out.setBad true, fun h => absurd rfl h, H3.out.trans (But.setCell g 2 _ _)⟩
 ·obtain rfl := h2 hz
  rw [decide_eq_false hz] at H1
  have c2 : w'.cell? ⟨g, 2, none⟩ = some (.bool false) := by rw [cell_of_row w' g 2 _ _ _ hh]; simp [rdCells, hz]
  have c1 : w'.cell? ⟨g, 1, none⟩ = some (.int .i64 ((a + k : Nat) : Int)) := by rw [cell_of_row w' g 1 _ _ _ hh]; rfl
  have f1 : w'.frozen? ⟨g, 1, none⟩ = false := frozen_of_row w' g 1 _ _ hh
  have HZ := Aside0.mk hz
  obtain ⟨q, hq⟩ : ∃ q, q = l.length - (a + k) := ⟨_, rfl⟩
  clear h1 h3 hh hz
  by_cases hlt : q < r
  ·have hlt' : decide ((q : Int) < (r : Int)) = true := by simp; omega
   have HT := Aside0.mk (HT1.out (.inr (by omega)))
   go_wp2_with fail
   refine (ahead_c g _ v l (a + k) false H1.out).mono ?_
   rintro e w1 ⟨rfl, nd, rfl⟩
   rw [← hq]
   go_wp2_with fail
   refine (fail_c g _ v l (a + k) _ (H1.out.drewN _)).mono ?_
   rintro e w1 ⟨rfl, rfl⟩
   go_wp2_with fail
   go_ret
   unfold WayPost
   rw [HT.out]
   exact ⟨a + k, rfl, (H1.out.drewN _).setBad true, fun h => absurd rfl h, H3.out.trans ((But.drewN g _ _).trans (But.setCell g 2 _ _))⟩
  ·have hlt' : decide ((q : Int) < (r : Int)) = false := by simp; omega
   have HT := Aside0.mk (HT2.out HZ.out (by omega))
   have hsum : ((a + k : Nat) : Int) + (r : Int) ≤ 140737488355000 := by omega
   go_wp2_with fail
   refine (ahead_c g _ v l (a + k) false H1.out).mono ?_
   rintro e w1 ⟨rfl, nd, rfl⟩
   rw [← hq]
   go_wp2_with fail
   have h2 := (H1.out.drewN nd).setAt (a + k + r) (by omega)
   rw [show ((a + k + r : Nat) : Int) = (a : Int) + (k : Int) + (r : Int) by omega] at h2
   have HB2 := Aside0.mk (H3.out.trans ((But.drewN g _ nd).trans (But.setCell g 1 _ (.int .i64 ((a : Int) + (k : Int) + (r : Int))))))
   obtain ⟨W2, hW2⟩ : ∃ W2, W2 = (w'.drewN nd).setCell ⟨g, 1, none⟩ (.int .i64 ((a : Int) + (k : Int) + (r : Int))) := ⟨_, rfl⟩
   rw [← hW2] at h2 HB2 ⊢
   have H2 := Aside0.mk h2
   obtain ⟨u, hcut, hu⟩ := slice_mid (P := Try.prog) 25 5 Try.underlying25 info5 h2.sl ((a : Int) + (k : Int)) ((a : Int) + (k : Int) + (r : Int)) (by omega) (by omega) (by omega)
   rw [show ((a : Int) + (k : Int) + (r : Int)).toNat = a + k + r by omega, show ((a : Int) + (k : Int)).toNat = a + k by omega] at hu
   have hcv := fun n => (hu.drewN n).string (P := Try.prog) Try.underlying25 Try.underlying5 Try.underlying9
   have d0 : W2.cell? ⟨g, 0, none⟩ = some v := by rw [cell_of_row W2 g 0 _ _ _ h2.heap]; rfl
   have d1 : W2.cell? ⟨g, 1, none⟩ = some (.int .i64 ((a : Int) + (k : Int) + (r : Int))) := by rw [cell_of_row W2 g 1 _ _ _ h2.heap]; simp [rdCells]
   have i1 : IntKind.i64.wrap ((a : Int) + (k : Int) + (r : Int) - (r : Int)) = (a : Int) + (k : Int) := by rw [IntKind.wrap_i64]; omega
   have i2 : (a : Int) + (k : Int) + (r : Int) - (r : Int) = (a : Int) + (k : Int) := by omega
   clear hW2 h2 hu c1 c2 f1
   go_quiet (fail)
   go_wp2_with fail
   go_ret
   unfold WayPost
   rw [HT.out]
   refine ⟨a + k + r, rfl, ?_, fun _ => by omega, HB2.out.trans (But.drewN g _ _)⟩
   rw [decide_eq_false (by have := HZ.out; omega)]
   exact H2.out.drewN _
def Rd (g : Nat) (w : World) (v : Value) (l : List Int) (a : Nat) (bad : Bool) : Prop := ∃ a', RdAt g w v l a' bad ∧ (bad = false → a' = a)
theorem Rd.but {g g' : Nat} {w w' : World} {v : Value} {l : List Int} {a : Nat} {bad : Bool} (h : Rd g w v l a bad) (hg : But g' w w') (hne : g ≠ g') (hno : ∀ o x, w.cell? ⟨g', o, none⟩ ≠ some (.int .u8 x)) : Rd g w' v l a bad := by
 obtain ⟨a', h, h2⟩ := h
 exact ⟨a', h.but hg hne hno, h2⟩
theorem Rd.below {g : Nat} {w w' : World} {v : Value} {l : List Int} {a : Nat} {bad : Bool} (h : Rd g w v l a bad) (hb : Below w.heap.size w w') : Rd g w' v l a bad := by
 obtain ⟨a', h, h2⟩ := h
 exact ⟨a', h.below hb, h2⟩
def stepA (bad : Bool) (a k : Nat) : Nat := if bad then a else a + k
def stepB (bad : Bool) (k : Nat) : Bool := bad || decide (k = 0)
def stepV {α : Type} (z : α) (bad : Bool) (k : Nat) (x : α) : α := if stepB bad k then z else x
def RdPost (g : Nat) (v : Value) (l : List Int) (a : Nat) (bad : Bool) (val : Value) (k : Nat) (w : World) (e : Ending) (w' : World) : Prop :=
 e = .returned val ∧ Rd g w' v l (stepA bad a k) (stepB bad k) ∧ But g w w'
theorem RdPost.mk {g : Nat} {v : Value} {l : List Int} {a k a' : Nat} {val : Value} {w w' : World} (h : RdAt g w' v l a' (decide (k = 0))) (h2 : k ≠ 0 → a' = a + k) (h3 : But g w w') : RdPost g v l a false val k w (.returned val) w' :=
 ⟨rfl, ⟨a', by simpa [stepB] using h, fun hk => by simp [stepB] at hk; rw [h2 hk]; rfl⟩, h3⟩
set_option maxHeartbeats 1000000 in
theorem readInt_bad (F : Nat) (g : Nat) (w : World) (v : Value) (l : List Int) (a : Nat) (k : Nat) (h : Rd g w v l a true) :
  Calls Try.prog 85 #[.pointer (some ⟨g, 0, none⟩), .func (.func F) #[] #[]] w (RdPost g v l a true (.int .i64 0) k w) := by
 obtain ⟨a', h, _⟩ := h
 have H := Aside0.mk h
 clear h
 go_enter Try.func85, Try.ntmps85
 go_wp2_with fail
 refine (bad_c g _ v l a' true H.out).mono ?_
 rintro e w' ⟨rfl, rfl⟩
 go_wp2_with fail
 go_ret
 exact ⟨rfl, ⟨a', H.out, fun h => by cases h⟩, But.refl g _⟩
end Go.Proofs.Ytedfcjcnhgomoaa.VaryR
end
-- MERGED YtedfcjcnhgomoaaNoteN
section
namespace Go.Proofs.Ytedfcjcnhgomoaa.NoteN
open Go.RowKit Go.Proofs.Ytedfcjcnhgomoaa.P Go.Proofs.YtedfcjcnhgomoaaW.PrintWords Go.Proofs.YtedfcjcnhgomoaaW.PrintLast Go.Proofs.YtedfcjcnhgomoaaW.PrintMore Go.Proofs.Ytedfcjcnhgomoaa.Own
set_option linter.unusedSimpArgs false
set_option linter.unusedVariables false
abbrev Nt := S104
abbrev NC (w : World) (A : Option Addr) (l : List Nt) : Prop := Kd.C k104 w A l.length l
def ncells (l : List Nt) : List Value := l.flatMap fun x => [.int .i64 x.f0.f0, .int .i64 x.f0.f1, .int .i64 x.f1]
theorem ncells_length (l : List Nt) : (ncells l).length = l.length * 3 := by
 unfold ncells
 induction l with
 | nil => rfl
 | cons p l ih => rw [List.flatMap_cons, List.length_append, ih, List.length_cons]; simp; omega
theorem ncells_at (l : List Nt) : ∀ (j : Nat) (r : Nt), l[j]? = some r → ((ncells l).drop (j * 3)).take 3 = [.int .i64 r.f0.f0, .int .i64 r.f0.f1, .int .i64 r.f1] := by
 induction l with
 | nil => intro j r h; simp at h
 | cons p l ih =>
  intro j r h
  have e : ncells (p :: l) = [.int .i64 p.f0.f0, .int .i64 p.f0.f1, .int .i64 p.f1] ++ ncells l := rfl
  cases j with
  | zero =>
   obtain rfl : p = r := by simpa using h
   rw [e]; simp
  | succ j =>
   have h2 : l[j]? = some r := by simpa using h
   rw [e, show (j + 1) * 3 = 3 + j * 3 by omega, ← List.drop_drop]
   exact ih j r h2
theorem ncells_get (l : List Nt) : ∀ (j : Nat) (u : Value), (ncells l)[j]? = some u → ∃ r, l[j / 3]? = some r ∧ [Value.int .i64 r.f0.f0, .int .i64 r.f0.f1, .int .i64 r.f1][j % 3]? = some u := by
 induction l with
 | nil => intro j u h; simp [ncells] at h
 | cons p l ih =>
  intro j u h
  have e : ncells (p :: l) = [.int .i64 p.f0.f0, .int .i64 p.f0.f1, .int .i64 p.f1] ++ ncells l := rfl
  rw [e] at h
  by_cases hj : j < 3
  ·refine ⟨p, by rw [Nat.div_eq_of_lt hj]; rfl, ?_⟩
   rw [Nat.mod_eq_of_lt hj]
   rwa [List.getElem?_append_left (by simpa using hj)] at h
  ·rw [List.getElem?_append_right (by simp; omega)] at h
   obtain ⟨r, h1, h2⟩ := ih (j - 3) u (by simpa using h)
   refine ⟨r, ?_, ?_⟩
   ·rw [show j / 3 = (j - 3) / 3 + 1 by omega]; simpa using h1
   ·rw [show j % 3 = (j - 3) % 3 by omega]; exact h2
theorem at_nt {w : World} {A : Option Addr} {n : Nat} {xs : List Nt} (h : Kd.C k104 w A n xs) (j : Nat) (h1 : j < n) : ∃ ad , A = some ad ∧ w.cell? (ad.add (j * 3)) = some (.int .i64 (xs.getD j z104).f0.f0) ∧ w.cell? ⟨(ad.add (j * 3)).block, (ad.add (j * 3)).off + 1, none⟩ = some (.int .i64 (xs.getD j z104).f0.f1) ∧ w.cell? ⟨(ad.add (j * 3)).block, (ad.add (j * 3)).off + 2, none⟩ = some (.int .i64 (xs.getD j z104).f1) := by
 have := at_T104 h (j : Int) (by omega) (by omega)
 unfold rd_T104 at this
 rwa [Int.toNat_natCast] at this
theorem NC.below {w w' : World} {A : Option Addr} {l : List Nt} (h : NC w A l) (hb : Below w.heap.size w w') : NC w' A l := Kd.C_below h hb
theorem NC.cells {w : World} {A : Option Addr} {l : List Nt} (h : NC w A l) (ad : Addr) (hA : A = some ad) : ∀ j u, (ncells l)[j]? = some u → w.cell? (ad.add j) = some u := by
 intro j u hu
 obtain ⟨r, h1, h2⟩ := ncells_get l j u hu
 have hlt := (List.getElem?_eq_some_iff.1 h1).1
 obtain ⟨ad', e, y0, y1, y2⟩ := at_nt h (j / 3) hlt
 rw [hA] at e
 obtain rfl := Option.some.inj e
 have hr : l.getD (j / 3) z104 = r := by rw [List.getD_eq_getElem?_getD, h1]; rfl
 rw [hr] at y0 y1 y2
 have hj : j = j / 3 * 3 + j % 3 := by omega
 have h3 : j % 3 = 0 ∨ j % 3 = 1 ∨ j % 3 = 2 := by omega
 have hadd : ∀ i, i < 3 → 0 < i → (ad.add (j / 3 * 3 + i)) = ⟨(ad.add (j / 3 * 3)).block, (ad.add (j / 3 * 3)).off + i, none⟩ := by
  intro i _ hi
  have hc := y1
  obtain ⟨b, o, f⟩ := ad
  unfold Addr.add
  split
  ·next hz => omega
  ·split
   ·next hz => simp [hz]
   ·simp; omega
 rcases h3 with h3 | h3 | h3
 ·rw [hj, h3, Nat.add_zero]
  rw [h3] at h2
  rw [y0]; simpa using h2
 ·rw [hj, h3, hadd 1 (by omega) (by omega)]
  rw [h3] at h2
  rw [y1]; simpa using h2
 ·rw [hj, h3, hadd 2 (by omega) (by omega)]
  rw [h3] at h2
  rw [y2]; simpa using h2
theorem NC.of_own {w : World} {B : Nat} {v : Value} {l : List Nt} (h : w.ownsRow B 104 3 v l.length (ncells l)) : Kd.R k104 104 w B (fun _ => True) v l :=
 ⟨fun _ _ => trivial, ncells l, h, by rw [ncells_length]; rfl, fun j p hj => by
  have e := ncells_at l j p hj
  show k104.M _ _ _ p (((ncells l).drop (j * 3)).take 3)
  rw [e]; exact k104_mkM _ _ _ p⟩
theorem set3 {B : Nat} {w : World} {T : TypeId} {a0 a1 a2 : Value} (h : w.heap[B]? = some (.cells #[a0, a1, a2] T (0, 0))) (y0 y1 y2 : Value) : (((w.setCell ⟨B, 0, none⟩ y0).setCell ⟨B, 1, none⟩ y1).setCell ⟨B, 2, none⟩ y2).heap[B]? = some (.cells #[y0, y1, y2] T (0, 0)) := by
 have h0 : (w.setCell ⟨B, 0, none⟩ y0).heap[B]? = some (.cells #[y0, a1, a2] T (0, 0)) := heap_setCell_same w B 0 _ _ y0 h
 have h1 : ((w.setCell ⟨B, 0, none⟩ y0).setCell ⟨B, 1, none⟩ y1).heap[B]? = some (.cells #[y0, y1, a2] T (0, 0)) := heap_setCell_same (w.setCell ⟨B, 0, none⟩ y0) B 1 _ _ y1 h0
 exact heap_setCell_same ((w.setCell ⟨B, 0, none⟩ y0).setCell ⟨B, 1, none⟩ y1) B 2 _ _ y2 h1
theorem below_set3 {B0 : Nat} {a w : World} (h : Below B0 a w) {B : Nat} (hq : B0 ≤ B) (y0 y1 y2 : Value) : Below B0 a (((w.setCell ⟨B, 0, none⟩ y0).setCell ⟨B, 1, none⟩ y1).setCell ⟨B, 2, none⟩ y2) :=
 ((h.setCell (p := ⟨B, 0, none⟩) hq y0).setCell (p := ⟨B, 1, none⟩) hq y1).setCell (p := ⟨B, 2, none⟩) hq y2
def lessN (a b : Nt) : Bool := if a.f0.f0 = b.f0.f0 then (if a.f0.f1 = b.f0.f1 then decide (a.f1 < b.f1) else decide (a.f0.f1 < b.f0.f1)) else decide (a.f0.f0 < b.f0.f0)
def okX (x : Nt) : Bool := (decide (0 ≤ x.f0.f0) && (decide (x.f0.f0 ≤ x.f0.f1) && decide (x.f0.f1 ≤ 16777216))) && (decide (0 ≤ x.f1) && decide (x.f1 ≤ 65536))
def ahead : Option Nt → Nt → Bool
 | none, _ => true
 | some y, x => lessN y x
def fineR : Option Nt → List Nt → Bool
 | _, [] => true
 | p, x :: l => (okX x && ahead p x) && fineR (some x) l
def fineL (l : List Nt) : Bool := fineR none l && decide (l.length ≤ 4096)
def prevO (l : List Nt) (j : Nat) : Option Nt := if j = 0 then none else some (l.getD (j - 1) z104)
theorem drop_nt {l : List Nt} {j : Nat} (h : j < l.length) : l.drop j = l.getD j z104 :: l.drop (j + 1) := by
 rw [List.drop_eq_getElem_cons h, List.getD_eq_getElem?_getD, List.getElem?_eq_getElem h]; rfl
theorem fine_step {l : List Nt} {j : Nat} (h : j < l.length) : fineR (prevO l j) (l.drop j) = ((okX (l.getD j z104) && ahead (prevO l j) (l.getD j z104)) && fineR (prevO l (j + 1)) (l.drop (j + 1))) := by
 rw [drop_nt h]
 simp only [fineR]
 rw [show prevO l (j + 1) = some (l.getD j z104) from by unfold prevO; rw [if_neg (by omega), Nat.add_sub_cancel]]
theorem prevO_pos {l : List Nt} {j : Nat} (h : 0 < j) : prevO l j = some (l.getD (j - 1) z104) := if_neg (by omega)
theorem okX_spot {x : Nt} (h : ¬ (0 ≤ x.f0.f0 ∧ x.f0.f0 ≤ x.f0.f1 ∧ x.f0.f1 ≤ 16777216)) : okX x = false := by
 unfold okX
 rw [Bool.eq_false_iff]
 simp only [ne_eq, Bool.and_eq_true, decide_eq_true_eq]
 omega
theorem okX_code {x : Nt} (h : ¬ (0 ≤ x.f1 ∧ x.f1 ≤ 65536)) : okX x = false := by
 unfold okX
 rw [Bool.eq_false_iff]
 simp only [ne_eq, Bool.and_eq_true, decide_eq_true_eq]
 omega
theorem okX_yes {x : Nt} (h : 0 ≤ x.f0.f0 ∧ x.f0.f0 ≤ x.f0.f1 ∧ x.f0.f1 ≤ 16777216) (h2 : 0 ≤ x.f1 ∧ x.f1 ≤ 65536) : okX x = true := by
 unfold okX
 simp only [Bool.and_eq_true, decide_eq_true_eq]
 omega
end Go.Proofs.Ytedfcjcnhgomoaa.NoteN
end
-- MERGED YtedfcjcnhgomoaaEditL
section
namespace Go.Proofs.Ytedfcjcnhgomoaa.EditL
open Go.RowKit Go.Proofs.Ytedfcjcnhgomoaa.P
abbrev Rn := S85
def E : ByteArray := ⟨#[]⟩
theorem eq_E {s : ByteArray} (h : s.size = 0) : s = E := by
 obtain ⟨⟨l⟩⟩ := s
 have : l.length = 0 := h
 obtain rfl : l = [] := List.eq_nil_of_length_eq_zero this
 rfl
def knd (r : Rn) : Int :=
 if 0 < r.f0 ∧ r.f1.size = 0 ∧ r.f2 = 0 then 1 else if r.f0 = 0 ∧ r.f1.size ≠ 0 ∧ r.f2 = 0 then 2 else if r.f0 = 0 ∧ r.f1.size = 0 ∧ 0 < r.f2 then 3 else 0
theorem knd_cases (r : Rn) : (0 < r.f0 ∧ r.f1.size = 0 ∧ r.f2 = 0 ∧ knd r = 1) ∨ (r.f0 = 0 ∧ 0 < r.f1.size ∧ r.f2 = 0 ∧ knd r = 2) ∨ (r.f0 = 0 ∧ r.f1.size = 0 ∧ 0 < r.f2 ∧ knd r = 3) ∨ (knd r = 0 ∧ ¬ (0 < r.f0 ∧ r.f1.size = 0 ∧ r.f2 = 0) ∧ ¬ (r.f0 = 0 ∧ r.f1.size ≠ 0 ∧ r.f2 = 0) ∧ ¬ (r.f0 = 0 ∧ r.f1.size = 0 ∧ 0 < r.f2)) := by
 unfold knd
 by_cases h1 : 0 < r.f0 ∧ r.f1.size = 0 ∧ r.f2 = 0
 ·rw [if_pos h1]; exact .inl ⟨h1.1, h1.2.1, h1.2.2, rfl⟩
 ·rw [if_neg h1]
  by_cases h2 : r.f0 = 0 ∧ r.f1.size ≠ 0 ∧ r.f2 = 0
  ·rw [if_pos h2]; exact .inr (.inl ⟨h2.1, by omega, h2.2.2, rfl⟩)
  ·rw [if_neg h2]
   by_cases h3 : r.f0 = 0 ∧ r.f1.size = 0 ∧ 0 < r.f2
   ·rw [if_pos h3]; exact .inr (.inr (.inl ⟨h3.1, h3.2.1, h3.2.2, rfl⟩))
   ·rw [if_neg h3]; exact .inr (.inr (.inr ⟨rfl, h1, h2, h3⟩))
theorem knd_pos {r : Rn} (h : knd r ≠ 0) : 0 ≤ r.f0 ∧ 0 ≤ r.f2 := by
 rcases knd_cases r with h1 | h1 | h1 | h1
 ·omega
 ·omega
 ·omega
 ·exact absurd h1.1 h
def inL : List Rn → Int
 | [] => 0
 | r :: l => (r.f0 + r.f2) + inL l
def outL : List Rn → Int
 | [] => 0
 | r :: l => (r.f0 + (r.f1.size : Int)) + outL l
def fits : List Rn → Int → Int → Bool
 | [], _, _ => true
 | r :: l, i, o => (decide (r.f0 ≤ 16777216 - i) && decide (r.f2 ≤ 16777216 - i) && decide (r.f0 ≤ 16777216 - o) && decide ((r.f1.size : Int) ≤ 16777216 - o)) && fits l (i + (r.f0 + r.f2)) (o + (r.f0 + (r.f1.size : Int)))
def ord : List Rn → Int → Bool
 | [], _ => true
 | r :: l, last => (decide (knd r ≠ 0) && decide (knd r ≠ last) && decide (¬ (last = 3 ∧ knd r = 2))) && ord l (knd r)
def good (l : List Rn) : Bool := (ord l 0 && decide (l.length ≤ 65536)) && fits l 0 0
def fl (k : Int) (a : ByteArray) (d : Int) : List Rn := (if 0 < k then [⟨k, E, 0⟩] else []) ++ ((if a.size ≠ 0 then [⟨0, a, 0⟩] else []) ++ (if 0 < d then [⟨0, E, d⟩] else []))
def jn : List Rn → Int → ByteArray → Int → List Rn
 | [], k, a, d => fl k a d
 | r :: l, k, a, d => if knd r = 1 ∧ (a.size ≠ 0 ∨ 0 < d) then fl k a d ++ jn l r.f0 r.f1 r.f2 else jn l (k + r.f0) (a ++ r.f1) (d + r.f2)
def fine (l : List Rn) : List Rn := l.filter fun r => decide (knd r ≠ 0)
def out (l : List Rn) : List Rn := jn (fine l) 0 E 0
theorem ord_ok {l : List Rn} : ∀ {k : Int}, ord l k = true → ∀ r ∈ l, knd r ≠ 0 := by
 induction l with
 | nil => intro k _ r hr; cases hr
 | cons x l ih =>
  intro k h r hr
  simp only [ord, Bool.and_eq_true, decide_eq_true_eq] at h
  rcases List.mem_cons.1 hr with rfl | hr
  ·exact h.1.1.1
  ·exact ih h.2 r hr
theorem good_ok {l : List Rn} (h : good l = true) : ord l 0 = true ∧ l.length ≤ 65536 ∧ fits l 0 0 = true ∧ ∀ r ∈ l, knd r ≠ 0 := by
 unfold good at h
 simp only [Bool.and_eq_true, decide_eq_true_eq] at h
 exact ⟨h.1.1, h.1.2, h.2, ord_ok h.1.1⟩
end Go.Proofs.Ytedfcjcnhgomoaa.EditL
end
-- MERGED YtedfcjcnhgomoaaPvariorumref06Kind
section
namespace Go.Proofs.Ytedfcjcnhgomoaa.P
open Go.RowKit Go.Proofs.YtedfcjcnhgomoaaW.PrintWords Go.Proofs.YtedfcjcnhgomoaaW.PrintLast Go.Proofs.YtedfcjcnhgomoaaW.PrintMore
attribute [local go_sem] max2_int min2_int max_two min_two max_three min_three max_four min_four   -- for this text's walks alone
set_option linter.unusedVariables false
set_option linter.unusedSimpArgs false
mutual
def variorumref06_Kind.j0 : Nat → Bool → Int → ByteArray → Int → Option (Int)
 | 0, _, _, _, _ => none
 | k + 1, x15, x276000, x276001, x276002 => if x15 = true then (some 1) else (if x276000 = 0 then (if x276001.toList = ([] : List UInt8) then (variorumref06_Kind.j1 k false x276000 x276001 x276002) else (variorumref06_Kind.j1 k (x276002 == 0) x276000 x276001 x276002)) else (variorumref06_Kind.j1 k false x276000 x276001 x276002))
def variorumref06_Kind.j1 : Nat → Bool → Int → ByteArray → Int → Option (Int)
 | 0, _, _, _, _ => none
 | k + 1, x28, x276000, x276001, x276002 => if x28 = true then (some 2) else (if x276000 = 0 then (if x276001.toList = ([] : List UInt8) then (if x276002 > 0 then (some 3) else (some 0)) else (some 0)) else (some 0))
end
def variorumref06_Kind.f (k : Nat) (a0_0 : Int) (a0_1 : ByteArray) (a0_2 : Int) : Option (Int) := if a0_0 > 0 then (if a0_1.toList = ([] : List UInt8) then (variorumref06_Kind.j0 k (a0_2 == 0) a0_0 a0_1 a0_2) else (variorumref06_Kind.j0 k false a0_0 a0_1 a0_2)) else (variorumref06_Kind.j0 k false a0_0 a0_1 a0_2)
set_option maxHeartbeats 8000000 in
set_option maxRecDepth 100000 in
theorem variorumref06_Kind.calls (k : Nat) (a0_0 : Int) (a0_1 : ByteArray) (a0_2 : Int) (r : Int) (w : World) (h : variorumref06_Kind.f k a0_0 a0_1 a0_2 = some r) :
  Calls Try.prog 95 #[.agg #[.int .i64 a0_0, .string a0_1, .int .i64 a0_2]] w fun e w' => e = .returned (.int .i64 r) ∧ Below w.heap.size w w' := by
 have hu85 := Try.underlying85
 have HB := Aside0.mk (Below.refl w.heap.size w)
 have H : (if a0_0 > 0 then (if a0_1.toList = ([] : List UInt8) then (variorumref06_Kind.j0 k (a0_2 == 0) a0_0 a0_1 a0_2) else (variorumref06_Kind.j0 k false a0_0 a0_1 a0_2)) else (variorumref06_Kind.j0 k false a0_0 a0_1 a0_2)) = some r := h
 clear h
 have HC2 := Aside0.mk H
 clear H
 go_enter Try.func95, Try.ntmps95
 go_upto_region 1 with (first | ((with_reducible refine gate_dst (N := 1) rfl ?_); refine box_event ?hg (N := 1) ?hd (cs := #[.int .i64 a0_0, .string a0_1, .int .i64 a0_2]) (t := 85) ?hr ?_; (case hd => rfl); (case hg => rfl); (case hr => (go_simp; done)); intro gb275 hg w3 hbox hb; have n0_ := Aside0.mk (below_step (by repeat ((with_reducible (exact HB.out)))) hb); have n1_ := Aside0.mk (hbox); have n2_ := Aside0.mk ((by rw [hg]; exact (below_size (by repeat ((with_reducible (exact HB.out))))) : w.heap.size ≤ gb275)); have n3_ := Aside0.mk ((by rw [hg]; exact (below_size (by repeat ((with_reducible (exact HB.out))))) : w.heap.size ≤ gb275)); clear HB; have HB := n0_; have BK275 := n1_; have GW275 := n2_; have GE275 := n3_; clear n0_ n1_ n2_ n3_; clear hb hbox hg))
 (try simp only [Act.put, List.setIfInBounds_toArray, List.set_cons_zero, List.set_cons_succ])
 go_cut [15] (fun v15 wc => ∃ (kq : Nat) (x15_1 : Bool), v15 = .bool x15_1 ∧ Aside0 (variorumref06_Kind.j0 kq x15_1 a0_0 a0_1 a0_2 = some r) ∧ Aside0 (kq ≤ k) ∧ Aside0 (wc.heap[gb275]? = some (.cells #[.int .i64 a0_0, .string a0_1, .int .i64 a0_2] 85 (0, 0))) ∧ Aside0 (Below w.heap.size w wc))
 case first =>
  have H := HC2.out
  clear HC2
  by_cases c4 : a0_0 > 0
  ·rw [if_pos c4] at H
   have c4b0 : decide (0 < a0_0) = true := decide_eq_true c4
   clear c4
   ((skip))
   by_cases c5 : a0_1.toList = ([] : List UInt8)
   ·rw [if_pos c5] at H
    have c5b0 : (a0_1.toList == ([] : List UInt8)) = true := beq_iff_eq.mpr c5
    have c5b1 : (a0_1.toList != ([] : List UInt8)) = false := bne_eq_false_iff_eq.mpr c5
    clear c5
    have H' := Aside0.mk H
    clear H
    have hcz6_0 : w3.cell? ⟨gb275, 0, none⟩ = some (.int .i64 a0_0) := (blk_cell BK275.out 0).trans rfl
    have hcz6_1 : w3.cell? ⟨gb275, 1, none⟩ = some (.string a0_1) := (blk_cell BK275.out 1).trans rfl
    have hcz6_2 : w3.cell? ⟨gb275, 2, none⟩ = some (.int .i64 a0_2) := (blk_cell BK275.out 2).trans rfl
    have hfz6_0 := blk_frozen BK275.out 0
    have hfz6_1 := blk_frozen BK275.out 1
    have hfz6_2 := blk_frozen BK275.out 2
    go_wp2
    go_meet
    case rel => exact ⟨_, ((a0_2 == 0)), (by (rfl)), H', ⟨by (omega)⟩, ⟨by (with_reducible repeat ((refine blk_drew ?_))); exact BK275.out⟩, ⟨by repeat ((with_reducible (exact HB.out)))⟩⟩
   ·rw [if_neg c5] at H
    have c5b0 : (a0_1.toList == ([] : List UInt8)) = false := beq_eq_false_iff_ne.mpr c5
    have c5b1 : (a0_1.toList != ([] : List UInt8)) = true := bne_iff_ne.mpr c5
    have H' := Aside0.mk H
    clear H
    have hcz7_0 : w3.cell? ⟨gb275, 0, none⟩ = some (.int .i64 a0_0) := (blk_cell BK275.out 0).trans rfl
    have hcz7_1 : w3.cell? ⟨gb275, 1, none⟩ = some (.string a0_1) := (blk_cell BK275.out 1).trans rfl
    have hcz7_2 : w3.cell? ⟨gb275, 2, none⟩ = some (.int .i64 a0_2) := (blk_cell BK275.out 2).trans rfl
    have hfz7_0 := blk_frozen BK275.out 0
    have hfz7_1 := blk_frozen BK275.out 1
    have hfz7_2 := blk_frozen BK275.out 2
    go_wp2
    go_meet
    case rel => exact ⟨_, (false), (by (rfl)), H', ⟨by (omega)⟩, ⟨by (with_reducible repeat ((refine blk_drew ?_))); exact BK275.out⟩, ⟨by repeat ((with_reducible (exact HB.out)))⟩⟩
  ·rw [if_neg c4] at H
   have c4b0 : decide (0 < a0_0) = false := decide_eq_false c4
   clear c4
   ((skip))
   have H' := Aside0.mk H
   clear H
   have hcz8_0 : w3.cell? ⟨gb275, 0, none⟩ = some (.int .i64 a0_0) := (blk_cell BK275.out 0).trans rfl
   have hcz8_1 : w3.cell? ⟨gb275, 1, none⟩ = some (.string a0_1) := (blk_cell BK275.out 1).trans rfl
   have hcz8_2 : w3.cell? ⟨gb275, 2, none⟩ = some (.int .i64 a0_2) := (blk_cell BK275.out 2).trans rfl
   have hfz8_0 := blk_frozen BK275.out 0
   have hfz8_1 := blk_frozen BK275.out 1
   have hfz8_2 := blk_frozen BK275.out 2
   go_wp2
   go_meet
   case rel => exact ⟨_, (false), (by (rfl)), H', ⟨by (omega)⟩, ⟨by (with_reducible repeat ((refine blk_drew ?_))); exact BK275.out⟩, ⟨by repeat ((with_reducible (exact HB.out)))⟩⟩
 case rest =>
  clear HC2
  try clear p2
  try clear c4
  try clear c4b0
  try clear c5
  try clear c5b0
  try clear c5b1
  try clear hcz6_0
  try clear hcz6_1
  try clear hcz6_2
  try clear hcz7_0
  try clear hcz7_1
  try clear hcz7_2
  try clear hcz8_0
  try clear hcz8_1
  try clear hcz8_2
  try clear hfz6_0
  try clear hfz6_1
  try clear hfz6_2
  try clear hfz7_0
  try clear hfz7_1
  try clear hfz7_2
  try clear hfz8_0
  try clear hfz8_1
  try clear hfz8_2
  obtain ⟨kq, x15_1, rfl, HA, HJ1, BK275, HB⟩ := hcut
  cases kq with
  | zero => exact absurd HA.out (by simp [variorumref06_Kind.j0])
  | succ kj1 =>
   have H := HA.out
   clear HA
   simp only [variorumref06_Kind.j0] at H
   by_cases c9 : x15_1 = true
   ·subst c9
    have H1 : (some 1) = some r := by rw [if_pos rfl] at H; exact H
    clear H
    have H := H1
    clear H1
    obtain rfl := Option.some.inj H
    go_wp2
    go_ret
    exact ⟨by (rfl), by repeat ((with_reducible (exact HB.out)))⟩
   ·replace c9 := Bool.eq_false_iff.mpr c9
    subst c9
    have H1 : (if a0_0 = 0 then (if a0_1.toList = ([] : List UInt8) then (variorumref06_Kind.j1 kj1 false a0_0 a0_1 a0_2) else (variorumref06_Kind.j1 kj1 (a0_2 == 0) a0_0 a0_1 a0_2)) else (variorumref06_Kind.j1 kj1 false a0_0 a0_1 a0_2)) = some r := by rw [if_neg (show ¬ (false = true) by decide)] at H; exact H
    clear H
    have H := H1
    clear H1
    have HC10 := Aside0.mk H
    clear H
    go_upto_region 3 with (fail)
    go_cut [28] (fun v28 wc => ∃ (kq : Nat) (x28_9 : Bool), v28 = .bool x28_9 ∧ Aside0 (variorumref06_Kind.j1 kq x28_9 a0_0 a0_1 a0_2 = some r) ∧ Aside0 (kq ≤ kj1) ∧ Aside0 (wc.heap[gb275]? = some (.cells #[.int .i64 a0_0, .string a0_1, .int .i64 a0_2] 85 (0, 0))) ∧ Aside0 (Below w.heap.size w wc))
    case first =>
     have H := HC10.out
     clear HC10
     by_cases c11 : a0_0 = 0
     ·rw [if_pos c11] at H
      have c11b0 : (a0_0 == 0) = true := beq_iff_eq.mpr c11
      have c11b1 : (a0_0 != 0) = false := bne_eq_false_iff_eq.mpr c11
      clear c11
      ((skip))
      by_cases c12 : a0_1.toList = ([] : List UInt8)
      ·rw [if_pos c12] at H
       have c12b0 : (a0_1.toList == ([] : List UInt8)) = true := beq_iff_eq.mpr c12
       have c12b1 : (a0_1.toList != ([] : List UInt8)) = false := bne_eq_false_iff_eq.mpr c12
       clear c12
       have H' := Aside0.mk H
       clear H
       have hcz13_0 : wc.cell? ⟨gb275, 0, none⟩ = some (.int .i64 a0_0) := (blk_cell BK275.out 0).trans rfl
       have hcz13_1 : wc.cell? ⟨gb275, 1, none⟩ = some (.string a0_1) := (blk_cell BK275.out 1).trans rfl
       have hcz13_2 : wc.cell? ⟨gb275, 2, none⟩ = some (.int .i64 a0_2) := (blk_cell BK275.out 2).trans rfl
       have hfz13_0 := blk_frozen BK275.out 0
       have hfz13_1 := blk_frozen BK275.out 1
       have hfz13_2 := blk_frozen BK275.out 2
       go_wp2
       go_meet
       case rel => exact ⟨_, (false), (by (rfl)), H', ⟨by have := HJ1.out; (omega)⟩, ⟨by (with_reducible repeat ((refine blk_drew ?_))); exact BK275.out⟩, ⟨by repeat ((with_reducible (exact HB.out)))⟩⟩
      ·rw [if_neg c12] at H
       have c12b0 : (a0_1.toList == ([] : List UInt8)) = false := beq_eq_false_iff_ne.mpr c12
       have c12b1 : (a0_1.toList != ([] : List UInt8)) = true := bne_iff_ne.mpr c12
       have H' := Aside0.mk H
       clear H
       have hcz14_0 : wc.cell? ⟨gb275, 0, none⟩ = some (.int .i64 a0_0) := (blk_cell BK275.out 0).trans rfl
       have hcz14_1 : wc.cell? ⟨gb275, 1, none⟩ = some (.string a0_1) := (blk_cell BK275.out 1).trans rfl
       have hcz14_2 : wc.cell? ⟨gb275, 2, none⟩ = some (.int .i64 a0_2) := (blk_cell BK275.out 2).trans rfl
       have hfz14_0 := blk_frozen BK275.out 0
       have hfz14_1 := blk_frozen BK275.out 1
       have hfz14_2 := blk_frozen BK275.out 2
       go_wp2
       go_meet
       case rel => exact ⟨_, ((a0_2 == 0)), (by (rfl)), H', ⟨by have := HJ1.out; (omega)⟩, ⟨by (with_reducible repeat ((refine blk_drew ?_))); exact BK275.out⟩, ⟨by repeat ((with_reducible (exact HB.out)))⟩⟩
     ·rw [if_neg c11] at H
      have c11b0 : (a0_0 == 0) = false := beq_eq_false_iff_ne.mpr c11
      have c11b1 : (a0_0 != 0) = true := bne_iff_ne.mpr c11
      ((skip))
      have H' := Aside0.mk H
      clear H
      have hcz15_0 : wc.cell? ⟨gb275, 0, none⟩ = some (.int .i64 a0_0) := (blk_cell BK275.out 0).trans rfl
      have hcz15_1 : wc.cell? ⟨gb275, 1, none⟩ = some (.string a0_1) := (blk_cell BK275.out 1).trans rfl
      have hcz15_2 : wc.cell? ⟨gb275, 2, none⟩ = some (.int .i64 a0_2) := (blk_cell BK275.out 2).trans rfl
      have hfz15_0 := blk_frozen BK275.out 0
      have hfz15_1 := blk_frozen BK275.out 1
      have hfz15_2 := blk_frozen BK275.out 2
      go_wp2
      go_meet
      case rel => exact ⟨_, (false), (by (rfl)), H', ⟨by have := HJ1.out; (omega)⟩, ⟨by (with_reducible repeat ((refine blk_drew ?_))); exact BK275.out⟩, ⟨by repeat ((with_reducible (exact HB.out)))⟩⟩
    case rest =>
     clear HC10
     try clear c1
     try clear p2
     try clear c4
     try clear c4b0
     try clear c5
     try clear c5b0
     try clear c5b1
     try clear c9
     try clear c11
     try clear c11b0
     try clear c11b1
     try clear c12
     try clear c12b0
     try clear c12b1
     try clear hcz13_0
     try clear hcz13_1
     try clear hcz13_2
     try clear hcz14_0
     try clear hcz14_1
     try clear hcz14_2
     try clear hcz15_0
     try clear hcz15_1
     try clear hcz15_2
     try clear hcz6_0
     try clear hcz6_1
     try clear hcz6_2
     try clear hcz7_0
     try clear hcz7_1
     try clear hcz7_2
     try clear hcz8_0
     try clear hcz8_1
     try clear hcz8_2
     try clear hfz13_0
     try clear hfz13_1
     try clear hfz13_2
     try clear hfz14_0
     try clear hfz14_1
     try clear hfz14_2
     try clear hfz15_0
     try clear hfz15_1
     try clear hfz15_2
     try clear hfz6_0
     try clear hfz6_1
     try clear hfz6_2
     try clear hfz7_0
     try clear hfz7_1
     try clear hfz7_2
     try clear hfz8_0
     try clear hfz8_1
     try clear hfz8_2
     try clear p2
     obtain ⟨kq, x28_9, rfl, HA, HJ9, BK275, HB⟩ := hcut
     cases kq with
     | zero => exact absurd HA.out (by simp [variorumref06_Kind.j1])
     | succ kj9 =>
      have H := HA.out
      clear HA
      simp only [variorumref06_Kind.j1] at H
      by_cases c16 : x28_9 = true
      ·subst c16
       have H1 : (some 2) = some r := by rw [if_pos rfl] at H; exact H
       clear H
       have H := H1
       clear H1
       obtain rfl := Option.some.inj H
       go_wp2
       go_ret
       exact ⟨by (rfl), by repeat ((with_reducible (exact HB.out)))⟩
      ·replace c16 := Bool.eq_false_iff.mpr c16
       subst c16
       have H1 : (if a0_0 = 0 then (if a0_1.toList = ([] : List UInt8) then (if a0_2 > 0 then (some 3) else (some 0)) else (some 0)) else (some 0)) = some r := by rw [if_neg (show ¬ (false = true) by decide)] at H; exact H
       clear H
       have H := H1
       clear H1
       by_cases c17 : a0_0 = 0
       ·rw [if_pos c17] at H
        have c17b0 : (a0_0 == 0) = true := beq_iff_eq.mpr c17
        have c17b1 : (a0_0 != 0) = false := bne_eq_false_iff_eq.mpr c17
        clear c17
        by_cases c18 : a0_1.toList = ([] : List UInt8)
        ·rw [if_pos c18] at H
         have c18b0 : (a0_1.toList == ([] : List UInt8)) = true := beq_iff_eq.mpr c18
         have c18b1 : (a0_1.toList != ([] : List UInt8)) = false := bne_eq_false_iff_eq.mpr c18
         clear c18
         by_cases c19 : a0_2 > 0
         ·rw [if_pos c19] at H
          have c19b0 : decide (0 < a0_2) = true := decide_eq_true c19
          clear c19
          obtain rfl := Option.some.inj H
          have hcz20_0 : wc.cell? ⟨gb275, 0, none⟩ = some (.int .i64 a0_0) := (blk_cell BK275.out 0).trans rfl
          have hcz20_1 : wc.cell? ⟨gb275, 1, none⟩ = some (.string a0_1) := (blk_cell BK275.out 1).trans rfl
          have hcz20_2 : wc.cell? ⟨gb275, 2, none⟩ = some (.int .i64 a0_2) := (blk_cell BK275.out 2).trans rfl
          have hfz20_0 := blk_frozen BK275.out 0
          have hfz20_1 := blk_frozen BK275.out 1
          have hfz20_2 := blk_frozen BK275.out 2
          go_wp2
          go_ret
          exact ⟨by (rfl), by repeat ((with_reducible (exact HB.out)))⟩
         ·rw [if_neg c19] at H
          have c19b0 : decide (0 < a0_2) = false := decide_eq_false c19
          clear c19
          obtain rfl := Option.some.inj H
          have hcz21_0 : wc.cell? ⟨gb275, 0, none⟩ = some (.int .i64 a0_0) := (blk_cell BK275.out 0).trans rfl
          have hcz21_1 : wc.cell? ⟨gb275, 1, none⟩ = some (.string a0_1) := (blk_cell BK275.out 1).trans rfl
          have hcz21_2 : wc.cell? ⟨gb275, 2, none⟩ = some (.int .i64 a0_2) := (blk_cell BK275.out 2).trans rfl
          have hfz21_0 := blk_frozen BK275.out 0
          have hfz21_1 := blk_frozen BK275.out 1
          have hfz21_2 := blk_frozen BK275.out 2
          go_wp2
          go_ret
          exact ⟨by (rfl), by repeat ((with_reducible (exact HB.out)))⟩
        ·rw [if_neg c18] at H
         have c18b0 : (a0_1.toList == ([] : List UInt8)) = false := beq_eq_false_iff_ne.mpr c18
         have c18b1 : (a0_1.toList != ([] : List UInt8)) = true := bne_iff_ne.mpr c18
         obtain rfl := Option.some.inj H
         have hcz22_0 : wc.cell? ⟨gb275, 0, none⟩ = some (.int .i64 a0_0) := (blk_cell BK275.out 0).trans rfl
         have hcz22_1 : wc.cell? ⟨gb275, 1, none⟩ = some (.string a0_1) := (blk_cell BK275.out 1).trans rfl
         have hcz22_2 : wc.cell? ⟨gb275, 2, none⟩ = some (.int .i64 a0_2) := (blk_cell BK275.out 2).trans rfl
         have hfz22_0 := blk_frozen BK275.out 0
         have hfz22_1 := blk_frozen BK275.out 1
         have hfz22_2 := blk_frozen BK275.out 2
         go_wp2
         go_ret
         exact ⟨by (rfl), by repeat ((with_reducible (exact HB.out)))⟩
       ·rw [if_neg c17] at H
        have c17b0 : (a0_0 == 0) = false := beq_eq_false_iff_ne.mpr c17
        have c17b1 : (a0_0 != 0) = true := bne_iff_ne.mpr c17
        obtain rfl := Option.some.inj H
        have hcz23_0 : wc.cell? ⟨gb275, 0, none⟩ = some (.int .i64 a0_0) := (blk_cell BK275.out 0).trans rfl
        have hcz23_1 : wc.cell? ⟨gb275, 1, none⟩ = some (.string a0_1) := (blk_cell BK275.out 1).trans rfl
        have hcz23_2 : wc.cell? ⟨gb275, 2, none⟩ = some (.int .i64 a0_2) := (blk_cell BK275.out 2).trans rfl
        have hfz23_0 := blk_frozen BK275.out 0
        have hfz23_1 := blk_frozen BK275.out 1
        have hfz23_2 := blk_frozen BK275.out 2
        go_wp2
        go_ret
        exact ⟨by (rfl), by repeat ((with_reducible (exact HB.out)))⟩
end Go.Proofs.Ytedfcjcnhgomoaa.P
end
-- MERGED YtedfcjcnhgomoaaPvariorumref06sums
section
namespace Go.Proofs.Ytedfcjcnhgomoaa.P
open Go.RowKit Go.Proofs.YtedfcjcnhgomoaaW.PrintWords Go.Proofs.YtedfcjcnhgomoaaW.PrintLast Go.Proofs.YtedfcjcnhgomoaaW.PrintMore
attribute [local go_sem] max2_int min2_int max_two min_two max_three min_three max_four min_four   -- for this text's walks alone
set_option linter.unusedVariables false
set_option linter.unusedSimpArgs false
def variorumref06_sums.l0 : Nat → List (S85) → Int → Int → Int → Option (Int × Int × Bool)
 | 0, _, _, _, _ => none
 | k + 1, x0, x5, x6, x7 => if x7 < (x0.length : Int) then (if 0 ≤ x7 then (if ((rd_T85 x0 x7).f0) > (wrap64 (16777216 - x5)) then (some (0, 0, false)) else (if ((rd_T85 x0 x7).f2) > (wrap64 (16777216 - x5)) then (some (0, 0, false)) else (if ((rd_T85 x0 x7).f0) > (wrap64 (16777216 - x6)) then (some (0, 0, false)) else (if (((rd_T85 x0 x7).f1).size : Int) > (wrap64 (16777216 - x6)) then (some (0, 0, false)) else (variorumref06_sums.l0 k x0 (wrap64 ((wrap64 (x5 + ((rd_T85 x0 x7).f0))) + ((rd_T85 x0 x7).f2))) (wrap64 ((wrap64 (x6 + ((rd_T85 x0 x7).f0))) + (((rd_T85 x0 x7).f1).size : Int))) (wrap64 (x7 + 1))))))) else (none)) else (some (x5, x6, true))
def variorumref06_sums.f (k : Nat) (l0 : List (S85)) : Option (Int × Int × Bool) := variorumref06_sums.l0 k l0 0 0 0
set_option maxHeartbeats 8000000 in
set_option maxRecDepth 100000 in
theorem variorumref06_sums.calls (k : Nat) (A0 : Option Addr) (c0 : Nat) (l0 : List (S85)) (r1 : Int) (r2 : Int) (r3 : Bool) (w : World) (hr0 : Kd.C k85 w A0 l0.length l0) (hc0 : l0.length ≤ c0) (h : variorumref06_sums.f k l0 = some (r1, r2, r3)) :
  Calls Try.prog 96 #[.slice A0 l0.length c0] w fun e w' => e = .returned (.tuple #[.int .i64 r1, .int .i64 r2, .bool r3]) ∧ Below w.heap.size w w' := by
 have hu85 := Try.underlying85
 have HR0 := Aside0.mk hr0
 have HC0 := Aside0.mk hc0
 clear hr0 hc0
 have HB := Aside0.mk (Below.refl w.heap.size w)
 have H : (variorumref06_sums.l0 k l0 0 0 0) = some (r1, r2, r3) := h
 clear h
 have H' := Aside0.mk H
 clear H
 go_enter Try.func96, Try.ntmps96
 go_wp2
 go_loopg [5, 6, 7] k (fun kq v5 v6 v7 w' => ∃ (x5_1 : Int) (x6_1 : Int) (x7_1 : Int), v5 = .int .i64 x5_1 ∧ v6 = .int .i64 x6_1 ∧ v7 = .int .i64 x7_1 ∧ Aside0 (variorumref06_sums.l0 kq l0 x5_1 x6_1 x7_1 = some (r1, r2, r3)) ∧ Aside0 (kq ≤ k) ∧ Aside0 (Below w.heap.size w w'))
 case atStart => exact ⟨(0), (0), (0), (by (rfl)), (by (rfl)), (by (rfl)), H', ⟨Nat.le_refl _⟩, ⟨by repeat ((with_reducible (exact HB.out)))⟩⟩
 case round =>
  clear H'
  obtain ⟨x5_1, x6_1, x7_1, rfl, rfl, rfl, HA, HK1, HB⟩ := hrel
  cases gk with
  | zero => exact absurd HA.out (by simp [variorumref06_sums.l0])
  | succ k1 =>
   have H := HA.out
   clear HA
   simp only [variorumref06_sums.l0] at H
   by_cases c2 : x7_1 < (l0.length : Int)
   ·rw [if_pos c2] at H
    have c2b0 : decide (x7_1 < (l0.length : Int)) = true := decide_eq_true c2
    clear c2
    by_cases c3 : 0 ≤ x7_1
    ·rw [if_pos c3] at H
     have c3b0 : decide (0 ≤ x7_1) = true := decide_eq_true c3
     clear c3
     by_cases c4 : ((rd_T85 l0 x7_1).f0) > (wrap64 (16777216 - x5_1))
     ·rw [if_pos c4] at H
      have c4b0 : decide ((wrap64 (16777216 - x5_1)) < ((rd_T85 l0 x7_1).f0)) = true := decide_eq_true c4
      clear c4
      simp only [Option.some.injEq, Prod.mk.injEq] at H
      obtain ⟨rfl, rfl, rfl⟩ := H
      have p276 : 0 ≤ (x7_1 : Int) := of_decide_eq_true (by (with_reducible assumption))
      have q276 : x7_1 < (l0.length : Int) := of_decide_eq_true (by (with_reducible assumption))
      obtain ⟨ad276, e276, hx276_0, hx276_1, hx276_2⟩ := at_T85 HR0.out x7_1 p276 q276
      cases e276
      replace hx276_0 := (HB.out.cell (World.block_lt_of_cell? w _ hx276_0)).trans hx276_0
      replace hx276_1 := (HB.out.cell (World.block_lt_of_cell? w _ hx276_1)).trans hx276_1
      replace hx276_2 := (HB.out.cell (World.block_lt_of_cell? w _ hx276_2)).trans hx276_2
      replace p276 := eq_true p276
      replace q276 := eq_true q276
      go_wp2_with (first | ((with_reducible refine gate_dst (N := 8) rfl ?_); (try (refine gate_guard (by rfl) ?_; dsimp only)); refine box_event ?hg (N := 8) ?hd (cs := #[.int .i64 0, .string (⟨#[]⟩ : ByteArray), .int .i64 0]) (t := 85) ?hr ?_; (case hd => rfl); (case hg => rfl); (case hr => (go_simp; done)); intro gb277 hg w5 hbox hb; have n0_ := Aside0.mk (below_step (by repeat ((with_reducible (exact HB.out)))) hb); have n1_ := Aside0.mk (hbox); have n2_ := Aside0.mk ((by rw [hg]; exact (below_size (by repeat ((with_reducible (exact HB.out))))) : w.heap.size ≤ gb277)); have n3_ := Aside0.mk ((by rw [hg]; exact (below_size (by repeat ((with_reducible (exact HB.out))))) : w.heap.size ≤ gb277)); clear HB; have HB := n0_; have BK277 := n1_; have GW277 := n2_; have GE277 := n3_; clear n0_ n1_ n2_ n3_; clear hb hbox hg; have hcz6_0 : w5.cell? ⟨gb277, 0, none⟩ = some (.int .i64 0) := (blk_cell BK277.out 0).trans rfl; have hcz6_1 : w5.cell? ⟨gb277, 1, none⟩ = some (.string (⟨#[]⟩ : ByteArray)) := (blk_cell BK277.out 1).trans rfl; have hcz6_2 : w5.cell? ⟨gb277, 2, none⟩ = some (.int .i64 0) := (blk_cell BK277.out 2).trans rfl; have hfz6_0 := blk_frozen BK277.out 0; have hfz6_1 := blk_frozen BK277.out 1; have hfz6_2 := blk_frozen BK277.out 2))
      go_ret3
      exact ⟨by (rfl), by repeat ((with_reducible first | exact HB.out | refine below_set ?_ GE277.out))⟩
     ·rw [if_neg c4] at H
      have c4b0 : decide ((wrap64 (16777216 - x5_1)) < ((rd_T85 l0 x7_1).f0)) = false := decide_eq_false c4
      clear c4
      by_cases c7 : ((rd_T85 l0 x7_1).f2) > (wrap64 (16777216 - x5_1))
      ·rw [if_pos c7] at H
       have c7b0 : decide ((wrap64 (16777216 - x5_1)) < ((rd_T85 l0 x7_1).f2)) = true := decide_eq_true c7
       clear c7
       simp only [Option.some.injEq, Prod.mk.injEq] at H
       obtain ⟨rfl, rfl, rfl⟩ := H
       have p276 : 0 ≤ (x7_1 : Int) := of_decide_eq_true (by (with_reducible assumption))
       have q276 : x7_1 < (l0.length : Int) := of_decide_eq_true (by (with_reducible assumption))
       obtain ⟨ad276, e276, hx276_0, hx276_1, hx276_2⟩ := at_T85 HR0.out x7_1 p276 q276
       cases e276
       replace hx276_0 := (HB.out.cell (World.block_lt_of_cell? w _ hx276_0)).trans hx276_0
       replace hx276_1 := (HB.out.cell (World.block_lt_of_cell? w _ hx276_1)).trans hx276_1
       replace hx276_2 := (HB.out.cell (World.block_lt_of_cell? w _ hx276_2)).trans hx276_2
       replace p276 := eq_true p276
       replace q276 := eq_true q276
       go_wp2_with (first | ((with_reducible refine gate_dst (N := 8) rfl ?_); (try (refine gate_guard (by rfl) ?_; dsimp only)); refine box_event ?hg (N := 8) ?hd (cs := #[.int .i64 0, .string (⟨#[]⟩ : ByteArray), .int .i64 0]) (t := 85) ?hr ?_; (case hd => rfl); (case hg => rfl); (case hr => (go_simp; done)); intro gb277 hg w8 hbox hb; have n0_ := Aside0.mk (below_step (by repeat ((with_reducible (exact HB.out)))) hb); have n1_ := Aside0.mk (hbox); have n2_ := Aside0.mk ((by rw [hg]; exact (below_size (by repeat ((with_reducible (exact HB.out))))) : w.heap.size ≤ gb277)); have n3_ := Aside0.mk ((by rw [hg]; exact (below_size (by repeat ((with_reducible (exact HB.out))))) : w.heap.size ≤ gb277)); clear HB; have HB := n0_; have BK277 := n1_; have GW277 := n2_; have GE277 := n3_; clear n0_ n1_ n2_ n3_; clear hb hbox hg; have hcz9_0 : w8.cell? ⟨gb277, 0, none⟩ = some (.int .i64 0) := (blk_cell BK277.out 0).trans rfl; have hcz9_1 : w8.cell? ⟨gb277, 1, none⟩ = some (.string (⟨#[]⟩ : ByteArray)) := (blk_cell BK277.out 1).trans rfl; have hcz9_2 : w8.cell? ⟨gb277, 2, none⟩ = some (.int .i64 0) := (blk_cell BK277.out 2).trans rfl; have hfz9_0 := blk_frozen BK277.out 0; have hfz9_1 := blk_frozen BK277.out 1; have hfz9_2 := blk_frozen BK277.out 2))
       go_ret3
       exact ⟨by (rfl), by repeat ((with_reducible first | exact HB.out | refine below_set ?_ GE277.out))⟩
      ·rw [if_neg c7] at H
       have c7b0 : decide ((wrap64 (16777216 - x5_1)) < ((rd_T85 l0 x7_1).f2)) = false := decide_eq_false c7
       clear c7
       by_cases c10 : ((rd_T85 l0 x7_1).f0) > (wrap64 (16777216 - x6_1))
       ·rw [if_pos c10] at H
        have c10b0 : decide ((wrap64 (16777216 - x6_1)) < ((rd_T85 l0 x7_1).f0)) = true := decide_eq_true c10
        clear c10
        simp only [Option.some.injEq, Prod.mk.injEq] at H
        obtain ⟨rfl, rfl, rfl⟩ := H
        have p276 : 0 ≤ (x7_1 : Int) := of_decide_eq_true (by (with_reducible assumption))
        have q276 : x7_1 < (l0.length : Int) := of_decide_eq_true (by (with_reducible assumption))
        obtain ⟨ad276, e276, hx276_0, hx276_1, hx276_2⟩ := at_T85 HR0.out x7_1 p276 q276
        cases e276
        replace hx276_0 := (HB.out.cell (World.block_lt_of_cell? w _ hx276_0)).trans hx276_0
        replace hx276_1 := (HB.out.cell (World.block_lt_of_cell? w _ hx276_1)).trans hx276_1
        replace hx276_2 := (HB.out.cell (World.block_lt_of_cell? w _ hx276_2)).trans hx276_2
        replace p276 := eq_true p276
        replace q276 := eq_true q276
        go_wp2_with (first | ((with_reducible refine gate_dst (N := 8) rfl ?_); (try (refine gate_guard (by rfl) ?_; dsimp only)); refine box_event ?hg (N := 8) ?hd (cs := #[.int .i64 0, .string (⟨#[]⟩ : ByteArray), .int .i64 0]) (t := 85) ?hr ?_; (case hd => rfl); (case hg => rfl); (case hr => (go_simp; done)); intro gb277 hg w11 hbox hb; have n0_ := Aside0.mk (below_step (by repeat ((with_reducible (exact HB.out)))) hb); have n1_ := Aside0.mk (hbox); have n2_ := Aside0.mk ((by rw [hg]; exact (below_size (by repeat ((with_reducible (exact HB.out))))) : w.heap.size ≤ gb277)); have n3_ := Aside0.mk ((by rw [hg]; exact (below_size (by repeat ((with_reducible (exact HB.out))))) : w.heap.size ≤ gb277)); clear HB; have HB := n0_; have BK277 := n1_; have GW277 := n2_; have GE277 := n3_; clear n0_ n1_ n2_ n3_; clear hb hbox hg; have hcz12_0 : w11.cell? ⟨gb277, 0, none⟩ = some (.int .i64 0) := (blk_cell BK277.out 0).trans rfl; have hcz12_1 : w11.cell? ⟨gb277, 1, none⟩ = some (.string (⟨#[]⟩ : ByteArray)) := (blk_cell BK277.out 1).trans rfl; have hcz12_2 : w11.cell? ⟨gb277, 2, none⟩ = some (.int .i64 0) := (blk_cell BK277.out 2).trans rfl; have hfz12_0 := blk_frozen BK277.out 0; have hfz12_1 := blk_frozen BK277.out 1; have hfz12_2 := blk_frozen BK277.out 2))
        go_ret3
        exact ⟨by (rfl), by repeat ((with_reducible first | exact HB.out | refine below_set ?_ GE277.out))⟩
       ·rw [if_neg c10] at H
        have c10b0 : decide ((wrap64 (16777216 - x6_1)) < ((rd_T85 l0 x7_1).f0)) = false := decide_eq_false c10
        clear c10
        by_cases c13 : (((rd_T85 l0 x7_1).f1).size : Int) > (wrap64 (16777216 - x6_1))
        ·rw [if_pos c13] at H
         have c13b0 : decide ((wrap64 (16777216 - x6_1)) < (((rd_T85 l0 x7_1).f1).size : Int)) = true := decide_eq_true c13
         clear c13
         simp only [Option.some.injEq, Prod.mk.injEq] at H
         obtain ⟨rfl, rfl, rfl⟩ := H
         have p276 : 0 ≤ (x7_1 : Int) := of_decide_eq_true (by (with_reducible assumption))
         have q276 : x7_1 < (l0.length : Int) := of_decide_eq_true (by (with_reducible assumption))
         obtain ⟨ad276, e276, hx276_0, hx276_1, hx276_2⟩ := at_T85 HR0.out x7_1 p276 q276
         cases e276
         replace hx276_0 := (HB.out.cell (World.block_lt_of_cell? w _ hx276_0)).trans hx276_0
         replace hx276_1 := (HB.out.cell (World.block_lt_of_cell? w _ hx276_1)).trans hx276_1
         replace hx276_2 := (HB.out.cell (World.block_lt_of_cell? w _ hx276_2)).trans hx276_2
         replace p276 := eq_true p276
         replace q276 := eq_true q276
         go_wp2_with (first | ((with_reducible refine gate_dst (N := 8) rfl ?_); (try (refine gate_guard (by rfl) ?_; dsimp only)); refine box_event ?hg (N := 8) ?hd (cs := #[.int .i64 0, .string (⟨#[]⟩ : ByteArray), .int .i64 0]) (t := 85) ?hr ?_; (case hd => rfl); (case hg => rfl); (case hr => (go_simp; done)); intro gb277 hg w14 hbox hb; have n0_ := Aside0.mk (below_step (by repeat ((with_reducible (exact HB.out)))) hb); have n1_ := Aside0.mk (hbox); have n2_ := Aside0.mk ((by rw [hg]; exact (below_size (by repeat ((with_reducible (exact HB.out))))) : w.heap.size ≤ gb277)); have n3_ := Aside0.mk ((by rw [hg]; exact (below_size (by repeat ((with_reducible (exact HB.out))))) : w.heap.size ≤ gb277)); clear HB; have HB := n0_; have BK277 := n1_; have GW277 := n2_; have GE277 := n3_; clear n0_ n1_ n2_ n3_; clear hb hbox hg; have hcz15_0 : w14.cell? ⟨gb277, 0, none⟩ = some (.int .i64 0) := (blk_cell BK277.out 0).trans rfl; have hcz15_1 : w14.cell? ⟨gb277, 1, none⟩ = some (.string (⟨#[]⟩ : ByteArray)) := (blk_cell BK277.out 1).trans rfl; have hcz15_2 : w14.cell? ⟨gb277, 2, none⟩ = some (.int .i64 0) := (blk_cell BK277.out 2).trans rfl; have hfz15_0 := blk_frozen BK277.out 0; have hfz15_1 := blk_frozen BK277.out 1; have hfz15_2 := blk_frozen BK277.out 2))
         go_ret3
         exact ⟨by (rfl), by repeat ((with_reducible first | exact HB.out | refine below_set ?_ GE277.out))⟩
        ·rw [if_neg c13] at H
         have c13b0 : decide ((wrap64 (16777216 - x6_1)) < (((rd_T85 l0 x7_1).f1).size : Int)) = false := decide_eq_false c13
         clear c13
         have H' := Aside0.mk H
         clear H
         have p276 : 0 ≤ (x7_1 : Int) := of_decide_eq_true (by (with_reducible assumption))
         have q276 : x7_1 < (l0.length : Int) := of_decide_eq_true (by (with_reducible assumption))
         obtain ⟨ad276, e276, hx276_0, hx276_1, hx276_2⟩ := at_T85 HR0.out x7_1 p276 q276
         cases e276
         replace hx276_0 := (HB.out.cell (World.block_lt_of_cell? w _ hx276_0)).trans hx276_0
         replace hx276_1 := (HB.out.cell (World.block_lt_of_cell? w _ hx276_1)).trans hx276_1
         replace hx276_2 := (HB.out.cell (World.block_lt_of_cell? w _ hx276_2)).trans hx276_2
         replace p276 := eq_true p276
         replace q276 := eq_true q276
         go_wp2_with (first | ((with_reducible refine gate_dst (N := 8) rfl ?_); (try (refine gate_guard (by rfl) ?_; dsimp only)); refine box_event ?hg (N := 8) ?hd (cs := #[.int .i64 0, .string (⟨#[]⟩ : ByteArray), .int .i64 0]) (t := 85) ?hr ?_; (case hd => rfl); (case hg => rfl); (case hr => (go_simp; done)); intro gb277 hg w16 hbox hb; have n0_ := Aside0.mk (below_step (by repeat ((with_reducible (exact HB.out)))) hb); have n1_ := Aside0.mk (hbox); have n2_ := Aside0.mk ((by rw [hg]; exact (below_size (by repeat ((with_reducible (exact HB.out))))) : w.heap.size ≤ gb277)); have n3_ := Aside0.mk ((by rw [hg]; exact (below_size (by repeat ((with_reducible (exact HB.out))))) : w.heap.size ≤ gb277)); clear HB; have HB := n0_; have BK277 := n1_; have GW277 := n2_; have GE277 := n3_; clear n0_ n1_ n2_ n3_; clear hb hbox hg; have hcz17_0 : w16.cell? ⟨gb277, 0, none⟩ = some (.int .i64 0) := (blk_cell BK277.out 0).trans rfl; have hcz17_1 : w16.cell? ⟨gb277, 1, none⟩ = some (.string (⟨#[]⟩ : ByteArray)) := (blk_cell BK277.out 1).trans rfl; have hcz17_2 : w16.cell? ⟨gb277, 2, none⟩ = some (.int .i64 0) := (blk_cell BK277.out 2).trans rfl; have hfz17_0 := blk_frozen BK277.out 0; have hfz17_1 := blk_frozen BK277.out 1; have hfz17_2 := blk_frozen BK277.out 2))
         go_roundg k1
         case measure => have := HK1.out; omega
         case rel => exact ⟨(wrap64 ((wrap64 (x5_1 + ((rd_T85 l0 x7_1).f0))) + ((rd_T85 l0 x7_1).f2))), (wrap64 ((wrap64 (x6_1 + ((rd_T85 l0 x7_1).f0))) + (((rd_T85 l0 x7_1).f1).size : Int))), (wrap64 (x7_1 + 1)), (by (rfl)), (by (rfl)), (by (rfl)), H', ⟨by have := HK1.out; omega⟩, ⟨by repeat ((with_reducible first | exact HB.out | refine below_set ?_ GE277.out))⟩⟩
    ·rw [if_neg c3] at H
     exact absurd H (by simp)
   ·rw [if_neg c2] at H
    have c2b0 : decide (x7_1 < (l0.length : Int)) = false := decide_eq_false c2
    clear c2
    simp only [Option.some.injEq, Prod.mk.injEq] at H
    obtain ⟨rfl, rfl, rfl⟩ := H
    go_wp2
    go_ret3
    exact ⟨by (rfl), by repeat ((with_reducible (exact HB.out)))⟩
end Go.Proofs.Ytedfcjcnhgomoaa.P
end
-- MERGED YtedfcjcnhgomoaaEditK
section
namespace Go.Proofs.Ytedfcjcnhgomoaa.EditK
open Go.RowKit Go.Proofs.Ytedfcjcnhgomoaa.P Go.Proofs.YtedfcjcnhgomoaaW.PrintWords Go.Proofs.YtedfcjcnhgomoaaW.PrintLast Go.Proofs.YtedfcjcnhgomoaaW.PrintMore Go.Proofs.Ytedfcjcnhgomoaa.EditL
set_option linter.unusedSimpArgs false
set_option linter.unusedVariables false
theorem w64 {x : Int} (h1 : -9223372036854775808 ≤ x) (h2 : x ≤ 9223372036854775807) : wrap64 x = x := by unfold wrap64; omega
theorem tl_nil {s : ByteArray} : (s.toList = ([] : List UInt8)) ↔ s.size = 0 := by
 rw [ByteArray.toList_eq]
 constructor
 ·intro h
  show s.data.size = 0
  rw [← Array.length_toList, h]; rfl
 ·intro h
  have : s.data.toList.length = 0 := by rw [Array.length_toList]; exact h
  exact List.eq_nil_of_length_eq_zero this
theorem rd_at {l pre suf : List Rn} {r : Rn} (h : l = pre ++ r :: suf) : rd_T85 l (pre.length : Int) = r := by
 unfold rd_T85
 rw [Int.toNat_natCast, h]
 simp [List.getD_eq_getElem?_getD]
theorem snoc {l pre suf : List Rn} {r : Rn} (h : l = pre ++ r :: suf) : l = (pre ++ [r]) ++ suf ∧ ((pre ++ [r]).length : Int) = (pre.length : Int) + 1 ∧ (pre.length : Int) < (l.length : Int) := by
 subst h
 simp
 omega
theorem rkind_f (r : Rn) (k : Nat) : variorumref06_Kind.f (k + 2) r.f0 r.f1 r.f2 = some (knd r) := by
 unfold variorumref06_Kind.f knd
 simp only [variorumref06_Kind.j0, variorumref06_Kind.j1, tl_nil]
 generalize r.f1.size = n
 generalize r.f0 = a
 generalize r.f2 = d
 by_cases c0 : 0 < a <;> by_cases c1 : n = 0 <;> by_cases c2 : d = 0 <;> by_cases c3 : a = 0 <;> by_cases c4 : 0 < d <;> simp [c0, c1, c2, c3, c4] <;> omega
theorem rkind_c (r : Rn) (w : World) : Calls Try.prog 95 #[.agg #[.int .i64 r.f0, .string r.f1, .int .i64 r.f2]] w fun e w' => e = .returned (.int .i64 (knd r)) ∧ Below w.heap.size w w' :=
 variorumref06_Kind.calls 2 _ _ _ _ w (rkind_f r 0)
theorem rsums_l (l0 : List Rn) (hb : l0.length ≤ 140737488351232) : ∀ (suf pre : List Rn) (k : Nat) (i o : Int), l0 = pre ++ suf → suf.length < k → (∀ r ∈ suf, knd r ≠ 0) → 0 ≤ i → i ≤ 16777216 → 0 ≤ o → o ≤ 16777216 →
  variorumref06_sums.l0 k l0 i o (pre.length : Int) = some (cond (fits suf i o) (i + inL suf, o + outL suf, true) (0, 0, false)) := by
 intro suf
 induction suf with
 | nil =>
  intro pre k i o hl hk _ _ _ _ _
  obtain ⟨k, rfl⟩ : ∃ m, k = m + 1 := ⟨k - 1, by simp at hk; omega⟩
  have : l0.length = pre.length := by rw [hl]; simp
  simp only [variorumref06_sums.l0]
  rw [if_neg (by omega)]
  simp [fits, inL, outL]
 | cons r suf ih =>
  intro pre k i o hl hk hok hi0 hi ho0 ho
  obtain ⟨k, rfl⟩ : ∃ m, k = m + 1 := ⟨k - 1, by simp at hk; omega⟩
  obtain ⟨hl2, hn, hlt⟩ := snoc hl
  have hr := knd_cases r
  have h0 := hok r List.mem_cons_self
  have hp := knd_pos h0
  simp only [variorumref06_sums.l0]
  rw [if_pos hlt, if_pos (by omega), rd_at hl, w64 (x := 16777216 - i) (by omega) (by omega), w64 (x := 16777216 - o) (by omega) (by omega)]
  simp only [fits, inL, outL]
  by_cases c1 : r.f0 ≤ 16777216 - i
  ·rw [if_neg (by omega), decide_eq_true c1]
   by_cases c2 : r.f2 ≤ 16777216 - i
   ·rw [if_neg (by omega), decide_eq_true c2]
    by_cases c3 : r.f0 ≤ 16777216 - o
    ·rw [if_neg (by omega), decide_eq_true c3]
     by_cases c4 : (r.f1.size : Int) ≤ 16777216 - o
     ·rw [if_neg (by omega), decide_eq_true c4, Bool.true_and, Bool.true_and, Bool.true_and, Bool.true_and,
       w64 (x := i + r.f0) (by omega) (by omega), w64 (x := i + r.f0 + r.f2) (by omega) (by omega), w64 (x := o + r.f0) (by omega) (by omega), w64 (x := o + r.f0 + (r.f1.size : Int)) (by omega) (by omega), w64 (x := (pre.length : Int) + 1) (by omega) (by omega), ← hn,
       show i + r.f0 + r.f2 = i + (r.f0 + r.f2) by omega, show o + r.f0 + (r.f1.size : Int) = o + (r.f0 + (r.f1.size : Int)) by omega]
      rw [ih (pre ++ [r]) k _ _ hl2 (by simp at hk; omega) (fun x hx => hok x (List.mem_cons_of_mem _ hx)) (by omega) (by rcases hr with h | h | h | h <;> omega) (by omega) (by rcases hr with h | h | h | h <;> omega)]
      cases fits suf (i + (r.f0 + r.f2)) (o + (r.f0 + (r.f1.size : Int))) with
      | false => rfl
      | true => simp only [cond_true, Option.some.injEq, Prod.mk.injEq, and_true]; omega
     ·rw [if_pos (by omega), decide_eq_false c4]; rfl
    ·rw [if_pos (by omega), decide_eq_false c3]; rfl
   ·rw [if_pos (by omega), decide_eq_false c2]; rfl
  ·rw [if_pos (by omega), decide_eq_false c1]; rfl
theorem rsums_f {l : List Rn} (hb : l.length ≤ 140737488351232) (hok : ∀ r ∈ l, knd r ≠ 0) (k : Nat) (hk : l.length < k) : variorumref06_sums.f k l = some (cond (fits l 0 0) (inL l, outL l, true) (0, 0, false)) := by
 unfold variorumref06_sums.f
 have := rsums_l l hb l [] k 0 0 rfl hk hok (by omega) (by omega) (by omega) (by omega)
 simp only [Int.zero_add] at this
 exact this
def prev (l : List Rn) (j : Nat) : Int := if j = 0 then 0 else knd (l.getD (j - 1) z85)
theorem drop_get {l : List Rn} {j : Nat} (h : j < l.length) : l.drop j = l.getD j z85 :: l.drop (j + 1) := by
 rw [List.drop_eq_getElem_cons h, List.getD_eq_getElem?_getD, List.getElem?_eq_getElem h]; rfl
theorem ord_step {l : List Rn} {j : Nat} (h : j < l.length) : ord (l.drop j) (prev l j) = ((decide (knd (l.getD j z85) ≠ 0) && decide (knd (l.getD j z85) ≠ prev l j) && decide (¬ (prev l j = 3 ∧ knd (l.getD j z85) = 2))) && ord (l.drop (j + 1)) (prev l (j + 1))) := by
 rw [drop_get h]
 show _ = _
 simp only [ord]
 rw [show prev l (j + 1) = knd (l.getD j z85) from by unfold prev; rw [if_neg (by omega), Nat.add_sub_cancel]]
theorem at_nat {w : World} {A : Option Addr} {n : Nat} {xs : List Rn} (h : Kd.C k85 w A n xs) (j : Nat) (h1 : j < n) : ∃ ad , A = some ad ∧ w.cell? (ad.add (j * 3)) = some (.int .i64 (xs.getD j z85).f0) ∧ w.cell? ⟨(ad.add (j * 3)).block, (ad.add (j * 3)).off + 1, none⟩ = some (.string (xs.getD j z85).f1) ∧ w.cell? ⟨(ad.add (j * 3)).block, (ad.add (j * 3)).off + 2, none⟩ = some (.int .i64 (xs.getD j z85).f2) := by
 have := at_T85 h (j : Int) (by omega) (by omega)
 unfold rd_T85 at this
 rwa [Int.toNat_natCast] at this
set_option maxHeartbeats 4000000 in
set_option maxRecDepth 100000 in
theorem good_c (A0 : Option Addr) (c0 : Nat) (l0 : List Rn) (w : World) (hr0 : Kd.C k85 w A0 l0.length l0) (hc0 : l0.length ≤ c0) (hl : l0.length ≤ 140737488351232) :
  Calls Try.prog 69 #[.slice A0 l0.length c0] w fun e w' => e = .returned (.bool (good l0)) ∧ Below w.heap.size w w' := by
 have HR := Aside0.mk hr0
 have HC := Aside0.mk hc0
 have HG := Aside0.mk (show good l0 = ((ord l0 0 && decide (l0.length ≤ 65536)) && fits l0 0 0) from rfl)
 clear hr0 hc0
 by_cases h1 : l0.length ≤ 65536
 ·have h1' : (l0.length : Int) ≤ 65536 := by omega
  have HG1 := Aside0.mk (show good l0 = (ord l0 0 && fits l0 0 0) by rw [HG.out, decide_eq_true h1, Bool.and_true])
  have HL := Aside0.mk h1
  clear HG hl h1
  go_enter Try.func69, Try.ntmps69
  go_wp2_with fail
  go_loopw [3] (fun iv wr => ∃ j : Nat, j ≤ l0.length ∧ iv = .int .i64 (j : Int) ∧ ord (l0.drop j) (prev l0 j) = ord l0 0 ∧ Below w.heap.size w wr) (fun iv _ => l0.length - (intOf iv).toNat)
  case atStart => exact ⟨0, Nat.zero_le _, rfl, rfl, Below.refl _ _⟩
  case round =>
   obtain ⟨j, hj, rfl, ho, hb⟩ := hrel
   have HB := Aside0.mk hb
   have HO := Aside0.mk ho
   clear hb ho
   by_cases hlt : j < l0.length
   ·have hs := ord_step hlt
    obtain ⟨ad, rfl, x0, x1, x2⟩ := at_nat (Kd.C_below HR.out HB.out) j hlt
    obtain ⟨r, hr⟩ : ∃ r, r = l0.getD j z85 := ⟨_, rfl⟩
    rw [← hr] at x0 x1 x2 hs
    have HRR := Aside0.mk hr
    have HSS := Aside0.mk hs
    have hlt' : (j : Int) < (l0.length : Int) := by omega
    clear hr hs
    go_wp2_with fail
    refine (rkind_c r _).mono ?_
    rintro e w1 ⟨rfl, hb⟩
    have HB1 := Aside0.mk (HB.out.trans (hb.mono HB.out.size))
    obtain ⟨t, ht⟩ : ∃ t, t = knd r := ⟨_, rfl⟩
    rw [← ht] at HSS ⊢
    have HT := Aside0.mk ht
    clear hb ht x0 x1 x2
    by_cases c1 : t = 0
    ·subst c1
     have HF := Aside0.mk (show good l0 = false by rw [HG1.out, ← HO.out, HSS.out]; simp)
     go_wp2_with fail
     go_ret
     exact ⟨by rw [HF.out]; rfl, HB1.out⟩
    ·have c1b : (t == 0) = false := by simpa using c1
     have c1c : (t != 0) = true := by simpa using c1
     by_cases hj0 : j = 0
     ·subst hj0
      have HN := Aside0.mk (show ord (l0.drop 1) (prev l0 1) = ord l0 0 by
       rw [← HO.out, HSS.out, show prev l0 0 = 0 from rfl, decide_eq_true (show t ≠ 0 from c1), decide_eq_true (show ¬ ((0 : Int) = 3 ∧ t = 2) by omega)]; rfl)
      clear c1
      go_wp2_with fail
      go_roundw
      case rel => exact ⟨1, by omega, rfl, HN.out, HB1.out⟩
      case measure => simp [intOf]; omega
     ·have hj1 : 0 < j := by omega
      have hj2 : (0 : Int) < (j : Int) := by omega
      obtain ⟨ad', e', y0, y1, y2⟩ := at_nat (Kd.C_below HR.out HB1.out) (j - 1) (by omega)
      cases e'
      have hjn : ((j : Int) - 1).toNat = j - 1 := by omega
      obtain ⟨q, hq⟩ : ∃ q, q = l0.getD (j - 1) z85 := ⟨_, rfl⟩
      rw [← hq] at y0 y1 y2
      have HP := Aside0.mk (show prev l0 j = knd q by rw [hq]; unfold prev; rw [if_neg hj0])
      obtain ⟨u, hu⟩ : ∃ u, u = knd q := ⟨_, rfl⟩
      have HU := Aside0.mk hu
      have HQ := Aside0.mk hq
      rw [← hu] at HP
      clear hq hu hj0
      have hKQ := rkind_c q
      rw [← HU.out] at hKQ
      have HKQ := Aside0.mk hKQ
      clear hKQ
      by_cases c2 : u = t
      ·subst c2
       have HF := Aside0.mk (show good l0 = false by rw [HG1.out, ← HO.out, HSS.out, HP.out]; simp)
       clear c1
       go_wp2_with fail
       refine (HKQ.out _).mono ?_
       rintro e w2 ⟨rfl, hb⟩
       have HB2 := Aside0.mk (HB1.out.trans (hb.mono HB1.out.size))
       clear hb y0 y1 y2
       go_wp2_with fail
       go_ret
       exact ⟨by rw [HF.out]; rfl, HB2.out⟩
      ·have c2b : (u == t) = false := by simpa using c2
       have c2c : (u != t) = true := by simpa using c2
       have hy : ∀ w2, Below w.heap.size w w2 → w2.cell? (ad.add ((j - 1) * 3)) = some (.int .i64 q.f0) ∧ w2.cell? ⟨(ad.add ((j - 1) * 3)).block, (ad.add ((j - 1) * 3)).off + 1, none⟩ = some (.string q.f1) ∧ w2.cell? ⟨(ad.add ((j - 1) * 3)).block, (ad.add ((j - 1) * 3)).off + 2, none⟩ = some (.int .i64 q.f2) := by
        intro w2 hb2
        obtain ⟨ad2, e2, z0, z1, z2⟩ := at_nat (Kd.C_below HR.out hb2) (j - 1) (by omega)
        cases e2
        rw [HQ.out]
        exact ⟨z0, z1, z2⟩
       have HY := Aside0.mk hy
       clear hy
       go_wp2_with fail
       refine (HKQ.out _).mono ?_
       rintro e w2 ⟨rfl, hb⟩
       have HB2 := Aside0.mk (HB1.out.trans (hb.mono HB1.out.size))
       clear hb y0 y1 y2
       obtain ⟨y0, y1, y2⟩ := HY.out _ HB2.out
       by_cases c3 : u = 3
       ·subst c3
        by_cases c4 : t = 2
        ·subst c4
         have HF := Aside0.mk (show good l0 = false by rw [HG1.out, ← HO.out, HSS.out, HP.out]; simp)
         clear c1
         go_wp2_with fail
         refine (HKQ.out _).mono ?_
         rintro e w3 ⟨rfl, hb⟩
         have HB3 := Aside0.mk (HB2.out.trans (hb.mono HB2.out.size))
         clear hb y0 y1 y2
         go_wp2_with fail
         go_ret
         exact ⟨by rw [HF.out]; rfl, HB3.out⟩
        ·have c4b : (t == 2) = false := by simpa using c4
         have HN := Aside0.mk (show ord (l0.drop (j + 1)) (prev l0 (j + 1)) = ord l0 0 by
          rw [← HO.out, HSS.out, HP.out, decide_eq_true (show t ≠ 0 from c1), decide_eq_true (show t ≠ 3 by omega), decide_eq_true (show ¬ ((3 : Int) = 3 ∧ t = 2) by omega)]; rfl)
         clear c1 c2 c4
         go_wp2_with fail
         refine (HKQ.out _).mono ?_
         rintro e w3 ⟨rfl, hb⟩
         have HB3 := Aside0.mk (HB2.out.trans (hb.mono HB2.out.size))
         clear hb y0 y1 y2
         go_wp2_with fail
         go_roundw
         case rel => exact ⟨j + 1, by omega, by go_num, HN.out, HB3.out⟩
         case measure => simp [intOf]; omega
       ·have c3b : (u == 3) = false := by simpa using c3
        have HN := Aside0.mk (show ord (l0.drop (j + 1)) (prev l0 (j + 1)) = ord l0 0 by
         rw [← HO.out, HSS.out, HP.out, decide_eq_true (show t ≠ 0 from c1), decide_eq_true (show t ≠ u by omega), decide_eq_true (show ¬ (u = 3 ∧ t = 2) by omega)]; rfl)
        clear c1 c2 c3
        go_wp2_with fail
        refine (HKQ.out _).mono ?_
        rintro e w3 ⟨rfl, hb⟩
        have HB3 := Aside0.mk (HB2.out.trans (hb.mono HB2.out.size))
        clear hb y0 y1 y2
        go_wp2_with fail
        go_roundw
        case rel => exact ⟨j + 1, by omega, by go_num, HN.out, HB3.out⟩
        case measure => simp [intOf]; omega
   ·have hj3 : j = l0.length := by omega
    have HOT := Aside0.mk (show ord l0 0 = true by rw [← HO.out, hj3, List.drop_length]; rfl)
    have hf := rsums_f (show l0.length ≤ 140737488351232 by have := HL.out; omega) (ord_ok HOT.out) (l0.length + 1) (by omega)
    rw [show cond (fits l0 0 0) (inL l0, outL l0, true) (0, 0, false) = ((cond (fits l0 0 0) (inL l0) 0, cond (fits l0 0 0) (outL l0) 0, fits l0 0 0) : Int × Int × Bool) from by cases fits l0 0 0 <;> rfl] at hf
    have HS := Aside0.mk (variorumref06_sums.calls (l0.length + 1) A0 c0 l0 _ _ _ wr (Kd.C_below HR.out HB.out) HC.out hf)
    have HF := Aside0.mk (show good l0 = fits l0 0 0 by rw [HG1.out, HOT.out, Bool.true_and])
    have hge : ¬ ((j : Int) < (l0.length : Int)) := by omega
    clear hf hlt hj3
    go_wp2_with fail
    refine HS.out.mono ?_
    rintro e w1 ⟨rfl, hb⟩
    have HB1 := Aside0.mk (HB.out.trans (hb.mono HB.out.size))
    clear hb
    go_wp2_with fail
    go_ret
    exact ⟨by rw [HF.out]; rfl, HB1.out⟩
 ·have h1' : (65536 : Int) < (l0.length : Int) := by omega
  have HF := Aside0.mk (show good l0 = false by rw [HG.out, decide_eq_false h1, Bool.and_false]; rfl)
  clear HG h1
  go_enter Try.func69, Try.ntmps69
  go_wp2_with fail
  go_ret
  exact ⟨by rw [HF.out]; rfl, Below.refl _ _⟩
end Go.Proofs.Ytedfcjcnhgomoaa.EditK
end
-- MERGED YtedfcjcnhgomoaaMsgW
section
namespace Go.Proofs.Ytedfcjcnhgomoaa.MsgW
open Go.RowKit Go.Proofs.Ytedfcjcnhgomoaa.P Go.Proofs.YtedfcjcnhgomoaaW.PrintWords Go.Proofs.YtedfcjcnhgomoaaW.PrintLast Go.Proofs.YtedfcjcnhgomoaaW.PrintMore Go.Proofs.Ytedfcjcnhgomoaa.Own Go.Proofs.Ytedfcjcnhgomoaa.Vy Go.Proofs.Ytedfcjcnhgomoaa.VaryR Go.Proofs.Ytedfcjcnhgomoaa.NoteN
set_option linter.unusedSimpArgs false
set_option linter.unusedVariables false
structure Wt (S : Nat) (xs : List Int) (v : Value) (w : World) : Prop where
 blk : w.heap[S]? = some (.cells #[v] 88 (0, 0))
 sl : Sl w v xs
theorem Wt.cell {S : Nat} {xs : List Int} {v : Value} {w : World} (h : Wt S xs v w) : w.cell? ⟨S, 0, none⟩ = some v ∧ w.frozen? ⟨S, 0, none⟩ = false := ⟨by rw [cell_of_row w _ 0 _ _ _ h.blk]; rfl, frozen_of_row w _ 0 _ _ h.blk⟩
theorem Wt.lt {S : Nat} {xs : List Int} {v : Value} {w : World} (h : Wt S xs v w) : S < w.heap.size := (Array.getElem?_eq_some_iff.1 h.blk).1
theorem Wt.below {S : Nat} {xs : List Int} {v : Value} {w w' : World} (h : Wt S xs v w) (hb : Below w.heap.size w w') : Wt S xs v w' := ⟨(hb.block _ h.lt).trans h.blk, h.sl.below hb⟩
theorem Wt.noByte {S : Nat} {xs : List Int} {w : World} {A : Option Addr} {n c : Nat} (h : Wt S xs (.slice A n c) w) : ∀ o x, w.cell? ⟨S, o, none⟩ ≠ some (.int .u8 x) := by
 intro o x hx
 rw [cell_of_row w _ o _ _ _ h.blk] at hx
 cases o with
 | zero => simp at hx
 | succ o => simp at hx
theorem Wt.set {S : Nat} {xs ys : List Int} {A A' : Option Addr} {n n' c c' : Nat} {w : World} (h : Wt S xs (.slice A n c) w) (hs : Sl w (.slice A' n' c') ys) : Wt S ys (.slice A' n' c') (w.setCell ⟨S, 0, none⟩ (.slice A' n' c')) :=
 ⟨heap_setCell_same w S 0 _ _ _ h.blk, Sl.but hs (But.setCell S 0 w _) h.noByte⟩
def WtPost (S : Nat) (ys : List Int) (w : World) (e : Ending) (w' : World) : Prop := (∃ u, e = .returned u) ∧ But S w w' ∧ ∃ A c, Wt S ys (.slice A ys.length c) w'
set_option maxHeartbeats 2000000 in
set_option maxRecDepth 100000 in
theorem num_w (S : Nat) (xs : List Int) (A : Option Addr) (c : Nat) (n : Int) (w : World) (h : Wt S xs (.slice A xs.length c) w) (hl : xs.length ≤ 140737488355000) :
  Calls Try.prog 57 #[.pointer (some ⟨S, 0, none⟩), .int .i64 n] w (WtPost S (putL xs n) w) := by
 have HW := Aside0.mk h
 have HP := Aside0.mk (VaryP.nPut _ xs n w h.sl hl)
 obtain ⟨x0, f0⟩ := h.cell
 clear h hl
 go_enter Try.func57, Try.ntmps57
 go_wp2_with fail
 refine HP.out.mono ?_
 rintro e w1 ⟨v, rfl, hg, hb⟩
 obtain ⟨A', c', rfl, _, _⟩ := hg.sl
 have HW1 := Aside0.mk (HW.out.below hb)
 have HB1 := Aside0.mk (grown_of_below hb (some S))
 have HS1 := Aside0.mk hg.sl
 clear hb hg x0 f0 HP
 obtain ⟨x0, f0⟩ := HW1.out.cell
 have HF := Aside0.mk (HW1.out.set HS1.out)
 have HBF := Aside0.mk (HB1.out.trans (But.setCell S 0 w1 (.slice A' (putL xs n).length c')))
 go_wp2_with fail
 refine bodyPost_end (results_none rfl _ _ _) rfl ?_
 exact ⟨⟨_, rfl⟩, HBF.out, _, _, HF.out⟩
theorem NC.far {w w' : World} {A : Option Addr} {l : List Nt} (h : NC w A l) (hs : ∀ ad, A = some ad → 0 < l.length → w'.heap[ad.block]? = w.heap[ad.block]?) : NC w' A l := by
 refine ⟨h.1, h.2.1, fun hp => ?_⟩
 obtain ⟨ad, e, hr⟩ := h.2.2 hp
 refine ⟨ad, e, fun j p hj => ?_⟩
 obtain ⟨c, h1, h2, h3⟩ := hr j p hj
 refine ⟨c, h1, ?_, fun i u hu => ?_⟩
 ·obtain rfl := k104_open h2
  exact k104_mk _ p
 ·refine (World.cell?_of_block ?_).trans (h3 i u hu)
  have hb : ∀ m, (ad.add m).block = ad.block := fun m => by unfold Addr.add; split <;> rfl
  rw [hb]
  exact hs ad e hp
abbrev RC (w : World) (A : Option Addr) (l : List EditL.Rn) : Prop := Kd.C k85 w A l.length l
theorem RC.far {w w' : World} {A : Option Addr} {l : List EditL.Rn} (h : RC w A l) (hs : ∀ ad, A = some ad → 0 < l.length → w'.heap[ad.block]? = w.heap[ad.block]?) : RC w' A l := by
 refine ⟨h.1, h.2.1, fun hp => ?_⟩
 obtain ⟨ad, e, hr⟩ := h.2.2 hp
 refine ⟨ad, e, fun j p hj => ?_⟩
 obtain ⟨c, h1, h2, h3⟩ := hr j p hj
 refine ⟨c, h1, ?_, fun i u hu => ?_⟩
 ·obtain rfl := k85_open h2
  exact k85_mk _ p
 ·refine (World.cell?_of_block ?_).trans (h3 i u hu)
  have hb : ∀ m, (ad.add m).block = ad.block := fun m => by unfold Addr.add; split <;> rfl
  rw [hb]
  exact hs ad e hp
theorem RC.lt {w : World} {A : Option Addr} {l : List EditL.Rn} (h : RC w A l) : ∀ ad, A = some ad → 0 < l.length → ad.block < w.heap.size := by
 intro ad e hp
 obtain ⟨ad2, e2, h0, _⟩ := EditK.at_nat h 0 hp
 rw [e] at e2
 obtain rfl := Option.some.inj e2
 have := World.block_lt_of_cell? w _ h0
 rwa [show (ad.add (0 * 3)).block = ad.block by unfold Addr.add; split <;> rfl] at this
theorem RC.but {S : Nat} {w w' : World} {A : Option Addr} {l : List EditL.Rn} (h : RC w A l) (hb : But S w w') (hne : ∀ ad, A = some ad → 0 < l.length → ad.block ≠ S) : RC w' A l :=
 h.far fun ad e hp => hb.block ad.block (h.lt ad e hp) (fun e2 => hne ad e hp (Option.some.inj e2))
theorem NC.lt {w : World} {A : Option Addr} {l : List Nt} (h : NC w A l) : ∀ ad, A = some ad → 0 < l.length → ad.block < w.heap.size := by
 intro ad e hp
 obtain ⟨ad2, e2, h0, _⟩ := at_nt h 0 hp
 rw [e] at e2
 obtain rfl := Option.some.inj e2
 have := World.block_lt_of_cell? w _ h0
 rwa [show (ad.add (0 * 3)).block = ad.block by unfold Addr.add; split <;> rfl] at this
theorem NC.but {S : Nat} {w w' : World} {A : Option Addr} {l : List Nt} (h : NC w A l) (hb : But S w w') (hne : ∀ ad, A = some ad → 0 < l.length → ad.block ≠ S) : NC w' A l :=
 NC.far h fun ad e hp => hb.block ad.block (NC.lt h ad e hp) (fun e2 => hne ad e hp (Option.some.inj e2))
def opStep (b : List Int) (r : EditL.Rn) : List Int := if r.f1.size = 0 then putSL b (wrap64 (r.f0 - r.f2)) else putTL (putSL b (wrap64 (r.f0 - r.f2))) (numsOf r.f1)
def opR : List EditL.Rn → List Int → List Int
 | [], b => b
 | r :: l, b => opR l (opStep b r)
def wgt : List EditL.Rn → Nat
 | [] => 0
 | r :: l => (18 + r.f1.size) + wgt l
theorem putSL_len (l : List Int) (n : Int) : (putSL l n).length ≤ l.length + 9 := by
 unfold putSL
 split
 ·omega
 ·exact putL_len l _
theorem putTL_len (l s : List Int) : (putTL l s).length ≤ l.length + 9 + s.length := by
 unfold putTL
 rw [List.length_append]
 have := putL_len l (s.length : Int)
 omega
theorem opStep_len (b : List Int) (r : EditL.Rn) : (opStep b r).length ≤ b.length + (18 + r.f1.size) := by
 unfold opStep
 have h1 := putSL_len b (wrap64 (r.f0 - r.f2))
 split
 ·omega
 ·have h2 := putTL_len (putSL b (wrap64 (r.f0 - r.f2))) (numsOf r.f1)
  rw [numsOf_length] at h2
  omega
theorem drop_rn {l : List EditL.Rn} {j : Nat} (h : j < l.length) : l.drop j = l.getD j z85 :: l.drop (j + 1) := by
 rw [List.drop_eq_getElem_cons h, List.getD_eq_getElem?_getD, List.getElem?_eq_getElem h]; rfl
def Wz (S : Nat) (ys : List Int) (w w' : World) : Prop := But S w w' ∧ ∃ A c, Wt S ys (.slice A ys.length c) w'
def R4.T4 : Bool × List (List Nat × List Nat) := (true, [([], []), ([], []), ([1], [1]), ([2], [2]), ([3], [3]), ([], []), ([5], [5]), ([], []), ([7], [7]), ([6, 8], [6, 8]), ([4, 9], [4, 9]), ([0, 0, 1, 2, 3, 4, 5, 6, 7, 8, 9, 10], [0]), ([11, 0, 1, 2, 3, 4, 5, 6, 7, 8, 9, 10], [11]), ([12, 10, 10, 0, 1, 2, 3, 4, 5, 6, 7, 8, 9, 10], [10, 12])])
def R4.B4 : List Nat := [0, 0, 2, 6, 14, 0, 32, 0, 128, 480, 1022, 2047, 4095, 8191]
theorem R4.tab4 : rtab .any (opsOf Try.f59 4) = R4.T4 := by kernel_rfl
theorem R4.bits4 : waitsOk R4.T4.2 R4.B4 = true := by kernel_rfl
def R6.T6 : Bool × List (List Nat × List Nat) := (true, [([], []), ([], []), ([1], [1]), ([2], [2]), ([3], [3]), ([], []), ([5], [5]), ([4, 6], [4, 6]), ([0, 0, 1, 2, 3, 4, 5, 6, 7], [0]), ([8, 0, 1, 2, 3, 4, 5, 6, 7], [8]), ([9, 7, 7, 0, 1, 2, 3, 4, 5, 6, 7], [7, 9])])
def R6.B6 : List Nat := [0, 0, 2, 6, 14, 0, 32, 126, 255, 511, 1023]
theorem R6.tab6 : rtab .any (opsOf Try.f59 6) = R6.T6 := by kernel_rfl
theorem R6.bits6 : waitsOk R6.T6.2 R6.B6 = true := by kernel_rfl
set_option maxHeartbeats 16000000 in
set_option maxRecDepth 100000 in
theorem op_w (S : Nat) (xs : List Int) (A : Option Addr) (c : Nat) (Al : Option Addr) (cl : Nat) (l : List EditL.Rn) (w : World) (h : Wt S xs (.slice A xs.length c) w) (hC : RC w Al l) (hc : l.length ≤ cl) (hne : ∀ ad, Al = some ad → 0 < l.length → ad.block ≠ S) (hl : xs.length + 9 + wgt l ≤ 140737488350000) (hl2 : l.length ≤ 1000000) :
  Calls Try.prog 59 #[.pointer (some ⟨S, 0, none⟩), .slice Al l.length cl] w (WtPost S (opR l (putL xs (l.length : Int))) w) := by
 have HN := Aside0.mk (num_w S xs A c (l.length : Int) w h (by omega))
 have HC := Aside0.mk hC
 have HNE := Aside0.mk hne
 have HL := Aside0.mk hl
 have HL2 := Aside0.mk hl2
 have HSL := Aside0.mk h.lt
 obtain ⟨ys0, hys0⟩ : ∃ ys0, ys0 = putL xs (l.length : Int) := ⟨_, rfl⟩
 have HY0 := Aside0.mk (show ys0.length ≤ xs.length + 9 by rw [hys0]; exact putL_len _ _)
 rw [← hys0] at HN ⊢
 clear h hC hc hne hl hl2 hys0
 go_enter Try.func59, Try.ntmps59
 go_wp2_with fail
 refine HN.out.mono ?_
 rintro e w1 ⟨⟨u, rfl⟩, hb, A1, c1, hw⟩
 have HB1 := Aside0.mk hb
 have HW1 := Aside0.mk hw
 clear hb hw HN
 go_wp2_with fail
 go_loopw [12] (fun iv wr => ∃ (j : Nat) (ys : List Int), j ≤ l.length ∧ iv = .int .i64 (j : Int) ∧ opR (l.drop j) ys = opR l ys0 ∧ ys.length + wgt (l.drop j) ≤ 140737488350000 ∧ Wz S ys w wr) (fun iv _ => l.length - (intOf iv).toNat)
 case atStart => exact ⟨0, ys0, Nat.zero_le _, rfl, rfl, by have := HL.out; have := HY0.out; show ys0.length + wgt l ≤ _; omega, HB1.out, A1, c1, HW1.out⟩
 case round =>
  obtain ⟨j, ys, hj, rfl, ho, hlen, hbut, A2, c2, hw⟩ := hrel
  have HBJ := Aside0.mk hbut
  have HWJ := Aside0.mk hw
  have HO := Aside0.mk ho
  have HLE := Aside0.mk hlen
  clear hbut hw ho hlen HW1 HB1
  by_cases hlt : j < l.length
  ·have hlt' : (j : Int) < (l.length : Int) := by omega
   have h6 : j < 1000000 := by have := HL2.out; omega
   obtain ⟨ad, rfl, y0, y1, y2⟩ := EditK.at_nat (RC.but HC.out HBJ.out HNE.out) j hlt
   obtain ⟨r, hr⟩ : ∃ r, r = l.getD j z85 := ⟨_, rfl⟩
   have hdr := drop_rn hlt
   rw [← hr] at y0 y1 y2 hdr
   have HO2 := Aside0.mk (show opR (l.drop (j + 1)) (opStep ys r) = opR l ys0 by rw [← HO.out, hdr]; rfl)
   have HLE2 := Aside0.mk (show ys.length + ((18 + r.f1.size) + wgt (l.drop (j + 1))) ≤ 140737488350000 by have h := HLE.out; rw [hdr] at h; exact h)
   obtain ⟨g, hg⟩ : ∃ g, g = wr.heap.size := ⟨_, rfl⟩
   obtain ⟨w1, hw1⟩ : ∃ w1, w1 = wr.alloc (.cells #[.int .i64 0, .string ⟨#[]⟩, .int .i64 0] 85) := ⟨_, rfl⟩
   obtain ⟨w2, hw2⟩ : ∃ w2, w2 = ((w1.setCell ⟨g, 0, none⟩ (.int .i64 r.f0)).setCell ⟨g, 1, none⟩ (.string r.f1)).setCell ⟨g, 2, none⟩ (.int .i64 r.f2) := ⟨_, rfl⟩
   have HT1 := Aside0.mk (show w1.heap[g]? = some (.cells #[.int .i64 0, .string ⟨#[]⟩, .int .i64 0] 85 (0, 0)) by rw [hw1, hg]; exact Own.heap_new _ _)
   have HBW := Aside0.mk (show Below wr.heap.size wr w2 by rw [hw2]; exact below_set3 (by rw [hw1]; exact below_alloc (Below.refl _ _) _) (by omega) _ _ _)
   have HT2 := Aside0.mk (show w2.heap[g]? = some (.cells #[.int .i64 r.f0, .string r.f1, .int .i64 r.f2] 85 (0, 0)) by rw [hw2]; exact set3 HT1.out _ _ _)
   have HSG := Aside0.mk (show S ≠ g by have := HWJ.out.lt; omega)
   have HW1 := Aside0.mk hw1
   have HG1 := Aside0.mk hg
   have HW2 := Aside0.mk hw2
   have a0 : w1.cell? ⟨g, 0, none⟩ = some (.int .i64 0) := by rw [cell_of_row _ _ 0 _ _ _ HT1.out]; rfl
   have a1 : w1.cell? ⟨g, 1, none⟩ = some (.string ⟨#[]⟩) := by rw [cell_of_row _ _ 1 _ _ _ HT1.out]; rfl
   have a2 : w1.cell? ⟨g, 2, none⟩ = some (.int .i64 0) := by rw [cell_of_row _ _ 2 _ _ _ HT1.out]; rfl
   have b0 : w1.frozen? ⟨g, 0, none⟩ = false := frozen_of_row _ _ 0 _ _ HT1.out
   have b1 : w1.frozen? ⟨g, 1, none⟩ = false := frozen_of_row _ _ 1 _ _ HT1.out
   have b2 : w1.frozen? ⟨g, 2, none⟩ = false := frozen_of_row _ _ 2 _ _ HT1.out
   have HLT := Aside0.mk hlt
   clear hw1 hg hw2 hr hdr hlt
   go_wp2_with (first | rw [← HG1.out, ← HW1.out] | rw [← HW2.out])
   have HALL := Aside0.mk (fun (W : World) (hW : Below w2.heap.size w2 W) => (show (W.cell? ⟨g, 0, none⟩ = some (.int .i64 r.f0) ∧ W.cell? ⟨g, 1, none⟩ = some (.string r.f1) ∧ W.cell? ⟨g, 2, none⟩ = some (.int .i64 r.f2)) ∧ Wt S ys (.slice A2 ys.length c2) W by
    have h := (hW.block g (Array.getElem?_eq_some_iff.1 HT2.out).1).trans HT2.out
    exact ⟨⟨by rw [cell_of_row _ _ 0 _ _ _ h]; rfl, by rw [cell_of_row _ _ 1 _ _ _ h]; rfl, by rw [cell_of_row _ _ 2 _ _ _ h]; rfl⟩, (HWJ.out.below HBW.out).below hW⟩))
   have HPS := Aside0.mk (fun (W : World) (hW : Below w2.heap.size w2 W) => VaryP.nPutSigned _ ys (wrap64 (r.f0 - r.f2)) W (HALL.out W hW).2.sl (by have := HLE2.out; omega))
   have HB2 := Aside0.mk (Below.refl w2.heap.size w2)
   clear a0 a1 a2 b0 b1 b2 y0 y1 y2 HT1 HW1 HG1 HW2
   refine start_ (n := 14) (S := fun w' => True) (ds := []) #[false, false, false, false, false, false, false, false, false, false, false, false, false, false] (by kernel_rfl) rfl rfl trivial (fun hHeld => ?_); refine with_tabW R4.tab4 R4.bits4 (fun HT_ HW_ => ?_)
   refine inv_at [0, 1, 2, 3, 4, 5, 6, 7, 8, 9, 10, 11, 12, 13] (fun a0_ b a w' => ∃ (v10 : Value), a = putSel a0_ b [(0, 16, (.pointer (some ⟨S, 0, none⟩))), (1, 17, (.pointer (some ⟨S, 0, none⟩))), (2, 18, (.pointer (some ⟨S, 0, none⟩))), (3, 19, (.pointer (some ⟨S, 0, none⟩))), (4, 20, (.slice A2 ys.length c2)), (5, 21, (.pointer (some ⟨g, 0, none⟩))), (6, 22, (.int .i64 r.f0)), (7, 23, (.pointer (some ⟨g, 2, none⟩))), (8, 24, (.int .i64 r.f2)), (9, 25, (.int .i64 (wrap64 (r.f0 - r.f2)))), (10, 26, v10), (11, 27, (.pointer (some ⟨S, 0, none⟩))), (12, 28, (.pointer (some ⟨S, 0, none⟩)))] ∧ (b 13 = false → Below w2.heap.size w2 w') ∧ (b 10 = true → Sl w' v10 (putSL ys (wrap64 (r.f0 - r.f2)))) ∧ (b 13 = true → Wz S (putSL ys (wrap64 (r.f0 - r.f2))) w2 w')) HT_.out HW_.out (by kernel_rfl) (by kernel_rfl) ?_ ?_ ?_
   ·exact ⟨.bool false, by simp only [putSel, Bool.false_eq_true, if_false], fun _ => below_drew1 HB2.out, fun h_ => absurd h_ (by decide), fun h_ => absurd h_ (by decide)⟩
   ·skip
    clear HB2
    refine steps_cons ?_ ?_
    ·rintro b a w' ⟨v10, ha, Q_HB2, Q_G10, Q_HZ⟩ hb_ hon hoff
     refine ⟨_, rfl, fun K hK => ?_⟩
     have e0 : a.tmps[0]? = some ((.pointer (some ⟨S, 0, none⟩))) := by rw [ha]; exact (putSel_off rfl).trans rfl
     replace ha := Aside0.mk ha
     have HB2 := Aside0.mk (Q_HB2 (hoff 13 (by kernel_rfl)))
     refine value_ (w1 := w') (v := (.pointer (some ⟨S, 0, none⟩))) (by rfl) rfl ?_ ?_
     ·go_simp
      (try simp only [i64_w])
      try (first | rfl | assumption)
     refine hK.out _ _ ⟨v10, (by rw [ha.out]; exact putSel_upk 0 hb_ rfl rfl rfl), Q_HB2, Q_G10, fun h0_ => absurd ((hoff 13 (by kernel_rfl)).symm.trans h0_) (by decide)⟩
    refine steps_cons ?_ ?_
    ·rintro b a w' ⟨v10, ha, Q_HB2, Q_G10, Q_HZ⟩ hb_ hon hoff
     refine ⟨_, rfl, fun K hK => ?_⟩
     have e0 : a.tmps[0]? = some ((.pointer (some ⟨S, 0, none⟩))) := by rw [ha]; exact (putSel_off rfl).trans rfl
     replace ha := Aside0.mk ha
     have HB2 := Aside0.mk (Q_HB2 (hoff 13 (by kernel_rfl)))
     refine value_ (w1 := w') (v := (.pointer (some ⟨S, 0, none⟩))) (by rfl) rfl ?_ ?_
     ·go_simp
      (try simp only [i64_w])
      try (first | rfl | assumption)
     refine hK.out _ _ ⟨v10, (by rw [ha.out]; exact putSel_upk 1 hb_ rfl rfl rfl), Q_HB2, fun h0_ => absurd ((hoff 10 (by kernel_rfl)).symm.trans h0_) (by decide), fun h0_ => absurd ((hoff 13 (by kernel_rfl)).symm.trans h0_) (by decide)⟩
    refine steps_cons ?_ ?_
    ·rintro b a w' ⟨v10, ha, Q_HB2, Q_G10, Q_HZ⟩ hb_ hon hoff
     refine ⟨_, rfl, fun K hK => ?_⟩
     have e17 : a.tmps[17]? = some ((.pointer (some ⟨S, 0, none⟩))) := by rw [ha]; exact putSel_on (e := (1, 17, (.pointer (some ⟨S, 0, none⟩)))) 1 rfl rfl (hon 1 (by kernel_rfl)) rfl
     replace ha := Aside0.mk ha
     have HB2 := Aside0.mk (Q_HB2 (hoff 13 (by kernel_rfl)))
     refine value_ (w1 := w') (v := (.pointer (some ⟨S, 0, none⟩))) (by rfl) rfl ?_ ?_
     ·go_simp
      (try simp only [i64_w])
      try (first | rfl | assumption)
     refine hK.out _ _ ⟨v10, (by rw [ha.out]; exact putSel_upk 2 hb_ rfl rfl rfl), Q_HB2, fun h0_ => absurd ((hoff 10 (by kernel_rfl)).symm.trans h0_) (by decide), fun h0_ => absurd ((hoff 13 (by kernel_rfl)).symm.trans h0_) (by decide)⟩
    refine steps_cons ?_ ?_
    ·rintro b a w' ⟨v10, ha, Q_HB2, Q_G10, Q_HZ⟩ hb_ hon hoff
     refine ⟨_, rfl, fun K hK => ?_⟩
     have e18 : a.tmps[18]? = some ((.pointer (some ⟨S, 0, none⟩))) := by rw [ha]; exact putSel_on (e := (2, 18, (.pointer (some ⟨S, 0, none⟩)))) 2 rfl rfl (hon 2 (by kernel_rfl)) rfl
     replace ha := Aside0.mk ha
     have HB2 := Aside0.mk (Q_HB2 (hoff 13 (by kernel_rfl)))
     refine value_ (w1 := w') (v := (.pointer (some ⟨S, 0, none⟩))) (by rfl) rfl ?_ ?_
     ·go_simp
      (try simp only [i64_w])
      try (first | rfl | assumption)
     refine hK.out _ _ ⟨v10, (by rw [ha.out]; exact putSel_upk 3 hb_ rfl rfl rfl), Q_HB2, fun h0_ => absurd ((hoff 10 (by kernel_rfl)).symm.trans h0_) (by decide), fun h0_ => absurd ((hoff 13 (by kernel_rfl)).symm.trans h0_) (by decide)⟩
    refine steps_cons ?_ ?_
    ·rintro b a w' ⟨v10, ha, Q_HB2, Q_G10, Q_HZ⟩ hb_ hon hoff
     refine ⟨_, rfl, fun K hK => ?_⟩
     have e19 : a.tmps[19]? = some ((.pointer (some ⟨S, 0, none⟩))) := by rw [ha]; exact putSel_on (e := (3, 19, (.pointer (some ⟨S, 0, none⟩)))) 3 rfl rfl (hon 3 (by kernel_rfl)) rfl
     replace ha := Aside0.mk ha
     have HB2 := Aside0.mk (Q_HB2 (hoff 13 (by kernel_rfl)))
     obtain ⟨⟨x0_, x1_, x2_⟩, q_⟩ := HALL.out _ HB2.out; have x3_ := q_.cell.1
     refine value_ (w1 := w') (v := (.slice A2 ys.length c2)) (by rfl) rfl ?_ ?_
     ·go_simp
      (try simp only [i64_w])
      try (first | rfl | assumption)
     refine hK.out _ _ ⟨v10, (by rw [ha.out]; exact putSel_upk 4 hb_ rfl rfl rfl), Q_HB2, fun h0_ => absurd ((hoff 10 (by kernel_rfl)).symm.trans h0_) (by decide), fun h0_ => absurd ((hoff 13 (by kernel_rfl)).symm.trans h0_) (by decide)⟩
    refine steps_cons ?_ ?_
    ·rintro b a w' ⟨v10, ha, Q_HB2, Q_G10, Q_HZ⟩ hb_ hon hoff
     refine ⟨_, rfl, fun K hK => ?_⟩
     have e5 : a.tmps[5]? = some ((.pointer (some ⟨g, 0, none⟩))) := by rw [ha]; exact (putSel_off rfl).trans rfl
     replace ha := Aside0.mk ha
     have HB2 := Aside0.mk (Q_HB2 (hoff 13 (by kernel_rfl)))
     refine value_ (w1 := w') (v := (.pointer (some ⟨g, 0, none⟩))) (by rfl) rfl ?_ ?_
     ·go_simp
      (try simp only [i64_w])
      try (first | rfl | assumption)
     refine hK.out _ _ ⟨v10, (by rw [ha.out]; exact putSel_upk 5 hb_ rfl rfl rfl), Q_HB2, fun h0_ => absurd ((hoff 10 (by kernel_rfl)).symm.trans h0_) (by decide), fun h0_ => absurd ((hoff 13 (by kernel_rfl)).symm.trans h0_) (by decide)⟩
    refine steps_cons ?_ ?_
    ·rintro b a w' ⟨v10, ha, Q_HB2, Q_G10, Q_HZ⟩ hb_ hon hoff
     refine ⟨_, rfl, fun K hK => ?_⟩
     have e21 : a.tmps[21]? = some ((.pointer (some ⟨g, 0, none⟩))) := by rw [ha]; exact putSel_on (e := (5, 21, (.pointer (some ⟨g, 0, none⟩)))) 5 rfl rfl (hon 5 (by kernel_rfl)) rfl
     replace ha := Aside0.mk ha
     have HB2 := Aside0.mk (Q_HB2 (hoff 13 (by kernel_rfl)))
     obtain ⟨⟨x0_, x1_, x2_⟩, q_⟩ := HALL.out _ HB2.out
     refine value_ (w1 := w') (v := (.int .i64 r.f0)) (by rfl) rfl ?_ ?_
     ·go_simp
      (try simp only [i64_w])
      try (first | rfl | assumption)
     refine hK.out _ _ ⟨v10, (by rw [ha.out]; exact putSel_upk 6 hb_ rfl rfl rfl), Q_HB2, fun h0_ => absurd ((hoff 10 (by kernel_rfl)).symm.trans h0_) (by decide), fun h0_ => absurd ((hoff 13 (by kernel_rfl)).symm.trans h0_) (by decide)⟩
    refine steps_cons ?_ ?_
    ·rintro b a w' ⟨v10, ha, Q_HB2, Q_G10, Q_HZ⟩ hb_ hon hoff
     refine ⟨_, rfl, fun K hK => ?_⟩
     have e5 : a.tmps[5]? = some ((.pointer (some ⟨g, 0, none⟩))) := by rw [ha]; exact (putSel_off rfl).trans rfl
     replace ha := Aside0.mk ha
     have HB2 := Aside0.mk (Q_HB2 (hoff 13 (by kernel_rfl)))
     refine value_ (w1 := w') (v := (.pointer (some ⟨g, 2, none⟩))) (by rfl) rfl ?_ ?_
     ·go_simp
      (try simp only [i64_w])
      try (first | rfl | assumption)
     refine hK.out _ _ ⟨v10, (by rw [ha.out]; exact putSel_upk 7 hb_ rfl rfl rfl), Q_HB2, fun h0_ => absurd ((hoff 10 (by kernel_rfl)).symm.trans h0_) (by decide), fun h0_ => absurd ((hoff 13 (by kernel_rfl)).symm.trans h0_) (by decide)⟩
    refine steps_cons ?_ ?_
    ·rintro b a w' ⟨v10, ha, Q_HB2, Q_G10, Q_HZ⟩ hb_ hon hoff
     refine ⟨_, rfl, fun K hK => ?_⟩
     have e23 : a.tmps[23]? = some ((.pointer (some ⟨g, 2, none⟩))) := by rw [ha]; exact putSel_on (e := (7, 23, (.pointer (some ⟨g, 2, none⟩)))) 7 rfl rfl (hon 7 (by kernel_rfl)) rfl
     replace ha := Aside0.mk ha
     have HB2 := Aside0.mk (Q_HB2 (hoff 13 (by kernel_rfl)))
     obtain ⟨⟨x0_, x1_, x2_⟩, q_⟩ := HALL.out _ HB2.out
     refine value_ (w1 := w') (v := (.int .i64 r.f2)) (by rfl) rfl ?_ ?_
     ·go_simp
      (try simp only [i64_w])
      try (first | rfl | assumption)
     refine hK.out _ _ ⟨v10, (by rw [ha.out]; exact putSel_upk 8 hb_ rfl rfl rfl), Q_HB2, fun h0_ => absurd ((hoff 10 (by kernel_rfl)).symm.trans h0_) (by decide), fun h0_ => absurd ((hoff 13 (by kernel_rfl)).symm.trans h0_) (by decide)⟩
    refine steps_cons ?_ ?_
    ·rintro b a w' ⟨v10, ha, Q_HB2, Q_G10, Q_HZ⟩ hb_ hon hoff
     refine ⟨_, rfl, fun K hK => ?_⟩
     have e22 : a.tmps[22]? = some ((.int .i64 r.f0)) := by rw [ha]; exact putSel_on (e := (6, 22, (.int .i64 r.f0))) 6 rfl rfl (hon 6 (by kernel_rfl)) rfl
     have e24 : a.tmps[24]? = some ((.int .i64 r.f2)) := by rw [ha]; exact putSel_on (e := (8, 24, (.int .i64 r.f2))) 8 rfl rfl (hon 8 (by kernel_rfl)) rfl
     replace ha := Aside0.mk ha
     have HB2 := Aside0.mk (Q_HB2 (hoff 13 (by kernel_rfl)))
     refine value_ (w1 := w') (v := (.int .i64 (wrap64 (r.f0 - r.f2)))) (by rfl) rfl ?_ ?_
     ·go_simp
      (try simp only [i64_w])
      try (first | rfl | assumption)
     refine hK.out _ _ ⟨v10, (by rw [ha.out]; exact putSel_upk 9 hb_ rfl rfl rfl), Q_HB2, fun h0_ => absurd ((hoff 10 (by kernel_rfl)).symm.trans h0_) (by decide), fun h0_ => absurd ((hoff 13 (by kernel_rfl)).symm.trans h0_) (by decide)⟩
    refine steps_cons ?_ ?_
    ·rintro b a w' ⟨v10, ha, Q_HB2, Q_G10, Q_HZ⟩ hb_ hon hoff
     refine ⟨_, rfl, fun K hK => ?_⟩
     have e20 : a.tmps[20]? = some ((.slice A2 ys.length c2)) := by rw [ha]; exact putSel_on (e := (4, 20, (.slice A2 ys.length c2))) 4 rfl rfl (hon 4 (by kernel_rfl)) rfl
     have e25 : a.tmps[25]? = some ((.int .i64 (wrap64 (r.f0 - r.f2)))) := by rw [ha]; exact putSel_on (e := (9, 25, (.int .i64 (wrap64 (r.f0 - r.f2))))) 9 rfl rfl (hon 9 (by kernel_rfl)) rfl
     replace ha := Aside0.mk ha
     have HB2 := Aside0.mk (Q_HB2 (hoff 13 (by kernel_rfl)))
     refine goes_ Try.func92 (by kernel_rfl) rfl #[.slice A2 ys.length c2, .int .i64 (wrap64 (r.f0 - r.f2))] (by rfl) rfl rfl (by first | (simp only [List.map_toArray, List.map_cons, List.map_nil, Act.eval, Array.getD_eq_getD_getElem?, Option.getD_some, e20, e25]; done) | (simp only [List.map_toArray, List.map_cons, List.map_nil, Act.eval, Array.getD_eq_getD_getElem?, Option.getD_some, e20, e25]; rfl)) ?_
     refine (HPS.out _ HB2.out).mono ?_
     rintro e w1_ ⟨v10, rfl, hg, hb⟩
     refine ⟨_, rfl, ?_⟩
     refine hK.out _ _ ⟨v10, (by rw [ha.out]; exact putSel_upk 10 hb_ rfl rfl rfl), fun _ => below_step HB2.out hb, fun _ => hg.sl, fun h0_ => absurd ((hoff 13 (by kernel_rfl)).symm.trans h0_) (by decide)⟩
    refine steps_cons ?_ ?_
    ·rintro b a w' ⟨v10, ha, Q_HB2, Q_G10, Q_HZ⟩ hb_ hon hoff
     refine ⟨_, rfl, fun K hK => ?_⟩
     have e16 : a.tmps[16]? = some ((.pointer (some ⟨S, 0, none⟩))) := by rw [ha]; exact putSel_on (e := (0, 16, (.pointer (some ⟨S, 0, none⟩)))) 0 rfl rfl (hon 0 (by kernel_rfl)) rfl
     replace ha := Aside0.mk ha
     have HB2 := Aside0.mk (Q_HB2 (hoff 13 (by kernel_rfl)))
     have G10 := Aside0.mk (Q_G10 (hon 10 (by kernel_rfl)))
     refine value_ (w1 := w') (v := (.pointer (some ⟨S, 0, none⟩))) (by rfl) rfl ?_ ?_
     ·go_simp
      (try simp only [i64_w])
      try (first | rfl | assumption)
     refine hK.out _ _ ⟨v10, (by rw [ha.out]; exact putSel_upk 11 hb_ rfl rfl rfl), Q_HB2, Q_G10, fun h0_ => absurd ((hoff 13 (by kernel_rfl)).symm.trans h0_) (by decide)⟩
    refine steps_cons ?_ ?_
    ·rintro b a w' ⟨v10, ha, Q_HB2, Q_G10, Q_HZ⟩ hb_ hon hoff
     refine ⟨_, rfl, fun K hK => ?_⟩
     have e27 : a.tmps[27]? = some ((.pointer (some ⟨S, 0, none⟩))) := by rw [ha]; exact putSel_on (e := (11, 27, (.pointer (some ⟨S, 0, none⟩)))) 11 rfl rfl (hon 11 (by kernel_rfl)) rfl
     replace ha := Aside0.mk ha
     have HB2 := Aside0.mk (Q_HB2 (hoff 13 (by kernel_rfl)))
     have G10 := Aside0.mk (Q_G10 (hon 10 (by kernel_rfl)))
     refine value_ (w1 := w') (v := (.pointer (some ⟨S, 0, none⟩))) (by rfl) rfl ?_ ?_
     ·go_simp
      (try simp only [i64_w])
      try (first | rfl | assumption)
     refine hK.out _ _ ⟨v10, (by rw [ha.out]; exact putSel_upk 12 hb_ rfl rfl rfl), Q_HB2, Q_G10, fun h0_ => absurd ((hoff 13 (by kernel_rfl)).symm.trans h0_) (by decide)⟩
    refine steps_cons ?_ ?_
    ·rintro b a w' ⟨v10, ha, Q_HB2, Q_G10, Q_HZ⟩ hb_ hon hoff
     refine ⟨_, rfl, fun K hK => ?_⟩
     have e28 : a.tmps[28]? = some ((.pointer (some ⟨S, 0, none⟩))) := by rw [ha]; exact putSel_on (e := (12, 28, (.pointer (some ⟨S, 0, none⟩)))) 12 rfl rfl (hon 12 (by kernel_rfl)) rfl
     have e26 : a.tmps[26]? = some (v10) := by rw [ha]; exact putSel_on (e := (10, 26, v10)) 10 rfl rfl (hon 10 (by kernel_rfl)) rfl
     replace ha := Aside0.mk ha
     have HB2 := Aside0.mk (Q_HB2 hb_)
     have G10 := Aside0.mk (Q_G10 (hon 10 (by kernel_rfl)))
     obtain ⟨A_, c_, hv_, _, _⟩ := G10.out
     have hq_ := (HALL.out _ HB2.out).2
     obtain ⟨w1_, hw1_⟩ : ∃ w1_, w1_ = w'.setCell ⟨S, 0, none⟩ (.slice A_ (putSL ys (wrap64 (r.f0 - r.f2))).length c_) := ⟨_, rfl⟩
     rw [hv_] at e26
     refine skip_ (w1 := w1_) (by rfl) rfl (by rw [hw1_]; obtain ⟨q0, f0⟩ := hq_.cell; go_simp) ?_
     refine hK.out _ _ ⟨v10, (by rw [ha.out]; exact putSel_none (v := undef) rfl), fun h0_ => absurd ((up_self b 13).symm.trans h0_) (by decide), fun _ => (by rw [hw1_]; exact Sl.but G10.out (But.setCell S 0 _ _) hq_.noByte), fun _ => ⟨by rw [hw1_]; exact (grown_of_below HB2.out (some S)).trans (But.setCell S 0 _ _), A_, c_, by rw [hw1_]; exact hq_.set (hv_ ▸ G10.out)⟩⟩
    exact steps_nil
   rintro b a we hall ⟨v10, ha, Q_HB2, Q_G10, Q_HZ⟩
   clear HB2
   have hb0_ := hall 0 (by kernel_rfl)
   have hb1_ := hall 1 (by kernel_rfl)
   have hb2_ := hall 2 (by kernel_rfl)
   have hb3_ := hall 3 (by kernel_rfl)
   have hb4_ := hall 4 (by kernel_rfl)
   have hb5_ := hall 5 (by kernel_rfl)
   have hb6_ := hall 6 (by kernel_rfl)
   have hb7_ := hall 7 (by kernel_rfl)
   have hb8_ := hall 8 (by kernel_rfl)
   have hb9_ := hall 9 (by kernel_rfl)
   have hb10_ := hall 10 (by kernel_rfl)
   have hb11_ := hall 11 (by kernel_rfl)
   have hb12_ := hall 12 (by kernel_rfl)
   have hb13_ := hall 13 (by kernel_rfl)
   subst ha
   simp only [putSel, hb0_, hb1_, hb2_, hb3_, hb4_, hb5_, hb6_, hb7_, hb8_, hb9_, hb10_, hb11_, hb12_, hb13_, if_true, Act.put, List.setIfInBounds_toArray, List.set_cons_zero, List.set_cons_succ]
   clear Q_HB2
   have G10 := Aside0.mk (Q_G10 hb10_)
   clear Q_G10
   have HZ := Aside0.mk (Q_HZ hb13_)
   clear Q_HZ
   clear hall hb0_ hb1_ hb2_ hb3_ hb4_ hb5_ hb6_ hb7_ hb8_ hb9_ hb10_ hb11_ hb12_ hb13_
   have HBE := Aside0.mk HZ.out.1
   obtain ⟨A5, c5, hw5⟩ := HZ.out.2
   have HW5 := Aside0.mk hw5
   have HTE := Aside0.mk (show we.heap[g]? = some (.cells #[.int .i64 r.f0, .string r.f1, .int .i64 r.f2] 85 (0, 0)) from (HBE.out.block g (Array.getElem?_eq_some_iff.1 HT2.out).1 (fun e => HSG.out (Option.some.inj e).symm)).trans HT2.out)
   have t1 : we.cell? ⟨g, 1, none⟩ = some (.string r.f1) := by rw [cell_of_row _ _ 1 _ _ _ HTE.out]; rfl
   have HBT := Aside0.mk (show But S w we from (HBJ.out.trans (grown_of_below HBW.out (some S))).trans HBE.out)
   clear hw5 HZ HALL HPS G10
   by_cases hE : r.f1.size = 0
   ·have hf : r.f1 = ⟨#[]⟩ := EditL.eq_E hE
    have HST := Aside0.mk (show opStep ys r = putSL ys (wrap64 (r.f0 - r.f2)) by unfold opStep; rw [if_pos hE])
    rw [hf] at t1
    clear hE hf
    go_wp2_with fail
    go_roundw
    case rel => exact ⟨j + 1, putSL ys (wrap64 (r.f0 - r.f2)), HLT.out, by go_num, by have h := HO2.out; rw [HST.out] at h; exact h, by have h1 := HLE2.out; have h2 := putSL_len ys (wrap64 (r.f0 - r.f2)); omega, HBT.out, A5, c5, HW5.out⟩
    case measure => simp [intOf]; have := HLT.out; omega
   ·have hq : (r.f1.toList == ([] : List UInt8)) = false := by
     rw [beq_eq_false_iff_ne]
     intro h
     exact hE (by rw [ByteArray.toList_eq] at h; simpa using congrArg List.length h)
    have HST := Aside0.mk (show opStep ys r = putTL (putSL ys (wrap64 (r.f0 - r.f2))) (numsOf r.f1) by unfold opStep; rw [if_neg hE])
    clear hE
    go_wp2_with fail
    have HAL6 := Aside0.mk (fun (W : World) (hW : Below we.heap.size we W) => (show W.cell? ⟨g, 1, none⟩ = some (.string r.f1) ∧ Wt S (putSL ys (wrap64 (r.f0 - r.f2))) (.slice A5 (putSL ys (wrap64 (r.f0 - r.f2))).length c5) W by
     have h := (hW.block g (Array.getElem?_eq_some_iff.1 HTE.out).1).trans HTE.out
     exact ⟨by rw [cell_of_row _ _ 1 _ _ _ h]; rfl, HW5.out.below hW⟩))
    have HPT := Aside0.mk (fun (W : World) (hW : Below we.heap.size we W) => VaryP.nPutText _ (putSL ys (wrap64 (r.f0 - r.f2))) r.f1 W (HAL6.out W hW).2.sl (by have h1 := HLE2.out; have h2 := putSL_len ys (wrap64 (r.f0 - r.f2)); omega))
    have HB6 := Aside0.mk (Below.refl we.heap.size we)
    clear t1 hq
    refine start_ (n := 11) (S := fun w' => True) (ds := []) #[false, false, false, false, false, false, false, false, false, false, false] (by kernel_rfl) rfl rfl trivial (fun hHeld => ?_); refine with_tabW R6.tab6 R6.bits6 (fun HT_ HW_ => ?_)
    refine inv_at [0, 1, 2, 3, 4, 5, 6, 7, 8, 9, 10] (fun a0_ b a w' => ∃ (v7 : Value), a = putSel a0_ b [(0, 32, (.pointer (some ⟨S, 0, none⟩))), (1, 33, (.pointer (some ⟨S, 0, none⟩))), (2, 34, (.pointer (some ⟨S, 0, none⟩))), (3, 35, (.pointer (some ⟨S, 0, none⟩))), (4, 36, (.slice A5 (putSL ys (wrap64 (r.f0 - r.f2))).length c5)), (5, 37, (.pointer (some ⟨g, 1, none⟩))), (6, 38, (.string r.f1)), (7, 39, v7), (8, 40, (.pointer (some ⟨S, 0, none⟩))), (9, 41, (.pointer (some ⟨S, 0, none⟩)))] ∧ (b 10 = false → Below we.heap.size we w') ∧ (b 7 = true → Sl w' v7 (putTL (putSL ys (wrap64 (r.f0 - r.f2))) (numsOf r.f1))) ∧ (b 10 = true → Wz S (putTL (putSL ys (wrap64 (r.f0 - r.f2))) (numsOf r.f1)) we w')) HT_.out HW_.out (by kernel_rfl) (by kernel_rfl) ?_ ?_ ?_
    ·exact ⟨.bool false, by simp only [putSel, Bool.false_eq_true, if_false], fun _ => below_drew1 HB6.out, fun h_ => absurd h_ (by decide), fun h_ => absurd h_ (by decide)⟩
    ·skip
     clear HB6
     refine steps_cons ?_ ?_
     ·rintro b a w' ⟨v7, ha, Q_HB6, Q_G7, Q_HZ6⟩ hb_ hon hoff
      refine ⟨_, rfl, fun K hK => ?_⟩
      have e0 : a.tmps[0]? = some ((.pointer (some ⟨S, 0, none⟩))) := by rw [ha]; exact (putSel_off rfl).trans rfl
      replace ha := Aside0.mk ha
      have HB6 := Aside0.mk (Q_HB6 (hoff 10 (by kernel_rfl)))
      refine value_ (w1 := w') (v := (.pointer (some ⟨S, 0, none⟩))) (by rfl) rfl ?_ ?_
      ·go_simp
       (try simp only [i64_w])
       try (first | rfl | assumption)
      refine hK.out _ _ ⟨v7, (by rw [ha.out]; exact putSel_upk 0 hb_ rfl rfl rfl), Q_HB6, Q_G7, fun h0_ => absurd ((hoff 10 (by kernel_rfl)).symm.trans h0_) (by decide)⟩
     refine steps_cons ?_ ?_
     ·rintro b a w' ⟨v7, ha, Q_HB6, Q_G7, Q_HZ6⟩ hb_ hon hoff
      refine ⟨_, rfl, fun K hK => ?_⟩
      have e0 : a.tmps[0]? = some ((.pointer (some ⟨S, 0, none⟩))) := by rw [ha]; exact (putSel_off rfl).trans rfl
      replace ha := Aside0.mk ha
      have HB6 := Aside0.mk (Q_HB6 (hoff 10 (by kernel_rfl)))
      refine value_ (w1 := w') (v := (.pointer (some ⟨S, 0, none⟩))) (by rfl) rfl ?_ ?_
      ·go_simp
       (try simp only [i64_w])
       try (first | rfl | assumption)
      refine hK.out _ _ ⟨v7, (by rw [ha.out]; exact putSel_upk 1 hb_ rfl rfl rfl), Q_HB6, fun h0_ => absurd ((hoff 7 (by kernel_rfl)).symm.trans h0_) (by decide), fun h0_ => absurd ((hoff 10 (by kernel_rfl)).symm.trans h0_) (by decide)⟩
     refine steps_cons ?_ ?_
     ·rintro b a w' ⟨v7, ha, Q_HB6, Q_G7, Q_HZ6⟩ hb_ hon hoff
      refine ⟨_, rfl, fun K hK => ?_⟩
      have e33 : a.tmps[33]? = some ((.pointer (some ⟨S, 0, none⟩))) := by rw [ha]; exact putSel_on (e := (1, 33, (.pointer (some ⟨S, 0, none⟩)))) 1 rfl rfl (hon 1 (by kernel_rfl)) rfl
      replace ha := Aside0.mk ha
      have HB6 := Aside0.mk (Q_HB6 (hoff 10 (by kernel_rfl)))
      refine value_ (w1 := w') (v := (.pointer (some ⟨S, 0, none⟩))) (by rfl) rfl ?_ ?_
      ·go_simp
       (try simp only [i64_w])
       try (first | rfl | assumption)
      refine hK.out _ _ ⟨v7, (by rw [ha.out]; exact putSel_upk 2 hb_ rfl rfl rfl), Q_HB6, fun h0_ => absurd ((hoff 7 (by kernel_rfl)).symm.trans h0_) (by decide), fun h0_ => absurd ((hoff 10 (by kernel_rfl)).symm.trans h0_) (by decide)⟩
     refine steps_cons ?_ ?_
     ·rintro b a w' ⟨v7, ha, Q_HB6, Q_G7, Q_HZ6⟩ hb_ hon hoff
      refine ⟨_, rfl, fun K hK => ?_⟩
      have e34 : a.tmps[34]? = some ((.pointer (some ⟨S, 0, none⟩))) := by rw [ha]; exact putSel_on (e := (2, 34, (.pointer (some ⟨S, 0, none⟩)))) 2 rfl rfl (hon 2 (by kernel_rfl)) rfl
      replace ha := Aside0.mk ha
      have HB6 := Aside0.mk (Q_HB6 (hoff 10 (by kernel_rfl)))
      refine value_ (w1 := w') (v := (.pointer (some ⟨S, 0, none⟩))) (by rfl) rfl ?_ ?_
      ·go_simp
       (try simp only [i64_w])
       try (first | rfl | assumption)
      refine hK.out _ _ ⟨v7, (by rw [ha.out]; exact putSel_upk 3 hb_ rfl rfl rfl), Q_HB6, fun h0_ => absurd ((hoff 7 (by kernel_rfl)).symm.trans h0_) (by decide), fun h0_ => absurd ((hoff 10 (by kernel_rfl)).symm.trans h0_) (by decide)⟩
     refine steps_cons ?_ ?_
     ·rintro b a w' ⟨v7, ha, Q_HB6, Q_G7, Q_HZ6⟩ hb_ hon hoff
      refine ⟨_, rfl, fun K hK => ?_⟩
      have e35 : a.tmps[35]? = some ((.pointer (some ⟨S, 0, none⟩))) := by rw [ha]; exact putSel_on (e := (3, 35, (.pointer (some ⟨S, 0, none⟩)))) 3 rfl rfl (hon 3 (by kernel_rfl)) rfl
      replace ha := Aside0.mk ha
      have HB6 := Aside0.mk (Q_HB6 (hoff 10 (by kernel_rfl)))
      obtain ⟨x1_, q_⟩ := HAL6.out _ HB6.out; have x3_ := q_.cell.1
      refine value_ (w1 := w') (v := (.slice A5 (putSL ys (wrap64 (r.f0 - r.f2))).length c5)) (by rfl) rfl ?_ ?_
      ·go_simp
       (try simp only [i64_w])
       try (first | rfl | assumption)
      refine hK.out _ _ ⟨v7, (by rw [ha.out]; exact putSel_upk 4 hb_ rfl rfl rfl), Q_HB6, fun h0_ => absurd ((hoff 7 (by kernel_rfl)).symm.trans h0_) (by decide), fun h0_ => absurd ((hoff 10 (by kernel_rfl)).symm.trans h0_) (by decide)⟩
     refine steps_cons ?_ ?_
     ·rintro b a w' ⟨v7, ha, Q_HB6, Q_G7, Q_HZ6⟩ hb_ hon hoff
      refine ⟨_, rfl, fun K hK => ?_⟩
      have e5 : a.tmps[5]? = some ((.pointer (some ⟨g, 0, none⟩))) := by rw [ha]; exact (putSel_off rfl).trans rfl
      replace ha := Aside0.mk ha
      have HB6 := Aside0.mk (Q_HB6 (hoff 10 (by kernel_rfl)))
      refine value_ (w1 := w') (v := (.pointer (some ⟨g, 1, none⟩))) (by rfl) rfl ?_ ?_
      ·go_simp
       (try simp only [i64_w])
       try (first | rfl | assumption)
      refine hK.out _ _ ⟨v7, (by rw [ha.out]; exact putSel_upk 5 hb_ rfl rfl rfl), Q_HB6, fun h0_ => absurd ((hoff 7 (by kernel_rfl)).symm.trans h0_) (by decide), fun h0_ => absurd ((hoff 10 (by kernel_rfl)).symm.trans h0_) (by decide)⟩
     refine steps_cons ?_ ?_
     ·rintro b a w' ⟨v7, ha, Q_HB6, Q_G7, Q_HZ6⟩ hb_ hon hoff
      refine ⟨_, rfl, fun K hK => ?_⟩
      have e37 : a.tmps[37]? = some ((.pointer (some ⟨g, 1, none⟩))) := by rw [ha]; exact putSel_on (e := (5, 37, (.pointer (some ⟨g, 1, none⟩)))) 5 rfl rfl (hon 5 (by kernel_rfl)) rfl
      replace ha := Aside0.mk ha
      have HB6 := Aside0.mk (Q_HB6 (hoff 10 (by kernel_rfl)))
      obtain ⟨x1_, q_⟩ := HAL6.out _ HB6.out
      refine value_ (w1 := w') (v := (.string r.f1)) (by rfl) rfl ?_ ?_
      ·go_simp
       (try simp only [i64_w])
       try (first | rfl | assumption)
      refine hK.out _ _ ⟨v7, (by rw [ha.out]; exact putSel_upk 6 hb_ rfl rfl rfl), Q_HB6, fun h0_ => absurd ((hoff 7 (by kernel_rfl)).symm.trans h0_) (by decide), fun h0_ => absurd ((hoff 10 (by kernel_rfl)).symm.trans h0_) (by decide)⟩
     refine steps_cons ?_ ?_
     ·rintro b a w' ⟨v7, ha, Q_HB6, Q_G7, Q_HZ6⟩ hb_ hon hoff
      refine ⟨_, rfl, fun K hK => ?_⟩
      have e36 : a.tmps[36]? = some ((.slice A5 (putSL ys (wrap64 (r.f0 - r.f2))).length c5)) := by rw [ha]; exact putSel_on (e := (4, 36, (.slice A5 (putSL ys (wrap64 (r.f0 - r.f2))).length c5))) 4 rfl rfl (hon 4 (by kernel_rfl)) rfl
      have e38 : a.tmps[38]? = some ((.string r.f1)) := by rw [ha]; exact putSel_on (e := (6, 38, (.string r.f1))) 6 rfl rfl (hon 6 (by kernel_rfl)) rfl
      replace ha := Aside0.mk ha
      have HB6 := Aside0.mk (Q_HB6 (hoff 10 (by kernel_rfl)))
      refine goes_ Try.func60 (by kernel_rfl) rfl #[.slice A5 (putSL ys (wrap64 (r.f0 - r.f2))).length c5, .string r.f1] (by rfl) rfl rfl (by first | (simp only [List.map_toArray, List.map_cons, List.map_nil, Act.eval, Array.getD_eq_getD_getElem?, Option.getD_some, e36, e38]; done) | (simp only [List.map_toArray, List.map_cons, List.map_nil, Act.eval, Array.getD_eq_getD_getElem?, Option.getD_some, e36, e38]; rfl)) ?_
      refine (HPT.out _ HB6.out).mono ?_
      rintro e w1_ ⟨v7, rfl, hg, hb⟩
      refine ⟨_, rfl, ?_⟩
      refine hK.out _ _ ⟨v7, (by rw [ha.out]; exact putSel_upk 7 hb_ rfl rfl rfl), fun _ => below_step HB6.out hb, fun _ => hg.sl, fun h0_ => absurd ((hoff 10 (by kernel_rfl)).symm.trans h0_) (by decide)⟩
     refine steps_cons ?_ ?_
     ·rintro b a w' ⟨v7, ha, Q_HB6, Q_G7, Q_HZ6⟩ hb_ hon hoff
      refine ⟨_, rfl, fun K hK => ?_⟩
      have e32 : a.tmps[32]? = some ((.pointer (some ⟨S, 0, none⟩))) := by rw [ha]; exact putSel_on (e := (0, 32, (.pointer (some ⟨S, 0, none⟩)))) 0 rfl rfl (hon 0 (by kernel_rfl)) rfl
      replace ha := Aside0.mk ha
      have HB6 := Aside0.mk (Q_HB6 (hoff 10 (by kernel_rfl)))
      have G7 := Aside0.mk (Q_G7 (hon 7 (by kernel_rfl)))
      refine value_ (w1 := w') (v := (.pointer (some ⟨S, 0, none⟩))) (by rfl) rfl ?_ ?_
      ·go_simp
       (try simp only [i64_w])
       try (first | rfl | assumption)
      refine hK.out _ _ ⟨v7, (by rw [ha.out]; exact putSel_upk 8 hb_ rfl rfl rfl), Q_HB6, Q_G7, fun h0_ => absurd ((hoff 10 (by kernel_rfl)).symm.trans h0_) (by decide)⟩
     refine steps_cons ?_ ?_
     ·rintro b a w' ⟨v7, ha, Q_HB6, Q_G7, Q_HZ6⟩ hb_ hon hoff
      refine ⟨_, rfl, fun K hK => ?_⟩
      have e40 : a.tmps[40]? = some ((.pointer (some ⟨S, 0, none⟩))) := by rw [ha]; exact putSel_on (e := (8, 40, (.pointer (some ⟨S, 0, none⟩)))) 8 rfl rfl (hon 8 (by kernel_rfl)) rfl
      replace ha := Aside0.mk ha
      have HB6 := Aside0.mk (Q_HB6 (hoff 10 (by kernel_rfl)))
      have G7 := Aside0.mk (Q_G7 (hon 7 (by kernel_rfl)))
      refine value_ (w1 := w') (v := (.pointer (some ⟨S, 0, none⟩))) (by rfl) rfl ?_ ?_
      ·go_simp
       (try simp only [i64_w])
       try (first | rfl | assumption)
      refine hK.out _ _ ⟨v7, (by rw [ha.out]; exact putSel_upk 9 hb_ rfl rfl rfl), Q_HB6, Q_G7, fun h0_ => absurd ((hoff 10 (by kernel_rfl)).symm.trans h0_) (by decide)⟩
     refine steps_cons ?_ ?_
     ·rintro b a w' ⟨v7, ha, Q_HB6, Q_G7, Q_HZ6⟩ hb_ hon hoff
      refine ⟨_, rfl, fun K hK => ?_⟩
      have e41 : a.tmps[41]? = some ((.pointer (some ⟨S, 0, none⟩))) := by rw [ha]; exact putSel_on (e := (9, 41, (.pointer (some ⟨S, 0, none⟩)))) 9 rfl rfl (hon 9 (by kernel_rfl)) rfl
      have e39 : a.tmps[39]? = some (v7) := by rw [ha]; exact putSel_on (e := (7, 39, v7)) 7 rfl rfl (hon 7 (by kernel_rfl)) rfl
      replace ha := Aside0.mk ha
      have HB6 := Aside0.mk (Q_HB6 hb_)
      have G7 := Aside0.mk (Q_G7 (hon 7 (by kernel_rfl)))
      obtain ⟨A_, c_, hv_, _, _⟩ := G7.out
      have hq_ := (HAL6.out _ HB6.out).2
      obtain ⟨w1_, hw1_⟩ : ∃ w1_, w1_ = w'.setCell ⟨S, 0, none⟩ (.slice A_ (putTL (putSL ys (wrap64 (r.f0 - r.f2))) (numsOf r.f1)).length c_) := ⟨_, rfl⟩
      rw [hv_] at e39
      refine skip_ (w1 := w1_) (by rfl) rfl (by rw [hw1_]; obtain ⟨q0, f0⟩ := hq_.cell; go_simp) ?_
      refine hK.out _ _ ⟨v7, (by rw [ha.out]; exact putSel_none (v := undef) rfl), fun h0_ => absurd ((up_self b 10).symm.trans h0_) (by decide), fun _ => (by rw [hw1_]; exact Sl.but G7.out (But.setCell S 0 _ _) hq_.noByte), fun _ => ⟨by rw [hw1_]; exact (grown_of_below HB6.out (some S)).trans (But.setCell S 0 _ _), A_, c_, by rw [hw1_]; exact hq_.set (hv_ ▸ G7.out)⟩⟩
     exact steps_nil
    rintro b a wf hall ⟨v7, ha, Q_HB6, Q_G7, Q_HZ6⟩
    clear HB6
    have hb0_ := hall 0 (by kernel_rfl)
    have hb1_ := hall 1 (by kernel_rfl)
    have hb2_ := hall 2 (by kernel_rfl)
    have hb3_ := hall 3 (by kernel_rfl)
    have hb4_ := hall 4 (by kernel_rfl)
    have hb5_ := hall 5 (by kernel_rfl)
    have hb6_ := hall 6 (by kernel_rfl)
    have hb7_ := hall 7 (by kernel_rfl)
    have hb8_ := hall 8 (by kernel_rfl)
    have hb9_ := hall 9 (by kernel_rfl)
    have hb10_ := hall 10 (by kernel_rfl)
    subst ha
    simp only [putSel, hb0_, hb1_, hb2_, hb3_, hb4_, hb5_, hb6_, hb7_, hb8_, hb9_, hb10_, if_true, Act.put, List.setIfInBounds_toArray, List.set_cons_zero, List.set_cons_succ]
    clear Q_HB6
    have G7 := Aside0.mk (Q_G7 hb7_)
    clear Q_G7
    have HZ6 := Aside0.mk (Q_HZ6 hb10_)
    clear Q_HZ6
    clear hall hb0_ hb1_ hb2_ hb3_ hb4_ hb5_ hb6_ hb7_ hb8_ hb9_ hb10_
    have HBU := Aside0.mk (HBT.out.trans HZ6.out.1)
    have HW6 := Aside0.mk HZ6.out.2
    clear HZ6 G7 HPT HAL6
    go_wp2_with fail
    go_roundw
    case rel => exact ⟨j + 1, putTL (putSL ys (wrap64 (r.f0 - r.f2))) (numsOf r.f1), HLT.out, by go_num, by have h := HO2.out; rw [HST.out] at h; exact h, by have h1 := HLE2.out; have h2 := opStep_len ys r; rw [HST.out] at h2; omega, HBU.out, HW6.out⟩
    case measure => simp [intOf]; have := HLT.out; omega
  ·obtain rfl : j = l.length := by omega
   have hlt' : ¬ ((l.length : Int) < (l.length : Int)) := by omega
   have HE := Aside0.mk (show ys = opR l ys0 by have h := HO.out; rwa [List.drop_eq_nil_of_le (Nat.le_refl _)] at h)
   go_wp2_with fail
   refine bodyPost_end (results_none rfl _ _ _) rfl ?_
   exact ⟨⟨_, rfl⟩, HBJ.out, by rw [← HE.out]; exact ⟨A2, c2, HWJ.out⟩⟩
def noteStep (b : List Int) (last : Int) (x : Nt) : List Int := putL (putL (putL b (wrap64 (x.f0.f0 - last))) (wrap64 (x.f0.f1 - x.f0.f0))) x.f1
def noteR : List Nt → Int → List Int → List Int
 | [], _, b => b
 | x :: l, last, b => noteR l x.f0.f0 (noteStep b last x)
theorem noteStep_len (b : List Int) (last : Int) (x : Nt) : (noteStep b last x).length ≤ b.length + 27 := by
 unfold noteStep
 have h1 := putL_len b (wrap64 (x.f0.f0 - last))
 have h2 := putL_len (putL b (wrap64 (x.f0.f0 - last))) (wrap64 (x.f0.f1 - x.f0.f0))
 have h3 := putL_len (putL (putL b (wrap64 (x.f0.f0 - last))) (wrap64 (x.f0.f1 - x.f0.f0))) x.f1
 omega
set_option maxHeartbeats 16000000 in
set_option maxRecDepth 100000 in
theorem notes_w (S : Nat) (xs : List Int) (A : Option Addr) (c : Nat) (Al : Option Addr) (cl : Nat) (l : List Nt) (w : World) (h : Wt S xs (.slice A xs.length c) w) (hC : NC w Al l) (hc : l.length ≤ cl) (hne : ∀ ad, Al = some ad → 0 < l.length → ad.block ≠ S) (hl : xs.length ≤ 100000000000000) (hl2 : l.length ≤ 1000000) :
  Calls Try.prog 61 #[.pointer (some ⟨S, 0, none⟩), .slice Al l.length cl] w (WtPost S (noteR l 0 (putL xs (l.length : Int))) w) := by
 have HN := Aside0.mk (num_w S xs A c (l.length : Int) w h (by omega))
 have HC := Aside0.mk hC
 have HNE := Aside0.mk hne
 have HL := Aside0.mk hl
 have HL2 := Aside0.mk hl2
 obtain ⟨ys0, hys0⟩ : ∃ ys0, ys0 = putL xs (l.length : Int) := ⟨_, rfl⟩
 have HY0 := Aside0.mk (show ys0.length ≤ xs.length + 9 by rw [hys0]; exact putL_len _ _)
 rw [← hys0] at HN ⊢
 clear h hC hc hne hl hl2 hys0
 go_enter Try.func61, Try.ntmps61
 go_wp2_with fail
 refine HN.out.mono ?_
 rintro e w1 ⟨⟨u, rfl⟩, hb, A1, c1, hw⟩
 have HB1 := Aside0.mk hb
 have HW1 := Aside0.mk hw
 clear hb hw HN
 go_wp2_with fail
 go_loopw [5, 16] (fun lv iv wr => ∃ (j : Nat) (last : Int) (ys : List Int), j ≤ l.length ∧ lv = .int .i64 last ∧ iv = .int .i64 (j : Int) ∧ noteR (l.drop j) last ys = noteR l 0 ys0 ∧ ys.length ≤ 100000000000009 + j * 27 ∧ Wz S ys w wr) (fun _ iv _ => l.length - (intOf iv).toNat)
 case atStart => exact ⟨0, 0, ys0, Nat.zero_le _, rfl, rfl, rfl, by have := HL.out; have := HY0.out; omega, HB1.out, A1, c1, HW1.out⟩
 case round =>
  obtain ⟨j, last, ys, hj, rfl, rfl, ho, hlen, hbut, A2, c2, hw⟩ := hrel
  have HBJ := Aside0.mk hbut
  have HWJ := Aside0.mk hw
  have HO := Aside0.mk ho
  have HLE := Aside0.mk hlen
  clear hbut hw ho hlen HW1 HB1
  by_cases hlt : j < l.length
  ·have hlt' : (j : Int) < (l.length : Int) := by omega
   have h6 : j < 1000000 := by have := HL2.out; omega
   obtain ⟨ad, rfl, y0, y1, y2⟩ := at_nt (NC.but HC.out HBJ.out HNE.out) j hlt
   obtain ⟨x, hx⟩ : ∃ x, x = l.getD j z104 := ⟨_, rfl⟩
   have hdr := drop_nt hlt
   rw [← hx] at y0 y1 y2 hdr
   have HO2 := Aside0.mk (show noteR (l.drop (j + 1)) x.f0.f0 (noteStep ys last x) = noteR l 0 ys0 by rw [← HO.out, hdr]; rfl)
   have HSL := Aside0.mk (noteStep_len ys last x)
   obtain ⟨g, hg⟩ : ∃ g, g = wr.heap.size := ⟨_, rfl⟩
   obtain ⟨w1, hw1⟩ : ∃ w1, w1 = wr.alloc (.cells #[.int .i64 0, .int .i64 0, .int .i64 0] 104) := ⟨_, rfl⟩
   obtain ⟨w2, hw2⟩ : ∃ w2, w2 = ((w1.setCell ⟨g, 0, none⟩ (.int .i64 x.f0.f0)).setCell ⟨g, 1, none⟩ (.int .i64 x.f0.f1)).setCell ⟨g, 2, none⟩ (.int .i64 x.f1) := ⟨_, rfl⟩
   have HT1 := Aside0.mk (show w1.heap[g]? = some (.cells #[.int .i64 0, .int .i64 0, .int .i64 0] 104 (0, 0)) by rw [hw1, hg]; exact Own.heap_new _ _)
   have HBW := Aside0.mk (show Below wr.heap.size wr w2 by rw [hw2]; exact below_set3 (by rw [hw1]; exact below_alloc (Below.refl _ _) _) (by omega) _ _ _)
   have HT2 := Aside0.mk (show w2.heap[g]? = some (.cells #[.int .i64 x.f0.f0, .int .i64 x.f0.f1, .int .i64 x.f1] 104 (0, 0)) by rw [hw2]; exact set3 HT1.out _ _ _)
   have HSG := Aside0.mk (show S ≠ g by have := HWJ.out.lt; omega)
   have HW2' := Aside0.mk (HWJ.out.below HBW.out)
   have HBU2 := Aside0.mk (HBJ.out.trans (grown_of_below HBW.out (some S)))
   have HW1 := Aside0.mk hw1
   have HG1 := Aside0.mk hg
   have HW2 := Aside0.mk hw2
   have a0 : w1.cell? ⟨g, 0, none⟩ = some (.int .i64 0) := by rw [cell_of_row _ _ 0 _ _ _ HT1.out]; rfl
   have a1 : w1.cell? ⟨g, 1, none⟩ = some (.int .i64 0) := by rw [cell_of_row _ _ 1 _ _ _ HT1.out]; rfl
   have a2 : w1.cell? ⟨g, 2, none⟩ = some (.int .i64 0) := by rw [cell_of_row _ _ 2 _ _ _ HT1.out]; rfl
   have b0 : w1.frozen? ⟨g, 0, none⟩ = false := frozen_of_row _ _ 0 _ _ HT1.out
   have b1 : w1.frozen? ⟨g, 1, none⟩ = false := frozen_of_row _ _ 1 _ _ HT1.out
   have b2 : w1.frozen? ⟨g, 2, none⟩ = false := frozen_of_row _ _ 2 _ _ HT1.out
   have t0 : w2.cell? ⟨g, 0, none⟩ = some (.int .i64 x.f0.f0) := by rw [cell_of_row _ _ 0 _ _ _ HT2.out]; rfl
   have hp1 := putL_len ys (wrap64 (x.f0.f0 - last))
   have hp2 := putL_len (putL ys (wrap64 (x.f0.f0 - last))) (wrap64 (x.f0.f1 - x.f0.f0))
   have HP1 := Aside0.mk hp1
   have HP2 := Aside0.mk hp2
   have HN1 := Aside0.mk (num_w S ys A2 c2 (wrap64 (x.f0.f0 - last)) w2 HW2'.out (by have := HLE.out; omega))
   have HLT := Aside0.mk hlt
   have HRO := Aside0.mk (fun W (hb : But S w2 W) => (show W.heap[g]? = some (.cells #[.int .i64 x.f0.f0, .int .i64 x.f0.f1, .int .i64 x.f1] 104 (0, 0)) from (hb.block g (Array.getElem?_eq_some_iff.1 HT2.out).1 (fun e => HSG.out (Option.some.inj e).symm)).trans HT2.out))
   clear hw1 hg hw2 hx hdr hlt hp1 hp2
   go_wp2_with (first | rw [← HG1.out, ← HW1.out] | rw [← HW2.out])
   refine HN1.out.mono ?_
   rintro e w3 ⟨⟨u3, rfl⟩, hb3, A3, c3, hw3⟩
   have HB3 := Aside0.mk hb3
   have HRO3 := Aside0.mk (HRO.out w3 hb3)
   have HN2 := Aside0.mk (num_w S (putL ys (wrap64 (x.f0.f0 - last))) A3 c3 (wrap64 (x.f0.f1 - x.f0.f0)) w3 hw3 (by have := HLE.out; have := HP1.out; omega))
   clear hb3 hw3 a0 a1 a2 b0 b1 b2 y0 y1 y2 t0 HT1 HW1 HG1 HW2 HN1
   have t0 : w3.cell? ⟨g, 0, none⟩ = some (.int .i64 x.f0.f0) := by rw [cell_of_row _ _ 0 _ _ _ HRO3.out]; rfl
   have t1 : w3.cell? ⟨g, 1, none⟩ = some (.int .i64 x.f0.f1) := by rw [cell_of_row _ _ 1 _ _ _ HRO3.out]; rfl
   go_wp2_with fail
   refine HN2.out.mono ?_
   rintro e w4 ⟨⟨u4, rfl⟩, hb4, A4, c4, hw4⟩
   have HB4 := Aside0.mk (HB3.out.trans hb4)
   have HRO4 := Aside0.mk (HRO.out w4 HB4.out)
   have HN3 := Aside0.mk (num_w S (putL (putL ys (wrap64 (x.f0.f0 - last))) (wrap64 (x.f0.f1 - x.f0.f0))) A4 c4 x.f1 w4 hw4 (by have := HLE.out; have := HP1.out; have := HP2.out; omega))
   clear hb4 hw4 t0 t1 HN2
   have t2 : w4.cell? ⟨g, 2, none⟩ = some (.int .i64 x.f1) := by rw [cell_of_row _ _ 2 _ _ _ HRO4.out]; rfl
   go_wp2_with fail
   refine HN3.out.mono ?_
   rintro e w5 ⟨⟨u5, rfl⟩, hb5, A5, c5, hw5⟩
   have HB5 := Aside0.mk (HB4.out.trans hb5)
   have HRO5 := Aside0.mk (HRO.out w5 HB5.out)
   have HW5 := Aside0.mk hw5
   clear hb5 hw5 t2 HN3
   have t0 : w5.cell? ⟨g, 0, none⟩ = some (.int .i64 x.f0.f0) := by rw [cell_of_row _ _ 0 _ _ _ HRO5.out]; rfl
   go_wp2_with fail
   go_roundw
   case rel => exact ⟨j + 1, x.f0.f0, noteStep ys last x, HLT.out, rfl, by go_num, HO2.out, by have h1 := HLE.out; have h2 := HSL.out; omega, HBU2.out.trans HB5.out, A5, c5, HW5.out⟩
   case measure => simp [intOf]; have := HLT.out; omega
  ·obtain rfl : j = l.length := by omega
   have hlt' : ¬ ((l.length : Int) < (l.length : Int)) := by omega
   have HE := Aside0.mk (show ys = noteR l 0 ys0 by have h := HO.out; rwa [List.drop_eq_nil_of_le (Nat.le_refl _)] at h)
   go_wp2_with fail
   refine bodyPost_end (results_none rfl _ _ _) rfl ?_
   exact ⟨⟨_, rfl⟩, HBJ.out, by rw [← HE.out]; exact ⟨A2, c2, HWJ.out⟩⟩
end Go.Proofs.Ytedfcjcnhgomoaa.MsgW
end
-- MERGED YtedfcjcnhgomoaaPmessagefields
section
namespace Go.Proofs.Ytedfcjcnhgomoaa.P
open Go.RowKit Go.Proofs.YtedfcjcnhgomoaaW.PrintWords Go.Proofs.YtedfcjcnhgomoaaW.PrintLast Go.Proofs.YtedfcjcnhgomoaaW.PrintMore
attribute [local go_sem] max2_int min2_int max_two min_two max_three min_three max_four min_four   -- for this text's walks alone
set_option linter.unusedVariables false
set_option linter.unusedSimpArgs false
def message_fields.f (a0 : Int) : Option (List Int) := if a0 = 1 then (some (([0, 1, 2, 3] : List Int))) else (if a0 = 2 then (some (([0, 2, 3, 5] : List Int))) else (if a0 = 3 then (some (([2, 3] : List Int))) else (if a0 = 4 then (some (([2, 3, 6] : List Int))) else (if a0 = 5 then (some (([2, 7] : List Int))) else (if a0 = 6 then (some (([1] : List Int))) else (if a0 = 7 then (some (([4] : List Int))) else (some ([] : List Int))))))))
set_option maxHeartbeats 8000000 in
set_option maxRecDepth 100000 in
theorem message_fields.calls (a0 : Int) (r : List Int) (w : World) (h : message_fields.f a0 = some r) :
  Calls Try.prog 58 #[.int .i64 a0] w fun e w' => ∃ v0_ : Value, e = .returned (v0_) ∧ Kd.R (Kd.int .i64) 92 w' w.heap.size (fun _ => True) v0_ r ∧ Below w.heap.size w w' := by
 have HB := Aside0.mk (Below.refl w.heap.size w)
 have H : (if a0 = 1 then (some (([0, 1, 2, 3] : List Int))) else (if a0 = 2 then (some (([0, 2, 3, 5] : List Int))) else (if a0 = 3 then (some (([2, 3] : List Int))) else (if a0 = 4 then (some (([2, 3, 6] : List Int))) else (if a0 = 5 then (some (([2, 7] : List Int))) else (if a0 = 6 then (some (([1] : List Int))) else (if a0 = 7 then (some (([4] : List Int))) else (some ([] : List Int))))))))) = some r := h
 clear h
 by_cases c2 : a0 = 1
 ·rw [if_pos c2] at H
  have c2b0 : (a0 == 1) = true := beq_iff_eq.mpr c2
  have c2b1 : (a0 != 1) = false := bne_eq_false_iff_eq.mpr c2
  clear c2
  obtain ⟨y227, hy227⟩ : ∃ y_ : List Int, y_ = (([0, 1, 2, 3] : List Int)) := ⟨_, rfl⟩
  replace H : (some y227) = some r := by (rw [hy227]; with_reducible exact H)
  have Ny227 := Aside0.mk hy227
  clear hy227
  obtain rfl := Option.some.inj H
  go_enter Try.func58, Try.ntmps58
  go_wp2_with (first | ((with_reducible refine gate_dst (N := 6) rfl ?_); refine Kd.R_lit (Kd.int .i64) _ 92 ?hg (N := 6) ?hd (xs := ([0, 1, 2, 3] : List Int)) (inner := [.int .i64 0, .int .i64 1, .int .i64 2, .int .i64 3]) (ok := fun _ => True) (okp := fun _ => True) ?hr ?hp (fun _ hk => hk) trivial (Below.refl _ _) (Nat.le_refl _) (by simp) ?_; (case hd => rfl); (case hg => rfl); (case hr => (go_simp; done)); (case hp => exact (Reps.one (show Kd.M (Kd.int .i64) _ _ _ 0 [.int .i64 0] from rfl) (Reps.one (show Kd.M (Kd.int .i64) _ _ _ 1 [.int .i64 1] from rfl) (Reps.one (show Kd.M (Kd.int .i64) _ _ _ 2 [.int .i64 2] from rfl) (Reps.one (show Kd.M (Kd.int .i64) _ _ _ 3 [.int .i64 3] from rfl) (Reps.none _ _)))))); intro v228 w3 ho4 hb hg_ hnew_; clear hg_ hnew_; ((rw [← Ny227.out] at ho4)); have n0_ := Aside0.mk (Kd.R_lower ho4 (below_size (by repeat ((with_reducible (exact HB.out)))))); have n1_ := Aside0.mk (below_step (by repeat ((with_reducible (exact HB.out)))) hb); clear HB; have HO229 := n0_; have HB := n1_; clear n0_ n1_; clear hb ho4))
  go_ret
  exact ⟨_, by (rfl), by (with_reducible repeat ((apply Kd.R_drew))); exact HO229.out, by repeat ((with_reducible (exact HB.out)))⟩
 ·rw [if_neg c2] at H
  have c2b0 : (a0 == 1) = false := beq_eq_false_iff_ne.mpr c2
  have c2b1 : (a0 != 1) = true := bne_iff_ne.mpr c2
  by_cases c5 : a0 = 2
  ·rw [if_pos c5] at H
   have c5b0 : (a0 == 2) = true := beq_iff_eq.mpr c5
   have c5b1 : (a0 != 2) = false := bne_eq_false_iff_eq.mpr c5
   clear c5
   obtain ⟨y230, hy230⟩ : ∃ y_ : List Int, y_ = (([0, 2, 3, 5] : List Int)) := ⟨_, rfl⟩
   replace H : (some y230) = some r := by (rw [hy230]; with_reducible exact H)
   have Ny230 := Aside0.mk hy230
   clear hy230
   obtain rfl := Option.some.inj H
   go_enter Try.func58, Try.ntmps58
   go_wp2_with (first | ((with_reducible refine gate_dst (N := 9) rfl ?_); refine Kd.R_lit (Kd.int .i64) _ 92 ?hg (N := 9) ?hd (xs := ([0, 2, 3, 5] : List Int)) (inner := [.int .i64 0, .int .i64 2, .int .i64 3, .int .i64 5]) (ok := fun _ => True) (okp := fun _ => True) ?hr ?hp (fun _ hk => hk) trivial (Below.refl _ _) (Nat.le_refl _) (by simp) ?_; (case hd => rfl); (case hg => rfl); (case hr => (go_simp; done)); (case hp => exact (Reps.one (show Kd.M (Kd.int .i64) _ _ _ 0 [.int .i64 0] from rfl) (Reps.one (show Kd.M (Kd.int .i64) _ _ _ 2 [.int .i64 2] from rfl) (Reps.one (show Kd.M (Kd.int .i64) _ _ _ 3 [.int .i64 3] from rfl) (Reps.one (show Kd.M (Kd.int .i64) _ _ _ 5 [.int .i64 5] from rfl) (Reps.none _ _)))))); intro v231 w6 ho7 hb hg_ hnew_; clear hg_ hnew_; ((rw [← Ny230.out] at ho7)); have n0_ := Aside0.mk (Kd.R_lower ho7 (below_size (by repeat ((with_reducible (exact HB.out)))))); have n1_ := Aside0.mk (below_step (by repeat ((with_reducible (exact HB.out)))) hb); clear HB; have HO232 := n0_; have HB := n1_; clear n0_ n1_; clear hb ho7))
   go_ret
   exact ⟨_, by (rfl), by (with_reducible repeat ((apply Kd.R_drew))); exact HO232.out, by repeat ((with_reducible (exact HB.out)))⟩
  ·rw [if_neg c5] at H
   have c5b0 : (a0 == 2) = false := beq_eq_false_iff_ne.mpr c5
   have c5b1 : (a0 != 2) = true := bne_iff_ne.mpr c5
   by_cases c8 : a0 = 3
   ·rw [if_pos c8] at H
    have c8b0 : (a0 == 3) = true := beq_iff_eq.mpr c8
    have c8b1 : (a0 != 3) = false := bne_eq_false_iff_eq.mpr c8
    clear c8
    obtain ⟨y233, hy233⟩ : ∃ y_ : List Int, y_ = (([2, 3] : List Int)) := ⟨_, rfl⟩
    replace H : (some y233) = some r := by (rw [hy233]; with_reducible exact H)
    have Ny233 := Aside0.mk hy233
    clear hy233
    obtain rfl := Option.some.inj H
    go_enter Try.func58, Try.ntmps58
    go_wp2_with (first | ((with_reducible refine gate_dst (N := 12) rfl ?_); refine Kd.R_lit (Kd.int .i64) _ 92 ?hg (N := 12) ?hd (xs := ([2, 3] : List Int)) (inner := [.int .i64 2, .int .i64 3]) (ok := fun _ => True) (okp := fun _ => True) ?hr ?hp (fun _ hk => hk) trivial (Below.refl _ _) (Nat.le_refl _) (by simp) ?_; (case hd => rfl); (case hg => rfl); (case hr => (go_simp; done)); (case hp => exact (Reps.one (show Kd.M (Kd.int .i64) _ _ _ 2 [.int .i64 2] from rfl) (Reps.one (show Kd.M (Kd.int .i64) _ _ _ 3 [.int .i64 3] from rfl) (Reps.none _ _)))); intro v234 w9 ho10 hb hg_ hnew_; clear hg_ hnew_; ((rw [← Ny233.out] at ho10)); have n0_ := Aside0.mk (Kd.R_lower ho10 (below_size (by repeat ((with_reducible (exact HB.out)))))); have n1_ := Aside0.mk (below_step (by repeat ((with_reducible (exact HB.out)))) hb); clear HB; have HO235 := n0_; have HB := n1_; clear n0_ n1_; clear hb ho10))
    go_ret
    exact ⟨_, by (rfl), by (with_reducible repeat ((apply Kd.R_drew))); exact HO235.out, by repeat ((with_reducible (exact HB.out)))⟩
   ·rw [if_neg c8] at H
    have c8b0 : (a0 == 3) = false := beq_eq_false_iff_ne.mpr c8
    have c8b1 : (a0 != 3) = true := bne_iff_ne.mpr c8
    by_cases c11 : a0 = 4
    ·rw [if_pos c11] at H
     have c11b0 : (a0 == 4) = true := beq_iff_eq.mpr c11
     have c11b1 : (a0 != 4) = false := bne_eq_false_iff_eq.mpr c11
     clear c11
     obtain ⟨y236, hy236⟩ : ∃ y_ : List Int, y_ = (([2, 3, 6] : List Int)) := ⟨_, rfl⟩
     replace H : (some y236) = some r := by (rw [hy236]; with_reducible exact H)
     have Ny236 := Aside0.mk hy236
     clear hy236
     obtain rfl := Option.some.inj H
     go_enter Try.func58, Try.ntmps58
     go_wp2_with (first | ((with_reducible refine gate_dst (N := 15) rfl ?_); refine Kd.R_lit (Kd.int .i64) _ 92 ?hg (N := 15) ?hd (xs := ([2, 3, 6] : List Int)) (inner := [.int .i64 2, .int .i64 3, .int .i64 6]) (ok := fun _ => True) (okp := fun _ => True) ?hr ?hp (fun _ hk => hk) trivial (Below.refl _ _) (Nat.le_refl _) (by simp) ?_; (case hd => rfl); (case hg => rfl); (case hr => (go_simp; done)); (case hp => exact (Reps.one (show Kd.M (Kd.int .i64) _ _ _ 2 [.int .i64 2] from rfl) (Reps.one (show Kd.M (Kd.int .i64) _ _ _ 3 [.int .i64 3] from rfl) (Reps.one (show Kd.M (Kd.int .i64) _ _ _ 6 [.int .i64 6] from rfl) (Reps.none _ _))))); intro v237 w12 ho13 hb hg_ hnew_; clear hg_ hnew_; ((rw [← Ny236.out] at ho13)); have n0_ := Aside0.mk (Kd.R_lower ho13 (below_size (by repeat ((with_reducible (exact HB.out)))))); have n1_ := Aside0.mk (below_step (by repeat ((with_reducible (exact HB.out)))) hb); clear HB; have HO238 := n0_; have HB := n1_; clear n0_ n1_; clear hb ho13))
     go_ret
     exact ⟨_, by (rfl), by (with_reducible repeat ((apply Kd.R_drew))); exact HO238.out, by repeat ((with_reducible (exact HB.out)))⟩
    ·rw [if_neg c11] at H
     have c11b0 : (a0 == 4) = false := beq_eq_false_iff_ne.mpr c11
     have c11b1 : (a0 != 4) = true := bne_iff_ne.mpr c11
     by_cases c14 : a0 = 5
     ·rw [if_pos c14] at H
      have c14b0 : (a0 == 5) = true := beq_iff_eq.mpr c14
      have c14b1 : (a0 != 5) = false := bne_eq_false_iff_eq.mpr c14
      clear c14
      obtain ⟨y239, hy239⟩ : ∃ y_ : List Int, y_ = (([2, 7] : List Int)) := ⟨_, rfl⟩
      replace H : (some y239) = some r := by (rw [hy239]; with_reducible exact H)
      have Ny239 := Aside0.mk hy239
      clear hy239
      obtain rfl := Option.some.inj H
      go_enter Try.func58, Try.ntmps58
      go_wp2_with (first | ((with_reducible refine gate_dst (N := 18) rfl ?_); refine Kd.R_lit (Kd.int .i64) _ 92 ?hg (N := 18) ?hd (xs := ([2, 7] : List Int)) (inner := [.int .i64 2, .int .i64 7]) (ok := fun _ => True) (okp := fun _ => True) ?hr ?hp (fun _ hk => hk) trivial (Below.refl _ _) (Nat.le_refl _) (by simp) ?_; (case hd => rfl); (case hg => rfl); (case hr => (go_simp; done)); (case hp => exact (Reps.one (show Kd.M (Kd.int .i64) _ _ _ 2 [.int .i64 2] from rfl) (Reps.one (show Kd.M (Kd.int .i64) _ _ _ 7 [.int .i64 7] from rfl) (Reps.none _ _)))); intro v240 w15 ho16 hb hg_ hnew_; clear hg_ hnew_; ((rw [← Ny239.out] at ho16)); have n0_ := Aside0.mk (Kd.R_lower ho16 (below_size (by repeat ((with_reducible (exact HB.out)))))); have n1_ := Aside0.mk (below_step (by repeat ((with_reducible (exact HB.out)))) hb); clear HB; have HO241 := n0_; have HB := n1_; clear n0_ n1_; clear hb ho16))
      go_ret
      exact ⟨_, by (rfl), by (with_reducible repeat ((apply Kd.R_drew))); exact HO241.out, by repeat ((with_reducible (exact HB.out)))⟩
     ·rw [if_neg c14] at H
      have c14b0 : (a0 == 5) = false := beq_eq_false_iff_ne.mpr c14
      have c14b1 : (a0 != 5) = true := bne_iff_ne.mpr c14
      by_cases c17 : a0 = 6
      ·rw [if_pos c17] at H
       have c17b0 : (a0 == 6) = true := beq_iff_eq.mpr c17
       have c17b1 : (a0 != 6) = false := bne_eq_false_iff_eq.mpr c17
       clear c17
       obtain ⟨y242, hy242⟩ : ∃ y_ : List Int, y_ = (([1] : List Int)) := ⟨_, rfl⟩
       replace H : (some y242) = some r := by (rw [hy242]; with_reducible exact H)
       have Ny242 := Aside0.mk hy242
       clear hy242
       obtain rfl := Option.some.inj H
       go_enter Try.func58, Try.ntmps58
       go_wp2_with (first | ((with_reducible refine gate_dst (N := 21) rfl ?_); refine Kd.R_lit (Kd.int .i64) _ 92 ?hg (N := 21) ?hd (xs := ([1] : List Int)) (inner := [.int .i64 1]) (ok := fun _ => True) (okp := fun _ => True) ?hr ?hp (fun _ hk => hk) trivial (Below.refl _ _) (Nat.le_refl _) (by simp) ?_; (case hd => rfl); (case hg => rfl); (case hr => (go_simp; done)); (case hp => exact (Reps.one (show Kd.M (Kd.int .i64) _ _ _ 1 [.int .i64 1] from rfl) (Reps.none _ _))); intro v243 w18 ho19 hb hg_ hnew_; clear hg_ hnew_; ((rw [← Ny242.out] at ho19)); have n0_ := Aside0.mk (Kd.R_lower ho19 (below_size (by repeat ((with_reducible (exact HB.out)))))); have n1_ := Aside0.mk (below_step (by repeat ((with_reducible (exact HB.out)))) hb); clear HB; have HO244 := n0_; have HB := n1_; clear n0_ n1_; clear hb ho19))
       go_ret
       exact ⟨_, by (rfl), by (with_reducible repeat ((apply Kd.R_drew))); exact HO244.out, by repeat ((with_reducible (exact HB.out)))⟩
      ·rw [if_neg c17] at H
       have c17b0 : (a0 == 6) = false := beq_eq_false_iff_ne.mpr c17
       have c17b1 : (a0 != 6) = true := bne_iff_ne.mpr c17
       by_cases c20 : a0 = 7
       ·rw [if_pos c20] at H
        have c20b0 : (a0 == 7) = true := beq_iff_eq.mpr c20
        have c20b1 : (a0 != 7) = false := bne_eq_false_iff_eq.mpr c20
        clear c20
        obtain ⟨y245, hy245⟩ : ∃ y_ : List Int, y_ = (([4] : List Int)) := ⟨_, rfl⟩
        replace H : (some y245) = some r := by (rw [hy245]; with_reducible exact H)
        have Ny245 := Aside0.mk hy245
        clear hy245
        obtain rfl := Option.some.inj H
        go_enter Try.func58, Try.ntmps58
        go_wp2_with (first | ((with_reducible refine gate_dst (N := 24) rfl ?_); refine Kd.R_lit (Kd.int .i64) _ 92 ?hg (N := 24) ?hd (xs := ([4] : List Int)) (inner := [.int .i64 4]) (ok := fun _ => True) (okp := fun _ => True) ?hr ?hp (fun _ hk => hk) trivial (Below.refl _ _) (Nat.le_refl _) (by simp) ?_; (case hd => rfl); (case hg => rfl); (case hr => (go_simp; done)); (case hp => exact (Reps.one (show Kd.M (Kd.int .i64) _ _ _ 4 [.int .i64 4] from rfl) (Reps.none _ _))); intro v246 w21 ho22 hb hg_ hnew_; clear hg_ hnew_; ((rw [← Ny245.out] at ho22)); have n0_ := Aside0.mk (Kd.R_lower ho22 (below_size (by repeat ((with_reducible (exact HB.out)))))); have n1_ := Aside0.mk (below_step (by repeat ((with_reducible (exact HB.out)))) hb); clear HB; have HO247 := n0_; have HB := n1_; clear n0_ n1_; clear hb ho22))
        go_ret
        exact ⟨_, by (rfl), by (with_reducible repeat ((apply Kd.R_drew))); exact HO247.out, by repeat ((with_reducible (exact HB.out)))⟩
       ·rw [if_neg c20] at H
        have c20b0 : (a0 == 7) = false := beq_eq_false_iff_ne.mpr c20
        have c20b1 : (a0 != 7) = true := bne_iff_ne.mpr c20
        obtain rfl := Option.some.inj H
        go_enter Try.func58, Try.ntmps58
        go_wp2
        go_ret
        exact ⟨_, by (rfl), by (exact Kd.R_nil _ _ _ _ _), by repeat ((with_reducible (exact HB.out)))⟩
end Go.Proofs.Ytedfcjcnhgomoaa.P
end
-- MERGED YtedfcjcnhgomoaaPress
section
namespace Go.Proofs.Ytedfcjcnhgomoaa.Press
open Go.RowKit Go.Proofs.Ytedfcjcnhgomoaa.P Go.Proofs.YtedfcjcnhgomoaaW.PrintWords Go.Proofs.YtedfcjcnhgomoaaW.PrintLast Go.Proofs.YtedfcjcnhgomoaaW.PrintMore
set_option linter.unusedVariables false
variable {P : Program} {ops : Array Oper} {Q : Exit → Act → World → Prop} {md : Region.Mode} {S : World → Prop} {ds : List Nat} {T : Bool × List (List Nat × List Nat)}
theorem pu_ (i n : Nat) (l' : Array Bool) (hT : Aside0 (rtab md ops = T)) {oi : Oper} {v : Value} {fuel : Nat} {l : Array Bool} {a a' : Act} {w : World} (h : wpAnyLast P md ops Q S ds fuel l' a' w)
  (hi : ops[i]? = some oi := by rfl) (hN : oi.dst = some n := by rfl) (hc : anyT T l.toList l'.toList i = true := by kernel_rfl) (hQ : ∀ c a w, Q (.panic c) (a.put oi.dst v) w → Q (.panic c) a w := by exact fun _ _ _ h => h)
  (hw : Region.wanted oi (yielded ops a.tmps) = true := by rfl) (hy : ∀ w', (execOp a.eval oi).run P w' = .ok (.value v) w' := by (intro w'; go_simp; with_reducible rfl))
  (ha : a.put (some n) v = a' := by (simp only [Act.put, List.setIfInBounds_toArray, List.set_cons_zero, List.set_cons_succ, i64_w, i32_w]; rfl)) : wpAnyLast P md ops Q S ds (fuel + 1) l a w :=
 pure_ l' hi hN (any_of hT.out hc) hQ (.inl ⟨hw, hy⟩) ha h
theorem pn_ (i n : Nat) (l' : Array Bool) (hT : Aside0 (rtab md ops = T)) {oi : Oper} {fuel : Nat} {l : Array Bool} {a a' : Act} {w : World} (h : wpAnyLast P md ops Q S ds fuel l' a' w)
  (hi : ops[i]? = some oi := by rfl) (hN : oi.dst = some n := by rfl) (hc : anyT T l.toList l'.toList i = true := by kernel_rfl) (hQ : ∀ c a w, Q (.panic c) (a.put oi.dst undef) w → Q (.panic c) a w := by exact fun _ _ _ h => h)
  (hw : Region.wanted oi (yielded ops a.tmps) = false := by rfl)
  (ha : a.put (some n) undef = a' := by (simp only [Act.put, List.setIfInBounds_toArray, List.set_cons_zero, List.set_cons_succ, i64_w, i32_w]; rfl)) : wpAnyLast P md ops Q S ds (fuel + 1) l a w :=
 pure_ (v := undef) l' hi hN (any_of hT.out hc) hQ (.inr ⟨hw, rfl⟩) ha h
theorem pt_ {B : List Nat} (i n : Nat) (l' : Array Bool) (hT : Aside0 (rtab md ops = T)) (hB : Aside0 (waitsOk T.2 B = true)) {oi : Oper} (hi : ops[i]? = some oi) {v : Value} {fuel : Nat} {l : Array Bool} {a a' : Act} {w : World} (hS : S w) (hy : ∀ w', S w' → (execOp a.eval oi).run P w' = .ok (.value v) w') (h : wpAnyLast P md ops Q S ds fuel l' a' w)
  (hN : oi.dst = some n := by rfl) (hc : takeW T B ds l.toList l'.toList i = true := by kernel_rfl) (hQ : ∀ c a w, Q (.panic c) (a.put oi.dst v) w → Q (.panic c) a w := by exact fun _ _ _ h => h)
  (hw : Region.wanted oi (yielded ops a.tmps) = true := by rfl)
  (ha : a.put (some n) v = a' := by (simp only [Act.put, List.setIfInBounds_toArray, List.set_cons_zero, List.set_cons_succ, i64_w, i32_w]; rfl)) : wpAnyLast P md ops Q S ds (fuel + 1) l a w :=
 take_ l' hi hN (take_ofW hT.out hB.out hc) hQ (.inl ⟨hw, hy⟩) hS ha h
end Go.Proofs.Ytedfcjcnhgomoaa.Press
end
-- MERGED YtedfcjcnhgomoaaPmessageless
section
namespace Go.Proofs.Ytedfcjcnhgomoaa.P
open Go.RowKit Go.Proofs.YtedfcjcnhgomoaaW.PrintWords Go.Proofs.YtedfcjcnhgomoaaW.PrintLast Go.Proofs.YtedfcjcnhgomoaaW.PrintMore
attribute [local go_sem] max2_int min2_int max_two min_two max_three min_three max_four min_four   -- for this text's walks alone
set_option linter.unusedVariables false
set_option linter.unusedSimpArgs false
def message_less.f (a0_0 : Int) (a0_1 : Int) (a0_2 : Int) (a1_0 : Int) (a1_1 : Int) (a1_2 : Int) : Option (Bool) := if a0_0 = a1_0 then (if a0_1 = a1_1 then (some (decide (a0_2 < a1_2))) else (some (decide (a0_1 < a1_1)))) else (some (decide (a0_0 < a1_0)))
set_option maxHeartbeats 8000000 in
set_option maxRecDepth 100000 in
theorem message_less.calls (a0_0 : Int) (a0_1 : Int) (a0_2 : Int) (a1_0 : Int) (a1_1 : Int) (a1_2 : Int) (r : Bool) (w : World) (h : message_less.f a0_0 a0_1 a0_2 a1_0 a1_1 a1_2 = some r) :
  Calls Try.prog 111 #[.agg #[.int .i64 a0_0, .int .i64 a0_1, .int .i64 a0_2], .agg #[.int .i64 a1_0, .int .i64 a1_1, .int .i64 a1_2]] w fun e w' => e = .returned (.bool r) ∧ Below w.heap.size w w' := by
 have hu104 := Try.underlying104
 have HB := Aside0.mk (Below.refl w.heap.size w)
 have H : (if a0_0 = a1_0 then (if a0_1 = a1_1 then (some (decide (a0_2 < a1_2))) else (some (decide (a0_1 < a1_1)))) else (some (decide (a0_0 < a1_0)))) = some r := h
 clear h
 by_cases c3 : a0_0 = a1_0
 ·rw [if_pos c3] at H
  have c3b0 : (a0_0 == a1_0) = true := beq_iff_eq.mpr c3
  have c3b1 : (a0_0 != a1_0) = false := bne_eq_false_iff_eq.mpr c3
  clear c3
  by_cases c4 : a0_1 = a1_1
  ·rw [if_pos c4] at H
   have c4b0 : (a0_1 == a1_1) = true := beq_iff_eq.mpr c4
   have c4b1 : (a0_1 != a1_1) = false := bne_eq_false_iff_eq.mpr c4
   clear c4
   obtain rfl := Option.some.inj H
   go_enter Try.func111, Try.ntmps111
   go_wp2_with (first | ((with_reducible refine gate_dst (N := 2) rfl ?_); refine box_event ?hg (N := 2) ?hd (cs := #[.int .i64 a0_0, .int .i64 a0_1, .int .i64 a0_2]) (t := 104) ?hr ?_; (case hd => rfl); (case hg => rfl); (case hr => (go_simp; done)); intro gb257 hg w5 hbox hb; have n0_ := Aside0.mk (below_step (by repeat ((with_reducible (exact HB.out)))) hb); have n1_ := Aside0.mk (hbox); have n2_ := Aside0.mk ((by rw [hg]; exact (below_size (by repeat ((with_reducible (exact HB.out))))) : w.heap.size ≤ gb257)); have n3_ := Aside0.mk ((by rw [hg]; exact (below_size (by repeat ((with_reducible (exact HB.out))))) : w.heap.size ≤ gb257)); clear HB; have HB := n0_; have BK257 := n1_; have GW257 := n2_; have GE257 := n3_; clear n0_ n1_ n2_ n3_; clear hb hbox hg) | ((with_reducible refine gate_dst (N := 3) rfl ?_); refine box_event ?hg (N := 3) ?hd (cs := #[.int .i64 a1_0, .int .i64 a1_1, .int .i64 a1_2]) (t := 104) ?hr ?_; (case hd => rfl); (case hg => rfl); (case hr => (go_simp; done)); intro gb258 hg w6 hbox hb; have n0_ := Aside0.mk (blk_below (g := gb257) (o := .cells #[.int .i64 a0_0, .int .i64 a0_1, .int .i64 a0_2] 104 (0, 0)) (by (with_reducible repeat ((refine blk_drew ?_))); exact BK257.out) hb); have n1_ := Aside0.mk (below_step (by repeat ((with_reducible (exact HB.out)))) hb); have n2_ := Aside0.mk (hbox); have n3_ := Aside0.mk ((by rw [hg]; exact (below_size (by repeat ((with_reducible (exact HB.out))))) : w.heap.size ≤ gb258)); have n4_ := Aside0.mk ((by rw [hg]; exact (below_size (by repeat ((with_reducible (exact HB.out))))) : w.heap.size ≤ gb258)); have n5_ := Aside0.mk ((by rw [hg]; exact Nat.ne_of_lt (blk_lt (g := gb257) (o := .cells #[.int .i64 a0_0, .int .i64 a0_1, .int .i64 a0_2] 104 (0, 0)) (by (with_reducible repeat ((refine blk_drew ?_))); exact BK257.out)) : gb257 ≠ gb258)); have n6_ := Aside0.mk ((by rw [hg]; exact Nat.ne_of_gt (blk_lt (g := gb257) (o := .cells #[.int .i64 a0_0, .int .i64 a0_1, .int .i64 a0_2] 104 (0, 0)) (by (with_reducible repeat ((refine blk_drew ?_))); exact BK257.out)) : gb258 ≠ gb257)); clear BK257; clear HB; have BK257 := n0_; have HB := n1_; have BK258 := n2_; have GW258 := n3_; have GE258 := n4_; have NB257_258 := n5_; have NB258_257 := n6_; clear n0_ n1_ n2_ n3_ n4_ n5_ n6_; clear hb hbox hg; have hnb7 := NB257_258.out; have hnc7 := NB258_257.out; have hcz8_0 : w6.cell? ⟨gb257, 0, none⟩ = some (.int .i64 a0_0) := (blk_cell BK257.out 0).trans rfl; have hcz8_1 : w6.cell? ⟨gb257, 1, none⟩ = some (.int .i64 a0_1) := (blk_cell BK257.out 1).trans rfl; have hcz8_2 : w6.cell? ⟨gb257, 2, none⟩ = some (.int .i64 a0_2) := (blk_cell BK257.out 2).trans rfl; have hfz8_0 := blk_frozen BK257.out 0; have hfz8_1 := blk_frozen BK257.out 1; have hfz8_2 := blk_frozen BK257.out 2; have hcz9_0 : w6.cell? ⟨gb258, 0, none⟩ = some (.int .i64 a1_0) := (blk_cell BK258.out 0).trans rfl; have hcz9_1 : w6.cell? ⟨gb258, 1, none⟩ = some (.int .i64 a1_1) := (blk_cell BK258.out 1).trans rfl; have hcz9_2 : w6.cell? ⟨gb258, 2, none⟩ = some (.int .i64 a1_2) := (blk_cell BK258.out 2).trans rfl; have hfz9_0 := blk_frozen BK258.out 0; have hfz9_1 := blk_frozen BK258.out 1; have hfz9_2 := blk_frozen BK258.out 2))
   go_ret
   exact ⟨by (rfl), by repeat ((with_reducible (exact HB.out)))⟩
  ·rw [if_neg c4] at H
   have c4b0 : (a0_1 == a1_1) = false := beq_eq_false_iff_ne.mpr c4
   have c4b1 : (a0_1 != a1_1) = true := bne_iff_ne.mpr c4
   obtain rfl := Option.some.inj H
   go_enter Try.func111, Try.ntmps111
   go_wp2_with (first | ((with_reducible refine gate_dst (N := 2) rfl ?_); refine box_event ?hg (N := 2) ?hd (cs := #[.int .i64 a0_0, .int .i64 a0_1, .int .i64 a0_2]) (t := 104) ?hr ?_; (case hd => rfl); (case hg => rfl); (case hr => (go_simp; done)); intro gb257 hg w10 hbox hb; have n0_ := Aside0.mk (below_step (by repeat ((with_reducible (exact HB.out)))) hb); have n1_ := Aside0.mk (hbox); have n2_ := Aside0.mk ((by rw [hg]; exact (below_size (by repeat ((with_reducible (exact HB.out))))) : w.heap.size ≤ gb257)); have n3_ := Aside0.mk ((by rw [hg]; exact (below_size (by repeat ((with_reducible (exact HB.out))))) : w.heap.size ≤ gb257)); clear HB; have HB := n0_; have BK257 := n1_; have GW257 := n2_; have GE257 := n3_; clear n0_ n1_ n2_ n3_; clear hb hbox hg) | ((with_reducible refine gate_dst (N := 3) rfl ?_); refine box_event ?hg (N := 3) ?hd (cs := #[.int .i64 a1_0, .int .i64 a1_1, .int .i64 a1_2]) (t := 104) ?hr ?_; (case hd => rfl); (case hg => rfl); (case hr => (go_simp; done)); intro gb258 hg w11 hbox hb; have n0_ := Aside0.mk (blk_below (g := gb257) (o := .cells #[.int .i64 a0_0, .int .i64 a0_1, .int .i64 a0_2] 104 (0, 0)) (by (with_reducible repeat ((refine blk_drew ?_))); exact BK257.out) hb); have n1_ := Aside0.mk (below_step (by repeat ((with_reducible (exact HB.out)))) hb); have n2_ := Aside0.mk (hbox); have n3_ := Aside0.mk ((by rw [hg]; exact (below_size (by repeat ((with_reducible (exact HB.out))))) : w.heap.size ≤ gb258)); have n4_ := Aside0.mk ((by rw [hg]; exact (below_size (by repeat ((with_reducible (exact HB.out))))) : w.heap.size ≤ gb258)); have n5_ := Aside0.mk ((by rw [hg]; exact Nat.ne_of_lt (blk_lt (g := gb257) (o := .cells #[.int .i64 a0_0, .int .i64 a0_1, .int .i64 a0_2] 104 (0, 0)) (by (with_reducible repeat ((refine blk_drew ?_))); exact BK257.out)) : gb257 ≠ gb258)); have n6_ := Aside0.mk ((by rw [hg]; exact Nat.ne_of_gt (blk_lt (g := gb257) (o := .cells #[.int .i64 a0_0, .int .i64 a0_1, .int .i64 a0_2] 104 (0, 0)) (by (with_reducible repeat ((refine blk_drew ?_))); exact BK257.out)) : gb258 ≠ gb257)); clear BK257; clear HB; have BK257 := n0_; have HB := n1_; have BK258 := n2_; have GW258 := n3_; have GE258 := n4_; have NB257_258 := n5_; have NB258_257 := n6_; clear n0_ n1_ n2_ n3_ n4_ n5_ n6_; clear hb hbox hg; have hnb12 := NB257_258.out; have hnc12 := NB258_257.out; have hcz13_0 : w11.cell? ⟨gb257, 0, none⟩ = some (.int .i64 a0_0) := (blk_cell BK257.out 0).trans rfl; have hcz13_1 : w11.cell? ⟨gb257, 1, none⟩ = some (.int .i64 a0_1) := (blk_cell BK257.out 1).trans rfl; have hcz13_2 : w11.cell? ⟨gb257, 2, none⟩ = some (.int .i64 a0_2) := (blk_cell BK257.out 2).trans rfl; have hfz13_0 := blk_frozen BK257.out 0; have hfz13_1 := blk_frozen BK257.out 1; have hfz13_2 := blk_frozen BK257.out 2; have hcz14_0 : w11.cell? ⟨gb258, 0, none⟩ = some (.int .i64 a1_0) := (blk_cell BK258.out 0).trans rfl; have hcz14_1 : w11.cell? ⟨gb258, 1, none⟩ = some (.int .i64 a1_1) := (blk_cell BK258.out 1).trans rfl; have hcz14_2 : w11.cell? ⟨gb258, 2, none⟩ = some (.int .i64 a1_2) := (blk_cell BK258.out 2).trans rfl; have hfz14_0 := blk_frozen BK258.out 0; have hfz14_1 := blk_frozen BK258.out 1; have hfz14_2 := blk_frozen BK258.out 2))
   go_ret
   exact ⟨by (rfl), by repeat ((with_reducible (exact HB.out)))⟩
 ·rw [if_neg c3] at H
  have c3b0 : (a0_0 == a1_0) = false := beq_eq_false_iff_ne.mpr c3
  have c3b1 : (a0_0 != a1_0) = true := bne_iff_ne.mpr c3
  obtain rfl := Option.some.inj H
  go_enter Try.func111, Try.ntmps111
  go_wp2_with (first | ((with_reducible refine gate_dst (N := 2) rfl ?_); refine box_event ?hg (N := 2) ?hd (cs := #[.int .i64 a0_0, .int .i64 a0_1, .int .i64 a0_2]) (t := 104) ?hr ?_; (case hd => rfl); (case hg => rfl); (case hr => (go_simp; done)); intro gb257 hg w15 hbox hb; have n0_ := Aside0.mk (below_step (by repeat ((with_reducible (exact HB.out)))) hb); have n1_ := Aside0.mk (hbox); have n2_ := Aside0.mk ((by rw [hg]; exact (below_size (by repeat ((with_reducible (exact HB.out))))) : w.heap.size ≤ gb257)); have n3_ := Aside0.mk ((by rw [hg]; exact (below_size (by repeat ((with_reducible (exact HB.out))))) : w.heap.size ≤ gb257)); clear HB; have HB := n0_; have BK257 := n1_; have GW257 := n2_; have GE257 := n3_; clear n0_ n1_ n2_ n3_; clear hb hbox hg) | ((with_reducible refine gate_dst (N := 3) rfl ?_); refine box_event ?hg (N := 3) ?hd (cs := #[.int .i64 a1_0, .int .i64 a1_1, .int .i64 a1_2]) (t := 104) ?hr ?_; (case hd => rfl); (case hg => rfl); (case hr => (go_simp; done)); intro gb258 hg w16 hbox hb; have n0_ := Aside0.mk (blk_below (g := gb257) (o := .cells #[.int .i64 a0_0, .int .i64 a0_1, .int .i64 a0_2] 104 (0, 0)) (by (with_reducible repeat ((refine blk_drew ?_))); exact BK257.out) hb); have n1_ := Aside0.mk (below_step (by repeat ((with_reducible (exact HB.out)))) hb); have n2_ := Aside0.mk (hbox); have n3_ := Aside0.mk ((by rw [hg]; exact (below_size (by repeat ((with_reducible (exact HB.out))))) : w.heap.size ≤ gb258)); have n4_ := Aside0.mk ((by rw [hg]; exact (below_size (by repeat ((with_reducible (exact HB.out))))) : w.heap.size ≤ gb258)); have n5_ := Aside0.mk ((by rw [hg]; exact Nat.ne_of_lt (blk_lt (g := gb257) (o := .cells #[.int .i64 a0_0, .int .i64 a0_1, .int .i64 a0_2] 104 (0, 0)) (by (with_reducible repeat ((refine blk_drew ?_))); exact BK257.out)) : gb257 ≠ gb258)); have n6_ := Aside0.mk ((by rw [hg]; exact Nat.ne_of_gt (blk_lt (g := gb257) (o := .cells #[.int .i64 a0_0, .int .i64 a0_1, .int .i64 a0_2] 104 (0, 0)) (by (with_reducible repeat ((refine blk_drew ?_))); exact BK257.out)) : gb258 ≠ gb257)); clear BK257; clear HB; have BK257 := n0_; have HB := n1_; have BK258 := n2_; have GW258 := n3_; have GE258 := n4_; have NB257_258 := n5_; have NB258_257 := n6_; clear n0_ n1_ n2_ n3_ n4_ n5_ n6_; clear hb hbox hg; have hnb17 := NB257_258.out; have hnc17 := NB258_257.out; have hcz18_0 : w16.cell? ⟨gb257, 0, none⟩ = some (.int .i64 a0_0) := (blk_cell BK257.out 0).trans rfl; have hcz18_1 : w16.cell? ⟨gb257, 1, none⟩ = some (.int .i64 a0_1) := (blk_cell BK257.out 1).trans rfl; have hcz18_2 : w16.cell? ⟨gb257, 2, none⟩ = some (.int .i64 a0_2) := (blk_cell BK257.out 2).trans rfl; have hfz18_0 := blk_frozen BK257.out 0; have hfz18_1 := blk_frozen BK257.out 1; have hfz18_2 := blk_frozen BK257.out 2; have hcz19_0 : w16.cell? ⟨gb258, 0, none⟩ = some (.int .i64 a1_0) := (blk_cell BK258.out 0).trans rfl; have hcz19_1 : w16.cell? ⟨gb258, 1, none⟩ = some (.int .i64 a1_1) := (blk_cell BK258.out 1).trans rfl; have hcz19_2 : w16.cell? ⟨gb258, 2, none⟩ = some (.int .i64 a1_2) := (blk_cell BK258.out 2).trans rfl; have hfz19_0 := blk_frozen BK258.out 0; have hfz19_1 := blk_frozen BK258.out 1; have hfz19_2 := blk_frozen BK258.out 2))
  go_ret
  exact ⟨by (rfl), by repeat ((with_reducible (exact HB.out)))⟩
end Go.Proofs.Ytedfcjcnhgomoaa.P
end
-- MERGED YtedfcjcnhgomoaaPmessagefine
section
namespace Go.Proofs.Ytedfcjcnhgomoaa.P
open Go.RowKit Go.Proofs.YtedfcjcnhgomoaaW.PrintWords Go.Proofs.YtedfcjcnhgomoaaW.PrintLast Go.Proofs.YtedfcjcnhgomoaaW.PrintMore
attribute [local go_sem] max2_int min2_int max_two min_two max_three min_three max_four min_four   -- for this text's walks alone
open Go.Proofs.Ytedfcjcnhgomoaa.Press
set_option linter.unusedVariables false
set_option linter.unusedSimpArgs false
abbrev fineB0 : Array Bool := #[true, false, false, false, false, false, false, false, false, false, false, false, false, false, false, false, false, false, false, false, false, false, false]
abbrev fineB1 : Array Bool := #[true, true, true, false, false, false, false, false, false, false, false, false, false, false, false, false, false, false, false, false, false, false, false]
abbrev fineB2 : Array Bool := #[true, true, true, true, false, false, false, false, false, false, false, false, false, false, false, false, false, false, false, false, false, false, false]
abbrev fineB3 : Array Bool := #[true, true, true, true, true, true, true, true, false, false, false, false, false, false, false, false, false, false, false, false, false, false, false]
abbrev fineB4 : Array Bool := #[true, true, true, true, true, true, true, true, true, false, false, false, false, false, false, false, false, false, false, false, false, false, false]
abbrev fineB5 : Array Bool := #[true, true, true, true, true, true, true, true, true, true, true, true, true, true, true, true, true, true, true, true, true, true, false]
abbrev fineB6 : Array Bool := #[true, true, true, true, true, true, true, true, true, true, true, true, true, true, true, true, true, true, true, true, true, true, true]
abbrev fineB7 : Array Bool := #[true, true, true, true, true, false, false, false, false, false, false, false, false, false, false, false, false, false, false, false, false, false, false]
abbrev fineB8 : Array Bool := #[true, true, true, true, true, true, true, false, false, false, false, false, false, false, false, false, false, false, false, false, false, false, false]
abbrev fineB9 : Array Bool := #[true, true, true, true, true, true, true, true, true, true, false, false, false, false, false, false, false, false, false, false, false, false, false]
abbrev fineB10 : Array Bool := #[true, true, true, true, true, true, true, true, true, true, true, false, false, false, false, false, false, false, false, false, false, false, false]
abbrev fineB11 : Array Bool := #[true, true, true, true, true, true, true, true, true, true, true, true, false, false, false, false, false, false, false, false, false, false, false]
abbrev fineB12 : Array Bool := #[true, true, true, true, true, true, true, true, true, true, true, true, true, false, false, false, false, false, false, false, false, false, false]
abbrev fineB13 : Array Bool := #[true, true, true, true, true, true, true, true, true, true, true, true, true, true, false, false, false, false, false, false, false, false, false]
abbrev fineB14 : Array Bool := #[true, true, true, true, true, true, true, true, true, true, true, true, true, true, true, false, false, false, false, false, false, false, false]
abbrev fineB15 : Array Bool := #[true, true, true, true, true, true, true, true, true, true, true, true, true, true, true, true, false, false, false, false, false, false, false]
abbrev fineB16 : Array Bool := #[true, true, true, true, true, true, true, true, true, true, true, true, true, true, true, true, true, true, true, true, false, false, false]
abbrev fineB17 : Array Bool := #[true, true, true, true, true, true, true, true, true, true, true, true, true, true, true, true, true, true, true, true, true, false, false]
abbrev fineB18 : Array Bool := #[true, true, true, true, true, true, false, false, false, false, false, false, false, false, false, false, false, false, false, false, false, false, false]
abbrev fineB19 : Array Bool := #[true, true, true, true, true, true, true, true, true, true, true, true, true, true, true, true, true, false, false, false, false, false, false]
abbrev fineB20 : Array Bool := #[true, true, true, true, true, true, true, true, true, true, true, true, true, true, true, true, true, true, false, false, false, false, false]
abbrev fineB21 : Array Bool := #[true, true, true, true, true, true, true, true, true, true, true, true, true, true, true, true, true, true, true, false, false, false, false]
abbrev fineB22 : Array Bool := #[true, true, false, false, false, false, false, false, false, false, false, false, false, false, false, false, false, false, false, false, false, false, false]
abbrev fineB23 : Array Bool := #[false, false, false, false, false, false, false, false, false, false, false, false, false, false, false, false, false, false, false, false, false, false, false]
mutual
def message_fine.l0 : Nat → List (S104) → List (S104) → Int → Int → Option (Bool)
 | 0, _, _, _, _ => none
 | k + 1, x0, x5, x6, x7 => if x7 < x6 then (if 0 ≤ x7 then (if x7 < (x5.length : Int) then (if ((rd_T104 x5 x7).f0.f0) < 0 then (message_fine.j1 k x0 x7 x5 x6 x7 true ((rd_T104 x5 x7).f0.f0) ((rd_T104 x5 x7).f0.f1) ((rd_T104 x5 x7).f1)) else (if ((rd_T104 x5 x7).f0.f0) > ((rd_T104 x5 x7).f0.f1) then (message_fine.j1 k x0 x7 x5 x6 x7 true ((rd_T104 x5 x7).f0.f0) ((rd_T104 x5 x7).f0.f1) ((rd_T104 x5 x7).f1)) else (message_fine.j1 k x0 x7 x5 x6 x7 (decide (((rd_T104 x5 x7).f0.f1) > 16777216)) ((rd_T104 x5 x7).f0.f0) ((rd_T104 x5 x7).f0.f1) ((rd_T104 x5 x7).f1)))) else (none)) else (none)) else (some (decide ((x0.length : Int) ≤ 4096)))
def message_fine.j1 : Nat → List (S104) → Int → List (S104) → Int → Int → Bool → Int → Int → Int → Option (Bool)
 | 0, _, _, _, _, _, _, _, _, _ => none
 | k + 1, x0, x3, x5, x6, x7, x12, x261000, x261001, x261002 => if x12 = true then (some false) else (if x261002 < 0 then (some false) else (if x261002 > 65536 then (some false) else (if x3 > 0 then (if 0 ≤ (wrap64 (x3 - 1)) then (if (wrap64 (x3 - 1)) < (x0.length : Int) then ((message_less.f ((rd_T104 x0 (wrap64 (x3 - 1))).f0.f0) ((rd_T104 x0 (wrap64 (x3 - 1))).f0.f1) ((rd_T104 x0 (wrap64 (x3 - 1))).f1) x261000 x261001 x261002).bind fun t262 => (if t262 = true then (message_fine.l0 k x0 x5 x6 (wrap64 (x7 + 1))) else (some false))) else (none)) else (none)) else (message_fine.l0 k x0 x5 x6 (wrap64 (x7 + 1))))))
end
def message_fine.f (k : Nat) (l0 : List (S104)) : Option (Bool) := message_fine.l0 k l0 l0 (l0.length : Int) 0
def message_fine.T5 : Bool × List (List Nat × List Nat) := (true, [([], []), ([0], [0]), ([1], [1]), ([2], [2]), ([3], [3]), ([4, 3], [3, 4]), ([5, 3], [3, 5]), ([3, 6], [3, 6]), ([7, 3], [7]), ([8], [8]), ([9, 8], [8, 9]), ([10, 8, 8], [8, 10]), ([11], [11]), ([11], [11]), ([13, 11], [11, 13]), ([12, 14, 11], [11, 12, 14]), ([15, 11], [11, 15]), ([11], [11]), ([16, 17, 11, 11], [11, 16, 17]), ([18, 11], [11, 18]), ([11, 19, 8], [8, 11, 19]), ([8, 20], [8, 20]), ([21, 18], [21])])
def message_fine.B5 : List Nat := [0, 1, 3, 7, 15, 31, 63, 127, 255, 511, 1023, 2047, 4095, 4095, 12287, 32767, 65535, 4095, 262143, 524287, 1048575, 2097151, 4194303]
theorem message_fine.tab5 : rtab .any (opsOf Try.f94 5) = message_fine.T5 := by kernel_rfl
theorem message_fine.bits5 : waitsOk message_fine.T5.2 message_fine.B5 = true := by kernel_rfl
set_option maxHeartbeats 8000000 in
set_option maxRecDepth 100000 in
theorem message_fine.calls (k : Nat) (A0 : Option Addr) (c0 : Nat) (l0 : List (S104)) (r : Bool) (w : World) (hr0 : Kd.C k104 w A0 l0.length l0) (hc0 : l0.length ≤ c0) (h : message_fine.f k l0 = some r) :
  Calls Try.prog 94 #[.slice A0 l0.length c0] w fun e w' => e = .returned (.bool r) ∧ Below w.heap.size w w' := by
 have hu104 := Try.underlying104
 have HR0 := Aside0.mk hr0
 have HC0 := Aside0.mk hc0
 clear hr0 hc0
 have HB := Aside0.mk (Below.refl w.heap.size w)
 have H : (message_fine.l0 k l0 l0 (l0.length : Int) 0) = some r := h
 clear h
 have H' := Aside0.mk H
 clear H
 go_enter Try.func94, Try.ntmps94
 go_wp2
 go_loopg [7] k (fun kq v7 w' => ∃ (x7_1 : Int), v7 = .int .i64 x7_1 ∧ Aside0 (message_fine.l0 kq l0 l0 (l0.length : Int) x7_1 = some r) ∧ Aside0 (kq ≤ k) ∧ Aside0 (Below w.heap.size w w'))
 case atStart => exact ⟨(0), (by (rfl)), H', ⟨Nat.le_refl _⟩, ⟨by repeat ((with_reducible (exact HB.out)))⟩⟩
 case round =>
  clear H'
  obtain ⟨x7_1, rfl, HA, HK1, HB⟩ := hrel
  cases gk with
  | zero => exact absurd HA.out (by simp [message_fine.l0])
  | succ k1 =>
   have H := HA.out
   clear HA
   simp only [message_fine.l0] at H
   by_cases c2 : x7_1 < (l0.length : Int)
   ·rw [if_pos c2] at H
    have c2b0 : decide (x7_1 < (l0.length : Int)) = true := decide_eq_true c2
    clear c2
    by_cases c3 : 0 ≤ x7_1
    ·rw [if_pos c3] at H
     have c3b0 : decide (0 ≤ x7_1) = true := decide_eq_true c3
     clear c3
     by_cases c4 : x7_1 < (l0.length : Int)
     ·rw [if_pos c4] at H
      have c4b0 : decide (x7_1 < (l0.length : Int)) = true := decide_eq_true c4
      clear c4
      have HC5 := Aside0.mk H
      clear H
      have p259 : 0 ≤ (x7_1 : Int) := of_decide_eq_true (by (with_reducible assumption))
      have q259 : x7_1 < (l0.length : Int) := of_decide_eq_true (by (with_reducible assumption))
      obtain ⟨ad259, e259, hx259_0, hx259_1, hx259_2⟩ := at_T104 HR0.out x7_1 p259 q259
      cases e259
      replace hx259_0 := (HB.out.cell (World.block_lt_of_cell? w _ hx259_0)).trans hx259_0
      replace hx259_1 := (HB.out.cell (World.block_lt_of_cell? w _ hx259_1)).trans hx259_1
      replace hx259_2 := (HB.out.cell (World.block_lt_of_cell? w _ hx259_2)).trans hx259_2
      replace p259 := eq_true p259
      replace q259 := eq_true q259
      go_upto_region 4 with (first | ((with_reducible refine gate_dst (N := 4) rfl ?_); refine box_event ?hg (N := 4) ?hd (cs := #[.int .i64 0, .int .i64 0, .int .i64 0]) (t := 104) ?hr ?_; (case hd => rfl); (case hg => rfl); (case hr => (go_simp; done)); intro gb260 hg w6 hbox hb; have n0_ := Aside0.mk (below_step (by repeat ((with_reducible (exact HB.out)))) hb); have n1_ := Aside0.mk (hbox); have n2_ := Aside0.mk ((by rw [hg]; exact (below_size (by repeat ((with_reducible (exact HB.out))))) : w.heap.size ≤ gb260)); have n3_ := Aside0.mk ((by rw [hg]; exact (below_size (by repeat ((with_reducible (exact HB.out))))) : w.heap.size ≤ gb260)); clear HB; have HB := n0_; have BK260 := n1_; have GW260 := n2_; have GE260 := n3_; clear n0_ n1_ n2_ n3_; clear hb hbox hg; have hcz7_0 : w6.cell? ⟨gb260, 0, none⟩ = some (.int .i64 0) := (blk_cell BK260.out 0).trans rfl; have hcz7_1 : w6.cell? ⟨gb260, 1, none⟩ = some (.int .i64 0) := (blk_cell BK260.out 1).trans rfl; have hcz7_2 : w6.cell? ⟨gb260, 2, none⟩ = some (.int .i64 0) := (blk_cell BK260.out 2).trans rfl; have hfz7_0 := blk_frozen BK260.out 0; have hfz7_1 := blk_frozen BK260.out 1; have hfz7_2 := blk_frozen BK260.out 2))
      (try simp only [Act.put, List.setIfInBounds_toArray, List.set_cons_zero, List.set_cons_succ])
      go_cut [12] (fun v12 wc => ∃ (kq : Nat) (x12_4 : Bool), v12 = .bool x12_4 ∧ Aside0 (message_fine.j1 kq l0 x7_1 l0 (l0.length : Int) x7_1 x12_4 ((rd_T104 l0 x7_1).f0.f0) ((rd_T104 l0 x7_1).f0.f1) ((rd_T104 l0 x7_1).f1) = some r) ∧ Aside0 (kq ≤ k1) ∧ Aside0 (wc.heap[gb260]? = some (.cells #[.int .i64 ((rd_T104 l0 x7_1).f0.f0), .int .i64 ((rd_T104 l0 x7_1).f0.f1), .int .i64 ((rd_T104 l0 x7_1).f1)] 104 (0, 0))) ∧ Aside0 (Below w.heap.size w wc))
      case first =>
       have H := HC5.out
       clear HC5
       by_cases c8 : ((rd_T104 l0 x7_1).f0.f0) < 0
       ·rw [if_pos c8] at H
        have c8b0 : decide (((rd_T104 l0 x7_1).f0.f0) < 0) = true := decide_eq_true c8
        clear c8
        ((skip))
        have H' := Aside0.mk H
        clear H
        have hcz9_0 : w6.cell? ⟨gb260, 0, none⟩ = some (.int .i64 0) := (blk_cell BK260.out 0).trans rfl
        have hcz9_1 : w6.cell? ⟨gb260, 1, none⟩ = some (.int .i64 0) := (blk_cell BK260.out 1).trans rfl
        have hcz9_2 : w6.cell? ⟨gb260, 2, none⟩ = some (.int .i64 0) := (blk_cell BK260.out 2).trans rfl
        have hfz9_0 := blk_frozen BK260.out 0
        have hfz9_1 := blk_frozen BK260.out 1
        have hfz9_2 := blk_frozen BK260.out 2
        go_wp2
        go_meet
        case rel => exact ⟨_, (true), (by (rfl)), H', ⟨by have := HK1.out; (omega)⟩, ⟨by (with_reducible repeat ((refine blk_drew ?_))); refine blk_put (cs := #[.int .i64 ((rd_T104 l0 x7_1).f0.f0), .int .i64 ((rd_T104 l0 x7_1).f0.f1), .int .i64 0]) ?_ 2 _ rfl; (with_reducible repeat ((refine blk_drew ?_))); refine blk_put (cs := #[.int .i64 ((rd_T104 l0 x7_1).f0.f0), .int .i64 0, .int .i64 0]) ?_ 1 _ rfl; (with_reducible repeat ((refine blk_drew ?_))); refine blk_put (cs := #[.int .i64 0, .int .i64 0, .int .i64 0]) ?_ 0 _ rfl; (with_reducible repeat ((refine blk_drew ?_))); exact BK260.out⟩, ⟨by repeat ((with_reducible first | exact HB.out | refine below_set ?_ GE260.out))⟩⟩
       ·rw [if_neg c8] at H
        have c8b0 : decide (((rd_T104 l0 x7_1).f0.f0) < 0) = false := decide_eq_false c8
        clear c8
        ((skip))
        by_cases c10 : ((rd_T104 l0 x7_1).f0.f0) > ((rd_T104 l0 x7_1).f0.f1)
        ·rw [if_pos c10] at H
         have c10b0 : decide (((rd_T104 l0 x7_1).f0.f1) < ((rd_T104 l0 x7_1).f0.f0)) = true := decide_eq_true c10
         clear c10
         have H' := Aside0.mk H
         clear H
         have hcz11_0 : w6.cell? ⟨gb260, 0, none⟩ = some (.int .i64 0) := (blk_cell BK260.out 0).trans rfl
         have hcz11_1 : w6.cell? ⟨gb260, 1, none⟩ = some (.int .i64 0) := (blk_cell BK260.out 1).trans rfl
         have hcz11_2 : w6.cell? ⟨gb260, 2, none⟩ = some (.int .i64 0) := (blk_cell BK260.out 2).trans rfl
         have hfz11_0 := blk_frozen BK260.out 0
         have hfz11_1 := blk_frozen BK260.out 1
         have hfz11_2 := blk_frozen BK260.out 2
         go_wp2
         go_meet
         case rel => exact ⟨_, (true), (by (rfl)), H', ⟨by have := HK1.out; (omega)⟩, ⟨by (with_reducible repeat ((refine blk_drew ?_))); refine blk_put (cs := #[.int .i64 ((rd_T104 l0 x7_1).f0.f0), .int .i64 ((rd_T104 l0 x7_1).f0.f1), .int .i64 0]) ?_ 2 _ rfl; (with_reducible repeat ((refine blk_drew ?_))); refine blk_put (cs := #[.int .i64 ((rd_T104 l0 x7_1).f0.f0), .int .i64 0, .int .i64 0]) ?_ 1 _ rfl; (with_reducible repeat ((refine blk_drew ?_))); refine blk_put (cs := #[.int .i64 0, .int .i64 0, .int .i64 0]) ?_ 0 _ rfl; (with_reducible repeat ((refine blk_drew ?_))); exact BK260.out⟩, ⟨by repeat ((with_reducible first | exact HB.out | refine below_set ?_ GE260.out))⟩⟩
        ·rw [if_neg c10] at H
         have c10b0 : decide (((rd_T104 l0 x7_1).f0.f1) < ((rd_T104 l0 x7_1).f0.f0)) = false := decide_eq_false c10
         clear c10
         have H' := Aside0.mk H
         clear H
         have hcz12_0 : w6.cell? ⟨gb260, 0, none⟩ = some (.int .i64 0) := (blk_cell BK260.out 0).trans rfl
         have hcz12_1 : w6.cell? ⟨gb260, 1, none⟩ = some (.int .i64 0) := (blk_cell BK260.out 1).trans rfl
         have hcz12_2 : w6.cell? ⟨gb260, 2, none⟩ = some (.int .i64 0) := (blk_cell BK260.out 2).trans rfl
         have hfz12_0 := blk_frozen BK260.out 0
         have hfz12_1 := blk_frozen BK260.out 1
         have hfz12_2 := blk_frozen BK260.out 2
         go_wp2
         go_meet
         case rel => exact ⟨_, (decide (((rd_T104 l0 x7_1).f0.f1) > 16777216)), (by (rfl)), H', ⟨by have := HK1.out; (omega)⟩, ⟨by (with_reducible repeat ((refine blk_drew ?_))); refine blk_put (cs := #[.int .i64 ((rd_T104 l0 x7_1).f0.f0), .int .i64 ((rd_T104 l0 x7_1).f0.f1), .int .i64 0]) ?_ 2 _ rfl; (with_reducible repeat ((refine blk_drew ?_))); refine blk_put (cs := #[.int .i64 ((rd_T104 l0 x7_1).f0.f0), .int .i64 0, .int .i64 0]) ?_ 1 _ rfl; (with_reducible repeat ((refine blk_drew ?_))); refine blk_put (cs := #[.int .i64 0, .int .i64 0, .int .i64 0]) ?_ 0 _ rfl; (with_reducible repeat ((refine blk_drew ?_))); exact BK260.out⟩, ⟨by repeat ((with_reducible first | exact HB.out | refine below_set ?_ GE260.out))⟩⟩
      case rest =>
       clear HC5
       try clear c1
       try clear c2
       try clear c2b0
       try clear p2
       try clear q2
       try clear hx2
       try clear c3
       try clear c3b0
       try clear c4
       try clear c4b0
       try clear c8
       try clear c8b0
       try clear c9
       try clear c10
       try clear c10b0
       try clear hcz11_0
       try clear hcz11_1
       try clear hcz11_2
       try clear hcz12_0
       try clear hcz12_1
       try clear hcz12_2
       try clear hcz7_0
       try clear hcz7_1
       try clear hcz7_2
       try clear hcz9_0
       try clear hcz9_1
       try clear hcz9_2
       try clear hfz11_0
       try clear hfz11_1
       try clear hfz11_2
       try clear hfz12_0
       try clear hfz12_1
       try clear hfz12_2
       try clear hfz7_0
       try clear hfz7_1
       try clear hfz7_2
       try clear hfz9_0
       try clear hfz9_1
       try clear hfz9_2
       try clear hx259_0
       try clear hx259_1
       try clear hx259_2
       try clear p259
       try clear q259
       obtain ⟨kq, x12_4, rfl, HA, HJ4, BK260, HB⟩ := hcut
       cases kq with
       | zero => exact absurd HA.out (by simp [message_fine.j1])
       | succ kj4 =>
        have H := HA.out
        clear HA
        simp only [message_fine.j1] at H
        by_cases c13 : x12_4 = true
        ·subst c13
         have H1 : (some false) = some r := by rw [if_pos rfl] at H; exact H
         clear H
         have H := H1
         clear H1
         obtain rfl := Option.some.inj H
         go_wp2
         go_ret
         exact ⟨by (rfl), by repeat ((with_reducible (exact HB.out)))⟩
        ·replace c13 := Bool.eq_false_iff.mpr c13
         subst c13
         have H1 : (if ((rd_T104 l0 x7_1).f1) < 0 then (some false) else (if ((rd_T104 l0 x7_1).f1) > 65536 then (some false) else (if x7_1 > 0 then (if 0 ≤ (wrap64 (x7_1 - 1)) then (if (wrap64 (x7_1 - 1)) < (l0.length : Int) then ((message_less.f ((rd_T104 l0 (wrap64 (x7_1 - 1))).f0.f0) ((rd_T104 l0 (wrap64 (x7_1 - 1))).f0.f1) ((rd_T104 l0 (wrap64 (x7_1 - 1))).f1) ((rd_T104 l0 x7_1).f0.f0) ((rd_T104 l0 x7_1).f0.f1) ((rd_T104 l0 x7_1).f1)).bind fun t262 => (if t262 = true then (message_fine.l0 kj4 l0 l0 (l0.length : Int) (wrap64 (x7_1 + 1))) else (some false))) else (none)) else (none)) else (message_fine.l0 kj4 l0 l0 (l0.length : Int) (wrap64 (x7_1 + 1)))))) = some r := by rw [if_neg (show ¬ (false = true) by decide)] at H; exact H
         clear H
         have H := H1
         clear H1
         by_cases c14 : ((rd_T104 l0 x7_1).f1) < 0
         ·rw [if_pos c14] at H
          have c14b0 : decide (((rd_T104 l0 x7_1).f1) < 0) = true := decide_eq_true c14
          clear c14
          obtain rfl := Option.some.inj H
          try go_wp2
          have n0_ := Aside0.mk (blk_drew BK260.out)
          have n1_ := Aside0.mk (below_drew1 HB.out)
          clear BK260
          clear HB
          have BK260 := n0_
          have HB := n1_
          clear n0_ n1_
          refine start_ (n := 23) (S := fun w' => w'.cell? ⟨gb260, 0, none⟩ = some (.int .i64 ((rd_T104 l0 x7_1).f0.f0)) ∧ w'.cell? ⟨gb260, 1, none⟩ = some (.int .i64 ((rd_T104 l0 x7_1).f0.f1)) ∧ w'.cell? ⟨gb260, 2, none⟩ = some (.int .i64 ((rd_T104 l0 x7_1).f1))) (ds := []) fineB23 (by kernel_rfl) rfl rfl ⟨(blk_cell BK260.out 0).trans rfl, (blk_cell BK260.out 1).trans rfl, (blk_cell BK260.out 2).trans rfl⟩ (fun hHeld => ?_); refine with_tabW message_fine.tab5 message_fine.bits5 (fun HT_ HW_ => ?_)
          generalize wc.drew = w15 at BK260 HB hHeld ⊢
          refine pu_ 0 33 fineB0 HT_ ?_
          refine pt_ 1 34 fineB22 HT_ HW_ rfl hHeld (by rintro w' ⟨s0, s1, s2⟩; go_simp; with_reducible rfl) ?_
          refine pu_ 2 35 fineB1 HT_ ?_
          refine pu_ 3 36 fineB2 HT_ ?_
          refine pn_ 4 37 fineB7 HT_ ?_
          refine pn_ 5 38 fineB18 HT_ ?_
          refine pn_ 6 39 fineB8 HT_ ?_
          refine pu_ 7 40 fineB3 HT_ ?_
          refine pu_ 8 41 fineB4 HT_ ?_
          refine pn_ 9 42 fineB9 HT_ ?_
          refine pn_ 10 43 fineB10 HT_ ?_
          refine pn_ 11 44 fineB11 HT_ ?_
          refine pn_ 12 45 fineB12 HT_ ?_
          refine pn_ 13 46 fineB13 HT_ ?_
          refine pn_ 14 47 fineB14 HT_ ?_
          refine pn_ 15 48 fineB15 HT_ ?_
          refine pn_ 16 49 fineB19 HT_ ?_
          refine pn_ 17 50 fineB20 HT_ ?_
          refine pn_ 18 51 fineB21 HT_ ?_
          refine pn_ 19 52 fineB16 HT_ ?_
          refine pn_ 20 53 fineB17 HT_ ?_
          refine pu_ 21 54 fineB5 HT_ ?_
          refine pu_ 22 32 fineB6 HT_ ?_
          refine done_ (done_of HT_.out (by kernel_rfl)) ?_
          try go_wp2
          go_ret
          exact ⟨by (rfl), by repeat ((with_reducible (exact HB.out)))⟩
         ·rw [if_neg c14] at H
          have c14b0 : decide (((rd_T104 l0 x7_1).f1) < 0) = false := decide_eq_false c14
          clear c14
          by_cases c16 : ((rd_T104 l0 x7_1).f1) > 65536
          ·rw [if_pos c16] at H
           have c16b0 : decide (65536 < ((rd_T104 l0 x7_1).f1)) = true := decide_eq_true c16
           clear c16
           obtain rfl := Option.some.inj H
           try go_wp2
           have n0_ := Aside0.mk (blk_drew BK260.out)
           have n1_ := Aside0.mk (below_drew1 HB.out)
           clear BK260
           clear HB
           have BK260 := n0_
           have HB := n1_
           clear n0_ n1_
           refine start_ (n := 23) (S := fun w' => w'.cell? ⟨gb260, 0, none⟩ = some (.int .i64 ((rd_T104 l0 x7_1).f0.f0)) ∧ w'.cell? ⟨gb260, 1, none⟩ = some (.int .i64 ((rd_T104 l0 x7_1).f0.f1)) ∧ w'.cell? ⟨gb260, 2, none⟩ = some (.int .i64 ((rd_T104 l0 x7_1).f1))) (ds := []) fineB23 (by kernel_rfl) rfl rfl ⟨(blk_cell BK260.out 0).trans rfl, (blk_cell BK260.out 1).trans rfl, (blk_cell BK260.out 2).trans rfl⟩ (fun hHeld => ?_); refine with_tabW message_fine.tab5 message_fine.bits5 (fun HT_ HW_ => ?_)
           generalize wc.drew = w17 at BK260 HB hHeld ⊢
           refine pu_ 0 33 fineB0 HT_ ?_
           refine pt_ 1 34 fineB22 HT_ HW_ rfl hHeld (by rintro w' ⟨s0, s1, s2⟩; go_simp; with_reducible rfl) ?_
           refine pu_ 2 35 fineB1 HT_ ?_
           refine pu_ 3 36 fineB2 HT_ ?_
           refine pu_ 4 37 fineB7 HT_ ?_
           refine pt_ 5 38 fineB18 HT_ HW_ rfl hHeld (by rintro w' ⟨s0, s1, s2⟩; go_simp; with_reducible rfl) ?_
           refine pu_ 6 39 fineB8 HT_ ?_
           refine pu_ 7 40 fineB3 HT_ ?_
           refine pu_ 8 41 fineB4 HT_ ?_
           refine pn_ 9 42 fineB9 HT_ ?_
           refine pn_ 10 43 fineB10 HT_ ?_
           refine pn_ 11 44 fineB11 HT_ ?_
           refine pn_ 12 45 fineB12 HT_ ?_
           refine pn_ 13 46 fineB13 HT_ ?_
           refine pn_ 14 47 fineB14 HT_ ?_
           refine pn_ 15 48 fineB15 HT_ ?_
           refine pn_ 16 49 fineB19 HT_ ?_
           refine pn_ 17 50 fineB20 HT_ ?_
           refine pn_ 18 51 fineB21 HT_ ?_
           refine pn_ 19 52 fineB16 HT_ ?_
           refine pn_ 20 53 fineB17 HT_ ?_
           refine pu_ 21 54 fineB5 HT_ ?_
           refine pu_ 22 32 fineB6 HT_ ?_
           refine done_ (done_of HT_.out (by kernel_rfl)) ?_
           try go_wp2
           go_ret
           exact ⟨by (rfl), by repeat ((with_reducible (exact HB.out)))⟩
          ·rw [if_neg c16] at H
           have c16b0 : decide (65536 < ((rd_T104 l0 x7_1).f1)) = false := decide_eq_false c16
           clear c16
           by_cases c18 : x7_1 > 0
           ·rw [if_pos c18] at H
            have c18b0 : decide (0 < x7_1) = true := decide_eq_true c18
            clear c18
            obtain ⟨ji19, hji19⟩ : ∃ j_ : Int, (wrap64 (x7_1 - 1)) = j_ := ⟨_, rfl⟩
            replace H : (if 0 ≤ (ji19) then (if (ji19) < (l0.length : Int) then ((message_less.f ((rd_T104 l0 (ji19)).f0.f0) ((rd_T104 l0 (ji19)).f0.f1) ((rd_T104 l0 (ji19)).f1) ((rd_T104 l0 x7_1).f0.f0) ((rd_T104 l0 x7_1).f0.f1) ((rd_T104 l0 x7_1).f1)).bind fun t262 => (if t262 = true then (message_fine.l0 kj4 l0 l0 (l0.length : Int) (wrap64 (x7_1 + 1))) else (some false))) else (none)) else (none)) = some r := by (rw [hji19] at H; exact H)
            have hji19w : (IntKind.i64.wrap (x7_1 - 1)) = ji19 := (i64_w _).trans hji19
            by_cases c20 : 0 ≤ (ji19)
            ·rw [if_pos c20] at H
             have c20b0 : decide (0 ≤ (ji19)) = true := decide_eq_true c20
             clear c20
             by_cases c21 : (ji19) < (l0.length : Int)
             ·rw [if_pos c21] at H
              have c21b0 : decide ((ji19) < (l0.length : Int)) = true := decide_eq_true c21
              clear c21
              replace H := Option.bind_eq_some_iff.mp H
              obtain ⟨t262, A220, H⟩ := H
              replace H : (if t262 = true then (message_fine.l0 kj4 l0 l0 (l0.length : Int) (wrap64 (x7_1 + 1))) else (some false)) = some r := H
              have A22 := Aside0.mk A220
              clear A220
              by_cases c23 : t262 = true
              ·subst c23
               have H1 : (message_fine.l0 kj4 l0 l0 (l0.length : Int) (wrap64 (x7_1 + 1))) = some r := by rw [if_pos rfl] at H; exact H
               clear H
               have H := H1
               clear H1
               have H' := Aside0.mk H
               clear H
               try go_wp2
               have n0_ := Aside0.mk (blk_drew BK260.out)
               have n1_ := Aside0.mk (below_drew1 HB.out)
               clear BK260
               clear HB
               have BK260 := n0_
               have HB := n1_
               clear n0_ n1_
               have p261 : 0 ≤ ((ji19) : Int) := of_decide_eq_true (by (with_reducible assumption))
               have q261 : (ji19) < (l0.length : Int) := of_decide_eq_true (by (with_reducible assumption))
               obtain ⟨ad261, e261, hx261_0, hx261_1, hx261_2⟩ := at_T104 HR0.out (ji19) p261 q261
               have hw261_2 := hx261_2
               have hw261_1 := hx261_1
               have hw261_0 := hx261_0
               obtain rfl : ad259 = ad261 := (by injection e261)
               replace hx261_0 := (HB.out.cell (World.block_lt_of_cell? w _ hx261_0)).trans hx261_0
               replace hx261_1 := (HB.out.cell (World.block_lt_of_cell? w _ hx261_1)).trans hx261_1
               replace hx261_2 := (HB.out.cell (World.block_lt_of_cell? w _ hx261_2)).trans hx261_2
               replace p261 := eq_true p261
               replace q261 := eq_true q261
               refine start_ (n := 23) (S := fun w' => w'.cell? ⟨gb260, 0, none⟩ = some (.int .i64 ((rd_T104 l0 x7_1).f0.f0)) ∧ w'.cell? ⟨gb260, 1, none⟩ = some (.int .i64 ((rd_T104 l0 x7_1).f0.f1)) ∧ w'.cell? ⟨gb260, 2, none⟩ = some (.int .i64 ((rd_T104 l0 x7_1).f1)) ∧ w'.cell? (ad259.add (((ji19)).toNat * 3)) = some (.int .i64 ((rd_T104 l0 (ji19)).f0.f0)) ∧ w'.cell? ⟨(ad259.add (((ji19)).toNat * 3)).block, (ad259.add (((ji19)).toNat * 3)).off + 1, none⟩ = some (.int .i64 ((rd_T104 l0 (ji19)).f0.f1)) ∧ w'.cell? ⟨(ad259.add (((ji19)).toNat * 3)).block, (ad259.add (((ji19)).toNat * 3)).off + 2, none⟩ = some (.int .i64 ((rd_T104 l0 (ji19)).f1))) (ds := []) fineB23 (by kernel_rfl) rfl rfl ⟨(blk_cell BK260.out 0).trans rfl, (blk_cell BK260.out 1).trans rfl, (blk_cell BK260.out 2).trans rfl, ((HB.out.cell (World.block_lt_of_cell? w _ hw261_0)).trans hw261_0), ((HB.out.cell (World.block_lt_of_cell? w _ hw261_1)).trans hw261_1), ((HB.out.cell (World.block_lt_of_cell? w _ hw261_2)).trans hw261_2)⟩ (fun hHeld => ?_); refine with_tabW message_fine.tab5 message_fine.bits5 (fun HT_ HW_ => ?_)
               generalize wc.drew = w24 at BK260 HB hx261_0 hx261_1 hx261_2 hHeld ⊢
               refine pu_ 0 33 fineB0 HT_ ?_
               refine pt_ 1 34 fineB22 HT_ HW_ rfl hHeld (by rintro w' ⟨s0, s1, s2, s3, s4, s5⟩; go_simp; with_reducible rfl) ?_
               refine pu_ 2 35 fineB1 HT_ ?_
               refine pu_ 3 36 fineB2 HT_ ?_
               refine pu_ 4 37 fineB7 HT_ ?_
               refine pt_ 5 38 fineB18 HT_ HW_ rfl hHeld (by rintro w' ⟨s0, s1, s2, s3, s4, s5⟩; go_simp; with_reducible rfl) ?_
               refine pu_ 6 39 fineB8 HT_ ?_
               refine pu_ 7 40 fineB3 HT_ ?_
               refine pu_ 8 41 fineB4 HT_ ?_
               refine pu_ 9 42 fineB9 HT_ ?_
               refine pu_ 10 43 fineB10 HT_ ?_
               refine pu_ 11 44 fineB11 HT_ ?_
               refine pu_ 12 45 fineB12 HT_ ?_
               refine pu_ 13 46 fineB13 HT_ ?_
               refine pu_ 14 47 fineB14 HT_ ?_
               refine pu_ 15 48 fineB15 HT_ ?_
               refine pt_ 16 49 fineB19 HT_ HW_ rfl hHeld (by rintro w' ⟨s0, s1, s2, s3, s4, s5⟩; go_simp; with_reducible rfl) ?_
               refine pt_ 17 50 fineB20 HT_ HW_ rfl hHeld (by rintro w' ⟨s0, s1, s2, s3, s4, s5⟩; go_simp; with_reducible rfl) ?_
               refine one_ (i := 18) (N := some 51) fineB21 rfl rfl (one_of HT_.out (by kernel_rfl)) (by decide) (fun K hK => ?_)
               refine goes_ Try.func111 (by kernel_rfl) rfl #[.agg #[.int .i64 ((rd_T104 l0 (ji19)).f0.f0), .int .i64 ((rd_T104 l0 (ji19)).f0.f1), .int .i64 ((rd_T104 l0 (ji19)).f1)], .agg #[.int .i64 ((rd_T104 l0 x7_1).f0.f0), .int .i64 ((rd_T104 l0 x7_1).f0.f1), .int .i64 ((rd_T104 l0 x7_1).f1)]] (by rfl) rfl rfl (by (try simp only [List.map_toArray, List.map_cons, List.map_nil]); (rfl)) ?_
               with_reducible refine (message_less.calls ((rd_T104 l0 (ji19)).f0.f0) ((rd_T104 l0 (ji19)).f0.f1) ((rd_T104 l0 (ji19)).f1) ((rd_T104 l0 x7_1).f0.f0) ((rd_T104 l0 x7_1).f0.f1) ((rd_T104 l0 x7_1).f1) true _ A22.out).mono ?_
               rintro e w25 ⟨rfl, hb⟩
               refine ⟨_, rfl, ?_⟩
               have n0_ := Aside0.mk (blk_below (g := gb260) (o := .cells #[.int .i64 ((rd_T104 l0 x7_1).f0.f0), .int .i64 ((rd_T104 l0 x7_1).f0.f1), .int .i64 ((rd_T104 l0 x7_1).f1)] 104 (0, 0)) (by (with_reducible repeat ((refine blk_drew ?_))); exact BK260.out) hb)
               have n1_ := Aside0.mk (below_step (by repeat ((with_reducible (exact HB.out)))) hb)
               clear BK260
               clear HB
               have BK260 := n0_
               have HB := n1_
               clear n0_ n1_
               (try clear hb)
               (try clear hb2)
               (try clear hk)
               (try clear hi)
               refine hK.out _ _ ⟨(blk_cell BK260.out 0).trans rfl, (blk_cell BK260.out 1).trans rfl, (blk_cell BK260.out 2).trans rfl, ((HB.out.cell (World.block_lt_of_cell? w _ hw261_0)).trans hw261_0), ((HB.out.cell (World.block_lt_of_cell? w _ hw261_1)).trans hw261_1), ((HB.out.cell (World.block_lt_of_cell? w _ hw261_2)).trans hw261_2)⟩ (fun hHeld => ?_)
               clear hK K
               refine norm_ (a' := ?_) ?_ ?_
               rotate_left
               ·show Act.put _ (some 51) _ = _
                simp only [Act.put, List.setIfInBounds_toArray, List.set_cons_zero, List.set_cons_succ, i64_w, i32_w]
                rfl
               refine pu_ 19 52 fineB16 HT_ ?_
               refine pu_ 20 53 fineB17 HT_ ?_
               refine pu_ 21 54 fineB5 HT_ ?_
               refine pu_ 22 32 fineB6 HT_ ?_
               refine done_ (done_of HT_.out (by kernel_rfl)) ?_
               try go_wp2
               go_roundg kj4
               case measure => have := HK1.out; have := HJ4.out; omega
               case rel => exact ⟨(wrap64 (x7_1 + 1)), (by (rfl)), H', ⟨by have := HK1.out; have := HJ4.out; omega⟩, ⟨by repeat ((with_reducible (exact HB.out)))⟩⟩
              ·replace c23 := Bool.eq_false_iff.mpr c23
               subst c23
               have H1 : (some false) = some r := by rw [if_neg (show ¬ (false = true) by decide)] at H; exact H
               clear H
               have H := H1
               clear H1
               obtain rfl := Option.some.inj H
               try go_wp2
               have n0_ := Aside0.mk (blk_drew BK260.out)
               have n1_ := Aside0.mk (below_drew1 HB.out)
               clear BK260
               clear HB
               have BK260 := n0_
               have HB := n1_
               clear n0_ n1_
               have p261 : 0 ≤ ((ji19) : Int) := of_decide_eq_true (by (with_reducible assumption))
               have q261 : (ji19) < (l0.length : Int) := of_decide_eq_true (by (with_reducible assumption))
               obtain ⟨ad261, e261, hx261_0, hx261_1, hx261_2⟩ := at_T104 HR0.out (ji19) p261 q261
               have hw261_2 := hx261_2
               have hw261_1 := hx261_1
               have hw261_0 := hx261_0
               obtain rfl : ad259 = ad261 := (by injection e261)
               replace hx261_0 := (HB.out.cell (World.block_lt_of_cell? w _ hx261_0)).trans hx261_0
               replace hx261_1 := (HB.out.cell (World.block_lt_of_cell? w _ hx261_1)).trans hx261_1
               replace hx261_2 := (HB.out.cell (World.block_lt_of_cell? w _ hx261_2)).trans hx261_2
               replace p261 := eq_true p261
               replace q261 := eq_true q261
               refine start_ (n := 23) (S := fun w' => w'.cell? ⟨gb260, 0, none⟩ = some (.int .i64 ((rd_T104 l0 x7_1).f0.f0)) ∧ w'.cell? ⟨gb260, 1, none⟩ = some (.int .i64 ((rd_T104 l0 x7_1).f0.f1)) ∧ w'.cell? ⟨gb260, 2, none⟩ = some (.int .i64 ((rd_T104 l0 x7_1).f1)) ∧ w'.cell? (ad259.add (((ji19)).toNat * 3)) = some (.int .i64 ((rd_T104 l0 (ji19)).f0.f0)) ∧ w'.cell? ⟨(ad259.add (((ji19)).toNat * 3)).block, (ad259.add (((ji19)).toNat * 3)).off + 1, none⟩ = some (.int .i64 ((rd_T104 l0 (ji19)).f0.f1)) ∧ w'.cell? ⟨(ad259.add (((ji19)).toNat * 3)).block, (ad259.add (((ji19)).toNat * 3)).off + 2, none⟩ = some (.int .i64 ((rd_T104 l0 (ji19)).f1))) (ds := []) fineB23 (by kernel_rfl) rfl rfl ⟨(blk_cell BK260.out 0).trans rfl, (blk_cell BK260.out 1).trans rfl, (blk_cell BK260.out 2).trans rfl, ((HB.out.cell (World.block_lt_of_cell? w _ hw261_0)).trans hw261_0), ((HB.out.cell (World.block_lt_of_cell? w _ hw261_1)).trans hw261_1), ((HB.out.cell (World.block_lt_of_cell? w _ hw261_2)).trans hw261_2)⟩ (fun hHeld => ?_); refine with_tabW message_fine.tab5 message_fine.bits5 (fun HT_ HW_ => ?_)
               generalize wc.drew = w26 at BK260 HB hx261_0 hx261_1 hx261_2 hHeld ⊢
               refine pu_ 0 33 fineB0 HT_ ?_
               refine pt_ 1 34 fineB22 HT_ HW_ rfl hHeld (by rintro w' ⟨s0, s1, s2, s3, s4, s5⟩; go_simp; with_reducible rfl) ?_
               refine pu_ 2 35 fineB1 HT_ ?_
               refine pu_ 3 36 fineB2 HT_ ?_
               refine pu_ 4 37 fineB7 HT_ ?_
               refine pt_ 5 38 fineB18 HT_ HW_ rfl hHeld (by rintro w' ⟨s0, s1, s2, s3, s4, s5⟩; go_simp; with_reducible rfl) ?_
               refine pu_ 6 39 fineB8 HT_ ?_
               refine pu_ 7 40 fineB3 HT_ ?_
               refine pu_ 8 41 fineB4 HT_ ?_
               refine pu_ 9 42 fineB9 HT_ ?_
               refine pu_ 10 43 fineB10 HT_ ?_
               refine pu_ 11 44 fineB11 HT_ ?_
               refine pu_ 12 45 fineB12 HT_ ?_
               refine pu_ 13 46 fineB13 HT_ ?_
               refine pu_ 14 47 fineB14 HT_ ?_
               refine pu_ 15 48 fineB15 HT_ ?_
               refine pt_ 16 49 fineB19 HT_ HW_ rfl hHeld (by rintro w' ⟨s0, s1, s2, s3, s4, s5⟩; go_simp; with_reducible rfl) ?_
               refine pt_ 17 50 fineB20 HT_ HW_ rfl hHeld (by rintro w' ⟨s0, s1, s2, s3, s4, s5⟩; go_simp; with_reducible rfl) ?_
               refine one_ (i := 18) (N := some 51) fineB21 rfl rfl (one_of HT_.out (by kernel_rfl)) (by decide) (fun K hK => ?_)
               refine goes_ Try.func111 (by kernel_rfl) rfl #[.agg #[.int .i64 ((rd_T104 l0 (ji19)).f0.f0), .int .i64 ((rd_T104 l0 (ji19)).f0.f1), .int .i64 ((rd_T104 l0 (ji19)).f1)], .agg #[.int .i64 ((rd_T104 l0 x7_1).f0.f0), .int .i64 ((rd_T104 l0 x7_1).f0.f1), .int .i64 ((rd_T104 l0 x7_1).f1)]] (by rfl) rfl rfl (by (try simp only [List.map_toArray, List.map_cons, List.map_nil]); (rfl)) ?_
               with_reducible refine (message_less.calls ((rd_T104 l0 (ji19)).f0.f0) ((rd_T104 l0 (ji19)).f0.f1) ((rd_T104 l0 (ji19)).f1) ((rd_T104 l0 x7_1).f0.f0) ((rd_T104 l0 x7_1).f0.f1) ((rd_T104 l0 x7_1).f1) false _ A22.out).mono ?_
               rintro e w27 ⟨rfl, hb⟩
               refine ⟨_, rfl, ?_⟩
               have n0_ := Aside0.mk (blk_below (g := gb260) (o := .cells #[.int .i64 ((rd_T104 l0 x7_1).f0.f0), .int .i64 ((rd_T104 l0 x7_1).f0.f1), .int .i64 ((rd_T104 l0 x7_1).f1)] 104 (0, 0)) (by (with_reducible repeat ((refine blk_drew ?_))); exact BK260.out) hb)
               have n1_ := Aside0.mk (below_step (by repeat ((with_reducible (exact HB.out)))) hb)
               clear BK260
               clear HB
               have BK260 := n0_
               have HB := n1_
               clear n0_ n1_
               (try clear hb)
               (try clear hb2)
               (try clear hk)
               (try clear hi)
               refine hK.out _ _ ⟨(blk_cell BK260.out 0).trans rfl, (blk_cell BK260.out 1).trans rfl, (blk_cell BK260.out 2).trans rfl, ((HB.out.cell (World.block_lt_of_cell? w _ hw261_0)).trans hw261_0), ((HB.out.cell (World.block_lt_of_cell? w _ hw261_1)).trans hw261_1), ((HB.out.cell (World.block_lt_of_cell? w _ hw261_2)).trans hw261_2)⟩ (fun hHeld => ?_)
               clear hK K
               refine norm_ (a' := ?_) ?_ ?_
               rotate_left
               ·show Act.put _ (some 51) _ = _
                simp only [Act.put, List.setIfInBounds_toArray, List.set_cons_zero, List.set_cons_succ, i64_w, i32_w]
                rfl
               refine pu_ 19 52 fineB16 HT_ ?_
               refine pu_ 20 53 fineB17 HT_ ?_
               refine pu_ 21 54 fineB5 HT_ ?_
               refine pu_ 22 32 fineB6 HT_ ?_
               refine done_ (done_of HT_.out (by kernel_rfl)) ?_
               try go_wp2
               go_ret
               exact ⟨by (rfl), by repeat ((with_reducible (exact HB.out)))⟩
             ·rw [if_neg c21] at H
              exact absurd H (by simp)
            ·rw [if_neg c20] at H
             exact absurd H (by simp)
           ·rw [if_neg c18] at H
            have c18b0 : decide (0 < x7_1) = false := decide_eq_false c18
            clear c18
            have H' := Aside0.mk H
            clear H
            try go_wp2
            have n0_ := Aside0.mk (blk_drew BK260.out)
            have n1_ := Aside0.mk (below_drew1 HB.out)
            clear BK260
            clear HB
            have BK260 := n0_
            have HB := n1_
            clear n0_ n1_
            refine start_ (n := 23) (S := fun w' => w'.cell? ⟨gb260, 0, none⟩ = some (.int .i64 ((rd_T104 l0 x7_1).f0.f0)) ∧ w'.cell? ⟨gb260, 1, none⟩ = some (.int .i64 ((rd_T104 l0 x7_1).f0.f1)) ∧ w'.cell? ⟨gb260, 2, none⟩ = some (.int .i64 ((rd_T104 l0 x7_1).f1))) (ds := []) fineB23 (by kernel_rfl) rfl rfl ⟨(blk_cell BK260.out 0).trans rfl, (blk_cell BK260.out 1).trans rfl, (blk_cell BK260.out 2).trans rfl⟩ (fun hHeld => ?_); refine with_tabW message_fine.tab5 message_fine.bits5 (fun HT_ HW_ => ?_)
            generalize wc.drew = w28 at BK260 HB hHeld ⊢
            refine pu_ 0 33 fineB0 HT_ ?_
            refine pt_ 1 34 fineB22 HT_ HW_ rfl hHeld (by rintro w' ⟨s0, s1, s2⟩; go_simp; with_reducible rfl) ?_
            refine pu_ 2 35 fineB1 HT_ ?_
            refine pu_ 3 36 fineB2 HT_ ?_
            refine pu_ 4 37 fineB7 HT_ ?_
            refine pt_ 5 38 fineB18 HT_ HW_ rfl hHeld (by rintro w' ⟨s0, s1, s2⟩; go_simp; with_reducible rfl) ?_
            refine pu_ 6 39 fineB8 HT_ ?_
            refine pu_ 7 40 fineB3 HT_ ?_
            refine pu_ 8 41 fineB4 HT_ ?_
            refine pu_ 9 42 fineB9 HT_ ?_
            refine pu_ 10 43 fineB10 HT_ ?_
            refine pu_ 11 44 fineB11 HT_ ?_
            refine pn_ 12 45 fineB12 HT_ ?_
            refine pn_ 13 46 fineB13 HT_ ?_
            refine pn_ 14 47 fineB14 HT_ ?_
            refine pn_ 15 48 fineB15 HT_ ?_
            refine pn_ 16 49 fineB19 HT_ ?_
            refine pn_ 17 50 fineB20 HT_ ?_
            refine pn_ 18 51 fineB21 HT_ ?_
            refine pn_ 19 52 fineB16 HT_ ?_
            refine pu_ 20 53 fineB17 HT_ ?_
            refine pu_ 21 54 fineB5 HT_ ?_
            refine pu_ 22 32 fineB6 HT_ ?_
            refine done_ (done_of HT_.out (by kernel_rfl)) ?_
            try go_wp2
            go_roundg kj4
            case measure => have := HK1.out; have := HJ4.out; omega
            case rel => exact ⟨(wrap64 (x7_1 + 1)), (by (rfl)), H', ⟨by have := HK1.out; have := HJ4.out; omega⟩, ⟨by repeat ((with_reducible (exact HB.out)))⟩⟩
     ·rw [if_neg c4] at H
      exact absurd H (by simp)
    ·rw [if_neg c3] at H
     exact absurd H (by simp)
   ·rw [if_neg c2] at H
    have c2b0 : decide (x7_1 < (l0.length : Int)) = false := decide_eq_false c2
    clear c2
    obtain rfl := Option.some.inj H
    go_wp2
    go_ret
    exact ⟨by (rfl), by repeat ((with_reducible (exact HB.out)))⟩
end Go.Proofs.Ytedfcjcnhgomoaa.P
end
-- MERGED YtedfcjcnhgomoaaMsgA
section
namespace Go.Proofs.Ytedfcjcnhgomoaa.MsgA
open Go.RowKit Go.Proofs.Ytedfcjcnhgomoaa.P Go.Proofs.YtedfcjcnhgomoaaW.PrintWords Go.Proofs.YtedfcjcnhgomoaaW.PrintLast Go.Proofs.YtedfcjcnhgomoaaW.PrintMore Go.Proofs.Ytedfcjcnhgomoaa.Own
set_option linter.unusedSimpArgs false
set_option linter.unusedVariables false
structure Mg where
 k : Int
 c : Int
 e : Int
 r : Int
 s : Int
 d : Int
 o : Value
 t : ByteArray
 n : Value
def Mg.cs (m : Mg) : Array Value := #[.int .i64 m.k, .int .i64 m.c, .int .i64 m.e, .int .i64 m.r, .int .i64 m.s, .int .i64 m.d, m.o, .string m.t, m.n]
def Mg.val (m : Mg) : Value := .agg m.cs
def most (f : Nat) : Int := if f = 0 then 63 else if f = 4 then 65536 else 4611686018427387904
set_option maxHeartbeats 2000000 in
set_option maxRecDepth 100000 in
theorem num_c (B f : Nat) (hf : f < 5) (w : World) : Calls Try.prog 62 #[.pointer (some ⟨B, 0, none⟩), .int .i64 (f : Int)] w fun e w' => e = .returned (.tuple #[.pointer (some ⟨B, f + 1, none⟩), .int .i64 (most f)]) ∧ w' = w := by
 have h : f = 0 ∨ f = 1 ∨ f = 2 ∨ f = 3 ∨ f = 4 := by omega
 rcases h with rfl | rfl | rfl | rfl | rfl <;>
 ·go_enter Try.func62, Try.ntmps62
  go_wp2_with fail
  go_ret2
  exact ⟨rfl, rfl⟩
def Mg.strip (m : Mg) (f : Nat) : Mg :=
 if f = 0 then { m with c := 0 } else if f = 1 then { m with e := 0 } else if f = 2 then { m with r := 0 } else if f = 3 then { m with s := 0 } else if f = 4 then { m with d := 0 }
 else if f = 5 then { m with o := .slice none 0 0 } else if f = 6 then { m with t := ⟨#[]⟩ } else { m with n := .slice none 0 0 }
def Mg.get (m : Mg) (f : Nat) : Int := if f = 0 then m.c else if f = 1 then m.e else if f = 2 then m.r else if f = 3 then m.s else m.d
def Mg.ok (m : Mg) (go gn : Bool) (f : Nat) : Bool := if f < 5 then decide (0 ≤ m.get f) && decide (m.get f ≤ most f) else if f = 5 then go else if f = 6 then decide (m.t.size ≤ 16777216) else gn
def Blk (B : Nat) (m : Mg) (w : World) : Prop := w.heap[B]? = some (.cells m.cs 44 (0, 0))
theorem Blk.cells {B : Nat} {m : Mg} {w : World} (h : Blk B m w) : (w.cell? ⟨B, 0, none⟩ = some (.int .i64 m.k) ∧ w.cell? ⟨B, 1, none⟩ = some (.int .i64 m.c) ∧ w.cell? ⟨B, 2, none⟩ = some (.int .i64 m.e) ∧ w.cell? ⟨B, 3, none⟩ = some (.int .i64 m.r) ∧ w.cell? ⟨B, 4, none⟩ = some (.int .i64 m.s) ∧ w.cell? ⟨B, 5, none⟩ = some (.int .i64 m.d)) ∧ w.cell? ⟨B, 6, none⟩ = some m.o ∧ w.cell? ⟨B, 7, none⟩ = some (.string m.t) ∧ w.cell? ⟨B, 8, none⟩ = some m.n := by
 unfold Blk at h
 refine ⟨⟨?_, ?_, ?_, ?_, ?_, ?_⟩, ?_, ?_, ?_⟩ <;> (rw [cell_of_row w _ _ _ _ _ h]; rfl)
theorem Blk.fz {B : Nat} {m : Mg} {w : World} (h : Blk B m w) (o : Nat) : w.frozen? ⟨B, o, none⟩ = false := frozen_of_row w _ o _ _ h
theorem Blk.lt {B : Nat} {m : Mg} {w : World} (h : Blk B m w) : B < w.heap.size := (Array.getElem?_eq_some_iff.1 h).1
theorem Blk.below {B : Nat} {m : Mg} {w w' : World} (h : Blk B m w) (hb : Below w.heap.size w w') : Blk B m w' := (hb.block _ h.lt).trans h
theorem Blk.strip0 {B f : Nat} {m : Mg} {w : World} (h : Blk B m w) (hf : f < 5) : Blk B (m.strip f) (w.setCell ⟨B, f + 1, none⟩ (.int .i64 0)) := by
 have hq : f = 0 ∨ f = 1 ∨ f = 2 ∨ f = 3 ∨ f = 4 := by omega
 rcases hq with rfl | rfl | rfl | rfl | rfl <;> exact heap_setCell_same w B _ _ _ _ h
theorem Blk.strip5 {B : Nat} {m : Mg} {w : World} (h : Blk B m w) : Blk B (m.strip 5) (w.setCell ⟨B, 6, none⟩ (.slice none 0 0)) := heap_setCell_same w B _ _ _ _ h
theorem Blk.strip6 {B : Nat} {m : Mg} {w : World} (h : Blk B m w) : Blk B (m.strip 6) (w.setCell ⟨B, 7, none⟩ (.string ⟨#[]⟩)) := heap_setCell_same w B _ _ _ _ h
theorem Blk.strip7 {B : Nat} {m : Mg} {w : World} (h : Blk B m w) : Blk B (m.strip 7) (w.setCell ⟨B, 8, none⟩ (.slice none 0 0)) := heap_setCell_same w B _ _ _ _ h
theorem set9 {B : Nat} {w : World} {T : TypeId} {a0 a1 a2 a3 a4 a5 a6 a7 a8 : Value} (h : w.heap[B]? = some (.cells #[a0, a1, a2, a3, a4, a5, a6, a7, a8] T (0, 0))) (y0 y1 y2 y3 y4 y5 y6 y7 y8 : Value) : (((((((((w.setCell ⟨B, 0, none⟩ y0).setCell ⟨B, 1, none⟩ y1).setCell ⟨B, 2, none⟩ y2).setCell ⟨B, 3, none⟩ y3).setCell ⟨B, 4, none⟩ y4).setCell ⟨B, 5, none⟩ y5).setCell ⟨B, 6, none⟩ y6).setCell ⟨B, 7, none⟩ y7).setCell ⟨B, 8, none⟩ y8).heap[B]? = some (.cells #[y0, y1, y2, y3, y4, y5, y6, y7, y8] T (0, 0)) := by
 have h0 : (w.setCell ⟨B, 0, none⟩ y0).heap[B]? = some (.cells #[y0, a1, a2, a3, a4, a5, a6, a7, a8] T (0, 0)) := heap_setCell_same w B 0 _ _ y0 h
 have h1 : ((w.setCell ⟨B, 0, none⟩ y0).setCell ⟨B, 1, none⟩ y1).heap[B]? = some (.cells #[y0, y1, a2, a3, a4, a5, a6, a7, a8] T (0, 0)) := heap_setCell_same (w.setCell ⟨B, 0, none⟩ y0) B 1 _ _ y1 h0
 have h2 : (((w.setCell ⟨B, 0, none⟩ y0).setCell ⟨B, 1, none⟩ y1).setCell ⟨B, 2, none⟩ y2).heap[B]? = some (.cells #[y0, y1, y2, a3, a4, a5, a6, a7, a8] T (0, 0)) := heap_setCell_same ((w.setCell ⟨B, 0, none⟩ y0).setCell ⟨B, 1, none⟩ y1) B 2 _ _ y2 h1
 have h3 : ((((w.setCell ⟨B, 0, none⟩ y0).setCell ⟨B, 1, none⟩ y1).setCell ⟨B, 2, none⟩ y2).setCell ⟨B, 3, none⟩ y3).heap[B]? = some (.cells #[y0, y1, y2, y3, a4, a5, a6, a7, a8] T (0, 0)) := heap_setCell_same (((w.setCell ⟨B, 0, none⟩ y0).setCell ⟨B, 1, none⟩ y1).setCell ⟨B, 2, none⟩ y2) B 3 _ _ y3 h2
 have h4 : (((((w.setCell ⟨B, 0, none⟩ y0).setCell ⟨B, 1, none⟩ y1).setCell ⟨B, 2, none⟩ y2).setCell ⟨B, 3, none⟩ y3).setCell ⟨B, 4, none⟩ y4).heap[B]? = some (.cells #[y0, y1, y2, y3, y4, a5, a6, a7, a8] T (0, 0)) := heap_setCell_same ((((w.setCell ⟨B, 0, none⟩ y0).setCell ⟨B, 1, none⟩ y1).setCell ⟨B, 2, none⟩ y2).setCell ⟨B, 3, none⟩ y3) B 4 _ _ y4 h3
 have h5 : ((((((w.setCell ⟨B, 0, none⟩ y0).setCell ⟨B, 1, none⟩ y1).setCell ⟨B, 2, none⟩ y2).setCell ⟨B, 3, none⟩ y3).setCell ⟨B, 4, none⟩ y4).setCell ⟨B, 5, none⟩ y5).heap[B]? = some (.cells #[y0, y1, y2, y3, y4, y5, a6, a7, a8] T (0, 0)) := heap_setCell_same (((((w.setCell ⟨B, 0, none⟩ y0).setCell ⟨B, 1, none⟩ y1).setCell ⟨B, 2, none⟩ y2).setCell ⟨B, 3, none⟩ y3).setCell ⟨B, 4, none⟩ y4) B 5 _ _ y5 h4
 have h6 : (((((((w.setCell ⟨B, 0, none⟩ y0).setCell ⟨B, 1, none⟩ y1).setCell ⟨B, 2, none⟩ y2).setCell ⟨B, 3, none⟩ y3).setCell ⟨B, 4, none⟩ y4).setCell ⟨B, 5, none⟩ y5).setCell ⟨B, 6, none⟩ y6).heap[B]? = some (.cells #[y0, y1, y2, y3, y4, y5, y6, a7, a8] T (0, 0)) := heap_setCell_same ((((((w.setCell ⟨B, 0, none⟩ y0).setCell ⟨B, 1, none⟩ y1).setCell ⟨B, 2, none⟩ y2).setCell ⟨B, 3, none⟩ y3).setCell ⟨B, 4, none⟩ y4).setCell ⟨B, 5, none⟩ y5) B 6 _ _ y6 h5
 have h7 : ((((((((w.setCell ⟨B, 0, none⟩ y0).setCell ⟨B, 1, none⟩ y1).setCell ⟨B, 2, none⟩ y2).setCell ⟨B, 3, none⟩ y3).setCell ⟨B, 4, none⟩ y4).setCell ⟨B, 5, none⟩ y5).setCell ⟨B, 6, none⟩ y6).setCell ⟨B, 7, none⟩ y7).heap[B]? = some (.cells #[y0, y1, y2, y3, y4, y5, y6, y7, a8] T (0, 0)) := heap_setCell_same (((((((w.setCell ⟨B, 0, none⟩ y0).setCell ⟨B, 1, none⟩ y1).setCell ⟨B, 2, none⟩ y2).setCell ⟨B, 3, none⟩ y3).setCell ⟨B, 4, none⟩ y4).setCell ⟨B, 5, none⟩ y5).setCell ⟨B, 6, none⟩ y6) B 7 _ _ y7 h6
 have h8 : (((((((((w.setCell ⟨B, 0, none⟩ y0).setCell ⟨B, 1, none⟩ y1).setCell ⟨B, 2, none⟩ y2).setCell ⟨B, 3, none⟩ y3).setCell ⟨B, 4, none⟩ y4).setCell ⟨B, 5, none⟩ y5).setCell ⟨B, 6, none⟩ y6).setCell ⟨B, 7, none⟩ y7).setCell ⟨B, 8, none⟩ y8).heap[B]? = some (.cells #[y0, y1, y2, y3, y4, y5, y6, y7, y8] T (0, 0)) := heap_setCell_same ((((((((w.setCell ⟨B, 0, none⟩ y0).setCell ⟨B, 1, none⟩ y1).setCell ⟨B, 2, none⟩ y2).setCell ⟨B, 3, none⟩ y3).setCell ⟨B, 4, none⟩ y4).setCell ⟨B, 5, none⟩ y5).setCell ⟨B, 6, none⟩ y6).setCell ⟨B, 7, none⟩ y7) B 8 _ _ y8 h7
 exact h8
theorem Blk.set {B : Nat} {m' : Mg} {w : World} (h : Blk B m' w) (k c e r s d : Int) (o : Value) (t : ByteArray) (n : Value) : Blk B ⟨k, c, e, r, s, d, o, t, n⟩ (((((((((w.setCell ⟨B, 0, none⟩ (.int .i64 k)).setCell ⟨B, 1, none⟩ (.int .i64 c)).setCell ⟨B, 2, none⟩ (.int .i64 e)).setCell ⟨B, 3, none⟩ (.int .i64 r)).setCell ⟨B, 4, none⟩ (.int .i64 s)).setCell ⟨B, 5, none⟩ (.int .i64 d)).setCell ⟨B, 6, none⟩ o).setCell ⟨B, 7, none⟩ (.string t)).setCell ⟨B, 8, none⟩ n) := set9 h _ _ _ _ _ _ _ _ _
theorem below_set9 {B0 : Nat} {a w : World} (h : Below B0 a w) {B : Nat} (hq : B0 ≤ B) (y0 y1 y2 y3 y4 y5 y6 y7 y8 : Value) : Below B0 a (((((((((w.setCell ⟨B, 0, none⟩ y0).setCell ⟨B, 1, none⟩ y1).setCell ⟨B, 2, none⟩ y2).setCell ⟨B, 3, none⟩ y3).setCell ⟨B, 4, none⟩ y4).setCell ⟨B, 5, none⟩ y5).setCell ⟨B, 6, none⟩ y6).setCell ⟨B, 7, none⟩ y7).setCell ⟨B, 8, none⟩ y8) :=
 ((((((((h.setCell (p := ⟨B, 0, none⟩) hq y0).setCell (p := ⟨B, 1, none⟩) hq y1).setCell (p := ⟨B, 2, none⟩) hq y2).setCell (p := ⟨B, 3, none⟩) hq y3).setCell (p := ⟨B, 4, none⟩) hq y4).setCell (p := ⟨B, 5, none⟩) hq y5).setCell (p := ⟨B, 6, none⟩) hq y6).setCell (p := ⟨B, 7, none⟩) hq y7).setCell (p := ⟨B, 8, none⟩) hq y8
end Go.Proofs.Ytedfcjcnhgomoaa.MsgA
end

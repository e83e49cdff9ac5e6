import Derived.Test.YtedfcjcnhgomoaaQB
import Derived.Test.YtedfcjcnhgomoaaQA
import Derived.Outline
import Derived.Deep.QuietTactic
import Derived.BigQuiet
import Derived.Deep.RegionWith
-- MERGED YtedfcjcnhgomoaaPapiPacket
section
-- Written by wip/myprint.py of this session, over the kit's print.py: a Lean function for each Go function, and the proof that the code comes to it.
namespace Go.Proofs.Ytedfcjcnhgomoaa.P
open Go.RowKit Go.Proofs.YtedfcjcnhgomoaaW.PrintWords Go.Proofs.YtedfcjcnhgomoaaW.PrintLast Go.Proofs.YtedfcjcnhgomoaaW.PrintMore
attribute [local go_sem] max2_int min2_int max_two min_two max_three min_three max_four min_four   -- for this text's walks alone
set_option linter.unusedVariables false
set_option linter.unusedSimpArgs false

/-! ### api_Packet: function 49 -/
def api_Packet.f (a0 : Int) (a1 : Int) : Option (Int × Int × Int × ByteArray × Int × Int) := some (0, 0, 0, (⟨#[]⟩ : ByteArray), a0, a1)
set_option maxHeartbeats 8000000 in
set_option maxRecDepth 100000 in
theorem api_Packet.calls (a0 : Int) (a1 : Int) (r1 : Int) (r2 : Int) (r3 : Int) (r4 : ByteArray) (r5 : Int) (r6 : Int) (w : World) (h : api_Packet.f a0 a1 = some (r1, r2, r3, r4, r5, r6)) :
    Calls Try.prog 49 #[.int .i64 a0, .int .i64 a1] w fun e w' => e = .returned (.tuple #[.agg #[.int .i64 r1, .int .i64 r2, .int .i64 r3, .string r4], .int .i64 r5, .int .i64 r6]) ∧ Below w.heap.size w w' := by
  have hu23 := Try.underlying23
  have HB := Aside0.mk (Below.refl w.heap.size w)
  have H : (some (0, 0, 0, (⟨#[]⟩ : ByteArray), a0, a1)) = some (r1, r2, r3, r4, r5, r6) := h
  clear h
  simp only [Option.some.injEq, Prod.mk.injEq] at H
  obtain ⟨rfl, rfl, rfl, rfl, rfl, rfl⟩ := H
  go_enter Try.func49, Try.ntmps49
  go_wp2_with (first | ((with_reducible refine gate_dst (N := 4) rfl ?_); refine box_event ?hg (N := 4) ?hd (cs := #[.int .i64 0, .int .i64 0, .int .i64 0, .string (⟨#[]⟩ : ByteArray)]) (t := 23) ?hr ?_; (case hd => rfl); (case hg => rfl); (case hr => first | (go_simp; done) | (go_simp; rfl)); intro gb173 hg w3 hbox hb; have n0_ := Aside0.mk (below_step (by repeat (first | (with_reducible first | exact HB.out | apply below_alloc | apply pw_below_drewN | apply below_drew1) | exact HB.out)) hb); have n1_ := Aside0.mk (hbox); have n2_ := Aside0.mk ((by rw [hg]; exact (below_size (by repeat (first | (with_reducible first | exact HB.out | apply below_alloc | apply pw_below_drewN | apply below_drew1) | exact HB.out))) : w.heap.size ≤ gb173)); have n3_ := Aside0.mk ((by rw [hg]; exact (below_size (by repeat (first | (with_reducible first | exact HB.out | apply below_alloc | apply pw_below_drewN | apply below_drew1) | exact HB.out))) : w.heap.size ≤ gb173)); clear HB; have HB := n0_; have BK173 := n1_; have GW173 := n2_; have GE173 := n3_; clear n0_ n1_ n2_ n3_; clear hb hbox hg; have hcz4_0 : w3.cell? ⟨gb173, 0, none⟩ = some (.int .i64 0) := (blk_cell BK173.out 0).trans rfl; have hcz4_1 : w3.cell? ⟨gb173, 1, none⟩ = some (.int .i64 0) := (blk_cell BK173.out 1).trans rfl; have hcz4_2 : w3.cell? ⟨gb173, 2, none⟩ = some (.int .i64 0) := (blk_cell BK173.out 2).trans rfl; have hcz4_3 : w3.cell? ⟨gb173, 3, none⟩ = some (.string (⟨#[]⟩ : ByteArray)) := (blk_cell BK173.out 3).trans rfl; have hfz4_0 := blk_frozen BK173.out 0; have hfz4_1 := blk_frozen BK173.out 1; have hfz4_2 := blk_frozen BK173.out 2; have hfz4_3 := blk_frozen BK173.out 3))
  refine bodyPost_ret (results_ctt rfl _ _ gb173 23 #[.int .i64 0, .int .i64 0, .int .i64 0, .string (⟨#[]⟩ : ByteArray)] (0, 0) _ rfl (by (with_reducible repeat (first | refine blk_drewN ?_ _ | refine blk_drew ?_ | refine blk_alloc ?_ _)); refine blk_put (cs := #[.int .i64 0, .int .i64 0, .int .i64 0, .string (⟨#[]⟩ : ByteArray)]) ?_ 3 _ rfl; (with_reducible repeat (first | refine blk_drewN ?_ _ | refine blk_drew ?_ | refine blk_alloc ?_ _)); refine blk_put (cs := #[.int .i64 0, .int .i64 0, .int .i64 0, .string (⟨#[]⟩ : ByteArray)]) ?_ 2 _ rfl; (with_reducible repeat (first | refine blk_drewN ?_ _ | refine blk_drew ?_ | refine blk_alloc ?_ _)); refine blk_put (cs := #[.int .i64 0, .int .i64 0, .int .i64 0, .string (⟨#[]⟩ : ByteArray)]) ?_ 1 _ rfl; (with_reducible repeat (first | refine blk_drewN ?_ _ | refine blk_drew ?_ | refine blk_alloc ?_ _)); refine blk_put (cs := #[.int .i64 0, .int .i64 0, .int .i64 0, .string (⟨#[]⟩ : ByteArray)]) ?_ 0 _ rfl; (with_reducible repeat (first | refine blk_drewN ?_ _ | refine blk_drew ?_ | refine blk_alloc ?_ _)); exact BK173.out) Try.underlying23 rfl (by kernel_rfl)) rfl ?_
  exact ⟨by first | rfl | (simp [errW_none, errW_some] <;> rfl) | (simp [*, errW_none, errW_some] <;> rfl), by repeat (first | (with_reducible first | exact HB.out | apply below_alloc | apply pw_below_drewN | apply below_drew1 | refine below_set ?_ GE173.out) | exact HB.out)⟩

end Go.Proofs.Ytedfcjcnhgomoaa.P
end
-- MERGED YtedfcjcnhgomoaaFrameG
section
/- The walk of frame.Get. -/
namespace Go.Proofs.Ytedfcjcnhgomoaa.FrameG
open Go.RowKit Go.Proofs.Ytedfcjcnhgomoaa.P Go.Proofs.YtedfcjcnhgomoaaW.PrintWords Go.Proofs.YtedfcjcnhgomoaaW.PrintLast Go.Proofs.YtedfcjcnhgomoaaW.PrintMore Go.Proofs.Ytedfcjcnhgomoaa.Own Go.Proofs.Ytedfcjcnhgomoaa.Vy Go.Proofs.Ytedfcjcnhgomoaa.FrameP Go.Proofs.Ytedfcjcnhgomoaa.FrameL Go.Proofs.Ytedfcjcnhgomoaa.VaryR
set_option linter.unusedSimpArgs false
set_option linter.unusedVariables false

/-- The blocks of Get's variables: the bytes, the packet that is told, the reader's pointer. -/
structure St (n g r : Nat) (v : Value) (w : World) : Prop where
  bytes : w.heap[n]? = some (.cells #[v] 25 (0, 0))
  pack : w.heap[n + 1]? = some (.cells #[.int .i64 0, .int .i64 0, .int .i64 0, .string ⟨#[]⟩] 23 (0, 0))
  rdr : w.heap[r]? = some (.cells #[.pointer (some ⟨g, 0, none⟩)] 73 (0, 0))
theorem lt_of {w : World} {k : Nat} {o : Obj} (h : w.heap[k]? = some o) : k < w.heap.size := (Array.getElem?_eq_some_iff.1 h).1
theorem St.below {n g r : Nat} {v : Value} {w w' : World} (h : St n g r v w) (hb : Below w.heap.size w w') : St n g r v w' :=
  ⟨(hb.block _ (lt_of h.bytes)).trans h.bytes, (hb.block _ (lt_of h.pack)).trans h.pack, (hb.block _ (lt_of h.rdr)).trans h.rdr⟩
theorem St.but {n g r k : Nat} {v : Value} {w w' : World} (h : St n g r v w) (hb : But k w w') (h1 : k ≠ n) (h2 : k ≠ n + 1) (h3 : k ≠ r) : St n g r v w' :=
  ⟨(hb.block _ (lt_of h.bytes) (fun e => h1 (by injection e with e; exact e.symm))).trans h.bytes, (hb.block _ (lt_of h.pack) (fun e => h2 (by injection e with e; exact e.symm))).trans h.pack, (hb.block _ (lt_of h.rdr) (fun e => h3 (by injection e with e; exact e.symm))).trans h.rdr⟩
theorem failed_c (a b : Int) (w : World) : Calls Try.prog 49 #[.int .i64 a, .int .i64 b] w fun e w' => e = .returned (.tuple #[.agg #[.int .i64 0, .int .i64 0, .int .i64 0, .string ⟨#[]⟩], .int .i64 a, .int .i64 b]) ∧ Below w.heap.size w w' :=
  api_Packet.calls a b 0 0 0 ⟨#[]⟩ a b w rfl

theorem pack_set {w : World} {q : Nat} {x0 x1 x2 x3 y0 y1 y2 y3 : Value} {T : TypeId} (h : w.heap[q]? = some (.cells #[x0, x1, x2, x3] T (0, 0))) :
    ((((w.setCell ⟨q, 0, none⟩ y0).setCell ⟨q, 1, none⟩ y1).setCell ⟨q, 2, none⟩ y2).setCell ⟨q, 3, none⟩ y3).heap[q]? = some (.cells #[y0, y1, y2, y3] T (0, 0)) :=
  blk_put (blk_put (blk_put (blk_put h 0 y0 rfl) 1 y1 rfl) 2 y2 rfl) 3 y3 rfl
theorem pack_noByte {w : World} {q : Nat} {a b c : Int} {d : ByteArray} {T : TypeId} (h : w.heap[q]? = some (.cells #[.int .i64 a, .int .i64 b, .int .i64 c, .string d] T (0, 0))) : ∀ o x, w.cell? ⟨q, o, none⟩ ≠ some (.int .u8 x) := by
  intro o x hc
  rw [cell_of_row w q o _ _ _ h] at hc
  match o with
  | 0 | 1 | 2 | 3 => simp at hc
  | o + 4 => simp at hc
theorem below_set4 {B : Nat} {a w : World} (h : Below B a w) {q : Nat} (hq : B ≤ q) (y0 y1 y2 y3 : Value) : Below B a ((((w.setCell ⟨q, 0, none⟩ y0).setCell ⟨q, 1, none⟩ y1).setCell ⟨q, 2, none⟩ y2).setCell ⟨q, 3, none⟩ y3) :=
  (((h.setCell (p := ⟨q, 0, none⟩) hq y0).setCell (p := ⟨q, 1, none⟩) hq y1).setCell (p := ⟨q, 2, none⟩) hq y2).setCell (p := ⟨q, 3, none⟩) hq y3
set_option maxHeartbeats 1000000 in
set_option maxRecDepth 100000 in
theorem head_c (n g r : Nat) (v : Value) (l : List Int) (k : Nat) (w : World) (hst : St n g r v w) (hr : Rd g w v l k false) (hk : k ≤ l.length) (hl : l.length ≤ 1000000) :
    Calls Try.prog 46 #[.pointer (some ⟨n, 0, none⟩), .pointer (some ⟨r, 0, none⟩)] w fun e w' => e = .returned (.int .i64 (k : Int)) ∧ ∃ d, w' = w.drewN d := by
  have hs : Sl w v l := by obtain ⟨_, h, _⟩ := hr; exact h.sl
  have c0 : w.cell? ⟨n, 0, none⟩ = some v := by rw [cell_of_row w n 0 _ _ _ hst.bytes]; rfl
  have c1 : w.cell? ⟨r, 0, none⟩ = some (.pointer (some ⟨g, 0, none⟩)) := by rw [cell_of_row w r 0 _ _ _ hst.rdr]; rfl
  have HR := Aside0.mk hr
  obtain ⟨A, c, rfl, hc, hC⟩ := hs
  obtain ⟨q, hq⟩ : ∃ q, q = l.length - k := ⟨_, rfl⟩
  have HQ := Aside0.mk hq
  have i1 : IntKind.i64.wrap ((l.length : Int) - (q : Int)) = (k : Int) := by rw [IntKind.wrap_i64]; omega
  have hlc : ∀ W, Rd g W (.slice A l.length c) l k false → Calls Try.prog 47 #[.pointer (some ⟨g, 0, none⟩)] W fun e w' => e = .returned (.int .i64 (q : Int)) ∧ ∃ d, w' = W.drewN d := by
    intro W hW
    have := nLeft g W _ l k false hW
    rw [show leftL l k false = q from hq.symm] at this
    exact this.mono fun e w' ⟨h1, ⟨d, h2⟩⟩ => ⟨h1, d, h2⟩
  have HLC := Aside0.mk hlc
  clear hst hC hq hr hk hl hlc
  go_enter Try.func46, Try.ntmps46
  go_wp2_with fail
  go_quiet ((go_at_call 47; exact Calls.quiet_of (HLC.out _ (HR.out.below (pw_below_drewN (Below.refl _ _) _)))))
  go_wp2_with fail
  go_ret
  exact ⟨rfl, _, rfl⟩
set_option maxHeartbeats 4000000 in
set_option maxRecDepth 100000 in
theorem get_c (v : Value) (l : List Int) (w : World) (hs : Sl w v l) (hok : Byt.Ok l) (hl : l.length ≤ 1000000) :
    Calls Try.prog 17 #[v] w fun e w' => e = .returned (.tuple #[(FrameL.get l).1.val, .int .i64 ((FrameL.get l).2.1 : Int), .int .i64 (FrameL.get l).2.2]) ∧ Below w.heap.size w w' := by
  have HS := Aside0.mk hs
  have HO := Aside0.mk hok
  have HL := Aside0.mk hl
  obtain ⟨A, c, rfl, hc, hC⟩ := hs
  clear hC hl hok
  go_enter Try.func17, Try.ntmps17
  go_wp2_with fail
  obtain ⟨w0, hw0⟩ : ∃ w0, w0 = (w.alloc (.cells #[.slice A l.length c] 25)).alloc (.cells #[.int .i64 0, .int .i64 0, .int .i64 0, .string ⟨#[]⟩] 23) := ⟨_, rfl⟩
  have hz0 : w0.heap.size = w.heap.size + 2 := by rw [hw0]; simp
  have hb0 : Below w.heap.size w w0 := by rw [hw0]; exact below_alloc (below_alloc (Below.refl _ _) _) _
  have hn0 : w0.heap[w.heap.size]? = some (.cells #[.slice A l.length c] 25 (0, 0)) := by rw [hw0, Own.heap_old _ _ _ (by simp)]; exact Own.heap_new _ _
  have hp0 : w0.heap[w.heap.size + 1]? = some (.cells #[.int .i64 0, .int .i64 0, .int .i64 0, .string ⟨#[]⟩] 23 (0, 0)) := by
    rw [hw0, ← World.size_alloc w (.cells #[.slice A l.length c] 25)]; exact Own.heap_new _ _
  rw [← hw0]
  clear hw0
  refine (VaryR.nRead _ _ l (HS.out.below hb0) (by have := HL.out; omega)).mono ?_
  rintro e w1 ⟨rfl, r1, b1, s1⟩
  rw [hz0] at r1 b1 s1 ⊢
  have hn1 := (b1.block (w.heap.size) (by omega)).trans hn0
  have hp1 := (b1.block (w.heap.size + 1) (by omega)).trans hp0
  have hb1 := hb0.trans (b1.mono (by omega))
  clear hn0 hp0 hb0 hz0 b1
  have HR1 := Aside0.mk r1
  have S1 := Aside0.mk s1
  have N1 := Aside0.mk hn1
  have P1 := Aside0.mk hp1
  have HB1 := Aside0.mk hb1
  clear r1 hn1 hp1 hb1 s1
  go_wp2_with fail
  obtain ⟨w2, hw2⟩ : ∃ w2, w2 = w1.alloc (.cells #[.pointer (some ⟨w.heap.size + 2, 0, none⟩)] 73) := ⟨_, rfl⟩
  have hr2 : w2.heap[w.heap.size + 3]? = some (.cells #[.pointer (some ⟨w.heap.size + 2, 0, none⟩)] 73 (0, 0)) := by rw [hw2, show w.heap.size + 3 = w1.heap.size from S1.out.symm]; exact Own.heap_new _ _
  have b2 : Below w1.heap.size w1 w2 := by rw [hw2]; exact below_alloc (Below.refl _ _) _
  have HR2 := Aside0.mk (HR1.out.below b2)
  have ST2 := Aside0.mk (St.mk ((b2.block _ (lt_of N1.out)).trans N1.out) ((b2.block _ (lt_of P1.out)).trans P1.out) hr2)
  have HB2 := Aside0.mk (HB1.out.trans (b2.mono HB1.out.size))
  have e1 : w1.heap.size = w.heap.size + 2 + 1 := S1.out
  rw [← hw2, e1]
  have hlv := HL.out
  clear hr2 b2 HR1 N1 P1 HB1 hw2 e1 S1
  obtain ⟨n, hn⟩ : ∃ n, n = w.heap.size := ⟨_, rfl⟩
  have HN := Aside0.mk hn
  rw [← hn] at HR2 ST2 ⊢
  clear hn
  have hnum := VaryR.nNum (n + 2) w2 (.slice A l.length c) l 0 false HR2.out HO.out
  rw [List.drop_zero, stepV_false num_zero] at hnum
  have hnn := numL_nonneg HO.out
  have hnle := numL_le HO.out
  have HG := Aside0.mk (show FrameL.get l = _ from rfl)
  obtain ⟨k, hk⟩ : ∃ k, (numL l).2 = k := ⟨_, rfl⟩
  obtain ⟨m, hm⟩ : ∃ m : Nat, (numL l).1 = (m : Int) := ⟨(numL l).1.toNat, by omega⟩
  rw [hk, hm] at hnum
  rw [hk] at hnle
  rw [hm] at hnn
  have hm1 : (m : Int) ≤ 4611686018427387904 := hnn.2
  have HK := Aside0.mk hk
  have HM := Aside0.mk hm
  refine hnum.mono ?_
  rintro e w3 ⟨rfl, r3, b3⟩
  have ST3 := Aside0.mk (ST2.out.but b3 (by omega) (by omega) (by omega))
  have HB3 := Aside0.mk (VaryR.But.step b3 HB2.out (show w.heap.size ≤ n + 2 by have := HN.out; omega) (Nat.le_refl _))
  have HS3 := Aside0.mk (VaryR.Sl.but (show Sl w2 (.slice A l.length c) l by obtain ⟨_, h, _⟩ := HR2.out; exact h.sl) b3 HR2.out.noByte)
  have R3 := Aside0.mk r3
  clear hnum hnn hk hm HR2 ST2 HB2 r3 b3
  by_cases hk0 : k = 0
  · have R3b := Aside0.mk (rd_no R3.out hk0)
    have HGET := Aside0.mk (show FrameL.get l = (zp, 0, 10) by unfold FrameL.get; rw [if_pos (HK.out.trans hk0)])
    have cr : w3.cell? ⟨n + 3, 0, none⟩ = some (.pointer (some ⟨n + 2, 0, none⟩)) := by rw [cell_of_row w3 _ 0 _ _ _ ST3.out.rdr]; rfl
    clear hk0 R3
    go_wp2_with fail
    refine (VaryR.nBad (n + 2) _ _ l 0 true R3b.out).mono ?_
    rintro e w4 ⟨rfl, rfl⟩
    go_wp2_with fail
    refine (failed_c _ _ _).mono ?_
    rintro e w9 ⟨rfl, b9⟩
    have hp9 := (ST3.out.below b9).pack
    have HB9 := Aside0.mk (HB3.out.trans (b9.mono HB3.out.size))
    have p0 : w9.cell? ⟨n + 1, 0, none⟩ = some (.int .i64 0) := by rw [cell_of_row w9 _ 0 _ _ _ hp9]; rfl
    have p1 : w9.cell? ⟨n + 1, 1, none⟩ = some (.int .i64 0) := by rw [cell_of_row w9 _ 1 _ _ _ hp9]; rfl
    have p2 : w9.cell? ⟨n + 1, 2, none⟩ = some (.int .i64 0) := by rw [cell_of_row w9 _ 2 _ _ _ hp9]; rfl
    have p3 : w9.cell? ⟨n + 1, 3, none⟩ = some (.string ⟨#[]⟩) := by rw [cell_of_row w9 _ 3 _ _ _ hp9]; rfl
    have f0 : w9.frozen? ⟨n + 1, 0, none⟩ = false := frozen_of_row w9 _ 0 _ _ hp9
    have f1 : w9.frozen? ⟨n + 1, 1, none⟩ = false := frozen_of_row w9 _ 1 _ _ hp9
    have f2 : w9.frozen? ⟨n + 1, 2, none⟩ = false := frozen_of_row w9 _ 2 _ _ hp9
    have f3 : w9.frozen? ⟨n + 1, 3, none⟩ = false := frozen_of_row w9 _ 3 _ _ hp9
    have HP9 := Aside0.mk hp9
    clear hp9 b9
    go_wp2_with fail
    refine bodyPost_ret (results_ctt rfl _ _ (n + 1) 23 #[.int .i64 0, .int .i64 0, .int .i64 0, .string ⟨#[]⟩] (0, 0) _ rfl (pack_set HP9.out) Try.underlying23 rfl (by kernel_rfl)) rfl ?_
    exact ⟨by rw [HGET.out]; rfl, below_set4 HB9.out (by have := HN.out; omega) _ _ _ _⟩
  · have R3b := Aside0.mk (show Rd (n + 2) w3 (.slice A l.length c) l k false by have := rd_ok R3.out hk0; rwa [Nat.zero_add] at this)
    have HK0 := Aside0.mk (show ¬ (numL l).2 = 0 by rw [HK.out]; exact hk0)
    have cr : w3.cell? ⟨n + 3, 0, none⟩ = some (.pointer (some ⟨n + 2, 0, none⟩)) := by rw [cell_of_row w3 _ 0 _ _ _ ST3.out.rdr]; rfl
    clear hk0 R3
    go_wp2_with fail
    refine (VaryR.nBad (n + 2) _ _ l k false R3b.out).mono ?_
    rintro e w4 ⟨rfl, rfl⟩
    by_cases hbig : 65576 < m
    · have hbig2 : (65576 : Int) < (m : Int) := by omega
      have HGET := Aside0.mk (show FrameL.get l = (zp, 0, 11) by unfold FrameL.get; rw [if_neg HK0.out, HM.out, if_pos hbig2])
      clear hbig
      go_wp2_with fail
      refine (failed_c _ _ _).mono ?_
      rintro e w9 ⟨rfl, b9⟩
      have hp9 := (ST3.out.below b9).pack
      have HB9 := Aside0.mk (HB3.out.trans (b9.mono HB3.out.size))
      have p0 : w9.cell? ⟨n + 1, 0, none⟩ = some (.int .i64 0) := by rw [cell_of_row w9 _ 0 _ _ _ hp9]; rfl
      have p1 : w9.cell? ⟨n + 1, 1, none⟩ = some (.int .i64 0) := by rw [cell_of_row w9 _ 1 _ _ _ hp9]; rfl
      have p2 : w9.cell? ⟨n + 1, 2, none⟩ = some (.int .i64 0) := by rw [cell_of_row w9 _ 2 _ _ _ hp9]; rfl
      have p3 : w9.cell? ⟨n + 1, 3, none⟩ = some (.string ⟨#[]⟩) := by rw [cell_of_row w9 _ 3 _ _ _ hp9]; rfl
      have f0 : w9.frozen? ⟨n + 1, 0, none⟩ = false := frozen_of_row w9 _ 0 _ _ hp9
      have f1 : w9.frozen? ⟨n + 1, 1, none⟩ = false := frozen_of_row w9 _ 1 _ _ hp9
      have f2 : w9.frozen? ⟨n + 1, 2, none⟩ = false := frozen_of_row w9 _ 2 _ _ hp9
      have f3 : w9.frozen? ⟨n + 1, 3, none⟩ = false := frozen_of_row w9 _ 3 _ _ hp9
      have HP9 := Aside0.mk hp9
      clear hp9 b9
      go_wp2_with fail
      refine bodyPost_ret (results_ctt rfl _ _ (n + 1) 23 #[.int .i64 0, .int .i64 0, .int .i64 0, .string ⟨#[]⟩] (0, 0) _ rfl (pack_set HP9.out) Try.underlying23 rfl (by kernel_rfl)) rfl ?_
      exact ⟨by rw [HGET.out]; rfl, below_set4 HB9.out (by have := HN.out; omega) _ _ _ _⟩
    · have hbig2 : ¬ (65576 : Int) < (m : Int) := by omega
      have hm2 : (m : Int) ≤ 65576 := by omega
      obtain ⟨q, hq⟩ : ∃ q, q = l.length - k := ⟨_, rfl⟩
      have HQ := Aside0.mk hq
      have hq2 : (q : Int) ≤ 1000000 := by omega
      clear hbig hq
      by_cases hsh : q < m + 4
      · have hsh2 : (q : Int) < (m : Int) + 4 := by omega
        have HGET := Aside0.mk (show FrameL.get l = (zp, 0, 10) by
          unfold FrameL.get
          rw [if_neg HK0.out, HM.out, if_neg hbig2, if_pos]
          unfold sizeL
          rw [HK.out, HM.out, Int.toNat_natCast]
          have := HQ.out
          omega)
        clear hsh
        go_wp2_with fail
        refine (VaryR.nLeft (n + 2) _ _ l k false R3b.out).mono ?_
        rintro e w5 ⟨rfl, n5, rfl⟩
        rw [show leftL l k false = q from HQ.out.symm]
        have ST5 := Aside0.mk (ST3.out.below (pw_below_drewN (Below.refl _ _) n5))
        have HB5 := Aside0.mk (pw_below_drewN HB3.out n5)
        go_wp2_with fail
        refine (failed_c _ _ _).mono ?_
        rintro e w9 ⟨rfl, b9⟩
        have hp9 := (ST5.out.below b9).pack
        have HB9 := Aside0.mk (HB5.out.trans (b9.mono HB5.out.size))
        have p0 : w9.cell? ⟨n + 1, 0, none⟩ = some (.int .i64 0) := by rw [cell_of_row w9 _ 0 _ _ _ hp9]; rfl
        have p1 : w9.cell? ⟨n + 1, 1, none⟩ = some (.int .i64 0) := by rw [cell_of_row w9 _ 1 _ _ _ hp9]; rfl
        have p2 : w9.cell? ⟨n + 1, 2, none⟩ = some (.int .i64 0) := by rw [cell_of_row w9 _ 2 _ _ _ hp9]; rfl
        have p3 : w9.cell? ⟨n + 1, 3, none⟩ = some (.string ⟨#[]⟩) := by rw [cell_of_row w9 _ 3 _ _ _ hp9]; rfl
        have f0 : w9.frozen? ⟨n + 1, 0, none⟩ = false := frozen_of_row w9 _ 0 _ _ hp9
        have f1 : w9.frozen? ⟨n + 1, 1, none⟩ = false := frozen_of_row w9 _ 1 _ _ hp9
        have f2 : w9.frozen? ⟨n + 1, 2, none⟩ = false := frozen_of_row w9 _ 2 _ _ hp9
        have f3 : w9.frozen? ⟨n + 1, 3, none⟩ = false := frozen_of_row w9 _ 3 _ _ hp9
        have HP9 := Aside0.mk hp9
        clear hp9 b9
        go_wp2_with fail
        refine bodyPost_ret (results_ctt rfl _ _ (n + 1) 23 #[.int .i64 0, .int .i64 0, .int .i64 0, .string ⟨#[]⟩] (0, 0) _ rfl (pack_set HP9.out) Try.underlying23 rfl (by kernel_rfl)) rfl ?_
        exact ⟨by rw [HGET.out]; rfl, below_set4 HB9.out (by have := HN.out; omega) _ _ _ _⟩
      · have hsh2 : ¬ (q : Int) < (m : Int) + 4 := by omega
        have hkml : k + m + 4 ≤ l.length := by have := HQ.out; omega
        have hks : (k : Int) + (m : Int) + 4 ≤ 1000000 := by omega
        have HG1 := Aside0.mk (get_long HK.out HK0.out HM.out hbig2 hkml)
        have HKML := Aside0.mk hkml
        have HKS := Aside0.mk hks
        clear hsh hkml hks
        go_wp2_with fail
        refine (VaryR.nLeft (n + 2) _ _ l k false R3b.out).mono ?_
        rintro e w5 ⟨rfl, n5, rfl⟩
        rw [show leftL l k false = q from HQ.out.symm]
        have ST5 := Aside0.mk (ST3.out.below (pw_below_drewN (Below.refl _ _) n5))
        have HB5 := Aside0.mk (pw_below_drewN HB3.out n5)
        have HS5 := Aside0.mk (HS3.out.drewN n5)
        have R5 := Aside0.mk (R3b.out.below (pw_below_drewN (Below.refl _ _) n5))
        clear ST3 HB3 HS3 R3b cr
        obtain ⟨w5, hw5⟩ : ∃ w5, w5 = w4.drewN n5 := ⟨_, rfl⟩
        rw [← hw5] at ST5 HB5 HS5 R5 ⊢
        clear hw5
        go_wp2_with fail
        refine (head_c n (n + 2) (n + 3) _ l k _ ST5.out R5.out (by have := HKML.out; omega) HL.out).mono ?_
        rintro e w6 ⟨rfl, d6, rfl⟩
        go_wp2_with fail
        have ST6 := Aside0.mk (ST5.out.below (pw_below_drewN (Below.refl _ _) d6))
        have HB6 := Aside0.mk (pw_below_drewN HB5.out d6)
        have R6 := Aside0.mk (R5.out.below (pw_below_drewN (Below.refl _ _) d6))
        have hs6 := HS5.out.drewN d6
        obtain ⟨u, hcut, hu⟩ := slice_mid (P := Try.prog) 25 5 Try.underlying25 info5 hs6 (k : Int) ((k : Int) + (m : Int) + 4) (by omega) (by omega) (by have := HKML.out; omega)
        rw [show ((k : Int) + (m : Int) + 4).toNat = k + m + 4 by omega, Int.toNat_natCast] at hu
        obtain ⟨seg, hseg⟩ : ∃ seg, seg = (l.take (k + m + 4)).drop k := ⟨_, rfl⟩
        rw [← hseg] at HG1 hu
        have HSEG := Aside0.mk (show seg.length ≤ 1000000 by rw [hseg, List.length_drop, List.length_take]; have := HL.out; omega)
        have HOSEG := Aside0.mk (show Byt.Ok seg by rw [hseg]; exact Byt.ok_drop (Byt.ok_take HO.out _) _)
        have HU := Aside0.mk hu
        clear ST5 HB5 R5 HS5 hs6 hu hseg
        obtain ⟨w6, hw6⟩ : ∃ w6, w6 = w5.drewN d6 := ⟨_, rfl⟩
        rw [← hw6] at ST6 HB6 R6 HU ⊢
        clear hw6
        have cn : w6.cell? ⟨n, 0, none⟩ = some (.slice A l.length c) := by rw [cell_of_row w6 n 0 _ _ _ ST6.out.bytes]; rfl
        have HH := Aside0.mk (fun (W : World) (h : Below w6.heap.size w6 W) => head_c n (n + 2) (n + 3) _ l k W (ST6.out.below h) (R6.out.below h) (by have := HKML.out; omega) HL.out)
        have HOP := Aside0.mk (fun (W : World) (h : Below w6.heap.size w6 W) => Nice.nOpen u seg W (HU.out.below h) HSEG.out)
        have hop2 := HOP.out
        clear HOP
        cases hop : Nice.openB seg with
        | false =>
          rw [hop] at hop2
          have HOP := Aside0.mk hop2
          have HO2 := Aside0.mk hop
          clear hop2 hop
          go_region_with (first | (go_at_call 46; refine (HH.out _ (by repeat (first | exact Below.refl _ _ | apply below_drew1 | apply pw_below_drewN))).mono ?_; rintro e w' ⟨rfl, d, rfl⟩) | (go_at_call 50; refine (HOP.out _ (by repeat (first | exact Below.refl _ _ | apply below_drew1 | apply pw_below_drewN))).mono ?_; rintro e w7 ⟨x, rfl, hx, hb⟩; have HX := Aside0.mk hx; have HBX := Aside0.mk hb; clear hx hb))
          all_goals
            have hb7 := (fun {W w' : World} (h : Below W.heap.size W w') (h0 : Below w6.heap.size w6 W) => below_step h0 h) HBX.out (by repeat (first | exact Below.refl _ _ | apply below_drew1 | apply pw_below_drewN))
            have P7 := Aside0.mk ((hb7.block _ (lt_of ST6.out.pack)).trans ST6.out.pack)
            have HB7 := Aside0.mk (HB6.out.trans (hb7.mono HB6.out.size))
            have HX7 := Aside0.mk HX.out
            clear hb7 HBX HX cn HU ST6 HB6 R6 HH HOP
            obtain ⟨sz, hsz⟩ : ∃ sz, sz = k + m + 4 := ⟨_, rfl⟩
            have HCAST := Aside0.mk (show (k : Int) + (m : Int) + 4 = (sz : Int) by omega)
            have hszb : (sz : Int) ≤ 1000000 := by have := HKML.out; have := HL.out; omega
            rw [← hsz] at HG1
            clear hsz
            have HGET := Aside0.mk (HG1.out.trans (tail_shut HO2.out))
            go_wp2_with fail
            rw [HCAST.out]
            refine (failed_c _ _ _).mono ?_
            rintro e w9 ⟨rfl, b9⟩
            have hp9 := (b9.block _ (lt_of P7.out)).trans P7.out
            have HB9 := Aside0.mk (HB7.out.trans (b9.mono HB7.out.size))
            have p0 : w9.cell? ⟨n + 1, 0, none⟩ = some (.int .i64 0) := by rw [cell_of_row w9 _ 0 _ _ _ hp9]; rfl
            have p1 : w9.cell? ⟨n + 1, 1, none⟩ = some (.int .i64 0) := by rw [cell_of_row w9 _ 1 _ _ _ hp9]; rfl
            have p2 : w9.cell? ⟨n + 1, 2, none⟩ = some (.int .i64 0) := by rw [cell_of_row w9 _ 2 _ _ _ hp9]; rfl
            have p3 : w9.cell? ⟨n + 1, 3, none⟩ = some (.string ⟨#[]⟩) := by rw [cell_of_row w9 _ 3 _ _ _ hp9]; rfl
            have f0 : w9.frozen? ⟨n + 1, 0, none⟩ = false := frozen_of_row w9 _ 0 _ _ hp9
            have f1 : w9.frozen? ⟨n + 1, 1, none⟩ = false := frozen_of_row w9 _ 1 _ _ hp9
            have f2 : w9.frozen? ⟨n + 1, 2, none⟩ = false := frozen_of_row w9 _ 2 _ _ hp9
            have f3 : w9.frozen? ⟨n + 1, 3, none⟩ = false := frozen_of_row w9 _ 3 _ _ hp9
            have HP9 := Aside0.mk hp9
            clear hp9 b9
            go_wp2_with fail
            refine bodyPost_ret (results_ctt rfl _ _ (n + 1) 23 #[.int .i64 0, .int .i64 0, .int .i64 0, .string ⟨#[]⟩] (0, 0) _ rfl (pack_set HP9.out) Try.underlying23 rfl (by kernel_rfl)) rfl ?_
            exact ⟨by rw [HGET.out]; rfl, below_set4 HB9.out (by have := HN.out; omega) _ _ _ _⟩
        | true =>
          rw [hop] at hop2
          have HOP := Aside0.mk hop2
          have HO2 := Aside0.mk hop
          clear hop2 hop
          go_region_with (first | (go_at_call 46; refine (HH.out _ (by repeat (first | exact Below.refl _ _ | apply below_drew1 | apply pw_below_drewN))).mono ?_; rintro e w' ⟨rfl, d, rfl⟩) | (go_at_call 50; refine (HOP.out _ (by repeat (first | exact Below.refl _ _ | apply below_drew1 | apply pw_below_drewN))).mono ?_; rintro e w7 ⟨x, rfl, hx, hb⟩; have HX := Aside0.mk hx; have HBX := Aside0.mk hb; clear hx hb))
          all_goals
            have hb7 := (fun {W w' : World} (h : Below W.heap.size W w') (h0 : Below w6.heap.size w6 W) => below_step h0 h) HBX.out (by repeat (first | exact Below.refl _ _ | apply below_drew1 | apply pw_below_drewN))
            have P7 := Aside0.mk ((hb7.block _ (lt_of ST6.out.pack)).trans ST6.out.pack)
            have HB7 := Aside0.mk (HB6.out.trans (hb7.mono HB6.out.size))
            have HX7 := Aside0.mk HX.out
            clear hb7 HBX HX cn HU ST6 HB6 R6 HH HOP
            obtain ⟨sz, hsz⟩ : ∃ sz, sz = k + m + 4 := ⟨_, rfl⟩
            have HCAST := Aside0.mk (show (k : Int) + (m : Int) + 4 = (sz : Int) by omega)
            have hszb : (sz : Int) ≤ 1000000 := by have := HKML.out; have := HL.out; omega
            rw [← hsz] at HG1
            clear hsz
            have HOPN := HO2
            obtain ⟨y, hy⟩ : ∃ y, y = Nice.openL seg := ⟨_, rfl⟩
            rw [← hy] at HX7
            have HOY := Aside0.mk (show Byt.Ok y by rw [hy]; unfold Nice.openL; split; exact Byt.ok_take HOSEG.out _; exact Byt.ok_nil)
            have HYL := Aside0.mk (show y.length ≤ 1000000 by rw [hy]; unfold Nice.openL; split; (rw [List.length_take]; have := HSEG.out; omega); simp)
            have HY := Aside0.mk hy
            clear hy
            go_wp2_with fail
            refine (VaryR.nRead _ _ y HX7.out (by have := HYL.out; omega)).mono ?_
            rintro e w8 ⟨rfl, r8, b8, s8⟩
            obtain ⟨g, hg⟩ : ∃ g, g = w7.heap.size := ⟨_, rfl⟩
            have HGN := Aside0.mk (show n + 1 < g by have := lt_of P7.out; omega)
            rw [← hg] at r8 ⊢
            have R8 := Aside0.mk r8
            have P8 := Aside0.mk ((b8.block _ (lt_of P7.out)).trans P7.out)
            have HB8 := Aside0.mk (HB7.out.trans (b8.mono HB7.out.size))
            clear r8 b8 s8 hg P7 HB7
            have but_pack : ∀ {w w' : World} {cs : Array Value}, w.heap[n + 1]? = some (.cells cs 23 (0, 0)) → But g w w' → w'.heap[n + 1]? = some (.cells cs 23 (0, 0)) := fun h hb => (hb.block _ (lt_of h) (fun e => by have := HGN.out; injection e with e; omega)).trans h
            have BP := Aside0.mk @but_pack
            have HNG := Aside0.mk (show w.heap.size ≤ g by have := HN.out; have := HGN.out; omega)
            clear but_pack
            go_wp2_with fail
            refine (show Calls _ _ _ _ (RdPost g x y 0 false (.int .i64 (pk y).e) (numL (y.drop 0)).2 _) from VaryR.nNum g _ _ y 0 false R8.out HOY.out).mono ?_
            rintro e w10 ⟨rfl, r10, b10⟩
            have R10 := Aside0.mk (show Rd g w10 x y (a1 y) (b1 y) from r10)
            have P10 := Aside0.mk (BP.out P8.out b10)
            have HB10 := Aside0.mk (VaryR.But.step b10 HB8.out HNG.out (Nat.le_refl _))
            clear r10 b10 R8 P8 HB8
            go_wp2_with fail
            refine (show Calls _ _ _ _ (RdPost g x y (a1 y) (b1 y) (.int .i64 (pk y).s) (numL (y.drop (a1 y))).2 _) from VaryR.nNum g _ _ y (a1 y) (b1 y) R10.out HOY.out).mono ?_
            rintro e w11 ⟨rfl, r11, b11⟩
            have R11 := Aside0.mk (show Rd g w11 x y (a2 y) (b2 y) from r11)
            have P11 := Aside0.mk (BP.out P10.out b11)
            have HB11 := Aside0.mk (VaryR.But.step b11 HB10.out HNG.out (Nat.le_refl _))
            clear r11 b11 R10 P10 HB10
            go_wp2_with fail
            refine (show Calls _ _ _ _ (RdPost g x y (a2 y) (b2 y) (.int .i64 (pk y).a) (numL (y.drop (a2 y))).2 _) from VaryR.nNum g _ _ y (a2 y) (b2 y) R11.out HOY.out).mono ?_
            rintro e w12 ⟨rfl, r12, b12⟩
            have R12 := Aside0.mk (show Rd g w12 x y (a3 y) (b3 y) from r12)
            have P12 := Aside0.mk (BP.out P11.out b12)
            have HB12 := Aside0.mk (VaryR.But.step b12 HB11.out HNG.out (Nat.le_refl _))
            clear r12 b12 R11 P11 HB11
            go_wp2_with fail
            refine (show Calls _ _ _ _ (RdPost g x y (a3 y) (b3 y) (.string (pk y).d) (textL (y.drop (a3 y))).2 _) from VaryR.nText g _ _ y (a3 y) (b3 y) R12.out HOY.out).mono ?_
            rintro e w13 ⟨rfl, r13, b13⟩
            have R13 := Aside0.mk (show Rd g w13 x y (a4 y) (b4 y) from r13)
            have P13 := Aside0.mk (BP.out P12.out b13)
            have HB13 := Aside0.mk (VaryR.But.step b13 HB12.out HNG.out (Nat.le_refl _))
            clear r13 b13 R12 P12 HB12
            have q0 : w13.cell? ⟨n + 1, 0, none⟩ = some (.int .i64 0) := by rw [cell_of_row w13 _ 0 _ _ _ P13.out]; rfl
            have q1 : w13.cell? ⟨n + 1, 1, none⟩ = some (.int .i64 0) := by rw [cell_of_row w13 _ 1 _ _ _ P13.out]; rfl
            have q2 : w13.cell? ⟨n + 1, 2, none⟩ = some (.int .i64 0) := by rw [cell_of_row w13 _ 2 _ _ _ P13.out]; rfl
            have q3 : w13.cell? ⟨n + 1, 3, none⟩ = some (.string ⟨#[]⟩) := by rw [cell_of_row w13 _ 3 _ _ _ P13.out]; rfl
            have g0 : w13.frozen? ⟨n + 1, 0, none⟩ = false := frozen_of_row w13 _ 0 _ _ P13.out
            have g1 : w13.frozen? ⟨n + 1, 1, none⟩ = false := frozen_of_row w13 _ 1 _ _ P13.out
            have g2 : w13.frozen? ⟨n + 1, 2, none⟩ = false := frozen_of_row w13 _ 2 _ _ P13.out
            have g3 : w13.frozen? ⟨n + 1, 3, none⟩ = false := frozen_of_row w13 _ 3 _ _ P13.out
            go_wp2_with fail
            rw [HCAST.out]
            obtain ⟨w14, hw14⟩ : ∃ w14, w14 = (((w13.setCell ⟨n + 1, 0, none⟩ (.int .i64 (pk y).e)).setCell ⟨n + 1, 1, none⟩ (.int .i64 (pk y).s)).setCell ⟨n + 1, 2, none⟩ (.int .i64 (pk y).a)).setCell ⟨n + 1, 3, none⟩ (.string (pk y).d) := ⟨_, rfl⟩
            have P14 := Aside0.mk (show w14.heap[n + 1]? = some (.cells #[.int .i64 (pk y).e, .int .i64 (pk y).s, .int .i64 (pk y).a, .string (pk y).d] 23 (0, 0)) by rw [hw14]; exact pack_set P13.out)
            have hbut : But (n + 1) w13 w14 := by rw [hw14]; exact (((But.setCell _ 0 _ _).trans (But.setCell _ 1 _ _)).trans (But.setCell _ 2 _ _)).trans (But.setCell _ 3 _ _)
            have R14 := Aside0.mk (R13.out.but hbut (by have := HGN.out; omega) (pack_noByte P13.out))
            have HB14 := Aside0.mk (show Below w.heap.size w w14 by rw [hw14]; exact below_set4 HB13.out (by have := HN.out; omega) _ _ _ _)
            rw [← hw14]
            clear hw14 hbut R13 P13 HB13 q0 q1 q2 q3 g0 g1 g2 g3
            refine (VaryR.nDone g _ _ y (a4 y) (b4 y) R14.out).mono ?_
            rintro e w15 ⟨rfl, n15, rfl⟩
            rw [show (!b4 y && decide (y.length - a4 y = 0)) = dn y from rfl]
            have P15 := Aside0.mk (show (w14.drewN n15).heap[n + 1]? = _ from P14.out)
            have HB15 := Aside0.mk (pw_below_drewN HB14.out n15)
            clear P14 R14 HB14
            obtain ⟨w16, hw16⟩ : ∃ w16, w16 = w14.drewN n15 := ⟨_, rfl⟩
            rw [← hw16] at P15 HB15 ⊢
            clear hw16
            cases hdn : dn y with
            | false =>
              have HGET := Aside0.mk (HG1.out.trans (tail_none HO2.out (by rw [← HY.out]; unfold parse; rw [hdn]; rfl)))
              clear hdn
              go_wp2_with fail
              refine (failed_c _ _ _).mono ?_
              rintro e w19 ⟨rfl, b9⟩
              have hp9 := (b9.block _ (lt_of P15.out)).trans P15.out
              have HB9 := Aside0.mk (HB15.out.trans (b9.mono HB15.out.size))
              have p0 : w19.cell? ⟨n + 1, 0, none⟩ = some (.int .i64 (pk y).e) := by rw [cell_of_row w19 _ 0 _ _ _ hp9]; rfl
              have p1 : w19.cell? ⟨n + 1, 1, none⟩ = some (.int .i64 (pk y).s) := by rw [cell_of_row w19 _ 1 _ _ _ hp9]; rfl
              have p2 : w19.cell? ⟨n + 1, 2, none⟩ = some (.int .i64 (pk y).a) := by rw [cell_of_row w19 _ 2 _ _ _ hp9]; rfl
              have p3 : w19.cell? ⟨n + 1, 3, none⟩ = some (.string (pk y).d) := by rw [cell_of_row w19 _ 3 _ _ _ hp9]; rfl
              have f0 : w19.frozen? ⟨n + 1, 0, none⟩ = false := frozen_of_row w19 _ 0 _ _ hp9
              have f1 : w19.frozen? ⟨n + 1, 1, none⟩ = false := frozen_of_row w19 _ 1 _ _ hp9
              have f2 : w19.frozen? ⟨n + 1, 2, none⟩ = false := frozen_of_row w19 _ 2 _ _ hp9
              have f3 : w19.frozen? ⟨n + 1, 3, none⟩ = false := frozen_of_row w19 _ 3 _ _ hp9
              have HP9 := Aside0.mk hp9
              clear hp9 b9
              go_wp2_with fail
              refine bodyPost_ret (results_ctt rfl _ _ (n + 1) 23 #[.int .i64 0, .int .i64 0, .int .i64 0, .string ⟨#[]⟩] (0, 0) _ rfl (pack_set HP9.out) Try.underlying23 rfl (by kernel_rfl)) rfl ?_
              exact ⟨by rw [HGET.out]; rfl, below_set4 HB9.out (by have := HN.out; omega) _ _ _ _⟩
            | true =>
              have c0 : w16.cell? ⟨n + 1, 0, none⟩ = some (.int .i64 (pk y).e) := by rw [cell_of_row w16 _ 0 _ _ _ P15.out]; rfl
              have c1 : w16.cell? ⟨n + 1, 1, none⟩ = some (.int .i64 (pk y).s) := by rw [cell_of_row w16 _ 1 _ _ _ P15.out]; rfl
              have c2 : w16.cell? ⟨n + 1, 2, none⟩ = some (.int .i64 (pk y).a) := by rw [cell_of_row w16 _ 2 _ _ _ P15.out]; rfl
              have c3 : w16.cell? ⟨n + 1, 3, none⟩ = some (.string (pk y).d) := by rw [cell_of_row w16 _ 3 _ _ _ P15.out]; rfl
              have hgd := good_c (pk y)
              unfold Pk.val at hgd
              cases hgp : good (pk y) with
              | false =>
                have HGET := Aside0.mk (HG1.out.trans (tail_none HO2.out (by rw [← HY.out]; unfold parse; rw [hdn, hgp]; rfl)))
                rw [hgp] at hgd
                have HGD := Aside0.mk hgd
                clear hdn hgp hgd
                go_wp2_with fail
                refine (HGD.out _).mono ?_
                rintro e w17 ⟨rfl, b17⟩
                have P17 := Aside0.mk ((b17.block _ (lt_of P15.out)).trans P15.out)
                have HB17 := Aside0.mk (HB15.out.trans (b17.mono HB15.out.size))
                clear b17 P15 HB15 c0 c1 c2 c3
                go_wp2_with fail
                refine (failed_c _ _ _).mono ?_
                rintro e w19 ⟨rfl, b9⟩
                have hp9 := (b9.block _ (lt_of P17.out)).trans P17.out
                have HB9 := Aside0.mk (HB17.out.trans (b9.mono HB17.out.size))
                have p0 : w19.cell? ⟨n + 1, 0, none⟩ = some (.int .i64 (pk y).e) := by rw [cell_of_row w19 _ 0 _ _ _ hp9]; rfl
                have p1 : w19.cell? ⟨n + 1, 1, none⟩ = some (.int .i64 (pk y).s) := by rw [cell_of_row w19 _ 1 _ _ _ hp9]; rfl
                have p2 : w19.cell? ⟨n + 1, 2, none⟩ = some (.int .i64 (pk y).a) := by rw [cell_of_row w19 _ 2 _ _ _ hp9]; rfl
                have p3 : w19.cell? ⟨n + 1, 3, none⟩ = some (.string (pk y).d) := by rw [cell_of_row w19 _ 3 _ _ _ hp9]; rfl
                have f0 : w19.frozen? ⟨n + 1, 0, none⟩ = false := frozen_of_row w19 _ 0 _ _ hp9
                have f1 : w19.frozen? ⟨n + 1, 1, none⟩ = false := frozen_of_row w19 _ 1 _ _ hp9
                have f2 : w19.frozen? ⟨n + 1, 2, none⟩ = false := frozen_of_row w19 _ 2 _ _ hp9
                have f3 : w19.frozen? ⟨n + 1, 3, none⟩ = false := frozen_of_row w19 _ 3 _ _ hp9
                have HP9 := Aside0.mk hp9
                clear hp9 b9
                go_wp2_with fail
                refine bodyPost_ret (results_ctt rfl _ _ (n + 1) 23 #[.int .i64 0, .int .i64 0, .int .i64 0, .string ⟨#[]⟩] (0, 0) _ rfl (pack_set HP9.out) Try.underlying23 rfl (by kernel_rfl)) rfl ?_
                exact ⟨by rw [HGET.out]; rfl, below_set4 HB9.out (by have := HN.out; omega) _ _ _ _⟩
              | true =>
                have HGET := Aside0.mk (HG1.out.trans (tail_some (p := pk y) HO2.out (by rw [← HY.out]; unfold parse; rw [hdn, hgp]; rfl)))
                rw [hgp] at hgd
                have HGD := Aside0.mk hgd
                clear hdn hgp hgd
                go_wp2_with fail
                refine (HGD.out _).mono ?_
                rintro e w17 ⟨rfl, b17⟩
                have hp9 := (b17.block _ (lt_of P15.out)).trans P15.out
                have HB17 := Aside0.mk (HB15.out.trans (b17.mono HB15.out.size))
                have p0 : w17.cell? ⟨n + 1, 0, none⟩ = some (.int .i64 (pk y).e) := by rw [cell_of_row w17 _ 0 _ _ _ hp9]; rfl
                have p1 : w17.cell? ⟨n + 1, 1, none⟩ = some (.int .i64 (pk y).s) := by rw [cell_of_row w17 _ 1 _ _ _ hp9]; rfl
                have p2 : w17.cell? ⟨n + 1, 2, none⟩ = some (.int .i64 (pk y).a) := by rw [cell_of_row w17 _ 2 _ _ _ hp9]; rfl
                have p3 : w17.cell? ⟨n + 1, 3, none⟩ = some (.string (pk y).d) := by rw [cell_of_row w17 _ 3 _ _ _ hp9]; rfl
                have f0 : w17.frozen? ⟨n + 1, 0, none⟩ = false := frozen_of_row w17 _ 0 _ _ hp9
                have f1 : w17.frozen? ⟨n + 1, 1, none⟩ = false := frozen_of_row w17 _ 1 _ _ hp9
                have f2 : w17.frozen? ⟨n + 1, 2, none⟩ = false := frozen_of_row w17 _ 2 _ _ hp9
                have f3 : w17.frozen? ⟨n + 1, 3, none⟩ = false := frozen_of_row w17 _ 3 _ _ hp9
                have HP9 := Aside0.mk hp9
                clear hp9 b17 P15 HB15 c0 c1 c2 c3
                go_wp2_with fail
                refine bodyPost_ret (results_ctt rfl _ _ (n + 1) 23 #[.int .i64 (pk y).e, .int .i64 (pk y).s, .int .i64 (pk y).a, .string (pk y).d] (0, 0) _ rfl (pack_set HP9.out) Try.underlying23 rfl (by kernel_rfl)) rfl ?_
                exact ⟨by rw [HGET.out]; rfl, below_set4 HB17.out (by have := HN.out; omega) _ _ _ _⟩
end Go.Proofs.Ytedfcjcnhgomoaa.FrameG
end

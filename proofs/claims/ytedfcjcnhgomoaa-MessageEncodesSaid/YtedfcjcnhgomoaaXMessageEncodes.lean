/- Shaken: what the claim's theorem needs of our texts, of the printed ones and of the print's words. -/
import Derived.Test.YtedfcjcnhgomoaaXMessageEncodesF
import Derived.Deep.QuietTactic
import Derived.BigQuiet
import Derived.Deep.Slices
import Derived.ChangeArms
import Derived.OpenShut
import Derived.ShutString
import Derived.SizedLaws
import Derived.ChangeSlices
import Derived.Test.YtedfcjcnhgomoaaRows
import Derived.WalkKit
import Derived.ProofKit
import Derived.ChangeOld
import Derived.Below
-- MERGED YtedfcjcnhgomoaaMsgLaw
section
namespace Go.Proofs.Ytedfcjcnhgomoaa.MsgLaw
open Go.RowKit Go.Proofs.Ytedfcjcnhgomoaa.EditK Go.Proofs.Ytedfcjcnhgomoaa.P Go.Proofs.YtedfcjcnhgomoaaW.PrintWords Go.Proofs.YtedfcjcnhgomoaaW.PrintLast Go.Proofs.YtedfcjcnhgomoaaW.PrintMore Go.Proofs.Ytedfcjcnhgomoaa.Own Go.Proofs.Ytedfcjcnhgomoaa.Vy Go.Proofs.Ytedfcjcnhgomoaa.NoteN Go.Proofs.Ytedfcjcnhgomoaa.MsgA Go.Proofs.Ytedfcjcnhgomoaa.MsgD Go.Proofs.Ytedfcjcnhgomoaa.MsgW Go.Proofs.Ytedfcjcnhgomoaa.MsgE Go.Proofs.Ytedfcjcnhgomoaa.MsgR Go.Proofs.Ytedfcjcnhgomoaa.MsgQ Go.Proofs.Ytedfcjcnhgomoaa.MsgS Go.Proofs.Ytedfcjcnhgomoaa.MsgLives
set_option linter.unusedSimpArgs false
set_option linter.unusedVariables false
theorem light_l (l : List EditL.Rn) (hl : l.length ≤ 140737488351232) : ∀ (suf pre : List EditL.Rn) (k : Nat), l = pre ++ suf → suf.length < k → ∃ b, variorumlaw06_Light.l0 k l (l.length : Int) (pre.length : Int) = some b ∧ (b = true → wgt suf ≤ 218 * suf.length) := by
 intro suf
 induction suf with
 | nil =>
  intro pre k hfe hk
  obtain ⟨k, rfl⟩ : ∃ m, k = m + 1 := ⟨k - 1, by omega⟩
  have : l.length = pre.length := by rw [hfe]; simp
  simp only [variorumlaw06_Light.l0]
  rw [if_neg (by omega)]
  exact ⟨true, rfl, fun _ => by simp [wgt]⟩
 | cons r suf ih =>
  intro pre k hfe hk
  obtain ⟨k, rfl⟩ : ∃ m, k = m + 1 := ⟨k - 1, by omega⟩
  obtain ⟨hl2, hn, hlt⟩ := snoc hfe
  obtain ⟨b, hb, hb2⟩ := ih (pre ++ [r]) k hl2 (by simp at hk; omega)
  rw [hn] at hb
  simp only [variorumlaw06_Light.l0]
  rw [if_pos hlt, if_pos (by omega), if_pos hlt, rd_at hfe, w64 (x := (pre.length : Int) + 1) (by omega) (by omega), hb]
  by_cases h : (r.f1.size : Int) > 200
  ·rw [if_pos h]; exact ⟨false, rfl, fun h => by cases h⟩
  ·rw [if_neg h]
   refine ⟨b, rfl, fun e => ?_⟩
   have := hb2 e
   simp only [wgt, List.length_cons]
   omega
theorem light_f (m : Ms) (k : Nat) (hk : 200 ≤ k) : ∃ b, variorumlaw11_Light.f k m.k m.c m.e m.r m.s m.d m.o m.t m.n = some b ∧ (b = true → Small m) := by
 unfold variorumlaw11_Light.f variorumlaw06_Light.f
 by_cases h : (m.o.length : Int) > 100
 ·rw [if_pos h]; exact ⟨false, rfl, fun h => by cases h⟩
 ·rw [if_neg h]
  obtain ⟨b, h1, h2⟩ := light_l m.o (by omega) m.o [] k rfl (by omega)
  rw [show ((([] : List EditL.Rn).length : Nat) : Int) = 0 from rfl] at h1
  rw [h1, Option.bind_some]
  cases b with
  | false => exact ⟨false, rfl, fun h => by cases h⟩
  | true =>
   have hw := h2 rfl
   rw [if_pos rfl]
   by_cases ht : (m.t.size : Int) ≤ 4000
   ·rw [if_pos ht]
    refine ⟨_, rfl, fun e => ?_⟩
    have hn := of_decide_eq_true e
    exact ⟨by omega, by omega, by omega, by omega⟩
   ·rw [if_neg ht]; exact ⟨false, rfl, fun h => by cases h⟩
theorem cells_ms {P : Nat} {m : Ms} {A6 A8 : Option Addr} {c6 c8 : Nat} {W : World} (h : Blk P (m.mg A6 c6 A8 c8) W) : (W.cell? ⟨P, 0, none⟩ = some (.int .i64 m.k) ∧ W.cell? ⟨P, 1, none⟩ = some (.int .i64 m.c) ∧ W.cell? ⟨P, 2, none⟩ = some (.int .i64 m.e) ∧ W.cell? ⟨P, 3, none⟩ = some (.int .i64 m.r) ∧ W.cell? ⟨P, 4, none⟩ = some (.int .i64 m.s) ∧ W.cell? ⟨P, 5, none⟩ = some (.int .i64 m.d)) ∧ W.cell? ⟨P, 6, none⟩ = some (.slice A6 m.o.length c6) ∧ W.cell? ⟨P, 7, none⟩ = some (.string m.t) ∧ W.cell? ⟨P, 8, none⟩ = some (.slice A8 m.n.length c8) := h.cells
theorem same_r (a b : Ms) (A6 : Option Addr) (c6 : Nat) (A8 : Option Addr) (c8 : Nat) (B6 : Option Addr) (d6 : Nat) (B8 : Option Addr) (d8 : Nat) (w : World) (ha : Lies a A6 c6 A8 c8 w) (hb : Lies b B6 d6 B8 d8 w) (ho : a.o.length ≤ 1000000) (hn : a.n.length ≤ 1000000) (r : Bool) (hr : r = true ↔ a = b) :
  Calls Try.prog 25 #[(a.mg A6 c6 A8 c8).val, (b.mg B6 d6 B8 d8).val] w (fun e w' => e = .returned (.bool r) ∧ Below w.heap.size w w') := by
 obtain ⟨r', h1, h2⟩ := same_m a b A6 c6 A8 c8 B6 d6 B8 d8 w ha hb ho hn
 have e : r' = r := by
  rw [Bool.eq_iff_iff, h2, hr]
 rw [← e]
 exact h1
def R5.T5 : Bool × List (List Nat × List Nat) := (true, [([], []), ([0], [0]), ([], []), ([2, 1], [2]), ([1, 3], [1, 3]), ([4, 3], [4]), ([5], [5]), ([6, 5], [5, 6]), ([5], [5]), ([8, 5], [5, 8]), ([7, 9, 5], [5, 7, 9]), ([5, 10], [5, 10]), ([11, 5], [11]), ([12], [12]), ([12], [12]), ([13, 14, 12], [12, 13, 14]), ([12, 15], [12, 15]), ([16, 12], [16]), ([17], [17]), ([17], [17]), ([18, 19, 17, 17], [17, 18, 19]), ([17], [17]), ([17], [17]), ([21, 22, 20, 17], [17, 21, 22]), ([20, 23, 17], [17, 20, 23]), ([17, 24], [17, 24]), ([25, 23], [25]), ([26], [26]), ([26], [26]), ([27, 28, 26, 26], [26, 27, 28]), ([26, 29], [26, 29]), ([30, 29], [30]), ([31, 31], [31]), ([31, 32], [31, 32]), ([33, 32, 0, 1, 2, 3, 4, 5, 6, 7, 8, 9, 10, 11, 12, 13, 14, 15, 16, 17, 18, 19, 20, 21, 22, 23, 24, 25, 26, 27, 28, 29, 30, 31, 32, 33], [33])])
def R5.B5 : List Nat := [0, 1, 0, 7, 15, 31, 63, 127, 63, 319, 1023, 2047, 4095, 8191, 8191, 32767, 65535, 131071, 262143, 262143, 1048575, 262143, 262143, 8388607, 16777215, 33554431, 67108863, 134217727, 134217727, 536870911, 1073741823, 2147483647, 4294967295, 8589934591, 17179869183]
theorem R5.tab5 : rtab .any (opsOf Try.f7 5) = R5.T5 := by kernel_rfl
theorem R5.bits5 : waitsOk R5.T5.2 R5.B5 = true := by kernel_rfl
set_option maxHeartbeats 32000000 in
set_option maxRecDepth 100000 in
theorem encodes_c (p q : Ms) (A6 : Option Addr) (c6 : Nat) (A8 : Option Addr) (c8 : Nat) (B6 : Option Addr) (d6 : Nat) (B8 : Option Addr) (d8 : Nat) (w : World) (hp : Lies p A6 c6 A8 c8 w) (hq : Lies q B6 d6 B8 d8 w) :
  Calls Try.prog 7 #[(p.mg A6 c6 A8 c8).val, (q.mg B6 d6 B8 d8).val] w fun e w' => e = .returned (.bool true) ∧ Below w.heap.size w w' := by
 obtain ⟨K0, hK0⟩ : ∃ K0, K0 = 20000000 := ⟨_, rfl⟩
 obtain ⟨tp, htp, hsp⟩ := light_f p K0 (by omega)
 obtain ⟨tq, htq, hsq⟩ := light_f q K0 (by omega)
 obtain ⟨P, hP⟩ : ∃ P, P = w.heap.size := ⟨_, rfl⟩
 obtain ⟨w1, hw1⟩ : ∃ w1, w1 = (w.alloc (.cells (p.mg A6 c6 A8 c8).cs 44)).alloc (.cells (q.mg B6 d6 B8 d8).cs 44) := ⟨_, rfl⟩
 have HLO := Aside0.mk (show Below w.heap.size w w1 by rw [hw1]; exact below_alloc (below_alloc (Below.refl _ _) _) _)
 have HBP := Aside0.mk (show Blk P (p.mg A6 c6 A8 c8) w1 by unfold Blk; rw [hw1, hP, Own.heap_old _ _ _ (by simp)]; exact Own.heap_new _ _)
 have HBQ := Aside0.mk (show Blk (P + 1) (q.mg B6 d6 B8 d8) w1 by unfold Blk; rw [hw1, hP]; have := Own.heap_new (w.alloc (.cells (p.mg A6 c6 A8 c8).cs 44)) (.cells (q.mg B6 d6 B8 d8).cs 44); rw [World.size_alloc] at this; exact this)
 have HLP := Aside0.mk (hp.below HLO.out)
 have HLQ := Aside0.mk (hq.below HLO.out)
 have HTP := Aside0.mk (variorumlaw11_Light.calls K0 p.k p.c p.e p.r p.s p.d A6 c6 p.o p.t A8 c8 p.n tp w1 HLP.out.o HLP.out.oc HLP.out.n HLP.out.nc htp)
 have HTQ := Aside0.mk (fun W (hb : Below w1.heap.size w1 W) => variorumlaw11_Light.calls K0 q.k q.c q.e q.r q.s q.d B6 d6 q.o q.t B8 d8 q.n tq W (HLQ.out.below hb).o HLQ.out.oc (HLQ.out.below hb).n HLQ.out.nc htq)
 have HW1 := Aside0.mk hw1
 have HPE := Aside0.mk hP
 have HKK := Aside0.mk hK0
 clear hp hq hw1 hP htp htq hK0
 obtain ⟨⟨x0, x1, x2, x3, x4, x5⟩, x6, x7, x8⟩ := HBP.out.cells
 obtain ⟨⟨y0, y1, y2, y3, y4, y5⟩, y6, y7, y8⟩ := HBQ.out.cells
 unfold Ms.mg at x0 x1 x2 x3 x4 x5 x6 x7 x8 y0 y1 y2 y3 y4 y5 y6 y7 y8
 unfold Ms.mg Mg.cs at HW1
 go_enter Try.func7, Try.ntmps7
 unfold Ms.mg Mg.val Mg.cs
 go_wp2_with (first | rw [← HPE.out, ← HW1.out])
 refine HTP.out.mono ?_
 rintro e w2 ⟨rfl, hb⟩
 have HX2 := Aside0.mk hb
 have HL2 := Aside0.mk (below_step HLO.out hb)
 clear hb HTP HW1 x0 x1 x2 x3 x4 x5 x6 x7 x8 y0 y1 y2 y3 y4 y5 y6 y7 y8
 cases tp with
 | false =>
  go_wp2_with fail
  refine (lives_c _).mono ?_
  rintro e w9 ⟨rfl, hb⟩
  have HB9 := Aside0.mk (below_step HL2.out hb)
  clear hb
  go_wp2_with fail
  go_ret
  exact ⟨rfl, HB9.out⟩
 | true =>
  have SP := Aside0.mk (hsp rfl)
  obtain ⟨⟨y0, y1, y2, y3, y4, y5⟩, y6, y7, y8⟩ := cells_ms (HBQ.out.below HX2.out)
  clear hsp
  go_wp2_with fail
  refine (HTQ.out w2 HX2.out).mono ?_
  rintro e w3 ⟨rfl, hb⟩
  have HX3 := Aside0.mk (below_step HX2.out hb)
  have HL3 := Aside0.mk (below_step HL2.out hb)
  clear hb HTQ y0 y1 y2 y3 y4 y5 y6 y7 y8
  cases tq with
  | false =>
   go_wp2_with fail
   refine (lives_c _).mono ?_
   rintro e w9 ⟨rfl, hb⟩
   have HB9 := Aside0.mk (below_step HL3.out hb)
   clear hb
   go_wp2_with fail
   go_ret
   exact ⟨rfl, HB9.out⟩
  | true =>
   have SQ := Aside0.mk (hsq rfl)
   have HEN := Aside0.mk (encode_c p A6 c6 A8 c8 w3 (HLP.out.below HX3.out) SP.out)
   obtain ⟨gd, hgd⟩ : ∃ gd, gd = p.good := ⟨_, rfl⟩
   obtain ⟨X, hX⟩ : ∃ X, X = (if gd = true then p.encL else []) := ⟨_, rfl⟩
   obtain ⟨E, hE⟩ : ∃ E : Int, E = (if gd = true then 0 else 2) := ⟨_, rfl⟩
   unfold EncPost at HEN
   rw [← hgd, ← hX, ← hE] at HEN
   have hre := renc_f p SP.out K0 (by have := HKK.out; omega)
   rw [← hgd, ← hX, ← hE] at hre
   have HRE := Aside0.mk (fun W (hb : Below w1.heap.size w1 W) => variorumref11_Encode.calls K0 p.k p.c p.e p.r p.s p.d A6 c6 p.o p.t A8 c8 p.n X E W (HLP.out.below hb).o HLP.out.oc (HLP.out.below hb).n HLP.out.nc hre)
   have hrg := rgood_f p K0 (by have := HKK.out; omega) (by have := HKK.out; have := SP.out.n; omega) (by have := SP.out.o; omega) SP.out.n
   rw [← hgd] at hrg
   have HGDD := Aside0.mk hgd
   obtain ⟨sm, hs1, hs2⟩ := rsame_f p q SP.out.o SP.out.n K0 (by have := HKK.out; omega)
   have HGD0 := Aside0.mk (fun W (hb : Below w1.heap.size w1 W) => (show Calls Try.prog 23 #[(.agg #[.int .i64 p.k, .int .i64 p.c, .int .i64 p.e, .int .i64 p.r, .int .i64 p.s, .int .i64 p.d, .slice A6 p.o.length c6, .string p.t, .slice A8 p.n.length c8])] W fun e W' => e = .returned (.bool gd) ∧ Below W.heap.size W W' by rw [hgd]; exact good_m p A6 c6 A8 c8 W (HLP.out.below hb) SP.out))
   have HRG0 := Aside0.mk (fun W (hb : Below w1.heap.size w1 W) => variorumref11_Good.calls K0 p.k p.c p.e p.r p.s p.d A6 c6 p.o p.t A8 c8 p.n gd W (HLP.out.below hb).o HLP.out.oc (HLP.out.below hb).n HLP.out.nc hrg)
   have HSM0 := Aside0.mk (fun W (hb : Below w1.heap.size w1 W) => (show Calls Try.prog 25 #[(.agg #[.int .i64 p.k, .int .i64 p.c, .int .i64 p.e, .int .i64 p.r, .int .i64 p.s, .int .i64 p.d, .slice A6 p.o.length c6, .string p.t, .slice A8 p.n.length c8]), (.agg #[.int .i64 q.k, .int .i64 q.c, .int .i64 q.e, .int .i64 q.r, .int .i64 q.s, .int .i64 q.d, .slice B6 q.o.length d6, .string q.t, .slice B8 q.n.length d8])] W fun e W' => e = .returned (.bool sm) ∧ Below W.heap.size W W' from same_r p q A6 c6 A8 c8 B6 d6 B8 d8 W (HLP.out.below hb) (HLQ.out.below hb) SP.out.o SP.out.n sm hs2))
   have HSA0 := Aside0.mk (fun W (hb : Below w1.heap.size w1 W) => (show Calls Try.prog 25 #[(.agg #[.int .i64 p.k, .int .i64 p.c, .int .i64 p.e, .int .i64 p.r, .int .i64 p.s, .int .i64 p.d, .slice A6 p.o.length c6, .string p.t, .slice A8 p.n.length c8]), (.agg #[.int .i64 p.k, .int .i64 p.c, .int .i64 p.e, .int .i64 p.r, .int .i64 p.s, .int .i64 p.d, .slice A6 p.o.length c6, .string p.t, .slice A8 p.n.length c8])] W fun e W' => e = .returned (.bool true) ∧ Below W.heap.size W W' from same_r p p A6 c6 A8 c8 A6 c6 A8 c8 W (HLP.out.below hb) (HLP.out.below hb) SP.out.o SP.out.n true (by simp)))
   have HRS0 := Aside0.mk (fun W (hb : Below w1.heap.size w1 W) => variorumref11_Same.calls K0 p.k p.c p.e p.r p.s p.d A6 c6 p.o p.t A8 c8 p.n q.k q.c q.e q.r q.s q.d B6 d6 q.o q.t B8 d8 q.n sm W (HLP.out.below hb).o HLP.out.oc (HLP.out.below hb).n HLP.out.nc (HLQ.out.below hb).o HLQ.out.oc (HLQ.out.below hb).n HLQ.out.nc hs1)
   obtain ⟨⟨x0, x1, x2, x3, x4, x5⟩, x6, x7, x8⟩ := cells_ms (HBP.out.below HX3.out)
   clear hsq hgd hX hE hre hrg hs1 hs2
   go_wp2_with fail
   refine HEN.out.mono ?_
   rintro e w4 ⟨v5, rfl, hs5, hb⟩
   have HX4 := Aside0.mk (below_step HX3.out hb)
   have HL4 := Aside0.mk (below_step HL3.out hb)
   obtain ⟨A5, c5, rfl, hc5, hC5⟩ := hs5
   have HS50 := Aside0.mk (show Sl w4 (.slice A5 X.length c5) X from ⟨A5, c5, rfl, hc5, hC5⟩)
   clear hb hc5 hC5 HEN x0 x1 x2 x3 x4 x5 x6 x7 x8
   obtain ⟨⟨x0, x1, x2, x3, x4, x5⟩, x6, x7, x8⟩ := cells_ms (HBP.out.below HX4.out)
   go_wp2_with fail
   refine (HRE.out w4 HX4.out).mono ?_
   rintro e w5 ⟨v7, rfl, hr7, hb⟩
   have HX5 := Aside0.mk (below_step HX4.out hb)
   have HL5 := Aside0.mk (below_step HL4.out hb)
   obtain ⟨A7, c7, rfl, hc7, hC7⟩ := Kd.R_reads hr7
   have HS7 := Aside0.mk (show Sl w5 (.slice A7 X.length c7) X from ⟨A7, c7, rfl, hc7, hC7⟩)
   have HS5 := Aside0.mk (HS50.out.below hb)
   clear hb hc7 hC7 hr7 HRE HS50 x0 x1 x2 x3 x4 x5 x6 x7 x8
   go_wp2_with fail
   have HALP := Aside0.mk (fun W (hb : Below w5.heap.size w5 W) => cells_ms (HBP.out.below (below_step HX5.out hb)))
   have HALQ := Aside0.mk (fun W (hb : Below w5.heap.size w5 W) => cells_ms (HBQ.out.below (below_step HX5.out hb)))
   have HGD := Aside0.mk (fun W (hb : Below w5.heap.size w5 W) => HGD0.out W (below_step HX5.out hb))
   have HRG := Aside0.mk (fun W (hb : Below w5.heap.size w5 W) => HRG0.out W (below_step HX5.out hb))
   have HSM := Aside0.mk (fun W (hb : Below w5.heap.size w5 W) => HSM0.out W (below_step HX5.out hb))
   have HSA := Aside0.mk (fun W (hb : Below w5.heap.size w5 W) => HSA0.out W (below_step HX5.out hb))
   have HRS := Aside0.mk (fun W (hb : Below w5.heap.size w5 W) => HRS0.out W (below_step HX5.out hb))
   have HB := Aside0.mk (Below.refl w5.heap.size w5)
   clear HGD0 HRG0 HSM0 HSA0 HRS0
   refine start_ (n := 35) (S := fun w' => True) (ds := []) #[false, false, false, false, false, false, false, false, false, false, false, false, false, false, false, false, false, false, false, false, false, false, false, false, false, false, false, false, false, false, false, false, false, false, false] (by kernel_rfl) rfl rfl trivial (fun hHeld => ?_); refine with_tabW R5.tab5 R5.bits5 (fun HT_ HW_ => ?_)
   refine inv_at [0, 1, 2, 3, 4, 5, 6, 7, 8, 9, 10, 11, 12, 13, 14, 15, 16, 17, 18, 19, 20, 21, 22, 23, 24, 25, 26, 27, 28, 29, 30, 31, 32, 33, 34] (fun a0_ b a w' => a = putSel a0_ b [(0, 28, (.agg #[.int .i64 p.k, .int .i64 p.c, .int .i64 p.e, .int .i64 p.r, .int .i64 p.s, .int .i64 p.d, .slice A6 p.o.length c6, .string p.t, .slice A8 p.n.length c8])), (1, 29, (.bool gd)), (2, 30, (.agg #[.int .i64 p.k, .int .i64 p.c, .int .i64 p.e, .int .i64 p.r, .int .i64 p.s, .int .i64 p.d, .slice A6 p.o.length c6, .string p.t, .slice A8 p.n.length c8])), (3, 31, (.bool gd)), (4, 32, (.bool true)), (5, 33, (.bool true)), (6, 34, (.slice A5 X.length c5)), (7, 35, (.string (strOfNums X))), (8, 36, (.slice A7 X.length c7)), (9, 37, (.string (strOfNums X))), (10, 38, (.bool true)), (11, 39, (.bool true)), (12, 40, (.bool true)), (13, 41, (.int .i64 E)), (14, 42, (.int .i64 E)), (15, 43, (.bool true)), (16, 44, (.bool true)), (17, 45, (.bool true)), (18, 46, (.agg #[.int .i64 p.k, .int .i64 p.c, .int .i64 p.e, .int .i64 p.r, .int .i64 p.s, .int .i64 p.d, .slice A6 p.o.length c6, .string p.t, .slice A8 p.n.length c8])), (19, 47, (.agg #[.int .i64 q.k, .int .i64 q.c, .int .i64 q.e, .int .i64 q.r, .int .i64 q.s, .int .i64 q.d, .slice B6 q.o.length d6, .string q.t, .slice B8 q.n.length d8])), (20, 48, (.bool sm)), (21, 49, (.agg #[.int .i64 p.k, .int .i64 p.c, .int .i64 p.e, .int .i64 p.r, .int .i64 p.s, .int .i64 p.d, .slice A6 p.o.length c6, .string p.t, .slice A8 p.n.length c8])), (22, 50, (.agg #[.int .i64 q.k, .int .i64 q.c, .int .i64 q.e, .int .i64 q.r, .int .i64 q.s, .int .i64 q.d, .slice B6 q.o.length d6, .string q.t, .slice B8 q.n.length d8])), (23, 51, (.bool sm)), (24, 52, (.bool true)), (25, 53, (.bool true)), (26, 54, (.bool true)), (27, 55, (.agg #[.int .i64 p.k, .int .i64 p.c, .int .i64 p.e, .int .i64 p.r, .int .i64 p.s, .int .i64 p.d, .slice A6 p.o.length c6, .string p.t, .slice A8 p.n.length c8])), (28, 56, (.agg #[.int .i64 p.k, .int .i64 p.c, .int .i64 p.e, .int .i64 p.r, .int .i64 p.s, .int .i64 p.d, .slice A6 p.o.length c6, .string p.t, .slice A8 p.n.length c8])), (29, 57, (.bool true)), (30, 58, (.bool true)), (31, 59, (.bool true)), (32, 60, (.bool true)), (33, 61, (.bool true)), (34, 4, (.bool true))] ∧ (Below w5.heap.size w5 w')) HT_.out HW_.out (by kernel_rfl) (by kernel_rfl) ?_ ?_ ?_
   ·exact ⟨by simp only [putSel, Bool.false_eq_true, if_false], below_drew1 HB.out⟩
   ·skip
    clear HB
    refine steps_cons ?_ ?_
    ·rintro b a w' ⟨ha, Q_HB⟩ hb_ hon hoff
     refine ⟨_, rfl, fun K hK => ?_⟩
     have e2 : a.tmps[2]? = some ((.pointer (some ⟨P, 0, none⟩))) := by rw [ha]; exact (putSel_off rfl).trans rfl
     replace ha := Aside0.mk ha
     have HB := Aside0.mk Q_HB
     obtain ⟨⟨x0_, x1_, x2_, x3_, x4_, x5_⟩, x6_, x7_, x8_⟩ := HALP.out _ HB.out
     refine value_ (w1 := w') (v := (.agg #[.int .i64 p.k, .int .i64 p.c, .int .i64 p.e, .int .i64 p.r, .int .i64 p.s, .int .i64 p.d, .slice A6 p.o.length c6, .string p.t, .slice A8 p.n.length c8])) (by rfl) rfl ?_ ?_
     ·go_simp
      (try simp only [i64_w])
      try (first | rfl | assumption)
     refine hK.out _ _ ⟨(by rw [ha.out]; exact putSel_upk 0 hb_ rfl rfl rfl), Q_HB⟩
    refine steps_cons ?_ ?_
    ·rintro b a w' ⟨ha, Q_HB⟩ hb_ hon hoff
     refine ⟨_, rfl, fun K hK => ?_⟩
     have e28 : a.tmps[28]? = some ((.agg #[.int .i64 p.k, .int .i64 p.c, .int .i64 p.e, .int .i64 p.r, .int .i64 p.s, .int .i64 p.d, .slice A6 p.o.length c6, .string p.t, .slice A8 p.n.length c8])) := by rw [ha]; exact putSel_on (e := (0, 28, (.agg #[.int .i64 p.k, .int .i64 p.c, .int .i64 p.e, .int .i64 p.r, .int .i64 p.s, .int .i64 p.d, .slice A6 p.o.length c6, .string p.t, .slice A8 p.n.length c8]))) 0 rfl rfl (hon 0 (by kernel_rfl)) rfl
     replace ha := Aside0.mk ha
     have HB := Aside0.mk Q_HB
     refine goes_ Try.func23 (by kernel_rfl) rfl #[.agg #[.int .i64 p.k, .int .i64 p.c, .int .i64 p.e, .int .i64 p.r, .int .i64 p.s, .int .i64 p.d, .slice A6 p.o.length c6, .string p.t, .slice A8 p.n.length c8]] (by rfl) rfl rfl (by first | (simp only [List.map_toArray, List.map_cons, List.map_nil, Act.eval, Array.getD_eq_getD_getElem?, Option.getD_some, e28]; done) | (simp only [List.map_toArray, List.map_cons, List.map_nil, Act.eval, Array.getD_eq_getD_getElem?, Option.getD_some, e28]; rfl)) ?_
     refine (HGD.out _ HB.out).mono ?_
     rintro e w1_ ⟨rfl, hb⟩
     refine ⟨_, rfl, ?_⟩
     refine hK.out _ _ ⟨(by rw [ha.out]; exact putSel_upk 1 hb_ rfl rfl rfl), below_step HB.out hb⟩
    refine steps_cons ?_ ?_
    ·rintro b a w' ⟨ha, Q_HB⟩ hb_ hon hoff
     refine ⟨_, rfl, fun K hK => ?_⟩
     have e2 : a.tmps[2]? = some ((.pointer (some ⟨P, 0, none⟩))) := by rw [ha]; exact (putSel_off rfl).trans rfl
     replace ha := Aside0.mk ha
     have HB := Aside0.mk Q_HB
     obtain ⟨⟨x0_, x1_, x2_, x3_, x4_, x5_⟩, x6_, x7_, x8_⟩ := HALP.out _ HB.out
     refine value_ (w1 := w') (v := (.agg #[.int .i64 p.k, .int .i64 p.c, .int .i64 p.e, .int .i64 p.r, .int .i64 p.s, .int .i64 p.d, .slice A6 p.o.length c6, .string p.t, .slice A8 p.n.length c8])) (by rfl) rfl ?_ ?_
     ·go_simp
      (try simp only [i64_w])
      try (first | rfl | assumption)
     refine hK.out _ _ ⟨(by rw [ha.out]; exact putSel_upk 2 hb_ rfl rfl rfl), Q_HB⟩
    refine steps_cons ?_ ?_
    ·rintro b a w' ⟨ha, Q_HB⟩ hb_ hon hoff
     refine ⟨_, rfl, fun K hK => ?_⟩
     have e30 : a.tmps[30]? = some ((.agg #[.int .i64 p.k, .int .i64 p.c, .int .i64 p.e, .int .i64 p.r, .int .i64 p.s, .int .i64 p.d, .slice A6 p.o.length c6, .string p.t, .slice A8 p.n.length c8])) := by rw [ha]; exact putSel_on (e := (2, 30, (.agg #[.int .i64 p.k, .int .i64 p.c, .int .i64 p.e, .int .i64 p.r, .int .i64 p.s, .int .i64 p.d, .slice A6 p.o.length c6, .string p.t, .slice A8 p.n.length c8]))) 2 rfl rfl (hon 2 (by kernel_rfl)) rfl
     replace ha := Aside0.mk ha
     have HB := Aside0.mk Q_HB
     refine goes_ Try.func24 (by kernel_rfl) rfl #[.agg #[.int .i64 p.k, .int .i64 p.c, .int .i64 p.e, .int .i64 p.r, .int .i64 p.s, .int .i64 p.d, .slice A6 p.o.length c6, .string p.t, .slice A8 p.n.length c8]] (by rfl) rfl rfl (by first | (simp only [List.map_toArray, List.map_cons, List.map_nil, Act.eval, Array.getD_eq_getD_getElem?, Option.getD_some, e30]; done) | (simp only [List.map_toArray, List.map_cons, List.map_nil, Act.eval, Array.getD_eq_getD_getElem?, Option.getD_some, e30]; rfl)) ?_
     refine (HRG.out _ HB.out).mono ?_
     rintro e w1_ ⟨rfl, hb⟩
     refine ⟨_, rfl, ?_⟩
     refine hK.out _ _ ⟨(by rw [ha.out]; exact putSel_upk 3 hb_ rfl rfl rfl), below_step HB.out hb⟩
    refine steps_cons ?_ ?_
    ·rintro b a w' ⟨ha, Q_HB⟩ hb_ hon hoff
     refine ⟨_, rfl, fun K hK => ?_⟩
     have e29 : a.tmps[29]? = some ((.bool gd)) := by rw [ha]; exact putSel_on (e := (1, 29, (.bool gd))) 1 rfl rfl (hon 1 (by kernel_rfl)) rfl
     have e31 : a.tmps[31]? = some ((.bool gd)) := by rw [ha]; exact putSel_on (e := (3, 31, (.bool gd))) 3 rfl rfl (hon 3 (by kernel_rfl)) rfl
     replace ha := Aside0.mk ha
     have HB := Aside0.mk Q_HB
     refine value_ (w1 := w') (v := (.bool true)) (by rfl) rfl ?_ ?_
     ·go_simp
      (try simp only [i64_w])
      try (first | rfl | assumption)
     refine hK.out _ _ ⟨(by rw [ha.out]; exact putSel_upk 4 hb_ rfl rfl rfl), Q_HB⟩
    refine steps_cons ?_ ?_
    ·rintro b a w' ⟨ha, Q_HB⟩ hb_ hon hoff
     refine ⟨_, rfl, fun K hK => ?_⟩
     have e32 : a.tmps[32]? = some ((.bool true)) := by rw [ha]; exact putSel_on (e := (4, 32, (.bool true))) 4 rfl rfl (hon 4 (by kernel_rfl)) rfl
     replace ha := Aside0.mk ha
     have HB := Aside0.mk Q_HB
     refine value_ (w1 := w') (v := (.bool true)) (by rfl) rfl ?_ ?_
     ·go_simp
      (try simp only [i64_w])
      try (first | rfl | assumption)
     refine hK.out _ _ ⟨(by rw [ha.out]; exact putSel_upk 5 hb_ rfl rfl rfl), Q_HB⟩
    refine steps_cons ?_ ?_
    ·rintro b a w' ⟨ha, Q_HB⟩ hb_ hon hoff
     refine ⟨_, rfl, fun K hK => ?_⟩
     have e5 : a.tmps[5]? = some ((.slice A5 X.length c5)) := by rw [ha]; exact (putSel_off rfl).trans rfl
     have e33 : a.tmps[33]? = some ((.bool true)) := by rw [ha]; exact putSel_on (e := (5, 33, (.bool true))) 5 rfl rfl (hon 5 (by kernel_rfl)) rfl
     replace ha := Aside0.mk ha
     have HB := Aside0.mk Q_HB
     refine value_ (w1 := w') (v := (.slice A5 X.length c5)) (wanted_on rfl rfl rfl (e33.trans (by first | rfl | (simp [*]; done)))) rfl ?_ ?_
     ·go_simp
      (try simp only [i64_w])
      try (first | rfl | assumption)
     refine hK.out _ _ ⟨(by rw [ha.out]; exact putSel_upk 6 hb_ rfl rfl rfl), Q_HB⟩
    refine steps_cons ?_ ?_
    ·rintro b a w' ⟨ha, Q_HB⟩ hb_ hon hoff
     refine ⟨_, rfl, fun K hK => ?_⟩
     have e34 : a.tmps[34]? = some ((.slice A5 X.length c5)) := by rw [ha]; exact putSel_on (e := (6, 34, (.slice A5 X.length c5))) 6 rfl rfl (hon 6 (by kernel_rfl)) rfl
     have e33 : a.tmps[33]? = some ((.bool true)) := by rw [ha]; exact putSel_on (e := (5, 33, (.bool true))) 5 rfl rfl (hon 5 (by kernel_rfl)) rfl
     replace ha := Aside0.mk ha
     have HB := Aside0.mk Q_HB
     have hc_ := Sl.string (P := Try.prog) Try.underlying25 Try.underlying5 Try.underlying9 (HS5.out.below HB.out)
     refine value_ (w1 := w') (v := (.string (strOfNums X))) (wanted_on rfl rfl rfl (e33.trans (by first | rfl | (simp [*]; done)))) rfl ?_ ?_
     ·go_simp
      (try simp only [i64_w])
      try (first | rfl | assumption)
     refine hK.out _ _ ⟨(by rw [ha.out]; exact putSel_upk 7 hb_ rfl rfl rfl), Q_HB⟩
    refine steps_cons ?_ ?_
    ·rintro b a w' ⟨ha, Q_HB⟩ hb_ hon hoff
     refine ⟨_, rfl, fun K hK => ?_⟩
     have e7 : a.tmps[7]? = some ((.slice A7 X.length c7)) := by rw [ha]; exact (putSel_off rfl).trans rfl
     have e33 : a.tmps[33]? = some ((.bool true)) := by rw [ha]; exact putSel_on (e := (5, 33, (.bool true))) 5 rfl rfl (hon 5 (by kernel_rfl)) rfl
     replace ha := Aside0.mk ha
     have HB := Aside0.mk Q_HB
     refine value_ (w1 := w') (v := (.slice A7 X.length c7)) (wanted_on rfl rfl rfl (e33.trans (by first | rfl | (simp [*]; done)))) rfl ?_ ?_
     ·go_simp
      (try simp only [i64_w])
      try (first | rfl | assumption)
     refine hK.out _ _ ⟨(by rw [ha.out]; exact putSel_upk 8 hb_ rfl rfl rfl), Q_HB⟩
    refine steps_cons ?_ ?_
    ·rintro b a w' ⟨ha, Q_HB⟩ hb_ hon hoff
     refine ⟨_, rfl, fun K hK => ?_⟩
     have e36 : a.tmps[36]? = some ((.slice A7 X.length c7)) := by rw [ha]; exact putSel_on (e := (8, 36, (.slice A7 X.length c7))) 8 rfl rfl (hon 8 (by kernel_rfl)) rfl
     have e33 : a.tmps[33]? = some ((.bool true)) := by rw [ha]; exact putSel_on (e := (5, 33, (.bool true))) 5 rfl rfl (hon 5 (by kernel_rfl)) rfl
     replace ha := Aside0.mk ha
     have HB := Aside0.mk Q_HB
     have hc_ := Sl.string (P := Try.prog) Try.underlying25 Try.underlying5 Try.underlying9 (HS7.out.below HB.out)
     refine value_ (w1 := w') (v := (.string (strOfNums X))) (wanted_on rfl rfl rfl (e33.trans (by first | rfl | (simp [*]; done)))) rfl ?_ ?_
     ·go_simp
      (try simp only [i64_w])
      try (first | rfl | assumption)
     refine hK.out _ _ ⟨(by rw [ha.out]; exact putSel_upk 9 hb_ rfl rfl rfl), Q_HB⟩
    refine steps_cons ?_ ?_
    ·rintro b a w' ⟨ha, Q_HB⟩ hb_ hon hoff
     refine ⟨_, rfl, fun K hK => ?_⟩
     have e35 : a.tmps[35]? = some ((.string (strOfNums X))) := by rw [ha]; exact putSel_on (e := (7, 35, (.string (strOfNums X)))) 7 rfl rfl (hon 7 (by kernel_rfl)) rfl
     have e37 : a.tmps[37]? = some ((.string (strOfNums X))) := by rw [ha]; exact putSel_on (e := (9, 37, (.string (strOfNums X)))) 9 rfl rfl (hon 9 (by kernel_rfl)) rfl
     have e33 : a.tmps[33]? = some ((.bool true)) := by rw [ha]; exact putSel_on (e := (5, 33, (.bool true))) 5 rfl rfl (hon 5 (by kernel_rfl)) rfl
     replace ha := Aside0.mk ha
     have HB := Aside0.mk Q_HB
     refine value_ (w1 := w') (v := (.bool true)) (wanted_on rfl rfl rfl (e33.trans (by first | rfl | (simp [*]; done)))) rfl ?_ ?_
     ·go_simp
      (try simp only [i64_w])
      try (first | rfl | assumption)
     refine hK.out _ _ ⟨(by rw [ha.out]; exact putSel_upk 10 hb_ rfl rfl rfl), Q_HB⟩
    refine steps_cons ?_ ?_
    ·rintro b a w' ⟨ha, Q_HB⟩ hb_ hon hoff
     refine ⟨_, rfl, fun K hK => ?_⟩
     have e33 : a.tmps[33]? = some ((.bool true)) := by rw [ha]; exact putSel_on (e := (5, 33, (.bool true))) 5 rfl rfl (hon 5 (by kernel_rfl)) rfl
     have e38 : a.tmps[38]? = some ((.bool true)) := by rw [ha]; exact putSel_on (e := (10, 38, (.bool true))) 10 rfl rfl (hon 10 (by kernel_rfl)) rfl
     replace ha := Aside0.mk ha
     have HB := Aside0.mk Q_HB
     refine value_ (w1 := w') (v := (.bool true)) (by rfl) rfl ?_ ?_
     ·go_simp
      (try simp only [i64_w])
      try (first | rfl | assumption)
     refine hK.out _ _ ⟨(by rw [ha.out]; exact putSel_upk 11 hb_ rfl rfl rfl), Q_HB⟩
    refine steps_cons ?_ ?_
    ·rintro b a w' ⟨ha, Q_HB⟩ hb_ hon hoff
     refine ⟨_, rfl, fun K hK => ?_⟩
     have e39 : a.tmps[39]? = some ((.bool true)) := by rw [ha]; exact putSel_on (e := (11, 39, (.bool true))) 11 rfl rfl (hon 11 (by kernel_rfl)) rfl
     replace ha := Aside0.mk ha
     have HB := Aside0.mk Q_HB
     refine value_ (w1 := w') (v := (.bool true)) (by rfl) rfl ?_ ?_
     ·go_simp
      (try simp only [i64_w])
      try (first | rfl | assumption)
     refine hK.out _ _ ⟨(by rw [ha.out]; exact putSel_upk 12 hb_ rfl rfl rfl), Q_HB⟩
    refine steps_cons ?_ ?_
    ·rintro b a w' ⟨ha, Q_HB⟩ hb_ hon hoff
     refine ⟨_, rfl, fun K hK => ?_⟩
     have e6 : a.tmps[6]? = some ((.int .i64 E)) := by rw [ha]; exact (putSel_off rfl).trans rfl
     have e40 : a.tmps[40]? = some ((.bool true)) := by rw [ha]; exact putSel_on (e := (12, 40, (.bool true))) 12 rfl rfl (hon 12 (by kernel_rfl)) rfl
     replace ha := Aside0.mk ha
     have HB := Aside0.mk Q_HB
     refine value_ (w1 := w') (v := (.int .i64 E)) (wanted_on rfl rfl rfl (e40.trans (by first | rfl | (simp [*]; done)))) rfl ?_ ?_
     ·go_simp
      (try simp only [i64_w])
      try (first | rfl | assumption)
     refine hK.out _ _ ⟨(by rw [ha.out]; exact putSel_upk 13 hb_ rfl rfl rfl), Q_HB⟩
    refine steps_cons ?_ ?_
    ·rintro b a w' ⟨ha, Q_HB⟩ hb_ hon hoff
     refine ⟨_, rfl, fun K hK => ?_⟩
     have e8 : a.tmps[8]? = some ((.int .i64 E)) := by rw [ha]; exact (putSel_off rfl).trans rfl
     have e40 : a.tmps[40]? = some ((.bool true)) := by rw [ha]; exact putSel_on (e := (12, 40, (.bool true))) 12 rfl rfl (hon 12 (by kernel_rfl)) rfl
     replace ha := Aside0.mk ha
     have HB := Aside0.mk Q_HB
     refine value_ (w1 := w') (v := (.int .i64 E)) (wanted_on rfl rfl rfl (e40.trans (by first | rfl | (simp [*]; done)))) rfl ?_ ?_
     ·go_simp
      (try simp only [i64_w])
      try (first | rfl | assumption)
     refine hK.out _ _ ⟨(by rw [ha.out]; exact putSel_upk 14 hb_ rfl rfl rfl), Q_HB⟩
    refine steps_cons ?_ ?_
    ·rintro b a w' ⟨ha, Q_HB⟩ hb_ hon hoff
     refine ⟨_, rfl, fun K hK => ?_⟩
     have e41 : a.tmps[41]? = some ((.int .i64 E)) := by rw [ha]; exact putSel_on (e := (13, 41, (.int .i64 E))) 13 rfl rfl (hon 13 (by kernel_rfl)) rfl
     have e42 : a.tmps[42]? = some ((.int .i64 E)) := by rw [ha]; exact putSel_on (e := (14, 42, (.int .i64 E))) 14 rfl rfl (hon 14 (by kernel_rfl)) rfl
     have e40 : a.tmps[40]? = some ((.bool true)) := by rw [ha]; exact putSel_on (e := (12, 40, (.bool true))) 12 rfl rfl (hon 12 (by kernel_rfl)) rfl
     replace ha := Aside0.mk ha
     have HB := Aside0.mk Q_HB
     refine value_ (w1 := w') (v := (.bool true)) (wanted_on rfl rfl rfl (e40.trans (by first | rfl | (simp [*]; done)))) rfl ?_ ?_
     ·go_simp
      (try simp only [i64_w])
      try (first | rfl | assumption)
     refine hK.out _ _ ⟨(by rw [ha.out]; exact putSel_upk 15 hb_ rfl rfl rfl), Q_HB⟩
    refine steps_cons ?_ ?_
    ·rintro b a w' ⟨ha, Q_HB⟩ hb_ hon hoff
     refine ⟨_, rfl, fun K hK => ?_⟩
     have e40 : a.tmps[40]? = some ((.bool true)) := by rw [ha]; exact putSel_on (e := (12, 40, (.bool true))) 12 rfl rfl (hon 12 (by kernel_rfl)) rfl
     have e43 : a.tmps[43]? = some ((.bool true)) := by rw [ha]; exact putSel_on (e := (15, 43, (.bool true))) 15 rfl rfl (hon 15 (by kernel_rfl)) rfl
     replace ha := Aside0.mk ha
     have HB := Aside0.mk Q_HB
     refine value_ (w1 := w') (v := (.bool true)) (by rfl) rfl ?_ ?_
     ·go_simp
      (try simp only [i64_w])
      try (first | rfl | assumption)
     refine hK.out _ _ ⟨(by rw [ha.out]; exact putSel_upk 16 hb_ rfl rfl rfl), Q_HB⟩
    refine steps_cons ?_ ?_
    ·rintro b a w' ⟨ha, Q_HB⟩ hb_ hon hoff
     refine ⟨_, rfl, fun K hK => ?_⟩
     have e44 : a.tmps[44]? = some ((.bool true)) := by rw [ha]; exact putSel_on (e := (16, 44, (.bool true))) 16 rfl rfl (hon 16 (by kernel_rfl)) rfl
     replace ha := Aside0.mk ha
     have HB := Aside0.mk Q_HB
     refine value_ (w1 := w') (v := (.bool true)) (by rfl) rfl ?_ ?_
     ·go_simp
      (try simp only [i64_w])
      try (first | rfl | assumption)
     refine hK.out _ _ ⟨(by rw [ha.out]; exact putSel_upk 17 hb_ rfl rfl rfl), Q_HB⟩
    refine steps_cons ?_ ?_
    ·rintro b a w' ⟨ha, Q_HB⟩ hb_ hon hoff
     refine ⟨_, rfl, fun K hK => ?_⟩
     have e2 : a.tmps[2]? = some ((.pointer (some ⟨P, 0, none⟩))) := by rw [ha]; exact (putSel_off rfl).trans rfl
     have e45 : a.tmps[45]? = some ((.bool true)) := by rw [ha]; exact putSel_on (e := (17, 45, (.bool true))) 17 rfl rfl (hon 17 (by kernel_rfl)) rfl
     replace ha := Aside0.mk ha
     have HB := Aside0.mk Q_HB
     obtain ⟨⟨x0_, x1_, x2_, x3_, x4_, x5_⟩, x6_, x7_, x8_⟩ := HALP.out _ HB.out
     refine value_ (w1 := w') (v := (.agg #[.int .i64 p.k, .int .i64 p.c, .int .i64 p.e, .int .i64 p.r, .int .i64 p.s, .int .i64 p.d, .slice A6 p.o.length c6, .string p.t, .slice A8 p.n.length c8])) (wanted_on rfl rfl rfl (e45.trans (by first | rfl | (simp [*]; done)))) rfl ?_ ?_
     ·go_simp
      (try simp only [i64_w])
      try (first | rfl | assumption)
     refine hK.out _ _ ⟨(by rw [ha.out]; exact putSel_upk 18 hb_ rfl rfl rfl), Q_HB⟩
    refine steps_cons ?_ ?_
    ·rintro b a w' ⟨ha, Q_HB⟩ hb_ hon hoff
     refine ⟨_, rfl, fun K hK => ?_⟩
     have e3 : a.tmps[3]? = some ((.pointer (some ⟨P + 1, 0, none⟩))) := by rw [ha]; exact (putSel_off rfl).trans rfl
     have e45 : a.tmps[45]? = some ((.bool true)) := by rw [ha]; exact putSel_on (e := (17, 45, (.bool true))) 17 rfl rfl (hon 17 (by kernel_rfl)) rfl
     replace ha := Aside0.mk ha
     have HB := Aside0.mk Q_HB
     obtain ⟨⟨x0_, x1_, x2_, x3_, x4_, x5_⟩, x6_, x7_, x8_⟩ := HALQ.out _ HB.out
     refine value_ (w1 := w') (v := (.agg #[.int .i64 q.k, .int .i64 q.c, .int .i64 q.e, .int .i64 q.r, .int .i64 q.s, .int .i64 q.d, .slice B6 q.o.length d6, .string q.t, .slice B8 q.n.length d8])) (wanted_on rfl rfl rfl (e45.trans (by first | rfl | (simp [*]; done)))) rfl ?_ ?_
     ·go_simp
      (try simp only [i64_w])
      try (first | rfl | assumption)
     refine hK.out _ _ ⟨(by rw [ha.out]; exact putSel_upk 19 hb_ rfl rfl rfl), Q_HB⟩
    refine steps_cons ?_ ?_
    ·rintro b a w' ⟨ha, Q_HB⟩ hb_ hon hoff
     refine ⟨_, rfl, fun K hK => ?_⟩
     have e46 : a.tmps[46]? = some ((.agg #[.int .i64 p.k, .int .i64 p.c, .int .i64 p.e, .int .i64 p.r, .int .i64 p.s, .int .i64 p.d, .slice A6 p.o.length c6, .string p.t, .slice A8 p.n.length c8])) := by rw [ha]; exact putSel_on (e := (18, 46, (.agg #[.int .i64 p.k, .int .i64 p.c, .int .i64 p.e, .int .i64 p.r, .int .i64 p.s, .int .i64 p.d, .slice A6 p.o.length c6, .string p.t, .slice A8 p.n.length c8]))) 18 rfl rfl (hon 18 (by kernel_rfl)) rfl
     have e47 : a.tmps[47]? = some ((.agg #[.int .i64 q.k, .int .i64 q.c, .int .i64 q.e, .int .i64 q.r, .int .i64 q.s, .int .i64 q.d, .slice B6 q.o.length d6, .string q.t, .slice B8 q.n.length d8])) := by rw [ha]; exact putSel_on (e := (19, 47, (.agg #[.int .i64 q.k, .int .i64 q.c, .int .i64 q.e, .int .i64 q.r, .int .i64 q.s, .int .i64 q.d, .slice B6 q.o.length d6, .string q.t, .slice B8 q.n.length d8]))) 19 rfl rfl (hon 19 (by kernel_rfl)) rfl
     have e45 : a.tmps[45]? = some ((.bool true)) := by rw [ha]; exact putSel_on (e := (17, 45, (.bool true))) 17 rfl rfl (hon 17 (by kernel_rfl)) rfl
     replace ha := Aside0.mk ha
     have HB := Aside0.mk Q_HB
     refine goes_ Try.func25 (by kernel_rfl) rfl #[.agg #[.int .i64 p.k, .int .i64 p.c, .int .i64 p.e, .int .i64 p.r, .int .i64 p.s, .int .i64 p.d, .slice A6 p.o.length c6, .string p.t, .slice A8 p.n.length c8], .agg #[.int .i64 q.k, .int .i64 q.c, .int .i64 q.e, .int .i64 q.r, .int .i64 q.s, .int .i64 q.d, .slice B6 q.o.length d6, .string q.t, .slice B8 q.n.length d8]] (wanted_on rfl rfl rfl (e45.trans (by first | rfl | (simp [*]; done)))) rfl rfl (by first | (simp only [List.map_toArray, List.map_cons, List.map_nil, Act.eval, Array.getD_eq_getD_getElem?, Option.getD_some, e46, e47, e45]; done) | (simp only [List.map_toArray, List.map_cons, List.map_nil, Act.eval, Array.getD_eq_getD_getElem?, Option.getD_some, e46, e47, e45]; rfl)) ?_
     refine (HSM.out _ HB.out).mono ?_
     rintro e w1_ ⟨rfl, hb⟩
     refine ⟨_, rfl, ?_⟩
     refine hK.out _ _ ⟨(by rw [ha.out]; exact putSel_upk 20 hb_ rfl rfl rfl), below_step HB.out hb⟩
    refine steps_cons ?_ ?_
    ·rintro b a w' ⟨ha, Q_HB⟩ hb_ hon hoff
     refine ⟨_, rfl, fun K hK => ?_⟩
     have e2 : a.tmps[2]? = some ((.pointer (some ⟨P, 0, none⟩))) := by rw [ha]; exact (putSel_off rfl).trans rfl
     have e45 : a.tmps[45]? = some ((.bool true)) := by rw [ha]; exact putSel_on (e := (17, 45, (.bool true))) 17 rfl rfl (hon 17 (by kernel_rfl)) rfl
     replace ha := Aside0.mk ha
     have HB := Aside0.mk Q_HB
     obtain ⟨⟨x0_, x1_, x2_, x3_, x4_, x5_⟩, x6_, x7_, x8_⟩ := HALP.out _ HB.out
     refine value_ (w1 := w') (v := (.agg #[.int .i64 p.k, .int .i64 p.c, .int .i64 p.e, .int .i64 p.r, .int .i64 p.s, .int .i64 p.d, .slice A6 p.o.length c6, .string p.t, .slice A8 p.n.length c8])) (wanted_on rfl rfl rfl (e45.trans (by first | rfl | (simp [*]; done)))) rfl ?_ ?_
     ·go_simp
      (try simp only [i64_w])
      try (first | rfl | assumption)
     refine hK.out _ _ ⟨(by rw [ha.out]; exact putSel_upk 21 hb_ rfl rfl rfl), Q_HB⟩
    refine steps_cons ?_ ?_
    ·rintro b a w' ⟨ha, Q_HB⟩ hb_ hon hoff
     refine ⟨_, rfl, fun K hK => ?_⟩
     have e3 : a.tmps[3]? = some ((.pointer (some ⟨P + 1, 0, none⟩))) := by rw [ha]; exact (putSel_off rfl).trans rfl
     have e45 : a.tmps[45]? = some ((.bool true)) := by rw [ha]; exact putSel_on (e := (17, 45, (.bool true))) 17 rfl rfl (hon 17 (by kernel_rfl)) rfl
     replace ha := Aside0.mk ha
     have HB := Aside0.mk Q_HB
     obtain ⟨⟨x0_, x1_, x2_, x3_, x4_, x5_⟩, x6_, x7_, x8_⟩ := HALQ.out _ HB.out
     refine value_ (w1 := w') (v := (.agg #[.int .i64 q.k, .int .i64 q.c, .int .i64 q.e, .int .i64 q.r, .int .i64 q.s, .int .i64 q.d, .slice B6 q.o.length d6, .string q.t, .slice B8 q.n.length d8])) (wanted_on rfl rfl rfl (e45.trans (by first | rfl | (simp [*]; done)))) rfl ?_ ?_
     ·go_simp
      (try simp only [i64_w])
      try (first | rfl | assumption)
     refine hK.out _ _ ⟨(by rw [ha.out]; exact putSel_upk 22 hb_ rfl rfl rfl), Q_HB⟩
    refine steps_cons ?_ ?_
    ·rintro b a w' ⟨ha, Q_HB⟩ hb_ hon hoff
     refine ⟨_, rfl, fun K hK => ?_⟩
     have e49 : a.tmps[49]? = some ((.agg #[.int .i64 p.k, .int .i64 p.c, .int .i64 p.e, .int .i64 p.r, .int .i64 p.s, .int .i64 p.d, .slice A6 p.o.length c6, .string p.t, .slice A8 p.n.length c8])) := by rw [ha]; exact putSel_on (e := (21, 49, (.agg #[.int .i64 p.k, .int .i64 p.c, .int .i64 p.e, .int .i64 p.r, .int .i64 p.s, .int .i64 p.d, .slice A6 p.o.length c6, .string p.t, .slice A8 p.n.length c8]))) 21 rfl rfl (hon 21 (by kernel_rfl)) rfl
     have e50 : a.tmps[50]? = some ((.agg #[.int .i64 q.k, .int .i64 q.c, .int .i64 q.e, .int .i64 q.r, .int .i64 q.s, .int .i64 q.d, .slice B6 q.o.length d6, .string q.t, .slice B8 q.n.length d8])) := by rw [ha]; exact putSel_on (e := (22, 50, (.agg #[.int .i64 q.k, .int .i64 q.c, .int .i64 q.e, .int .i64 q.r, .int .i64 q.s, .int .i64 q.d, .slice B6 q.o.length d6, .string q.t, .slice B8 q.n.length d8]))) 22 rfl rfl (hon 22 (by kernel_rfl)) rfl
     have e45 : a.tmps[45]? = some ((.bool true)) := by rw [ha]; exact putSel_on (e := (17, 45, (.bool true))) 17 rfl rfl (hon 17 (by kernel_rfl)) rfl
     replace ha := Aside0.mk ha
     have HB := Aside0.mk Q_HB
     refine goes_ Try.func26 (by kernel_rfl) rfl #[.agg #[.int .i64 p.k, .int .i64 p.c, .int .i64 p.e, .int .i64 p.r, .int .i64 p.s, .int .i64 p.d, .slice A6 p.o.length c6, .string p.t, .slice A8 p.n.length c8], .agg #[.int .i64 q.k, .int .i64 q.c, .int .i64 q.e, .int .i64 q.r, .int .i64 q.s, .int .i64 q.d, .slice B6 q.o.length d6, .string q.t, .slice B8 q.n.length d8]] (wanted_on rfl rfl rfl (e45.trans (by first | rfl | (simp [*]; done)))) rfl rfl (by first | (simp only [List.map_toArray, List.map_cons, List.map_nil, Act.eval, Array.getD_eq_getD_getElem?, Option.getD_some, e49, e50, e45]; done) | (simp only [List.map_toArray, List.map_cons, List.map_nil, Act.eval, Array.getD_eq_getD_getElem?, Option.getD_some, e49, e50, e45]; rfl)) ?_
     refine (HRS.out _ HB.out).mono ?_
     rintro e w1_ ⟨rfl, hb⟩
     refine ⟨_, rfl, ?_⟩
     refine hK.out _ _ ⟨(by rw [ha.out]; exact putSel_upk 23 hb_ rfl rfl rfl), below_step HB.out hb⟩
    refine steps_cons ?_ ?_
    ·rintro b a w' ⟨ha, Q_HB⟩ hb_ hon hoff
     refine ⟨_, rfl, fun K hK => ?_⟩
     have e48 : a.tmps[48]? = some ((.bool sm)) := by rw [ha]; exact putSel_on (e := (20, 48, (.bool sm))) 20 rfl rfl (hon 20 (by kernel_rfl)) rfl
     have e51 : a.tmps[51]? = some ((.bool sm)) := by rw [ha]; exact putSel_on (e := (23, 51, (.bool sm))) 23 rfl rfl (hon 23 (by kernel_rfl)) rfl
     have e45 : a.tmps[45]? = some ((.bool true)) := by rw [ha]; exact putSel_on (e := (17, 45, (.bool true))) 17 rfl rfl (hon 17 (by kernel_rfl)) rfl
     replace ha := Aside0.mk ha
     have HB := Aside0.mk Q_HB
     refine value_ (w1 := w') (v := (.bool true)) (wanted_on rfl rfl rfl (e45.trans (by first | rfl | (simp [*]; done)))) rfl ?_ ?_
     ·go_simp
      (try simp only [i64_w])
      try (first | rfl | assumption)
     refine hK.out _ _ ⟨(by rw [ha.out]; exact putSel_upk 24 hb_ rfl rfl rfl), Q_HB⟩
    refine steps_cons ?_ ?_
    ·rintro b a w' ⟨ha, Q_HB⟩ hb_ hon hoff
     refine ⟨_, rfl, fun K hK => ?_⟩
     have e45 : a.tmps[45]? = some ((.bool true)) := by rw [ha]; exact putSel_on (e := (17, 45, (.bool true))) 17 rfl rfl (hon 17 (by kernel_rfl)) rfl
     have e52 : a.tmps[52]? = some ((.bool true)) := by rw [ha]; exact putSel_on (e := (24, 52, (.bool true))) 24 rfl rfl (hon 24 (by kernel_rfl)) rfl
     replace ha := Aside0.mk ha
     have HB := Aside0.mk Q_HB
     refine value_ (w1 := w') (v := (.bool true)) (by rfl) rfl ?_ ?_
     ·go_simp
      (try simp only [i64_w])
      try (first | rfl | assumption)
     refine hK.out _ _ ⟨(by rw [ha.out]; exact putSel_upk 25 hb_ rfl rfl rfl), Q_HB⟩
    refine steps_cons ?_ ?_
    ·rintro b a w' ⟨ha, Q_HB⟩ hb_ hon hoff
     refine ⟨_, rfl, fun K hK => ?_⟩
     have e53 : a.tmps[53]? = some ((.bool true)) := by rw [ha]; exact putSel_on (e := (25, 53, (.bool true))) 25 rfl rfl (hon 25 (by kernel_rfl)) rfl
     replace ha := Aside0.mk ha
     have HB := Aside0.mk Q_HB
     refine value_ (w1 := w') (v := (.bool true)) (by rfl) rfl ?_ ?_
     ·go_simp
      (try simp only [i64_w])
      try (first | rfl | assumption)
     refine hK.out _ _ ⟨(by rw [ha.out]; exact putSel_upk 26 hb_ rfl rfl rfl), Q_HB⟩
    refine steps_cons ?_ ?_
    ·rintro b a w' ⟨ha, Q_HB⟩ hb_ hon hoff
     refine ⟨_, rfl, fun K hK => ?_⟩
     have e2 : a.tmps[2]? = some ((.pointer (some ⟨P, 0, none⟩))) := by rw [ha]; exact (putSel_off rfl).trans rfl
     have e54 : a.tmps[54]? = some ((.bool true)) := by rw [ha]; exact putSel_on (e := (26, 54, (.bool true))) 26 rfl rfl (hon 26 (by kernel_rfl)) rfl
     replace ha := Aside0.mk ha
     have HB := Aside0.mk Q_HB
     obtain ⟨⟨x0_, x1_, x2_, x3_, x4_, x5_⟩, x6_, x7_, x8_⟩ := HALP.out _ HB.out
     refine value_ (w1 := w') (v := (.agg #[.int .i64 p.k, .int .i64 p.c, .int .i64 p.e, .int .i64 p.r, .int .i64 p.s, .int .i64 p.d, .slice A6 p.o.length c6, .string p.t, .slice A8 p.n.length c8])) (wanted_on rfl rfl rfl (e54.trans (by first | rfl | (simp [*]; done)))) rfl ?_ ?_
     ·go_simp
      (try simp only [i64_w])
      try (first | rfl | assumption)
     refine hK.out _ _ ⟨(by rw [ha.out]; exact putSel_upk 27 hb_ rfl rfl rfl), Q_HB⟩
    refine steps_cons ?_ ?_
    ·rintro b a w' ⟨ha, Q_HB⟩ hb_ hon hoff
     refine ⟨_, rfl, fun K hK => ?_⟩
     have e2 : a.tmps[2]? = some ((.pointer (some ⟨P, 0, none⟩))) := by rw [ha]; exact (putSel_off rfl).trans rfl
     have e54 : a.tmps[54]? = some ((.bool true)) := by rw [ha]; exact putSel_on (e := (26, 54, (.bool true))) 26 rfl rfl (hon 26 (by kernel_rfl)) rfl
     replace ha := Aside0.mk ha
     have HB := Aside0.mk Q_HB
     obtain ⟨⟨x0_, x1_, x2_, x3_, x4_, x5_⟩, x6_, x7_, x8_⟩ := HALP.out _ HB.out
     refine value_ (w1 := w') (v := (.agg #[.int .i64 p.k, .int .i64 p.c, .int .i64 p.e, .int .i64 p.r, .int .i64 p.s, .int .i64 p.d, .slice A6 p.o.length c6, .string p.t, .slice A8 p.n.length c8])) (wanted_on rfl rfl rfl (e54.trans (by first | rfl | (simp [*]; done)))) rfl ?_ ?_
     ·go_simp
      (try simp only [i64_w])
      try (first | rfl | assumption)
     refine hK.out _ _ ⟨(by rw [ha.out]; exact putSel_upk 28 hb_ rfl rfl rfl), Q_HB⟩
    refine steps_cons ?_ ?_
    ·rintro b a w' ⟨ha, Q_HB⟩ hb_ hon hoff
     refine ⟨_, rfl, fun K hK => ?_⟩
     have e55 : a.tmps[55]? = some ((.agg #[.int .i64 p.k, .int .i64 p.c, .int .i64 p.e, .int .i64 p.r, .int .i64 p.s, .int .i64 p.d, .slice A6 p.o.length c6, .string p.t, .slice A8 p.n.length c8])) := by rw [ha]; exact putSel_on (e := (27, 55, (.agg #[.int .i64 p.k, .int .i64 p.c, .int .i64 p.e, .int .i64 p.r, .int .i64 p.s, .int .i64 p.d, .slice A6 p.o.length c6, .string p.t, .slice A8 p.n.length c8]))) 27 rfl rfl (hon 27 (by kernel_rfl)) rfl
     have e56 : a.tmps[56]? = some ((.agg #[.int .i64 p.k, .int .i64 p.c, .int .i64 p.e, .int .i64 p.r, .int .i64 p.s, .int .i64 p.d, .slice A6 p.o.length c6, .string p.t, .slice A8 p.n.length c8])) := by rw [ha]; exact putSel_on (e := (28, 56, (.agg #[.int .i64 p.k, .int .i64 p.c, .int .i64 p.e, .int .i64 p.r, .int .i64 p.s, .int .i64 p.d, .slice A6 p.o.length c6, .string p.t, .slice A8 p.n.length c8]))) 28 rfl rfl (hon 28 (by kernel_rfl)) rfl
     have e54 : a.tmps[54]? = some ((.bool true)) := by rw [ha]; exact putSel_on (e := (26, 54, (.bool true))) 26 rfl rfl (hon 26 (by kernel_rfl)) rfl
     replace ha := Aside0.mk ha
     have HB := Aside0.mk Q_HB
     refine goes_ Try.func25 (by kernel_rfl) rfl #[.agg #[.int .i64 p.k, .int .i64 p.c, .int .i64 p.e, .int .i64 p.r, .int .i64 p.s, .int .i64 p.d, .slice A6 p.o.length c6, .string p.t, .slice A8 p.n.length c8], .agg #[.int .i64 p.k, .int .i64 p.c, .int .i64 p.e, .int .i64 p.r, .int .i64 p.s, .int .i64 p.d, .slice A6 p.o.length c6, .string p.t, .slice A8 p.n.length c8]] (wanted_on rfl rfl rfl (e54.trans (by first | rfl | (simp [*]; done)))) rfl rfl (by first | (simp only [List.map_toArray, List.map_cons, List.map_nil, Act.eval, Array.getD_eq_getD_getElem?, Option.getD_some, e55, e56, e54]; done) | (simp only [List.map_toArray, List.map_cons, List.map_nil, Act.eval, Array.getD_eq_getD_getElem?, Option.getD_some, e55, e56, e54]; rfl)) ?_
     refine (HSA.out _ HB.out).mono ?_
     rintro e w1_ ⟨rfl, hb⟩
     refine ⟨_, rfl, ?_⟩
     refine hK.out _ _ ⟨(by rw [ha.out]; exact putSel_upk 29 hb_ rfl rfl rfl), below_step HB.out hb⟩
    refine steps_cons ?_ ?_
    ·rintro b a w' ⟨ha, Q_HB⟩ hb_ hon hoff
     refine ⟨_, rfl, fun K hK => ?_⟩
     have e54 : a.tmps[54]? = some ((.bool true)) := by rw [ha]; exact putSel_on (e := (26, 54, (.bool true))) 26 rfl rfl (hon 26 (by kernel_rfl)) rfl
     have e57 : a.tmps[57]? = some ((.bool true)) := by rw [ha]; exact putSel_on (e := (29, 57, (.bool true))) 29 rfl rfl (hon 29 (by kernel_rfl)) rfl
     replace ha := Aside0.mk ha
     have HB := Aside0.mk Q_HB
     refine value_ (w1 := w') (v := (.bool true)) (by rfl) rfl ?_ ?_
     ·go_simp
      (try simp only [i64_w])
      try (first | rfl | assumption)
     refine hK.out _ _ ⟨(by rw [ha.out]; exact putSel_upk 30 hb_ rfl rfl rfl), Q_HB⟩
    refine steps_cons ?_ ?_
    ·rintro b a w' ⟨ha, Q_HB⟩ hb_ hon hoff
     refine ⟨_, rfl, fun K hK => ?_⟩
     have e58 : a.tmps[58]? = some ((.bool true)) := by rw [ha]; exact putSel_on (e := (30, 58, (.bool true))) 30 rfl rfl (hon 30 (by kernel_rfl)) rfl
     replace ha := Aside0.mk ha
     have HB := Aside0.mk Q_HB
     refine value_ (w1 := w') (v := (.bool true)) (by rfl) rfl ?_ ?_
     ·go_simp
      (try simp only [i64_w])
      try (first | rfl | assumption)
     refine hK.out _ _ ⟨(by rw [ha.out]; exact putSel_upk 31 hb_ rfl rfl rfl), Q_HB⟩
    refine steps_cons ?_ ?_
    ·rintro b a w' ⟨ha, Q_HB⟩ hb_ hon hoff
     refine ⟨_, rfl, fun K hK => ?_⟩
     have e59 : a.tmps[59]? = some ((.bool true)) := by rw [ha]; exact putSel_on (e := (31, 59, (.bool true))) 31 rfl rfl (hon 31 (by kernel_rfl)) rfl
     replace ha := Aside0.mk ha
     have HB := Aside0.mk Q_HB
     refine goes_ Try.func20 (by kernel_rfl) rfl #[] (wanted_on rfl rfl rfl (e59.trans (by first | rfl | (simp [*]; done)))) rfl rfl (by first | (simp only [List.map_toArray, List.map_cons, List.map_nil, Act.eval, Array.getD_eq_getD_getElem?, Option.getD_some, e59]; done) | (simp only [List.map_toArray, List.map_cons, List.map_nil, Act.eval, Array.getD_eq_getD_getElem?, Option.getD_some, e59]; rfl)) ?_
     refine (lives_c _).mono ?_
     rintro e w1_ ⟨rfl, hb⟩
     refine ⟨_, rfl, ?_⟩
     refine hK.out _ _ ⟨(by rw [ha.out]; exact putSel_upk 32 hb_ rfl rfl rfl), below_step HB.out hb⟩
    refine steps_cons ?_ ?_
    ·rintro b a w' ⟨ha, Q_HB⟩ hb_ hon hoff
     refine ⟨_, rfl, fun K hK => ?_⟩
     have e59 : a.tmps[59]? = some ((.bool true)) := by rw [ha]; exact putSel_on (e := (31, 59, (.bool true))) 31 rfl rfl (hon 31 (by kernel_rfl)) rfl
     have e60 : a.tmps[60]? = some ((.bool true)) := by rw [ha]; exact putSel_on (e := (32, 60, (.bool true))) 32 rfl rfl (hon 32 (by kernel_rfl)) rfl
     replace ha := Aside0.mk ha
     have HB := Aside0.mk Q_HB
     refine value_ (w1 := w') (v := (.bool true)) (by rfl) rfl ?_ ?_
     ·go_simp
      (try simp only [i64_w])
      try (first | rfl | assumption)
     refine hK.out _ _ ⟨(by rw [ha.out]; exact putSel_upk 33 hb_ rfl rfl rfl), Q_HB⟩
    refine steps_cons ?_ ?_
    ·rintro b a w' ⟨ha, Q_HB⟩ hb_ hon hoff
     refine ⟨_, rfl, fun K hK => ?_⟩
     have e61 : a.tmps[61]? = some ((.bool true)) := by rw [ha]; exact putSel_on (e := (33, 61, (.bool true))) 33 rfl rfl (hon 33 (by kernel_rfl)) rfl
     replace ha := Aside0.mk ha
     have HB := Aside0.mk Q_HB
     refine value_ (w1 := w') (v := (.bool true)) (by rfl) rfl ?_ ?_
     ·go_simp
      (try simp only [i64_w])
      try (first | rfl | assumption)
     refine hK.out _ _ ⟨(by rw [ha.out]; exact putSel_upk 34 hb_ rfl rfl rfl), Q_HB⟩
    exact steps_nil
   rintro b a we hall ⟨ha, Q_HB⟩
   clear HB
   have hb0_ := hall 0 (by kernel_rfl)
   have hb1_ := hall 1 (by kernel_rfl)
   have hb2_ := hall 2 (by kernel_rfl)
   have hb3_ := hall 3 (by kernel_rfl)
   have hb4_ := hall 4 (by kernel_rfl)
   have hb5_ := hall 5 (by kernel_rfl)
   have hb6_ := hall 6 (by kernel_rfl)
   have hb7_ := hall 7 (by kernel_rfl)
   have hb8_ := hall 8 (by kernel_rfl)
   have hb9_ := hall 9 (by kernel_rfl)
   have hb10_ := hall 10 (by kernel_rfl)
   have hb11_ := hall 11 (by kernel_rfl)
   have hb12_ := hall 12 (by kernel_rfl)
   have hb13_ := hall 13 (by kernel_rfl)
   have hb14_ := hall 14 (by kernel_rfl)
   have hb15_ := hall 15 (by kernel_rfl)
   have hb16_ := hall 16 (by kernel_rfl)
   have hb17_ := hall 17 (by kernel_rfl)
   have hb18_ := hall 18 (by kernel_rfl)
   have hb19_ := hall 19 (by kernel_rfl)
   have hb20_ := hall 20 (by kernel_rfl)
   have hb21_ := hall 21 (by kernel_rfl)
   have hb22_ := hall 22 (by kernel_rfl)
   have hb23_ := hall 23 (by kernel_rfl)
   have hb24_ := hall 24 (by kernel_rfl)
   have hb25_ := hall 25 (by kernel_rfl)
   have hb26_ := hall 26 (by kernel_rfl)
   have hb27_ := hall 27 (by kernel_rfl)
   have hb28_ := hall 28 (by kernel_rfl)
   have hb29_ := hall 29 (by kernel_rfl)
   have hb30_ := hall 30 (by kernel_rfl)
   have hb31_ := hall 31 (by kernel_rfl)
   have hb32_ := hall 32 (by kernel_rfl)
   have hb33_ := hall 33 (by kernel_rfl)
   have hb34_ := hall 34 (by kernel_rfl)
   subst ha
   simp only [putSel, hb0_, hb1_, hb2_, hb3_, hb4_, hb5_, hb6_, hb7_, hb8_, hb9_, hb10_, hb11_, hb12_, hb13_, hb14_, hb15_, hb16_, hb17_, hb18_, hb19_, hb20_, hb21_, hb22_, hb23_, hb24_, hb25_, hb26_, hb27_, hb28_, hb29_, hb30_, hb31_, hb32_, hb33_, hb34_, if_true, Act.put, List.setIfInBounds_toArray, List.set_cons_zero, List.set_cons_succ]
   have HB := Aside0.mk Q_HB
   clear Q_HB
   clear hall hb0_ hb1_ hb2_ hb3_ hb4_ hb5_ hb6_ hb7_ hb8_ hb9_ hb10_ hb11_ hb12_ hb13_ hb14_ hb15_ hb16_ hb17_ hb18_ hb19_ hb20_ hb21_ hb22_ hb23_ hb24_ hb25_ hb26_ hb27_ hb28_ hb29_ hb30_ hb31_ hb32_ hb33_ hb34_
   go_wp2_with fail
   go_ret
   exact ⟨rfl, below_step HL5.out HB.out⟩
end Go.Proofs.Ytedfcjcnhgomoaa.MsgLaw
end
-- MERGED YtedfcjcnhgomoaaOpens
section
namespace Go.Proofs.Ytedfcjcnhgomoaa.Opens
open Go.ChangeShapes Go.WideShapes Go.Deep Go.RowKit Go.Proofs.YtedfcjcnhgomoaaW.PrintWords
def Opens {α : Type} (P : Program) (t : TypeId) (d : Kd α) (ok : α → Prop) : Prop :=
 P.cellsOf t = d.sz ∧ ∀ (H : Type) (enc : TypeId × Value → H) (w : World) (base : Nat) (sp : Nat → Bool) (held : Bool) (fuel : Nat) (cs : List Value) (x : DataW H × List MemPlace),
  DataW.trod enc P w base sp held fuel t cs = some x → ∃ a : α, d.K w a cs ∧ ok a
theorem list_of {α : Type} (Q : Nat → α → Prop) : ∀ len : Nat, (∀ i, i < len → ∃ x, Q i x) → ∃ l : List α, l.length = len ∧ ∀ i x, l[i]? = some x → Q i x
 | 0, _ => ⟨[], rfl, fun i x hx => by simp at hx⟩
 | k + 1, each => by
  obtain ⟨l, hl, hf⟩ := list_of Q k (fun i hi => each i (by omega))
  obtain ⟨x, h1⟩ := each k (by omega)
  refine ⟨l ++ [x], by simp [hl], fun i y hy => ?_⟩
  by_cases hik : i < l.length
  ·rw [List.getElem?_append_left hik] at hy
   exact hf i y hy
  ·rw [List.getElem?_append_right (by omega)] at hy
   have hi0 : i - l.length = 0 := by
    rcases Nat.eq_zero_or_pos (i - l.length) with h | h
    ·exact h
    ·rw [List.getElem?_eq_none (by simp; omega)] at hy; cases hy
   rw [hi0] at hy
   obtain rfl : x = y := by simpa using hy
   obtain rfl : i = k := by omega
   exact h1
section
variable {P : Program} {t e : TypeId} {α β γ δ : Type}
theorem int_ {k : IntKind} (ht : P.underlying t = some (.int k)) (hc : P.cellsOf t = 1) : Opens P t (Kd.int k) (fun n => (Lit.int k n).wf = true) :=
 ⟨hc, fun _ _ _ _ _ _ _ _ _ h => by
  obtain ⟨n, rfl, _, hw⟩ := DataW.trod_int ht h
  exact ⟨n, rfl, hw⟩⟩
theorem string_ (ht : P.underlying t = some .string) (hc : P.cellsOf t = 1) : Opens P t Kd.string (fun s => s.size ≤ maxLen) :=
 ⟨hc, fun _ _ _ _ _ _ _ _ _ h => by
  obtain ⟨n, rfl, _, hw⟩ := DataW.trod_string ht h
  exact ⟨n, rfl, hw⟩⟩
theorem slice_ {d : Kd α} {ok : α → Prop} (ht : P.underlying t = some (.slice e)) (hc : P.cellsOf t = 1) (he : Opens P e d ok) : Opens P t (Kd.slice e d) (fun l => l.length ≤ maxLen ∧ ∀ x ∈ l, ok x) := by
 refine ⟨hc, fun H enc w base sp held fuel cs x h => ?_⟩
 rcases open_slice ht h with ⟨rfl, _⟩ | ⟨a, len, cap, m, n, D, Pl, rfl, hb, hl, hm, hmm, _, hi⟩
 ·refine ⟨[], ⟨none, 0, rfl, Nat.le_refl _, rfl, Nat.zero_le _, fun h => absurd h (by simp)⟩, Nat.zero_le _, fun _ h => by cases h⟩
 ·have hlm : len ≤ m := by rw [hmm]; split <;> omega
  have each : ∀ i, i < len → ∃ (x : α) (cs' : List Value), w.cells? base (a.add (i * P.cellsOf e)) (P.cellsOf e) = some cs' ∧ d.K w x cs' ∧ ok x := by
   intro i hlt
   obtain ⟨cs', h1, h2⟩ := hi i (by omega)
   obtain ⟨x, h3, h4⟩ := he.2 H enc w base sp held n cs' _ h2
   exact ⟨x, cs', h1, h3, h4⟩
  have hex := list_of (fun i x => ∃ cs' : List Value, w.cells? base (a.add (i * P.cellsOf e)) (P.cellsOf e) = some cs' ∧ d.K w x cs' ∧ ok x) len each
  obtain ⟨l, hll, hf⟩ := hex
  subst hll
  refine ⟨l, ⟨some a, cap, rfl, hl, rfl, ?_, fun _ => ⟨a, rfl, fun j p hj => ?_⟩⟩, by omega, fun x hx => ?_⟩
  ·unfold maxLen at hm; omega
  ·obtain ⟨cs', h1, h2, _⟩ := hf j p hj
   obtain ⟨_, h3, h4⟩ := World.cells?_some h1
   refine ⟨cs', d.K_len h2, h2, fun i u hu => ?_⟩
   have hil : i < P.cellsOf e := by
    have := (List.getElem?_eq_some_iff.1 hu).1
    omega
   rw [← Go.Deep.add_add, ← he.1, h4 i hil, hu]
  ·obtain ⟨i, hi⟩ := List.getElem?_of_mem hx
   obtain ⟨_, _, _, h⟩ := hf i x hi
   exact h
theorem struct2_ {d0 : Kd α} {d1 : Kd β} {ok0 : α → Prop} {ok1 : β → Prop} {f0 f1 : Field} (ht : P.underlying t = some (.struct #[f0, f1])) (hc : P.cellsOf t = d0.sz + d1.sz) (h0 : Opens P f0.type d0 ok0) (h1 : Opens P f1.type d1 ok1) (o0 : f0.offset = 0) (o1 : f1.offset = d0.sz) :
  Opens P t (Kd.pair d0 d1) (fun x => ok0 x.1 ∧ ok1 x.2) := by
 refine ⟨hc, fun H enc w base sp held fuel cs x h => ?_⟩
 obtain ⟨ys, n, _, _, hl, hyl, hf⟩ := DataW.trod_struct ht h
 have g0 := hf 0 f0 rfl
 have g1 := hf 1 f1 rfl
 simp only [List.size_toArray, List.length_cons, List.length_nil] at hyl
 rw [List.getElem?_eq_getElem (by omega)] at g0 g1
 obtain ⟨a, ka, oa⟩ := h0.2 _ _ _ _ _ _ _ _ _ g0
 obtain ⟨b, kb, ob⟩ := h1.2 _ _ _ _ _ _ _ _ _ g1
 refine ⟨(a, b), ⟨_, _, ?_, ka, kb⟩, oa, ob⟩
 rw [o0, o1, h0.1, h1.1, List.drop_zero]
 rw [hc] at hl
 have e1 : (cs.drop d0.sz).take d1.sz = cs.drop d0.sz := List.take_of_length_le (by rw [List.length_drop]; omega)
 rw [e1, List.take_append_drop]
theorem struct3_ {d0 : Kd α} {d1 : Kd β} {d2 : Kd γ} {ok0 : α → Prop} {ok1 : β → Prop} {ok2 : γ → Prop} {f0 f1 f2 : Field} (ht : P.underlying t = some (.struct #[f0, f1, f2])) (hc : P.cellsOf t = d0.sz + (d1.sz + d2.sz)) (h0 : Opens P f0.type d0 ok0) (h1 : Opens P f1.type d1 ok1) (h2 : Opens P f2.type d2 ok2)
  (o0 : f0.offset = 0) (o1 : f1.offset = d0.sz) (o2 : f2.offset = d0.sz + d1.sz) : Opens P t (Kd.pair d0 (Kd.pair d1 d2)) (fun x => ok0 x.1 ∧ ok1 x.2.1 ∧ ok2 x.2.2) := by
 refine ⟨hc, fun H enc w base sp held fuel cs x h => ?_⟩
 obtain ⟨ys, n, _, _, hl, hyl, hf⟩ := DataW.trod_struct ht h
 have g0 := hf 0 f0 rfl
 have g1 := hf 1 f1 rfl
 have g2 := hf 2 f2 rfl
 simp only [List.size_toArray, List.length_cons, List.length_nil] at hyl
 rw [List.getElem?_eq_getElem (by omega)] at g0 g1 g2
 obtain ⟨a, ka, oa⟩ := h0.2 _ _ _ _ _ _ _ _ _ g0
 obtain ⟨b, kb, ob⟩ := h1.2 _ _ _ _ _ _ _ _ _ g1
 obtain ⟨c, kc, oc⟩ := h2.2 _ _ _ _ _ _ _ _ _ g2
 refine ⟨(a, b, c), ⟨_, _, ?_, ka, _, _, rfl, kb, kc⟩, oa, ob, oc⟩
 rw [o0, o1, o2, h0.1, h1.1, h2.1, List.drop_zero]
 rw [hc] at hl
 have e1 : (cs.drop (d0.sz + d1.sz)).take d2.sz = cs.drop (d0.sz + d1.sz) := List.take_of_length_le (by rw [List.length_drop]; omega)
 rw [e1, ← List.drop_drop, List.take_append_drop, List.take_append_drop]
theorem arg_ {d : Kd α} {ok : α → Prop} (ho : Opens P t d ok) {H : Type} {enc : TypeId × Value → H} {w : World} {base : Nat} {sp : Nat → Bool} {held : Bool} {v : Value} {x : DataW H} {ps : List MemPlace} (h : DataW.Trod enc P w base sp held t v x ps) : ∃ a : α, d.K w a v.cells.toList ∧ ok a := by
 obtain ⟨fuel, hf⟩ := h
 exact ho.2 _ _ _ _ _ _ _ _ _ hf
end
end Go.Proofs.Ytedfcjcnhgomoaa.Opens
end
-- MERGED YtedfcjcnhgomoaaOpens9
section
namespace Go.Proofs.Ytedfcjcnhgomoaa.Opens
open Go.ChangeShapes Go.WideShapes Go.Deep Go.RowKit Go.Proofs.YtedfcjcnhgomoaaW.PrintWords
theorem struct9_ {α0 α1 α2 α3 α4 α5 α6 α7 α8 : Type} {P : Program} {t : TypeId} {d0 : Kd α0} {d1 : Kd α1} {d2 : Kd α2} {d3 : Kd α3} {d4 : Kd α4} {d5 : Kd α5} {d6 : Kd α6} {d7 : Kd α7} {d8 : Kd α8} {ok0 : α0 → Prop} {ok1 : α1 → Prop} {ok2 : α2 → Prop} {ok3 : α3 → Prop} {ok4 : α4 → Prop} {ok5 : α5 → Prop} {ok6 : α6 → Prop} {ok7 : α7 → Prop} {ok8 : α8 → Prop} {f0 f1 f2 f3 f4 f5 f6 f7 f8 : Field} (ht : P.underlying t = some (.struct #[f0, f1, f2, f3, f4, f5, f6, f7, f8])) (hc : P.cellsOf t = d0.sz + (d1.sz + (d2.sz + (d3.sz + (d4.sz + (d5.sz + (d6.sz + (d7.sz + d8.sz)))))))) (h0 : Opens P f0.type d0 ok0) (h1 : Opens P f1.type d1 ok1) (h2 : Opens P f2.type d2 ok2) (h3 : Opens P f3.type d3 ok3) (h4 : Opens P f4.type d4 ok4) (h5 : Opens P f5.type d5 ok5) (h6 : Opens P f6.type d6 ok6) (h7 : Opens P f7.type d7 ok7) (h8 : Opens P f8.type d8 ok8) (o0 : f0.offset = 0) (o1 : f1.offset = d0.sz) (o2 : f2.offset = d0.sz + d1.sz) (o3 : f3.offset = d0.sz + d1.sz + d2.sz) (o4 : f4.offset = d0.sz + d1.sz + d2.sz + d3.sz) (o5 : f5.offset = d0.sz + d1.sz + d2.sz + d3.sz + d4.sz) (o6 : f6.offset = d0.sz + d1.sz + d2.sz + d3.sz + d4.sz + d5.sz) (o7 : f7.offset = d0.sz + d1.sz + d2.sz + d3.sz + d4.sz + d5.sz + d6.sz) (o8 : f8.offset = d0.sz + d1.sz + d2.sz + d3.sz + d4.sz + d5.sz + d6.sz + d7.sz) :
  Opens P t (Kd.pair d0 (Kd.pair d1 (Kd.pair d2 (Kd.pair d3 (Kd.pair d4 (Kd.pair d5 (Kd.pair d6 (Kd.pair d7 d8)))))))) (fun x => ok0 x.1 ∧ ok1 x.2.1 ∧ ok2 x.2.2.1 ∧ ok3 x.2.2.2.1 ∧ ok4 x.2.2.2.2.1 ∧ ok5 x.2.2.2.2.2.1 ∧ ok6 x.2.2.2.2.2.2.1 ∧ ok7 x.2.2.2.2.2.2.2.1 ∧ ok8 x.2.2.2.2.2.2.2.2) := by
 refine ⟨hc, fun H enc w base sp held fuel cs x h => ?_⟩
 obtain ⟨ys, n, _, _, hl, hyl, hf⟩ := DataW.trod_struct ht h
 have g0 := hf 0 f0 rfl
 have g1 := hf 1 f1 rfl
 have g2 := hf 2 f2 rfl
 have g3 := hf 3 f3 rfl
 have g4 := hf 4 f4 rfl
 have g5 := hf 5 f5 rfl
 have g6 := hf 6 f6 rfl
 have g7 := hf 7 f7 rfl
 have g8 := hf 8 f8 rfl
 simp only [List.size_toArray, List.length_cons, List.length_nil] at hyl
 rw [List.getElem?_eq_getElem (by omega)] at g0 g1 g2 g3 g4 g5 g6 g7 g8
 obtain ⟨a0, k0, q0⟩ := h0.2 _ _ _ _ _ _ _ _ _ g0
 obtain ⟨a1, k1, q1⟩ := h1.2 _ _ _ _ _ _ _ _ _ g1
 obtain ⟨a2, k2, q2⟩ := h2.2 _ _ _ _ _ _ _ _ _ g2
 obtain ⟨a3, k3, q3⟩ := h3.2 _ _ _ _ _ _ _ _ _ g3
 obtain ⟨a4, k4, q4⟩ := h4.2 _ _ _ _ _ _ _ _ _ g4
 obtain ⟨a5, k5, q5⟩ := h5.2 _ _ _ _ _ _ _ _ _ g5
 obtain ⟨a6, k6, q6⟩ := h6.2 _ _ _ _ _ _ _ _ _ g6
 obtain ⟨a7, k7, q7⟩ := h7.2 _ _ _ _ _ _ _ _ _ g7
 obtain ⟨a8, k8, q8⟩ := h8.2 _ _ _ _ _ _ _ _ _ g8
 refine ⟨(a0, a1, a2, a3, a4, a5, a6, a7, a8), ⟨_, _, ?_, k0, _, _, rfl, k1, _, _, rfl, k2, _, _, rfl, k3, _, _, rfl, k4, _, _, rfl, k5, _, _, rfl, k6, _, _, rfl, k7, k8⟩, q0, q1, q2, q3, q4, q5, q6, q7, q8⟩
 rw [o0, o1, o2, o3, o4, o5, o6, o7, o8, h0.1, h1.1, h2.1, h3.1, h4.1, h5.1, h6.1, h7.1, h8.1, List.drop_zero]
 rw [hc] at hl
 have key : ∀ (o m : Nat), (cs.drop o).take m ++ cs.drop (o + m) = cs.drop o := fun o m => by rw [← List.drop_drop, List.take_append_drop]
 have e1 : (cs.drop (d0.sz + d1.sz + d2.sz + d3.sz + d4.sz + d5.sz + d6.sz + d7.sz)).take d8.sz = cs.drop (d0.sz + d1.sz + d2.sz + d3.sz + d4.sz + d5.sz + d6.sz + d7.sz) := List.take_of_length_le (by rw [List.length_drop]; omega)
 rw [e1, key (d0.sz + d1.sz + d2.sz + d3.sz + d4.sz + d5.sz + d6.sz) d7.sz, key (d0.sz + d1.sz + d2.sz + d3.sz + d4.sz + d5.sz) d6.sz, key (d0.sz + d1.sz + d2.sz + d3.sz + d4.sz) d5.sz, key (d0.sz + d1.sz + d2.sz + d3.sz) d4.sz, key (d0.sz + d1.sz + d2.sz) d3.sz, key (d0.sz + d1.sz) d2.sz, key (d0.sz) d1.sz, List.take_append_drop]
end Go.Proofs.Ytedfcjcnhgomoaa.Opens
end
-- MERGED YtedfcjcnhgomoaaMaps1
section
namespace Go.Proofs.Ytedfcjcnhgomoaa.Maps1
open Go.RowKit Go.Proofs.YtedfcjcnhgomoaaW.PrintWords Go.Proofs.YtedfcjcnhgomoaaW.PrintLast Go.Proofs.YtedfcjcnhgomoaaW.PrintMore
theorem C_map {α β : Type} {d : Kd α} {d' : Kd β} {w : World} {A : Option Addr} {n : Nat} {xs : List α} (hs : d.sz = d'.sz) (f : α → β) (hK : ∀ x cs, d.K w x cs → d'.K w (f x) cs) (h : Kd.C d w A n xs) : Kd.C d' w A n (xs.map f) := by
 refine ⟨by rw [List.length_map]; exact h.1, h.2.1, fun hp => ?_⟩
 obtain ⟨ad, e, hr⟩ := h.2.2 hp
 refine ⟨ad, e, fun j p hj => ?_⟩
 rw [List.getElem?_map] at hj
 cases hx : xs[j]? with
 | none => rw [hx] at hj; cases hj
 | some x =>
  rw [hx] at hj
  obtain rfl := Option.some.inj hj
  obtain ⟨c, h1, h2, h3⟩ := hr j x hx
  exact ⟨c, by rw [h1, hs], hK x c h2, fun i u hu => by rw [← hs]; exact h3 i u hu⟩
end Go.Proofs.Ytedfcjcnhgomoaa.Maps1
end
-- MERGED YtedfcjcnhgomoaaMsgRow
section
namespace Go.Proofs.Ytedfcjcnhgomoaa.MsgRow
open Go.RowKit Go.Proofs.Ytedfcjcnhgomoaa.P Go.Proofs.YtedfcjcnhgomoaaW.PrintWords Go.Proofs.YtedfcjcnhgomoaaW.PrintLast Go.Proofs.YtedfcjcnhgomoaaW.PrintMore Go.Proofs.Ytedfcjcnhgomoaa.NoteN Go.Proofs.Ytedfcjcnhgomoaa.MsgA Go.Proofs.Ytedfcjcnhgomoaa.MsgW Go.Proofs.Ytedfcjcnhgomoaa.MsgE
set_option linter.unusedVariables false
abbrev Tm : Type := Int × Int × Int × Int × Int × Int × List (Int × ByteArray × Int) × ByteArray × List ((Int × Int) × Int)
abbrev dR : Kd (Int × ByteArray × Int) := Kd.pair (Kd.int .i64) (Kd.pair Kd.string (Kd.int .i64))
abbrev dN : Kd ((Int × Int) × Int) := Kd.pair (Kd.pair (Kd.int .i64) (Kd.int .i64)) (Kd.int .i64)
def mkR (x : Int × ByteArray × Int) : EditL.Rn := ⟨x.1, x.2.1, x.2.2⟩
def mkN (x : (Int × Int) × Int) : Nt := ⟨⟨x.1.1, x.1.2⟩, x.2⟩
def mkM (x : Tm) : Ms := ⟨x.1, x.2.1, x.2.2.1, x.2.2.2.1, x.2.2.2.2.1, x.2.2.2.2.2.1, x.2.2.2.2.2.2.1.map mkR, x.2.2.2.2.2.2.2.1, x.2.2.2.2.2.2.2.2.map mkN⟩
theorem lies_of {w : World} {x : Tm} {cs : Array Value} (h : (Kd.pair (Kd.int .i64) (Kd.pair (Kd.int .i64) (Kd.pair (Kd.int .i64) (Kd.pair (Kd.int .i64) (Kd.pair (Kd.int .i64) (Kd.pair (Kd.int .i64) (Kd.pair (Kd.slice 85 dR) (Kd.pair Kd.string (Kd.slice 104 dN))))))))).K w x cs.toList) :
  ∃ A6 c6 A8 c8, Value.agg cs = ((mkM x).mg A6 c6 A8 c8).val ∧ Lies (mkM x) A6 c6 A8 c8 w := by
 obtain ⟨_, _, he, rfl, _, _, rfl, rfl, _, _, rfl, rfl, _, _, rfl, rfl, _, _, rfl, rfl, _, _, rfl, rfl, _, _, rfl, ⟨A6, c6, rfl, hc6, hC6⟩, _, _, rfl, rfl, ⟨A8, c8, rfl, hc8, hC8⟩⟩ := h
 refine ⟨A6, c6, A8, c8, ?_, ?_⟩
 ·rw [show cs = ((mkM x).mg A6 c6 A8 c8).cs from by
   apply Array.toList_inj.1
   rw [he]
   simp [Ms.mg, Mg.cs, mkM]]
  rfl
 ·refine ⟨?_, by simpa [mkM] using hc6, ?_, by simpa [mkM] using hc8⟩
  ·have := Maps1.C_map (d := dR) (d' := k85) rfl mkR (fun x cs hx => hx) hC6
   show Kd.C k85 w A6 (x.2.2.2.2.2.2.1.map mkR).length (x.2.2.2.2.2.2.1.map mkR)
   rw [List.length_map]; exact this
  ·have := Maps1.C_map (d := dN) (d' := k104) rfl mkN (fun x cs hx => hx) hC8
   show Kd.C k104 w A8 (x.2.2.2.2.2.2.2.2.map mkN).length (x.2.2.2.2.2.2.2.2.map mkN)
   rw [List.length_map]; exact this
theorem row (cs : Array Value) (x : Tm) (cs2 : Array Value) (x2 : Tm) (w : World) {p1 p2 : Prop} (h1 : (Kd.pair (Kd.int .i64) (Kd.pair (Kd.int .i64) (Kd.pair (Kd.int .i64) (Kd.pair (Kd.int .i64) (Kd.pair (Kd.int .i64) (Kd.pair (Kd.int .i64) (Kd.pair (Kd.slice 85 dR) (Kd.pair Kd.string (Kd.slice 104 dN))))))))).K w x cs.toList) (_ : p1) (h2 : (Kd.pair (Kd.int .i64) (Kd.pair (Kd.int .i64) (Kd.pair (Kd.int .i64) (Kd.pair (Kd.int .i64) (Kd.pair (Kd.int .i64) (Kd.pair (Kd.int .i64) (Kd.pair (Kd.slice 85 dR) (Kd.pair Kd.string (Kd.slice 104 dN))))))))).K w x2 cs2.toList) (_ : p2) :
  Calls Try.prog 7 #[.agg cs, .agg cs2] w fun e w' => e = .returned (.bool true) ∧ Below w.heap.size w w' := by
 obtain ⟨A6, c6, A8, c8, e1, l1⟩ := lies_of h1
 obtain ⟨B6, d6, B8, d8, e2, l2⟩ := lies_of h2
 rw [e1, e2]
 exact MsgLaw.encodes_c (mkM x) (mkM x2) A6 c6 A8 c8 B6 d6 B8 d8 w l1 l2
end Go.Proofs.Ytedfcjcnhgomoaa.MsgRow
end
-- MERGED YtedfcjcnhgomoaaWSized
namespace Go.Proofs.YtedfcjcnhgomoaaW.PrintWords
end Go.Proofs.YtedfcjcnhgomoaaW.PrintWords
-- MERGED YtedfcjcnhgomoaaLawMessageEncodes
section
namespace Go.Proofs.Ytedfcjcnhgomoaa.messageEncodes
open Go.ChangeShapes Go.WideShapes Go.ChangeAt Go.RowKit Go.Proofs.YtedfcjcnhgomoaaW.PrintWords
open Go.ChangeMaps (open_string shut_string)
set_option linter.unusedVariables false
theorem own : ownKnob Try.prog.godebug = none := by kernel_rfl
theorem laidOut : laidOutB Try.prog = true := by kernel_rfl
theorem o3 : Opens.Opens Try.prog 3 (Kd.int .i64) (fun n => (Lit.int .i64 n).wf = true) := Opens.int_ (t := 3) Try.underlying3 (by kernel_rfl)
theorem o9 : Opens.Opens Try.prog 9 Kd.string (fun s => s.size ≤ maxLen) := Opens.string_ (t := 9) Try.underlying9 (by kernel_rfl)
theorem o85 : Opens.Opens Try.prog 85 (Kd.pair (Kd.int .i64) (Kd.pair Kd.string (Kd.int .i64))) (fun x => (fun n => (Lit.int .i64 n).wf = true) x.1 ∧ (fun s => s.size ≤ maxLen) x.2.1 ∧ (fun n => (Lit.int .i64 n).wf = true) x.2.2) := Opens.struct3_ (t := 85) Try.underlying85 (by kernel_rfl) o3 o9 o3 rfl rfl rfl
theorem o41 : Opens.Opens Try.prog 41 (Kd.slice 85 (Kd.pair (Kd.int .i64) (Kd.pair Kd.string (Kd.int .i64)))) (fun l => l.length ≤ maxLen ∧ ∀ x ∈ l, (fun x => (fun n => (Lit.int .i64 n).wf = true) x.1 ∧ (fun s => s.size ≤ maxLen) x.2.1 ∧ (fun n => (Lit.int .i64 n).wf = true) x.2.2) x) := Opens.slice_ (t := 41) (e := 85) Try.underlying41 (by kernel_rfl) o85
theorem o102 : Opens.Opens Try.prog 102 (Kd.pair (Kd.int .i64) (Kd.int .i64)) (fun x => (fun n => (Lit.int .i64 n).wf = true) x.1 ∧ (fun n => (Lit.int .i64 n).wf = true) x.2) := Opens.struct2_ (t := 102) Try.underlying102 (by kernel_rfl) o3 o3 rfl rfl
theorem o104 : Opens.Opens Try.prog 104 (Kd.pair (Kd.pair (Kd.int .i64) (Kd.int .i64)) (Kd.int .i64)) (fun x => (fun x => (fun n => (Lit.int .i64 n).wf = true) x.1 ∧ (fun n => (Lit.int .i64 n).wf = true) x.2) x.1 ∧ (fun n => (Lit.int .i64 n).wf = true) x.2) := Opens.struct2_ (t := 104) Try.underlying104 (by kernel_rfl) o102 o3 rfl rfl
theorem o42 : Opens.Opens Try.prog 42 (Kd.slice 104 (Kd.pair (Kd.pair (Kd.int .i64) (Kd.int .i64)) (Kd.int .i64))) (fun l => l.length ≤ maxLen ∧ ∀ x ∈ l, (fun x => (fun x => (fun n => (Lit.int .i64 n).wf = true) x.1 ∧ (fun n => (Lit.int .i64 n).wf = true) x.2) x.1 ∧ (fun n => (Lit.int .i64 n).wf = true) x.2) x) := Opens.slice_ (t := 42) (e := 104) Try.underlying42 (by kernel_rfl) o104
theorem o44 : Opens.Opens Try.prog 44 (Kd.pair (Kd.int .i64) (Kd.pair (Kd.int .i64) (Kd.pair (Kd.int .i64) (Kd.pair (Kd.int .i64) (Kd.pair (Kd.int .i64) (Kd.pair (Kd.int .i64) (Kd.pair (Kd.slice 85 (Kd.pair (Kd.int .i64) (Kd.pair Kd.string (Kd.int .i64)))) (Kd.pair Kd.string (Kd.slice 104 (Kd.pair (Kd.pair (Kd.int .i64) (Kd.int .i64)) (Kd.int .i64))))))))))) (fun x => (fun n => (Lit.int .i64 n).wf = true) x.1 ∧ (fun n => (Lit.int .i64 n).wf = true) x.2.1 ∧ (fun n => (Lit.int .i64 n).wf = true) x.2.2.1 ∧ (fun n => (Lit.int .i64 n).wf = true) x.2.2.2.1 ∧ (fun n => (Lit.int .i64 n).wf = true) x.2.2.2.2.1 ∧ (fun n => (Lit.int .i64 n).wf = true) x.2.2.2.2.2.1 ∧ (fun l => l.length ≤ maxLen ∧ ∀ x ∈ l, (fun x => (fun n => (Lit.int .i64 n).wf = true) x.1 ∧ (fun s => s.size ≤ maxLen) x.2.1 ∧ (fun n => (Lit.int .i64 n).wf = true) x.2.2) x) x.2.2.2.2.2.2.1 ∧ (fun s => s.size ≤ maxLen) x.2.2.2.2.2.2.2.1 ∧ (fun l => l.length ≤ maxLen ∧ ∀ x ∈ l, (fun x => (fun x => (fun n => (Lit.int .i64 n).wf = true) x.1 ∧ (fun n => (Lit.int .i64 n).wf = true) x.2) x.1 ∧ (fun n => (Lit.int .i64 n).wf = true) x.2) x) x.2.2.2.2.2.2.2.2) := Opens.struct9_ (t := 44) Try.underlying44 (by kernel_rfl) o3 o3 o3 o3 o3 o3 o41 o9 o42 rfl rfl rfl rfl rfl rfl rfl rfl rfl
set_option maxRecDepth 100000 in
theorem lifted (os : Os) (started : os.Started) (H : Type) (enc : TypeId × Value → H) :
  ReturnsInHanded {} Try.checked os 7 .any (Rows.messageEncodesSpec.pre6 enc Try.prog Try.f7 Rows.messageEncodesRow.domain false) (Rows.messageEncodesSpec.post enc Try.prog Try.f7 false true false false) := by
 refine returnsInHanded_of_change_sized (C := Try.checked) own started (by kernel_rfl) Try.func7
  (ChangeSpec.witness6 (enc := enc) (C := Try.checked) false ⟨#[], #[(.agg #[(.int .i64 0), (.int .i64 0), (.int .i64 0), (.int .i64 0), (.int .i64 0), (.int .i64 0), (.slice none 0 0), (.string ByteArray.empty), (.slice none 0 0)]), (.agg #[(.int .i64 0), (.int .i64 0), (.int .i64 0), (.int .i64 0), (.int .i64 0), (.int .i64 0), (.slice none 0 0), (.string ByteArray.empty), (.slice none 0 0)])], []⟩ 8 (by kernel_rfl) (by kernel_rfl) (by kernel_rfl) (by kernel_rfl)) ?_
 intro W base args ds gs before hval0 hW hcnd hsz0 _
 have hsz : (DataW.weightsEach Try.prog (Try.f7.params.toList ++ Rows.messageEncodesSpec.plain.varTypes Try.prog) (ds ++ gs)).all (· ≤ reachBytes) = true := hsz0
 have hval : ∀ (j : Nat) t v, Try.f7.params[j]? = some t → args[j]? = some v → Value.okWide Try.prog W .any base t v := hval0
 have hW' := hW
 obtain ⟨p, q, hA0, hV, rfl, hfz, hnd⟩ := hW
 have hA : DataW.TrodAll enc Try.prog W 0 (fun _ => true) true Try.f7.params.toList args.toList ds p := hA0
 rw [Try.params7] at hA hval hsz
 obtain ⟨v0, vs0, d0, ds0, p0, q0, hargs, rfl, rfl, h0, r0⟩ := trodAll_cons hA
 obtain ⟨v1, vs1, d1, ds1, p1, q1, rfl, rfl, rfl, h1, r1⟩ := trodAll_cons r0
 obtain ⟨rfl, rfl, rfl⟩ := trodAll_nil r1
 obtain rfl : args = #[v0, v1] := by cases args; simp_all
 obtain ⟨rfl, rfl⟩ := trodVars_none hV
 obtain ⟨cs0, rfl, hcs0⟩ := okWide_struct Try.underlying44 (hval 0 44 v0 rfl rfl)
 have k0 := h0
 have lt0 : ∀ x ∈ p0, x.block < W.heap.size := by obtain ⟨m, hm⟩ := k0; exact DataW.trod_lt m _ _ _ hm
 obtain ⟨x0, hK0, ok0⟩ := Opens.arg_ o44 h0
 obtain ⟨cs1, rfl, hcs1⟩ := okWide_struct Try.underlying44 (hval 1 44 v1 rfl rfl)
 have k1 := h1
 have lt1 : ∀ x ∈ p1, x.block < W.heap.size := by obtain ⟨m, hm⟩ := k1; exact DataW.trod_lt m _ _ _ hm
 obtain ⟨x1, hK1, ok1⟩ := Opens.arg_ o44 h1
 clear hA0 hval0 hsz0 hsz
 refine (MsgRow.row cs0 x0 cs1 x1 W hK0 ok0 hK1 ok1).mono fun e W' ⟨he, bel⟩ => ?_
 subst he
 exact ⟨_, rfl, _, _, _, [], _, [], hW', trodAll_mk1 (shut_bool Try.underlying4 _), (trodAll_cons_mk (Below.trod laidOut (by kernel_rfl) (of_decide_eq_true (by kernel_rfl)) k0 bel lt0) (trodAll_cons_mk (Below.trod laidOut (by kernel_rfl) (of_decide_eq_true (by kernel_rfl)) k1 bel lt1) trodAll_mk0)), rfl, bel.frame _, fun h => by cases h⟩
theorem over : Rows.messageEncodesRow.holds Try.pinned (OpenSpec.ofChange Rows.messageEncodesSpec) :=
 OpenClaim.holds_of_wide 7 Try.f7 rfl rfl rfl rfl rfl rfl rfl ⟨rfl, rfl, rfl, rfl, rfl⟩ rfl rfl rfl rfl rfl (by kernel_rfl) Try.func7 (by kernel_rfl)
  (of_decide_eq_true (by kernel_rfl)) (by unfold Func.isWrapper; first | (rw [if_pos (by decide +kernel)]; kernel_rfl) | (rw [if_neg (by decide +kernel)]; exact ⟨rfl, rfl⟩))
  (fun os started H enc _ => lifted os started H enc)
theorem proved : Rows.MessageEncodesSaid := over
#print axioms proved
end Go.Proofs.Ytedfcjcnhgomoaa.messageEncodes
namespace Go.Proofs.Ytedfcjcnhgomoaa
theorem messageEncodes_holds : Rows.MessageEncodesSaid := messageEncodes.proved
end Go.Proofs.Ytedfcjcnhgomoaa
end

/- Shaken: what the claim's theorem needs of our texts, of the printed ones and of the print's words. -/
import Derived.Test.YtedfcjcnhgomoaaXMessageDecodesD
import Derived.Deep.QuietTactic
import Derived.BigQuiet
import Derived.Outline
import Derived.Maps.AppendAt
import Derived.RangeFuncBox
-- MERGED YtedfcjcnhgomoaaPvariorumref11Encode
section
namespace Go.Proofs.Ytedfcjcnhgomoaa.P
open Go.RowKit Go.Proofs.YtedfcjcnhgomoaaW.PrintWords Go.Proofs.YtedfcjcnhgomoaaW.PrintLast Go.Proofs.YtedfcjcnhgomoaaW.PrintMore
attribute [local go_sem] max2_int min2_int max_two min_two max_three min_three max_four min_four   -- for this text's walks alone
open Go.Proofs.Ytedfcjcnhgomoaa.Press
set_option linter.unusedVariables false
set_option linter.unusedSimpArgs false
abbrev codeB0 : Array Bool := #[true, false, false, false, false, false, false, false, false, false, false, false, false, false, false, false, false, false, false]
abbrev codeB1 : Array Bool := #[true, true, false, false, false, false, false, false, false, false, false, false, false, false, false, false, false, false, false]
abbrev codeB2 : Array Bool := #[true, true, true, false, false, false, false, false, false, false, false, false, false, false, false, false, false, false, false]
abbrev codeB3 : Array Bool := #[true, true, true, false, true, false, false, false, false, false, false, false, false, false, false, false, false, false, false]
abbrev codeB4 : Array Bool := #[true, true, true, false, true, false, false, true, false, false, false, false, false, false, false, false, false, false, false]
abbrev codeB5 : Array Bool := #[true, true, true, false, true, false, false, true, true, false, false, false, false, false, false, false, false, false, false]
abbrev codeB6 : Array Bool := #[true, true, true, false, true, false, false, true, true, false, true, false, false, false, false, false, false, false, false]
abbrev codeB7 : Array Bool := #[true, true, true, false, true, false, false, true, true, false, true, true, false, false, false, false, false, false, false]
abbrev codeB8 : Array Bool := #[true, true, true, false, true, false, false, true, true, false, true, true, false, false, false, true, false, false, false]
abbrev codeB9 : Array Bool := #[true, true, true, true, true, true, false, true, true, false, true, true, false, false, false, true, false, false, false]
abbrev codeB10 : Array Bool := #[true, true, true, true, true, true, false, true, true, true, true, true, true, true, false, true, false, false, false]
abbrev codeB11 : Array Bool := #[true, true, true, true, true, true, true, true, true, true, true, true, true, true, true, true, true, true, true]
abbrev codeB12 : Array Bool := #[false, true, false, false, false, false, false, false, false, false]
abbrev codeB13 : Array Bool := #[false, true, true, false, false, false, false, false, false, false]
abbrev codeB14 : Array Bool := #[true, true, true, true, true, true, false, false, false, false]
abbrev codeB15 : Array Bool := #[true, true, true, true, true, true, true, false, false, false]
abbrev codeB16 : Array Bool := #[true, true, true, true, true, true, true, true, false, false]
abbrev codeB17 : Array Bool := #[true, true, true, true, true, true, true, true, true, false]
abbrev codeB18 : Array Bool := #[true, true, true, true, true, true, true, true, true, true]
abbrev codeB19 : Array Bool := #[true, true, true, true, true, false, false, true, true, false, true, true, false, false, false, true, false, false, false]
abbrev codeB20 : Array Bool := #[true, true, true, true, true, true, false, true, true, true, true, true, false, false, false, true, false, false, false]
abbrev codeB21 : Array Bool := #[true, true, true, true, true, true, false, true, true, true, true, true, true, false, false, true, false, false, false]
abbrev codeB22 : Array Bool := #[true, true, true, true, true, true, false, true, true, true, true, true, true, true, false, true, true, false, false]
abbrev codeB23 : Array Bool := #[true, true, true, false, false, false, false, false, false, false]
abbrev codeB24 : Array Bool := #[true, true, true, true, false, false, false, false, false, false]
abbrev codeB25 : Array Bool := #[false, false, false, false, false, false, false, false, false, false, false, false, false, false, false, false, false, false, false]
abbrev codeB26 : Array Bool := #[true, true, true, true, true, true, true, true, true, true, true, true, true, true, false, true, true, false, false]
abbrev codeB27 : Array Bool := #[true, true, true, true, true, true, true, true, true, true, true, true, true, true, true, true, true, false, false]
abbrev codeB28 : Array Bool := #[true, true, true, true, true, true, true, true, true, true, true, true, true, true, true, true, true, true, false]
abbrev codeB29 : Array Bool := #[false, false, false, false, false, false, false, false, false, false]
abbrev codeB30 : Array Bool := #[true, true, true, true, true, false, false, false, false, false]
mutual
def variorumref11_Encode.l0 : Nat → List Int → ByteArray → Int → Int → Int → Int → Int → Int → Int → List (S85) → ByteArray → List (S104) → Option (List Int × Int)
 | 0, _, _, _, _, _, _, _, _, _, _, _, _ => none
 | k + 1, x4, x5, x6, x311000, x311001, x311002, x311003, x311004, x311005, x311006, x311007, x311008 => if x6 < (x5.size : Int) then (if 0 ≤ x6 then (if (bt x5 x6) = 111 then ((variorumref01_Put.f k x4 (x311006.length : Int)).bind fun t316 => (variorumref11_Encode.l1 k t316 x5 x6 0 x311000 x311001 x311002 x311003 x311004 x311005 x311006 x311007 x311008)) else (if (bt x5 x6) = 116 then ((variorumref01_PutText.f k x4 x311007).bind fun t327 => (variorumref11_Encode.l0 k t327 x5 (wrap64 (x6 + 1)) x311000 x311001 x311002 x311003 x311004 x311005 x311006 x311007 x311008)) else (if (bt x5 x6) = 110 then ((variorumref01_Put.f k x4 (x311008.length : Int)).bind fun t330 => (variorumref11_Encode.l2 k t330 x5 x6 0 0 x311000 x311001 x311002 x311003 x311004 x311005 x311006 x311007 x311008)) else ((variorumref11_num.f x311000 x311001 x311002 x311003 x311004 x311005 x311006 x311007 x311008 (bt x5 x6)).bind fun bt344 => ((variorumref01_Put.f k x4 bt344.1).bind fun t346 => (variorumref11_Encode.l0 k t346 x5 (wrap64 (x6 + 1)) x311000 x311001 x311002 x311003 x311004 x311005 x311006 x311007 x311008)))))) else (none)) else (some (x4, 0))
def variorumref11_Encode.l1 : Nat → List Int → ByteArray → Int → Int → Int → Int → Int → Int → Int → Int → List (S85) → ByteArray → List (S104) → Option (List Int × Int)
 | 0, _, _, _, _, _, _, _, _, _, _, _, _, _ => none
 | k + 1, x4, x5, x6, x7, x311000, x311001, x311002, x311003, x311004, x311005, x311006, x311007, x311008 => if x7 < (x311006.length : Int) then (if 0 ≤ x7 then ((variorumref01_PutSigned.f k x4 (wrap64 (((rd_T85 x311006 x7).f0) - ((rd_T85 x311006 x7).f2)))).bind fun t321 => (if ((rd_T85 x311006 x7).f1).toList = ([] : List UInt8) then (variorumref11_Encode.l1 k t321 x5 x6 (wrap64 (x7 + 1)) x311000 x311001 x311002 x311003 x311004 x311005 x311006 x311007 x311008) else ((variorumref01_PutText.f k t321 ((rd_T85 x311006 x7).f1)).bind fun t324 => (variorumref11_Encode.l1 k t324 x5 x6 (wrap64 (x7 + 1)) x311000 x311001 x311002 x311003 x311004 x311005 x311006 x311007 x311008)))) else (none)) else (variorumref11_Encode.l0 k x4 x5 (wrap64 (x6 + 1)) x311000 x311001 x311002 x311003 x311004 x311005 x311006 x311007 x311008)
def variorumref11_Encode.l2 : Nat → List Int → ByteArray → Int → Int → Int → Int → Int → Int → Int → Int → Int → List (S85) → ByteArray → List (S104) → Option (List Int × Int)
 | 0, _, _, _, _, _, _, _, _, _, _, _, _, _, _ => none
 | k + 1, x4, x5, x6, x9, x10, x311000, x311001, x311002, x311003, x311004, x311005, x311006, x311007, x311008 => if x10 < (x311008.length : Int) then (if 0 ≤ x10 then ((variorumref01_Put.f k x4 (wrap64 (((rd_T104 x311008 x10).f0.f0) - x9))).bind fun t335 => ((variorumref01_Put.f k t335 (wrap64 (((rd_T104 x311008 x10).f0.f1) - ((rd_T104 x311008 x10).f0.f0)))).bind fun t338 => ((variorumref01_Put.f k t338 ((rd_T104 x311008 x10).f1)).bind fun t341 => (variorumref11_Encode.l2 k t341 x5 x6 ((rd_T104 x311008 x10).f0.f0) (wrap64 (x10 + 1)) x311000 x311001 x311002 x311003 x311004 x311005 x311006 x311007 x311008)))) else (none)) else (variorumref11_Encode.l0 k x4 x5 (wrap64 (x6 + 1)) x311000 x311001 x311002 x311003 x311004 x311005 x311006 x311007 x311008)
end
def variorumref11_Encode.f (k : Nat) (a0_0 : Int) (a0_1 : Int) (a0_2 : Int) (a0_3 : Int) (a0_4 : Int) (a0_5 : Int) (l0_6 : List (S85)) (a0_7 : ByteArray) (l0_8 : List (S104)) : Option (List Int × Int) := (variorumref11_Good.f k a0_0 a0_1 a0_2 a0_3 a0_4 a0_5 l0_6 a0_7 l0_8).bind fun t311 => (if t311 = true then ((variorumref01_Put.f k ([] : List Int) a0_0).bind fun t312 => ((variorumref11_Fields.f a0_0).bind fun t315 => (variorumref11_Encode.l0 k t312 t315 0 a0_0 a0_1 a0_2 a0_3 a0_4 a0_5 l0_6 a0_7 l0_8))) else (some (([] : List Int), 2)))
theorem variorumref11_Encode.mono_l : ∀ k, (∀ y0 y1 y2 y3 y4 y5 y6 y7 y8 y9 y10 y11, LeO (variorumref11_Encode.l0 k y0 y1 y2 y3 y4 y5 y6 y7 y8 y9 y10 y11) (variorumref11_Encode.l0 (k + 1) y0 y1 y2 y3 y4 y5 y6 y7 y8 y9 y10 y11)) ∧ (∀ y0 y1 y2 y3 y4 y5 y6 y7 y8 y9 y10 y11 y12, LeO (variorumref11_Encode.l1 k y0 y1 y2 y3 y4 y5 y6 y7 y8 y9 y10 y11 y12) (variorumref11_Encode.l1 (k + 1) y0 y1 y2 y3 y4 y5 y6 y7 y8 y9 y10 y11 y12)) ∧ (∀ y0 y1 y2 y3 y4 y5 y6 y7 y8 y9 y10 y11 y12 y13, LeO (variorumref11_Encode.l2 k y0 y1 y2 y3 y4 y5 y6 y7 y8 y9 y10 y11 y12 y13) (variorumref11_Encode.l2 (k + 1) y0 y1 y2 y3 y4 y5 y6 y7 y8 y9 y10 y11 y12 y13))
 | 0 => ⟨fun _ _ _ _ _ _ _ _ _ _ _ _ r h => by simp [variorumref11_Encode.l0] at h, fun _ _ _ _ _ _ _ _ _ _ _ _ _ r h => by simp [variorumref11_Encode.l1] at h, fun _ _ _ _ _ _ _ _ _ _ _ _ _ _ r h => by simp [variorumref11_Encode.l2] at h⟩
 | k + 1 => by
  obtain ⟨ih0, ih1, ih2⟩ := variorumref11_Encode.mono_l k
  refine ⟨?_, ?_, ?_⟩
  ·intro y0 y1 y2 y3 y4 y5 y6 y7 y8 y9 y10 y11
   unfold variorumref11_Encode.l0
   repeat' first | (with_reducible exact ih0 _ _ _ _ _ _ _ _ _ _ _ _) | (with_reducible exact ih1 _ _ _ _ _ _ _ _ _ _ _ _ _) | (with_reducible exact ih2 _ _ _ _ _ _ _ _ _ _ _ _ _ _) | (with_reducible exact variorumref01_Put.mono _ _ _) | (with_reducible exact variorumref01_PutText.mono _ _ _) | (with_reducible exact LeO.refl _) | (with_reducible refine LeO.ite ?_ ?_) | (with_reducible refine LeO.bind ?_ (fun _ => ?_))
  ·intro y0 y1 y2 y3 y4 y5 y6 y7 y8 y9 y10 y11 y12
   unfold variorumref11_Encode.l1
   repeat' first | (with_reducible exact ih0 _ _ _ _ _ _ _ _ _ _ _ _) | (with_reducible exact ih1 _ _ _ _ _ _ _ _ _ _ _ _ _) | (with_reducible exact variorumref01_PutSigned.mono _ _ _) | (with_reducible exact variorumref01_PutText.mono _ _ _) | (with_reducible exact LeO.refl _) | (with_reducible refine LeO.ite ?_ ?_) | (with_reducible refine LeO.bind ?_ (fun _ => ?_))
  ·intro y0 y1 y2 y3 y4 y5 y6 y7 y8 y9 y10 y11 y12 y13
   unfold variorumref11_Encode.l2
   repeat' first | (with_reducible exact ih0 _ _ _ _ _ _ _ _ _ _ _ _) | (with_reducible exact ih2 _ _ _ _ _ _ _ _ _ _ _ _ _ _) | (with_reducible exact variorumref01_Put.mono _ _ _) | (with_reducible exact LeO.refl _) | (with_reducible refine LeO.ite ?_ ?_) | (with_reducible refine LeO.bind ?_ (fun _ => ?_))
def variorumref11_Encode.T9 : Bool × List (List Nat × List Nat) := (true, [([], []), ([], []), ([], []), ([1, 2], [1, 2]), ([0, 3], [0, 3]), ([4], [4]), ([5], [5]), ([5], [5]), ([6, 4, 0, 1, 2, 3, 4, 5, 6], [6]), ([7, 8, 0, 1, 2, 3, 4, 5, 6, 7, 8], [7])])
def variorumref11_Encode.B9 : List Nat := [0, 0, 0, 6, 15, 31, 63, 63, 127, 511]
theorem variorumref11_Encode.tab9 : rtab .any (opsOf Try.f22 9) = variorumref11_Encode.T9 := by kernel_rfl
theorem variorumref11_Encode.bits9 : waitsOk variorumref11_Encode.T9.2 variorumref11_Encode.B9 = true := by kernel_rfl
def variorumref11_Encode.T29 : Bool × List (List Nat × List Nat) := (true, [([], []), ([], []), ([1], [1]), ([2], [2]), ([], []), ([3, 4], [3, 4]), ([0, 5], [0, 5]), ([], []), ([7], [7]), ([8], [8]), ([], []), ([10], [10]), ([11], [11]), ([9, 12], [9, 12]), ([6, 13, 6], [6, 13]), ([], []), ([15], [15]), ([14, 16, 14], [14, 16]), ([17, 17, 0, 1, 2, 3, 4, 5, 6, 7, 8, 9, 10, 11, 12, 13, 14, 15, 16, 17], [0, 17])])
def variorumref11_Encode.B29 : List Nat := [0, 0, 2, 6, 0, 30, 63, 0, 128, 384, 0, 1024, 3072, 8064, 16383, 0, 32768, 131071, 262143]
theorem variorumref11_Encode.tab29 : rtab .any (opsOf Try.f22 29) = variorumref11_Encode.T29 := by kernel_rfl
theorem variorumref11_Encode.bits29 : waitsOk variorumref11_Encode.T29.2 variorumref11_Encode.B29 = true := by kernel_rfl
set_option maxHeartbeats 8000000 in
set_option maxRecDepth 100000 in
theorem variorumref11_Encode.calls (k : Nat) (a0_0 : Int) (a0_1 : Int) (a0_2 : Int) (a0_3 : Int) (a0_4 : Int) (a0_5 : Int) (A0_6 : Option Addr) (c0_6 : Nat) (l0_6 : List (S85)) (a0_7 : ByteArray) (A0_8 : Option Addr) (c0_8 : Nat) (l0_8 : List (S104)) (r1 : List Int) (r2 : Int) (w : World) (hr0_6 : Kd.C k85 w A0_6 l0_6.length l0_6) (hc0_6 : l0_6.length ≤ c0_6) (hr0_8 : Kd.C k104 w A0_8 l0_8.length l0_8) (hc0_8 : l0_8.length ≤ c0_8) (h : variorumref11_Encode.f k a0_0 a0_1 a0_2 a0_3 a0_4 a0_5 l0_6 a0_7 l0_8 = some (r1, r2)) :
  Calls Try.prog 22 #[.agg #[.int .i64 a0_0, .int .i64 a0_1, .int .i64 a0_2, .int .i64 a0_3, .int .i64 a0_4, .int .i64 a0_5, .slice A0_6 l0_6.length c0_6, .string a0_7, .slice A0_8 l0_8.length c0_8]] w fun e w' => ∃ v0_ : Value, e = .returned (.tuple #[v0_, .int .i64 r2]) ∧ Kd.R (Kd.int .u8) 5 w' w.heap.size (fun _ => True) v0_ r1 ∧ Below w.heap.size w w' := by
 have hu44 := Try.underlying44
 have hu85 := Try.underlying85
 have hu104 := Try.underlying104
 have HR0_6 := Aside0.mk hr0_6
 have HC0_6 := Aside0.mk hc0_6
 clear hr0_6 hc0_6
 have HR0_8 := Aside0.mk hr0_8
 have HC0_8 := Aside0.mk hc0_8
 clear hr0_8 hc0_8
 have HB := Aside0.mk (Below.refl w.heap.size w)
 have H : ((variorumref11_Good.f k a0_0 a0_1 a0_2 a0_3 a0_4 a0_5 l0_6 a0_7 l0_8).bind fun t311 => (if t311 = true then ((variorumref01_Put.f k ([] : List Int) a0_0).bind fun t312 => ((variorumref11_Fields.f a0_0).bind fun t315 => (variorumref11_Encode.l0 k t312 t315 0 a0_0 a0_1 a0_2 a0_3 a0_4 a0_5 l0_6 a0_7 l0_8))) else (some (([] : List Int), 2)))) = some (r1, r2) := h
 clear h
 replace H := Option.bind_eq_some_iff.mp H
 obtain ⟨t311, A20, H⟩ := H
 replace H : (if t311 = true then ((variorumref01_Put.f k ([] : List Int) a0_0).bind fun t312 => ((variorumref11_Fields.f a0_0).bind fun t315 => (variorumref11_Encode.l0 k t312 t315 0 a0_0 a0_1 a0_2 a0_3 a0_4 a0_5 l0_6 a0_7 l0_8))) else (some (([] : List Int), 2))) = some (r1, r2) := H
 have A2 := Aside0.mk A20
 clear A20
 by_cases c3 : t311 = true
 ·subst c3
  have H1 : ((variorumref01_Put.f k ([] : List Int) a0_0).bind fun t312 => ((variorumref11_Fields.f a0_0).bind fun t315 => (variorumref11_Encode.l0 k t312 t315 0 a0_0 a0_1 a0_2 a0_3 a0_4 a0_5 l0_6 a0_7 l0_8))) = some (r1, r2) := by rw [if_pos rfl] at H; exact H
  clear H
  have H := H1
  clear H1
  replace H := Option.bind_eq_some_iff.mp H
  obtain ⟨t312, A40, H⟩ := H
  replace H : ((variorumref11_Fields.f a0_0).bind fun t315 => (variorumref11_Encode.l0 k t312 t315 0 a0_0 a0_1 a0_2 a0_3 a0_4 a0_5 l0_6 a0_7 l0_8)) = some (r1, r2) := H
  have A4 := Aside0.mk A40
  clear A40
  replace H := Option.bind_eq_some_iff.mp H
  obtain ⟨t315, A50, H⟩ := H
  replace H : (variorumref11_Encode.l0 k t312 t315 0 a0_0 a0_1 a0_2 a0_3 a0_4 a0_5 l0_6 a0_7 l0_8) = some (r1, r2) := H
  have A5 := Aside0.mk A50
  clear A50
  have H' := Aside0.mk H
  clear H
  go_enter Try.func22, Try.ntmps22
  go_wp2_with (first | ((with_reducible refine gate_dst (N := 1) rfl ?_); refine box_event ?hg (N := 1) ?hd (cs := #[.int .i64 a0_0, .int .i64 a0_1, .int .i64 a0_2, .int .i64 a0_3, .int .i64 a0_4, .int .i64 a0_5, .slice A0_6 l0_6.length c0_6, .string a0_7, .slice A0_8 l0_8.length c0_8]) (t := 44) ?hr ?_; (case hd => rfl); (case hg => rfl); (case hr => (go_simp; done)); intro gb310 hg w6 hbox hb; have n0_ := Aside0.mk (below_step (by repeat ((with_reducible (exact HB.out)))) hb); have n1_ := Aside0.mk (hbox); have n2_ := Aside0.mk ((by rw [hg]; exact (below_size (by repeat ((with_reducible (exact HB.out))))) : w.heap.size ≤ gb310)); have n3_ := Aside0.mk ((by rw [hg]; exact (below_size (by repeat ((with_reducible (exact HB.out))))) : w.heap.size ≤ gb310)); clear HB; have HB := n0_; have BK310 := n1_; have GW310 := n2_; have GE310 := n3_; clear n0_ n1_ n2_ n3_; clear hb hbox hg; have hcz7_0 : w6.cell? ⟨gb310, 0, none⟩ = some (.int .i64 a0_0) := (blk_cell BK310.out 0).trans rfl; have hcz7_1 : w6.cell? ⟨gb310, 1, none⟩ = some (.int .i64 a0_1) := (blk_cell BK310.out 1).trans rfl; have hcz7_2 : w6.cell? ⟨gb310, 2, none⟩ = some (.int .i64 a0_2) := (blk_cell BK310.out 2).trans rfl; have hcz7_3 : w6.cell? ⟨gb310, 3, none⟩ = some (.int .i64 a0_3) := (blk_cell BK310.out 3).trans rfl; have hcz7_4 : w6.cell? ⟨gb310, 4, none⟩ = some (.int .i64 a0_4) := (blk_cell BK310.out 4).trans rfl; have hcz7_5 : w6.cell? ⟨gb310, 5, none⟩ = some (.int .i64 a0_5) := (blk_cell BK310.out 5).trans rfl; have hcz7_6 : w6.cell? ⟨gb310, 6, none⟩ = some (.slice A0_6 l0_6.length c0_6) := (blk_cell BK310.out 6).trans rfl; have hcz7_7 : w6.cell? ⟨gb310, 7, none⟩ = some (.string a0_7) := (blk_cell BK310.out 7).trans rfl; have hcz7_8 : w6.cell? ⟨gb310, 8, none⟩ = some (.slice A0_8 l0_8.length c0_8) := (blk_cell BK310.out 8).trans rfl; have hfz7_0 := blk_frozen BK310.out 0; have hfz7_1 := blk_frozen BK310.out 1; have hfz7_2 := blk_frozen BK310.out 2; have hfz7_3 := blk_frozen BK310.out 3; have hfz7_4 := blk_frozen BK310.out 4; have hfz7_5 := blk_frozen BK310.out 5; have hfz7_6 := blk_frozen BK310.out 6; have hfz7_7 := blk_frozen BK310.out 7; have hfz7_8 := blk_frozen BK310.out 8) | ((with_reducible refine gate_callee (f := 24) rfl ?_); refine goesL_ (some 15) rfl rfl Try.func24 (by kernel_rfl) rfl #[.agg #[.int .i64 a0_0, .int .i64 a0_1, .int .i64 a0_2, .int .i64 a0_3, .int .i64 a0_4, .int .i64 a0_5, .slice A0_6 l0_6.length c0_6, .string a0_7, .slice A0_8 l0_8.length c0_8]] rfl (by (try simp only [List.map_toArray, List.map_cons, List.map_nil]); (rfl)) ?_; (with_reducible refine (variorumref11_Good.calls k a0_0 a0_1 a0_2 a0_3 a0_4 a0_5 _ _ l0_6 a0_7 _ _ l0_8 true _ ?side1 ?side2 ?side3 ?side4 A2.out).mono ?_); (case side1 => repeat ((exact (Kd.C_below HR0_6.out HB.out)))); (case side2 => exact HC0_6.out); (case side3 => repeat ((exact (Kd.C_below HR0_8.out HB.out)))); (case side4 => exact HC0_8.out); rintro e w8 ⟨rfl, hb⟩; refine ⟨_, rfl, ?_⟩; have n0_ := Aside0.mk (blk_below (g := gb310) (o := .cells #[.int .i64 a0_0, .int .i64 a0_1, .int .i64 a0_2, .int .i64 a0_3, .int .i64 a0_4, .int .i64 a0_5, .slice A0_6 l0_6.length c0_6, .string a0_7, .slice A0_8 l0_8.length c0_8] 44 (0, 0)) (by (with_reducible repeat ((refine blk_drew ?_))); exact BK310.out) hb); have n1_ := Aside0.mk (below_step (by repeat ((with_reducible (exact HB.out)))) hb); clear BK310; clear HB; have BK310 := n0_; have HB := n1_; clear n0_ n1_; (try clear hb); (try clear hb2); (try clear hk); (try clear hi); have hcz9_0 : w8.cell? ⟨gb310, 0, none⟩ = some (.int .i64 a0_0) := (blk_cell BK310.out 0).trans rfl; have hcz9_1 : w8.cell? ⟨gb310, 1, none⟩ = some (.int .i64 a0_1) := (blk_cell BK310.out 1).trans rfl; have hcz9_2 : w8.cell? ⟨gb310, 2, none⟩ = some (.int .i64 a0_2) := (blk_cell BK310.out 2).trans rfl; have hcz9_3 : w8.cell? ⟨gb310, 3, none⟩ = some (.int .i64 a0_3) := (blk_cell BK310.out 3).trans rfl; have hcz9_4 : w8.cell? ⟨gb310, 4, none⟩ = some (.int .i64 a0_4) := (blk_cell BK310.out 4).trans rfl; have hcz9_5 : w8.cell? ⟨gb310, 5, none⟩ = some (.int .i64 a0_5) := (blk_cell BK310.out 5).trans rfl; have hcz9_6 : w8.cell? ⟨gb310, 6, none⟩ = some (.slice A0_6 l0_6.length c0_6) := (blk_cell BK310.out 6).trans rfl; have hcz9_7 : w8.cell? ⟨gb310, 7, none⟩ = some (.string a0_7) := (blk_cell BK310.out 7).trans rfl; have hcz9_8 : w8.cell? ⟨gb310, 8, none⟩ = some (.slice A0_8 l0_8.length c0_8) := (blk_cell BK310.out 8).trans rfl; have hfz9_0 := blk_frozen BK310.out 0; have hfz9_1 := blk_frozen BK310.out 1; have hfz9_2 := blk_frozen BK310.out 2; have hfz9_3 := blk_frozen BK310.out 3; have hfz9_4 := blk_frozen BK310.out 4; have hfz9_5 := blk_frozen BK310.out 5; have hfz9_6 := blk_frozen BK310.out 6; have hfz9_7 := blk_frozen BK310.out 7; have hfz9_8 := blk_frozen BK310.out 8) | ((with_reducible refine gate_callee (f := 41) rfl ?_); refine goesL_ (some 19) rfl rfl Try.func41 (by kernel_rfl) rfl #[.slice none 0 0, .int .i64 a0_0] rfl (by (try simp only [List.map_toArray, List.map_cons, List.map_nil]); (rfl)) ?_; (refine (variorumref01_Put.calls k _ _ ([] : List Int) a0_0 t312 _ ?side1 ?side2 A4.out).mono ?_); (case side1 => exact Kd.C_nil _ _); (case side2 => exact Nat.le_refl _); rintro e w10 ⟨v313, rfl, ho0, hb⟩; refine ⟨_, rfl, ?_⟩; have n0_ := Aside0.mk (Kd.R_lower ho0 (below_size (by repeat ((with_reducible (exact HB.out)))))); have n1_ := Aside0.mk (blk_below (g := gb310) (o := .cells #[.int .i64 a0_0, .int .i64 a0_1, .int .i64 a0_2, .int .i64 a0_3, .int .i64 a0_4, .int .i64 a0_5, .slice A0_6 l0_6.length c0_6, .string a0_7, .slice A0_8 l0_8.length c0_8] 44 (0, 0)) (by (with_reducible repeat ((refine blk_drew ?_))); exact BK310.out) hb); have n2_ := Aside0.mk (below_step (by repeat ((with_reducible (exact HB.out)))) hb); clear BK310; clear HB; have HO314 := n0_; have BK310 := n1_; have HB := n2_; clear n0_ n1_ n2_; (try clear hb); (try clear hb2); (try clear hk); (try clear hi); (try clear ho0); have hcz11_0 : w10.cell? ⟨gb310, 0, none⟩ = some (.int .i64 a0_0) := (blk_cell BK310.out 0).trans rfl; have hcz11_1 : w10.cell? ⟨gb310, 1, none⟩ = some (.int .i64 a0_1) := (blk_cell BK310.out 1).trans rfl; have hcz11_2 : w10.cell? ⟨gb310, 2, none⟩ = some (.int .i64 a0_2) := (blk_cell BK310.out 2).trans rfl; have hcz11_3 : w10.cell? ⟨gb310, 3, none⟩ = some (.int .i64 a0_3) := (blk_cell BK310.out 3).trans rfl; have hcz11_4 : w10.cell? ⟨gb310, 4, none⟩ = some (.int .i64 a0_4) := (blk_cell BK310.out 4).trans rfl; have hcz11_5 : w10.cell? ⟨gb310, 5, none⟩ = some (.int .i64 a0_5) := (blk_cell BK310.out 5).trans rfl; have hcz11_6 : w10.cell? ⟨gb310, 6, none⟩ = some (.slice A0_6 l0_6.length c0_6) := (blk_cell BK310.out 6).trans rfl; have hcz11_7 : w10.cell? ⟨gb310, 7, none⟩ = some (.string a0_7) := (blk_cell BK310.out 7).trans rfl; have hcz11_8 : w10.cell? ⟨gb310, 8, none⟩ = some (.slice A0_8 l0_8.length c0_8) := (blk_cell BK310.out 8).trans rfl; have hfz11_0 := blk_frozen BK310.out 0; have hfz11_1 := blk_frozen BK310.out 1; have hfz11_2 := blk_frozen BK310.out 2; have hfz11_3 := blk_frozen BK310.out 3; have hfz11_4 := blk_frozen BK310.out 4; have hfz11_5 := blk_frozen BK310.out 5; have hfz11_6 := blk_frozen BK310.out 6; have hfz11_7 := blk_frozen BK310.out 7; have hfz11_8 := blk_frozen BK310.out 8) | ((with_reducible refine gate_callee (f := 63) rfl ?_); refine goesL_ (some 22) rfl rfl Try.func63 (by kernel_rfl) rfl #[.int .i64 a0_0] rfl (by (try simp only [List.map_toArray, List.map_cons, List.map_nil]); (rfl)) ?_; (with_reducible refine (variorumref11_Fields.calls a0_0 t315 _ A5.out).mono ?_); rintro e w' ⟨rfl, ⟨nd, rfl⟩⟩; refine ⟨_, rfl, ?_⟩))
  go_loopg [4, 6] k (fun kq v4 v6 w' => ∃ (x4_1 : List Int) (x6_1 : Int), v6 = .int .i64 x6_1 ∧ Aside0 (variorumref11_Encode.l0 kq x4_1 t315 x6_1 a0_0 a0_1 a0_2 a0_3 a0_4 a0_5 l0_6 a0_7 l0_8 = some (r1, r2)) ∧ Aside0 (kq ≤ k) ∧ Aside0 (Kd.R (Kd.int .u8) 5 w' w.heap.size (fun _ => True) v4 x4_1) ∧ Aside0 (w'.heap[gb310]? = some (.cells #[.int .i64 a0_0, .int .i64 a0_1, .int .i64 a0_2, .int .i64 a0_3, .int .i64 a0_4, .int .i64 a0_5, (.slice A0_6 l0_6.length c0_6), .string a0_7, (.slice A0_8 l0_8.length c0_8)] 44 (0, 0))) ∧ Aside0 (Below w.heap.size w w'))
  case atStart => exact ⟨(t312), (0), (by (rfl)), H', ⟨Nat.le_refl _⟩, ⟨by (with_reducible repeat ((apply Kd.R_drewN))); exact HO314.out⟩, ⟨by (with_reducible repeat ((refine blk_drewN ?_ _))); exact BK310.out⟩, ⟨by repeat ((with_reducible first | exact HB.out | apply pw_below_drewN))⟩⟩
  case round =>
   clear H'
   try clear c2
   try clear p2
   try clear c3
   try clear c4
   try clear c6
   try clear hcz11_0
   try clear hcz11_1
   try clear hcz11_2
   try clear hcz11_3
   try clear hcz11_4
   try clear hcz11_5
   try clear hcz11_6
   try clear hcz11_7
   try clear hcz11_8
   try clear hcz7_0
   try clear hcz7_1
   try clear hcz7_2
   try clear hcz7_3
   try clear hcz7_4
   try clear hcz7_5
   try clear hcz7_6
   try clear hcz7_7
   try clear hcz7_8
   try clear hcz9_0
   try clear hcz9_1
   try clear hcz9_2
   try clear hcz9_3
   try clear hcz9_4
   try clear hcz9_5
   try clear hcz9_6
   try clear hcz9_7
   try clear hcz9_8
   try clear hfz11_0
   try clear hfz11_1
   try clear hfz11_2
   try clear hfz11_3
   try clear hfz11_4
   try clear hfz11_5
   try clear hfz11_6
   try clear hfz11_7
   try clear hfz11_8
   try clear hfz7_0
   try clear hfz7_1
   try clear hfz7_2
   try clear hfz7_3
   try clear hfz7_4
   try clear hfz7_5
   try clear hfz7_6
   try clear hfz7_7
   try clear hfz7_8
   try clear hfz9_0
   try clear hfz9_1
   try clear hfz9_2
   try clear hfz9_3
   try clear hfz9_4
   try clear hfz9_5
   try clear hfz9_6
   try clear hfz9_7
   try clear hfz9_8
   obtain ⟨x4_1, x6_1, rfl, HA, HK1, HO_4, BK310, HB⟩ := hrel
   cases gk with
   | zero => exact absurd HA.out (by simp [variorumref11_Encode.l0])
   | succ k1 =>
    have H := HA.out
    clear HA
    simp only [variorumref11_Encode.l0] at H
    by_cases c12 : x6_1 < (t315.size : Int)
    ·rw [if_pos c12] at H
     have c12b0 : decide (x6_1 < (t315.size : Int)) = true := decide_eq_true c12
     clear c12
     by_cases c13 : 0 ≤ x6_1
     ·rw [if_pos c13] at H
      have c13b0 : decide (0 ≤ x6_1) = true := decide_eq_true c13
      clear c13
      by_cases c15 : (bt t315 x6_1) = 111
      ·rw [if_pos c15] at H
       have c15b0 : ((bt t315 x6_1) == 111) = true := beq_iff_eq.mpr c15
       have c15b1 : ((bt t315 x6_1) != 111) = false := bne_eq_false_iff_eq.mpr c15
       clear c15
       replace H := Option.bind_eq_some_iff.mp H
       obtain ⟨t316, A160, H⟩ := H
       replace H : (variorumref11_Encode.l1 k1 t316 t315 x6_1 0 a0_0 a0_1 a0_2 a0_3 a0_4 a0_5 l0_6 a0_7 l0_8) = some (r1, r2) := H
       have A16 := Aside0.mk A160
       clear A160
       have H' := Aside0.mk H
       clear H
       have p14 : 0 ≤ (x6_1 : Int) := of_decide_eq_true (by (with_reducible assumption))
       have q14 : x6_1 < (t315.size : Int) := of_decide_eq_true (by (with_reducible assumption))
       have hx14 := bt_at t315 x6_1
       replace p14 := eq_true p14
       replace q14 := eq_true q14
       have hcz17_0 : wr.cell? ⟨gb310, 0, none⟩ = some (.int .i64 a0_0) := (blk_cell BK310.out 0).trans rfl
       have hcz17_1 : wr.cell? ⟨gb310, 1, none⟩ = some (.int .i64 a0_1) := (blk_cell BK310.out 1).trans rfl
       have hcz17_2 : wr.cell? ⟨gb310, 2, none⟩ = some (.int .i64 a0_2) := (blk_cell BK310.out 2).trans rfl
       have hcz17_3 : wr.cell? ⟨gb310, 3, none⟩ = some (.int .i64 a0_3) := (blk_cell BK310.out 3).trans rfl
       have hcz17_4 : wr.cell? ⟨gb310, 4, none⟩ = some (.int .i64 a0_4) := (blk_cell BK310.out 4).trans rfl
       have hcz17_5 : wr.cell? ⟨gb310, 5, none⟩ = some (.int .i64 a0_5) := (blk_cell BK310.out 5).trans rfl
       have hcz17_6 : wr.cell? ⟨gb310, 6, none⟩ = some (.slice A0_6 l0_6.length c0_6) := (blk_cell BK310.out 6).trans rfl
       have hcz17_7 : wr.cell? ⟨gb310, 7, none⟩ = some (.string a0_7) := (blk_cell BK310.out 7).trans rfl
       have hcz17_8 : wr.cell? ⟨gb310, 8, none⟩ = some (.slice A0_8 l0_8.length c0_8) := (blk_cell BK310.out 8).trans rfl
       have hfz17_0 := blk_frozen BK310.out 0
       have hfz17_1 := blk_frozen BK310.out 1
       have hfz17_2 := blk_frozen BK310.out 2
       have hfz17_3 := blk_frozen BK310.out 3
       have hfz17_4 := blk_frozen BK310.out 4
       have hfz17_5 := blk_frozen BK310.out 5
       have hfz17_6 := blk_frozen BK310.out 6
       have hfz17_7 := blk_frozen BK310.out 7
       have hfz17_8 := blk_frozen BK310.out 8
       obtain ⟨Ao18, co18, eo18⟩ := Kd.R_slice HO_4.out
       subst eo18
       go_wp2_with (first | ((with_reducible refine gate_callee (f := 41) rfl ?_); refine goesL_ (some 49) rfl rfl Try.func41 (by kernel_rfl) rfl #[.slice Ao18 x4_1.length co18, .int .i64 (l0_6.length : Int)] rfl (by (try simp only [List.map_toArray, List.map_cons, List.map_nil]); (rfl)) ?_; (with_reducible refine (variorumref01_Put.calls k1 _ _ x4_1 (l0_6.length : Int) t316 _ ?side1 ?side2 A16.out).mono ?_); (case side1 => repeat ((exact (Kd.R_reads' HO_4.out).2.2))); (case side2 => exact (Kd.R_reads' HO_4.out).2.1); rintro e w19 ⟨v317, rfl, ho0, hb⟩; refine ⟨_, rfl, ?_⟩; have n0_ := Aside0.mk (Kd.R_elder' (by (with_reducible repeat ((apply Kd.R_drew))); exact HO_4.out) (Kd.R_base ho0) hb); have n1_ := Aside0.mk (Kd.R_lower (Kd.R_new' ho0 (Kd.R_lt (by (with_reducible repeat ((apply Kd.R_drew))); exact HO_4.out))) (below_size (by repeat ((with_reducible (exact HB.out)))))); have n2_ := Aside0.mk (blk_below (g := gb310) (o := .cells #[.int .i64 a0_0, .int .i64 a0_1, .int .i64 a0_2, .int .i64 a0_3, .int .i64 a0_4, .int .i64 a0_5, .slice A0_6 l0_6.length c0_6, .string a0_7, .slice A0_8 l0_8.length c0_8] 44 (0, 0)) (by (with_reducible repeat ((refine blk_drew ?_))); exact BK310.out) hb); have n3_ := Aside0.mk (below_step (by repeat ((with_reducible (exact HB.out)))) hb); clear HO_4; clear BK310; clear HB; have HO_4 := n0_; have HO318 := n1_; have BK310 := n2_; have HB := n3_; clear n0_ n1_ n2_ n3_; (try clear hb); (try clear hb2); (try clear hk); (try clear hi); (try clear ho0)))
       go_loopg [4, 7] k1 (fun kq v4 v7 w' => ∃ (x4_2 : List Int) (x7_2 : Int), v7 = .int .i64 x7_2 ∧ Aside0 (variorumref11_Encode.l1 kq x4_2 t315 x6_1 x7_2 a0_0 a0_1 a0_2 a0_3 a0_4 a0_5 l0_6 a0_7 l0_8 = some (r1, r2)) ∧ Aside0 (kq ≤ k1) ∧ Aside0 (Kd.R (Kd.int .u8) 5 w' w.heap.size (fun _ => True) v4 x4_2) ∧ Aside0 (w'.heap[gb310]? = some (.cells #[.int .i64 a0_0, .int .i64 a0_1, .int .i64 a0_2, .int .i64 a0_3, .int .i64 a0_4, .int .i64 a0_5, (.slice A0_6 l0_6.length c0_6), .string a0_7, (.slice A0_8 l0_8.length c0_8)] 44 (0, 0))) ∧ Aside0 (Below w.heap.size w w'))
       case atStart => exact ⟨(t316), (0), (by (rfl)), H', ⟨Nat.le_refl _⟩, ⟨by (with_reducible repeat ((apply Kd.R_drew))); exact Kd.R_mono HO318.out (fun _ hk => trivial)⟩, ⟨by (with_reducible repeat ((refine blk_drew ?_))); exact BK310.out⟩, ⟨by repeat ((with_reducible (exact HB.out)))⟩⟩
       case round =>
        clear H'
        try clear c1
        try clear p1
        try clear q1
        try clear hx1
        try clear c2
        try clear p2
        try clear c3
        try clear c4
        try clear c6
        try clear c12
        try clear c12b0
        try clear c13
        try clear c13b0
        try clear p14
        try clear q14
        try clear hx14
        try clear c15
        try clear c15b0
        try clear c15b1
        try clear hcz11_0
        try clear hcz11_1
        try clear hcz11_2
        try clear hcz11_3
        try clear hcz11_4
        try clear hcz11_5
        try clear hcz11_6
        try clear hcz11_7
        try clear hcz11_8
        try clear hcz17_0
        try clear hcz17_1
        try clear hcz17_2
        try clear hcz17_3
        try clear hcz17_4
        try clear hcz17_5
        try clear hcz17_6
        try clear hcz17_7
        try clear hcz17_8
        try clear hcz7_0
        try clear hcz7_1
        try clear hcz7_2
        try clear hcz7_3
        try clear hcz7_4
        try clear hcz7_5
        try clear hcz7_6
        try clear hcz7_7
        try clear hcz7_8
        try clear hcz9_0
        try clear hcz9_1
        try clear hcz9_2
        try clear hcz9_3
        try clear hcz9_4
        try clear hcz9_5
        try clear hcz9_6
        try clear hcz9_7
        try clear hcz9_8
        try clear hfz11_0
        try clear hfz11_1
        try clear hfz11_2
        try clear hfz11_3
        try clear hfz11_4
        try clear hfz11_5
        try clear hfz11_6
        try clear hfz11_7
        try clear hfz11_8
        try clear hfz17_0
        try clear hfz17_1
        try clear hfz17_2
        try clear hfz17_3
        try clear hfz17_4
        try clear hfz17_5
        try clear hfz17_6
        try clear hfz17_7
        try clear hfz17_8
        try clear hfz7_0
        try clear hfz7_1
        try clear hfz7_2
        try clear hfz7_3
        try clear hfz7_4
        try clear hfz7_5
        try clear hfz7_6
        try clear hfz7_7
        try clear hfz7_8
        try clear hfz9_0
        try clear hfz9_1
        try clear hfz9_2
        try clear hfz9_3
        try clear hfz9_4
        try clear hfz9_5
        try clear hfz9_6
        try clear hfz9_7
        try clear hfz9_8
        try clear p14
        try clear p2
        try clear q14
        obtain ⟨x4_2, x7_2, rfl, HA, HK2, HO_4, BK310, HB⟩ := hrel
        cases gk with
        | zero => exact absurd HA.out (by simp [variorumref11_Encode.l1])
        | succ k2 =>
         have H := HA.out
         clear HA
         simp only [variorumref11_Encode.l1] at H
         by_cases c20 : x7_2 < (l0_6.length : Int)
         ·rw [if_pos c20] at H
          have c20b0 : decide (x7_2 < (l0_6.length : Int)) = true := decide_eq_true c20
          clear c20
          by_cases c21 : 0 ≤ x7_2
          ·rw [if_pos c21] at H
           have c21b0 : decide (0 ≤ x7_2) = true := decide_eq_true c21
           clear c21
           replace H := Option.bind_eq_some_iff.mp H
           obtain ⟨t321, A220, H⟩ := H
           replace H : (if ((rd_T85 l0_6 x7_2).f1).toList = ([] : List UInt8) then (variorumref11_Encode.l1 k2 t321 t315 x6_1 (wrap64 (x7_2 + 1)) a0_0 a0_1 a0_2 a0_3 a0_4 a0_5 l0_6 a0_7 l0_8) else ((variorumref01_PutText.f k2 t321 ((rd_T85 l0_6 x7_2).f1)).bind fun t324 => (variorumref11_Encode.l1 k2 t324 t315 x6_1 (wrap64 (x7_2 + 1)) a0_0 a0_1 a0_2 a0_3 a0_4 a0_5 l0_6 a0_7 l0_8))) = some (r1, r2) := H
           have A22 := Aside0.mk A220
           clear A220
           by_cases c23 : ((rd_T85 l0_6 x7_2).f1).toList = ([] : List UInt8)
           ·rw [if_pos c23] at H
            have c23b0 : (((rd_T85 l0_6 x7_2).f1).toList == ([] : List UInt8)) = true := beq_iff_eq.mpr c23
            have c23b1 : (((rd_T85 l0_6 x7_2).f1).toList != ([] : List UInt8)) = false := bne_eq_false_iff_eq.mpr c23
            clear c23
            have H' := Aside0.mk H
            clear H
            have hcz24_0 : wr.cell? ⟨gb310, 0, none⟩ = some (.int .i64 a0_0) := (blk_cell BK310.out 0).trans rfl
            have hcz24_1 : wr.cell? ⟨gb310, 1, none⟩ = some (.int .i64 a0_1) := (blk_cell BK310.out 1).trans rfl
            have hcz24_2 : wr.cell? ⟨gb310, 2, none⟩ = some (.int .i64 a0_2) := (blk_cell BK310.out 2).trans rfl
            have hcz24_3 : wr.cell? ⟨gb310, 3, none⟩ = some (.int .i64 a0_3) := (blk_cell BK310.out 3).trans rfl
            have hcz24_4 : wr.cell? ⟨gb310, 4, none⟩ = some (.int .i64 a0_4) := (blk_cell BK310.out 4).trans rfl
            have hcz24_5 : wr.cell? ⟨gb310, 5, none⟩ = some (.int .i64 a0_5) := (blk_cell BK310.out 5).trans rfl
            have hcz24_6 : wr.cell? ⟨gb310, 6, none⟩ = some (.slice A0_6 l0_6.length c0_6) := (blk_cell BK310.out 6).trans rfl
            have hcz24_7 : wr.cell? ⟨gb310, 7, none⟩ = some (.string a0_7) := (blk_cell BK310.out 7).trans rfl
            have hcz24_8 : wr.cell? ⟨gb310, 8, none⟩ = some (.slice A0_8 l0_8.length c0_8) := (blk_cell BK310.out 8).trans rfl
            have hfz24_0 := blk_frozen BK310.out 0
            have hfz24_1 := blk_frozen BK310.out 1
            have hfz24_2 := blk_frozen BK310.out 2
            have hfz24_3 := blk_frozen BK310.out 3
            have hfz24_4 := blk_frozen BK310.out 4
            have hfz24_5 := blk_frozen BK310.out 5
            have hfz24_6 := blk_frozen BK310.out 6
            have hfz24_7 := blk_frozen BK310.out 7
            have hfz24_8 := blk_frozen BK310.out 8
            have p319 : 0 ≤ (x7_2 : Int) := of_decide_eq_true (by (with_reducible assumption))
            have q319 : x7_2 < (l0_6.length : Int) := of_decide_eq_true (by (with_reducible assumption))
            obtain ⟨ad319, e319, hx319_0, hx319_1, hx319_2⟩ := at_T85 HR0_6.out x7_2 p319 q319
            cases e319
            replace hx319_0 := (HB.out.cell (World.block_lt_of_cell? w _ hx319_0)).trans hx319_0
            replace hx319_1 := (HB.out.cell (World.block_lt_of_cell? w _ hx319_1)).trans hx319_1
            replace hx319_2 := (HB.out.cell (World.block_lt_of_cell? w _ hx319_2)).trans hx319_2
            replace p319 := eq_true p319
            replace q319 := eq_true q319
            go_wp2_with (first | ((with_reducible refine gate_dst (N := 8) rfl ?_); refine box_event ?hg (N := 8) ?hd (cs := #[.int .i64 0, .string (⟨#[]⟩ : ByteArray), .int .i64 0]) (t := 85) ?hr ?_; (case hd => rfl); (case hg => rfl); (case hr => (go_simp; done)); intro gb320 hg w25 hbox hb; have n0_ := Aside0.mk (Kd.R_below (by (with_reducible repeat ((apply Kd.R_drew))); exact HO_4.out) hb); have n1_ := Aside0.mk (blk_below (g := gb310) (o := .cells #[.int .i64 a0_0, .int .i64 a0_1, .int .i64 a0_2, .int .i64 a0_3, .int .i64 a0_4, .int .i64 a0_5, .slice (some ad319) l0_6.length c0_6, .string a0_7, .slice A0_8 l0_8.length c0_8] 44 (0, 0)) (by (with_reducible repeat ((refine blk_drew ?_))); exact BK310.out) hb); have n2_ := Aside0.mk (below_step (by repeat ((with_reducible (exact HB.out)))) hb); have n3_ := Aside0.mk (hbox); have n4_ := Aside0.mk ((by rw [hg]; exact (below_size (by repeat ((with_reducible (exact HB.out))))) : w.heap.size ≤ gb320)); have n5_ := Aside0.mk ((by rw [hg]; exact (below_size (by repeat ((with_reducible (exact HB.out))))) : w.heap.size ≤ gb320)); have n6_ := Aside0.mk ((by rw [hg]; exact Nat.ne_of_lt (blk_lt (g := gb310) (o := .cells #[.int .i64 a0_0, .int .i64 a0_1, .int .i64 a0_2, .int .i64 a0_3, .int .i64 a0_4, .int .i64 a0_5, .slice (some ad319) l0_6.length c0_6, .string a0_7, .slice A0_8 l0_8.length c0_8] 44 (0, 0)) (by (with_reducible repeat ((refine blk_drew ?_))); exact BK310.out)) : gb310 ≠ gb320)); have n7_ := Aside0.mk ((by rw [hg]; exact Nat.ne_of_gt (blk_lt (g := gb310) (o := .cells #[.int .i64 a0_0, .int .i64 a0_1, .int .i64 a0_2, .int .i64 a0_3, .int .i64 a0_4, .int .i64 a0_5, .slice (some ad319) l0_6.length c0_6, .string a0_7, .slice A0_8 l0_8.length c0_8] 44 (0, 0)) (by (with_reducible repeat ((refine blk_drew ?_))); exact BK310.out)) : gb320 ≠ gb310)); clear HO_4; clear BK310; clear HB; have HO_4 := n0_; have BK310 := n1_; have HB := n2_; have BK320 := n3_; have GW320 := n4_; have GE320 := n5_; have NB310_320 := n6_; have NB320_310 := n7_; clear n0_ n1_ n2_ n3_ n4_ n5_ n6_ n7_; clear hb hbox hg; have hnb26 := NB320_310.out; have hnc26 := NB310_320.out; have hcz27_0 : w25.cell? ⟨gb320, 0, none⟩ = some (.int .i64 0) := (blk_cell BK320.out 0).trans rfl; have hcz27_1 : w25.cell? ⟨gb320, 1, none⟩ = some (.string (⟨#[]⟩ : ByteArray)) := (blk_cell BK320.out 1).trans rfl; have hcz27_2 : w25.cell? ⟨gb320, 2, none⟩ = some (.int .i64 0) := (blk_cell BK320.out 2).trans rfl; have hfz27_0 := blk_frozen BK320.out 0; have hfz27_1 := blk_frozen BK320.out 1; have hfz27_2 := blk_frozen BK320.out 2; obtain ⟨Ao28, co28, eo28⟩ := Kd.R_slice HO_4.out; subst eo28) | ((with_reducible refine gate_callee (f := 64) rfl ?_); refine goesL_ (some 68) rfl rfl Try.func64 (by kernel_rfl) rfl #[.slice Ao28 x4_2.length co28, .int .i64 (wrap64 (((rd_T85 l0_6 x7_2).f0) - ((rd_T85 l0_6 x7_2).f2)))] rfl (by (try simp only [List.map_toArray, List.map_cons, List.map_nil]); (rfl)) ?_; (with_reducible refine (variorumref01_PutSigned.calls k2 _ _ x4_2 (wrap64 (((rd_T85 l0_6 x7_2).f0) - ((rd_T85 l0_6 x7_2).f2))) t321 _ ?side1 ?side2 A22.out).mono ?_); (case side1 => refine (Kd.R_reads' (e := 5) (base := w.heap.size) (ok := fun k_ => True) (n := x4_2.length) (c := co28) ?_).2.2; exact (by (with_reducible repeat ((apply Kd.R_drew))); exact (Kd.R_mono (Kd.R_far (p := ⟨gb320, 2, none⟩) (Kd.R_far (p := ⟨gb320, 1, none⟩) (Kd.R_far (p := ⟨gb320, 0, none⟩) (Kd.R_types HO_4.out BK320.out (by decide)) (fun _ hk => hk.2) (.int .i64 ((rd_T85 l0_6 x7_2).f0))) (fun _ hk => hk.2) (.string ((rd_T85 l0_6 x7_2).f1))) (fun _ hk => hk.2) (.int .i64 ((rd_T85 l0_6 x7_2).f2))) (fun _ h_ => h_.1)))); (case side2 => exact (Kd.R_reads' HO_4.out).2.1); rintro e w29 ⟨v322, rfl, ho0, hb⟩; refine ⟨_, rfl, ?_⟩; have n0_ := Aside0.mk (Kd.R_elder' (by (with_reducible repeat ((apply Kd.R_drew))); exact (Kd.R_mono (Kd.R_far (p := ⟨gb320, 2, none⟩) (Kd.R_far (p := ⟨gb320, 1, none⟩) (Kd.R_far (p := ⟨gb320, 0, none⟩) (Kd.R_types HO_4.out BK320.out (by decide)) (fun _ hk => hk.2) (.int .i64 ((rd_T85 l0_6 x7_2).f0))) (fun _ hk => hk.2) (.string ((rd_T85 l0_6 x7_2).f1))) (fun _ hk => hk.2) (.int .i64 ((rd_T85 l0_6 x7_2).f2))) (fun _ h_ => h_.1))) (Kd.R_base ho0) hb); have n1_ := Aside0.mk (Kd.R_lower (Kd.R_new' ho0 (Kd.R_lt (by (with_reducible repeat ((apply Kd.R_drew))); exact (Kd.R_mono (Kd.R_far (p := ⟨gb320, 2, none⟩) (Kd.R_far (p := ⟨gb320, 1, none⟩) (Kd.R_far (p := ⟨gb320, 0, none⟩) (Kd.R_types HO_4.out BK320.out (by decide)) (fun _ hk => hk.2) (.int .i64 ((rd_T85 l0_6 x7_2).f0))) (fun _ hk => hk.2) (.string ((rd_T85 l0_6 x7_2).f1))) (fun _ hk => hk.2) (.int .i64 ((rd_T85 l0_6 x7_2).f2))) (fun _ h_ => h_.1))))) (below_size (by repeat ((with_reducible first | exact HB.out | refine below_set ?_ GE320.out))))); have n2_ := Aside0.mk (blk_below (g := gb310) (o := .cells #[.int .i64 a0_0, .int .i64 a0_1, .int .i64 a0_2, .int .i64 a0_3, .int .i64 a0_4, .int .i64 a0_5, .slice (some ad319) l0_6.length c0_6, .string a0_7, .slice A0_8 l0_8.length c0_8] 44 (0, 0)) (by (with_reducible repeat ((refine blk_drew ?_))); refine blk_far ?_ NB310_320.out _; (with_reducible repeat ((refine blk_drew ?_))); refine blk_far ?_ NB310_320.out _; (with_reducible repeat ((refine blk_drew ?_))); refine blk_far ?_ NB310_320.out _; (with_reducible repeat ((refine blk_drew ?_))); exact BK310.out) hb); have n3_ := Aside0.mk (blk_below (g := gb320) (o := .cells #[.int .i64 ((rd_T85 l0_6 x7_2).f0), .string ((rd_T85 l0_6 x7_2).f1), .int .i64 ((rd_T85 l0_6 x7_2).f2)] 85 (0, 0)) (by (with_reducible repeat ((refine blk_drew ?_))); refine blk_put (cs := #[.int .i64 ((rd_T85 l0_6 x7_2).f0), .string ((rd_T85 l0_6 x7_2).f1), .int .i64 0]) ?_ 2 _ rfl; (with_reducible repeat ((refine blk_drew ?_))); refine blk_put (cs := #[.int .i64 ((rd_T85 l0_6 x7_2).f0), .string (⟨#[]⟩ : ByteArray), .int .i64 0]) ?_ 1 _ rfl; (with_reducible repeat ((refine blk_drew ?_))); refine blk_put (cs := #[.int .i64 0, .string (⟨#[]⟩ : ByteArray), .int .i64 0]) ?_ 0 _ rfl; (with_reducible repeat ((refine blk_drew ?_))); exact BK320.out) hb); have n4_ := Aside0.mk (below_step (by repeat ((with_reducible first | exact HB.out | refine below_set ?_ GE320.out))) hb); clear HO_4; clear BK310; clear BK320; clear HB; have HO_4 := n0_; have HO323 := n1_; have BK310 := n2_; have BK320 := n3_; have HB := n4_; clear n0_ n1_ n2_ n3_ n4_; (try clear hb); (try clear hb2); (try clear hk); (try clear hi); (try clear ho0); have hcz30_0 : w29.cell? ⟨gb320, 0, none⟩ = some (.int .i64 ((rd_T85 l0_6 x7_2).f0)) := (blk_cell BK320.out 0).trans rfl; have hcz30_1 : w29.cell? ⟨gb320, 1, none⟩ = some (.string ((rd_T85 l0_6 x7_2).f1)) := (blk_cell BK320.out 1).trans rfl; have hcz30_2 : w29.cell? ⟨gb320, 2, none⟩ = some (.int .i64 ((rd_T85 l0_6 x7_2).f2)) := (blk_cell BK320.out 2).trans rfl; have hfz30_0 := blk_frozen BK320.out 0; have hfz30_1 := blk_frozen BK320.out 1; have hfz30_2 := blk_frozen BK320.out 2))
            go_roundg k2
            case measure => have := HK1.out; have := HK2.out; omega
            case rel => exact ⟨(t321), (wrap64 (x7_2 + 1)), (by (rfl)), H', ⟨by have := HK1.out; have := HK2.out; omega⟩, ⟨by (with_reducible repeat ((apply Kd.R_drew))); exact Kd.R_mono HO323.out (fun _ hk => trivial)⟩, ⟨by (with_reducible repeat ((refine blk_drew ?_))); exact BK310.out⟩, ⟨by repeat ((with_reducible (exact HB.out)))⟩⟩
           ·rw [if_neg c23] at H
            have c23b0 : (((rd_T85 l0_6 x7_2).f1).toList == ([] : List UInt8)) = false := beq_eq_false_iff_ne.mpr c23
            have c23b1 : (((rd_T85 l0_6 x7_2).f1).toList != ([] : List UInt8)) = true := bne_iff_ne.mpr c23
            replace H := Option.bind_eq_some_iff.mp H
            obtain ⟨t324, A310, H⟩ := H
            replace H : (variorumref11_Encode.l1 k2 t324 t315 x6_1 (wrap64 (x7_2 + 1)) a0_0 a0_1 a0_2 a0_3 a0_4 a0_5 l0_6 a0_7 l0_8) = some (r1, r2) := H
            have A31 := Aside0.mk A310
            clear A310
            have H' := Aside0.mk H
            clear H
            have hcz32_0 : wr.cell? ⟨gb310, 0, none⟩ = some (.int .i64 a0_0) := (blk_cell BK310.out 0).trans rfl
            have hcz32_1 : wr.cell? ⟨gb310, 1, none⟩ = some (.int .i64 a0_1) := (blk_cell BK310.out 1).trans rfl
            have hcz32_2 : wr.cell? ⟨gb310, 2, none⟩ = some (.int .i64 a0_2) := (blk_cell BK310.out 2).trans rfl
            have hcz32_3 : wr.cell? ⟨gb310, 3, none⟩ = some (.int .i64 a0_3) := (blk_cell BK310.out 3).trans rfl
            have hcz32_4 : wr.cell? ⟨gb310, 4, none⟩ = some (.int .i64 a0_4) := (blk_cell BK310.out 4).trans rfl
            have hcz32_5 : wr.cell? ⟨gb310, 5, none⟩ = some (.int .i64 a0_5) := (blk_cell BK310.out 5).trans rfl
            have hcz32_6 : wr.cell? ⟨gb310, 6, none⟩ = some (.slice A0_6 l0_6.length c0_6) := (blk_cell BK310.out 6).trans rfl
            have hcz32_7 : wr.cell? ⟨gb310, 7, none⟩ = some (.string a0_7) := (blk_cell BK310.out 7).trans rfl
            have hcz32_8 : wr.cell? ⟨gb310, 8, none⟩ = some (.slice A0_8 l0_8.length c0_8) := (blk_cell BK310.out 8).trans rfl
            have hfz32_0 := blk_frozen BK310.out 0
            have hfz32_1 := blk_frozen BK310.out 1
            have hfz32_2 := blk_frozen BK310.out 2
            have hfz32_3 := blk_frozen BK310.out 3
            have hfz32_4 := blk_frozen BK310.out 4
            have hfz32_5 := blk_frozen BK310.out 5
            have hfz32_6 := blk_frozen BK310.out 6
            have hfz32_7 := blk_frozen BK310.out 7
            have hfz32_8 := blk_frozen BK310.out 8
            have p319 : 0 ≤ (x7_2 : Int) := of_decide_eq_true (by (with_reducible assumption))
            have q319 : x7_2 < (l0_6.length : Int) := of_decide_eq_true (by (with_reducible assumption))
            obtain ⟨ad319, e319, hx319_0, hx319_1, hx319_2⟩ := at_T85 HR0_6.out x7_2 p319 q319
            cases e319
            replace hx319_0 := (HB.out.cell (World.block_lt_of_cell? w _ hx319_0)).trans hx319_0
            replace hx319_1 := (HB.out.cell (World.block_lt_of_cell? w _ hx319_1)).trans hx319_1
            replace hx319_2 := (HB.out.cell (World.block_lt_of_cell? w _ hx319_2)).trans hx319_2
            replace p319 := eq_true p319
            replace q319 := eq_true q319
            go_wp2_with (first | ((with_reducible refine gate_dst (N := 8) rfl ?_); refine box_event ?hg (N := 8) ?hd (cs := #[.int .i64 0, .string (⟨#[]⟩ : ByteArray), .int .i64 0]) (t := 85) ?hr ?_; (case hd => rfl); (case hg => rfl); (case hr => (go_simp; done)); intro gb320 hg w33 hbox hb; have n0_ := Aside0.mk (Kd.R_below (by (with_reducible repeat ((apply Kd.R_drew))); exact HO_4.out) hb); have n1_ := Aside0.mk (blk_below (g := gb310) (o := .cells #[.int .i64 a0_0, .int .i64 a0_1, .int .i64 a0_2, .int .i64 a0_3, .int .i64 a0_4, .int .i64 a0_5, .slice (some ad319) l0_6.length c0_6, .string a0_7, .slice A0_8 l0_8.length c0_8] 44 (0, 0)) (by (with_reducible repeat ((refine blk_drew ?_))); exact BK310.out) hb); have n2_ := Aside0.mk (below_step (by repeat ((with_reducible (exact HB.out)))) hb); have n3_ := Aside0.mk (hbox); have n4_ := Aside0.mk ((by rw [hg]; exact (below_size (by repeat ((with_reducible (exact HB.out))))) : w.heap.size ≤ gb320)); have n5_ := Aside0.mk ((by rw [hg]; exact (below_size (by repeat ((with_reducible (exact HB.out))))) : w.heap.size ≤ gb320)); have n6_ := Aside0.mk ((by rw [hg]; exact Nat.ne_of_lt (blk_lt (g := gb310) (o := .cells #[.int .i64 a0_0, .int .i64 a0_1, .int .i64 a0_2, .int .i64 a0_3, .int .i64 a0_4, .int .i64 a0_5, .slice (some ad319) l0_6.length c0_6, .string a0_7, .slice A0_8 l0_8.length c0_8] 44 (0, 0)) (by (with_reducible repeat ((refine blk_drew ?_))); exact BK310.out)) : gb310 ≠ gb320)); have n7_ := Aside0.mk ((by rw [hg]; exact Nat.ne_of_gt (blk_lt (g := gb310) (o := .cells #[.int .i64 a0_0, .int .i64 a0_1, .int .i64 a0_2, .int .i64 a0_3, .int .i64 a0_4, .int .i64 a0_5, .slice (some ad319) l0_6.length c0_6, .string a0_7, .slice A0_8 l0_8.length c0_8] 44 (0, 0)) (by (with_reducible repeat ((refine blk_drew ?_))); exact BK310.out)) : gb320 ≠ gb310)); clear HO_4; clear BK310; clear HB; have HO_4 := n0_; have BK310 := n1_; have HB := n2_; have BK320 := n3_; have GW320 := n4_; have GE320 := n5_; have NB310_320 := n6_; have NB320_310 := n7_; clear n0_ n1_ n2_ n3_ n4_ n5_ n6_ n7_; clear hb hbox hg; have hnb34 := NB320_310.out; have hnc34 := NB310_320.out; have hcz35_0 : w33.cell? ⟨gb320, 0, none⟩ = some (.int .i64 0) := (blk_cell BK320.out 0).trans rfl; have hcz35_1 : w33.cell? ⟨gb320, 1, none⟩ = some (.string (⟨#[]⟩ : ByteArray)) := (blk_cell BK320.out 1).trans rfl; have hcz35_2 : w33.cell? ⟨gb320, 2, none⟩ = some (.int .i64 0) := (blk_cell BK320.out 2).trans rfl; have hfz35_0 := blk_frozen BK320.out 0; have hfz35_1 := blk_frozen BK320.out 1; have hfz35_2 := blk_frozen BK320.out 2; obtain ⟨Ao36, co36, eo36⟩ := Kd.R_slice HO_4.out; subst eo36) | ((with_reducible refine gate_callee (f := 64) rfl ?_); refine goesL_ (some 68) rfl rfl Try.func64 (by kernel_rfl) rfl #[.slice Ao36 x4_2.length co36, .int .i64 (wrap64 (((rd_T85 l0_6 x7_2).f0) - ((rd_T85 l0_6 x7_2).f2)))] rfl (by (try simp only [List.map_toArray, List.map_cons, List.map_nil]); (rfl)) ?_; (with_reducible refine (variorumref01_PutSigned.calls k2 _ _ x4_2 (wrap64 (((rd_T85 l0_6 x7_2).f0) - ((rd_T85 l0_6 x7_2).f2))) t321 _ ?side1 ?side2 A22.out).mono ?_); (case side1 => refine (Kd.R_reads' (e := 5) (base := w.heap.size) (ok := fun k_ => True) (n := x4_2.length) (c := co36) ?_).2.2; exact (by (with_reducible repeat ((apply Kd.R_drew))); exact (Kd.R_mono (Kd.R_far (p := ⟨gb320, 2, none⟩) (Kd.R_far (p := ⟨gb320, 1, none⟩) (Kd.R_far (p := ⟨gb320, 0, none⟩) (Kd.R_types HO_4.out BK320.out (by decide)) (fun _ hk => hk.2) (.int .i64 ((rd_T85 l0_6 x7_2).f0))) (fun _ hk => hk.2) (.string ((rd_T85 l0_6 x7_2).f1))) (fun _ hk => hk.2) (.int .i64 ((rd_T85 l0_6 x7_2).f2))) (fun _ h_ => h_.1)))); (case side2 => exact (Kd.R_reads' HO_4.out).2.1); rintro e w37 ⟨v322, rfl, ho0, hb⟩; refine ⟨_, rfl, ?_⟩; have n0_ := Aside0.mk (Kd.R_elder' (by (with_reducible repeat ((apply Kd.R_drew))); exact (Kd.R_mono (Kd.R_far (p := ⟨gb320, 2, none⟩) (Kd.R_far (p := ⟨gb320, 1, none⟩) (Kd.R_far (p := ⟨gb320, 0, none⟩) (Kd.R_types HO_4.out BK320.out (by decide)) (fun _ hk => hk.2) (.int .i64 ((rd_T85 l0_6 x7_2).f0))) (fun _ hk => hk.2) (.string ((rd_T85 l0_6 x7_2).f1))) (fun _ hk => hk.2) (.int .i64 ((rd_T85 l0_6 x7_2).f2))) (fun _ h_ => h_.1))) (Kd.R_base ho0) hb); have n1_ := Aside0.mk (Kd.R_lower (Kd.R_new' ho0 (Kd.R_lt (by (with_reducible repeat ((apply Kd.R_drew))); exact (Kd.R_mono (Kd.R_far (p := ⟨gb320, 2, none⟩) (Kd.R_far (p := ⟨gb320, 1, none⟩) (Kd.R_far (p := ⟨gb320, 0, none⟩) (Kd.R_types HO_4.out BK320.out (by decide)) (fun _ hk => hk.2) (.int .i64 ((rd_T85 l0_6 x7_2).f0))) (fun _ hk => hk.2) (.string ((rd_T85 l0_6 x7_2).f1))) (fun _ hk => hk.2) (.int .i64 ((rd_T85 l0_6 x7_2).f2))) (fun _ h_ => h_.1))))) (below_size (by repeat ((with_reducible first | exact HB.out | refine below_set ?_ GE320.out))))); have n2_ := Aside0.mk (blk_below (g := gb310) (o := .cells #[.int .i64 a0_0, .int .i64 a0_1, .int .i64 a0_2, .int .i64 a0_3, .int .i64 a0_4, .int .i64 a0_5, .slice (some ad319) l0_6.length c0_6, .string a0_7, .slice A0_8 l0_8.length c0_8] 44 (0, 0)) (by (with_reducible repeat ((refine blk_drew ?_))); refine blk_far ?_ NB310_320.out _; (with_reducible repeat ((refine blk_drew ?_))); refine blk_far ?_ NB310_320.out _; (with_reducible repeat ((refine blk_drew ?_))); refine blk_far ?_ NB310_320.out _; (with_reducible repeat ((refine blk_drew ?_))); exact BK310.out) hb); have n3_ := Aside0.mk (blk_below (g := gb320) (o := .cells #[.int .i64 ((rd_T85 l0_6 x7_2).f0), .string ((rd_T85 l0_6 x7_2).f1), .int .i64 ((rd_T85 l0_6 x7_2).f2)] 85 (0, 0)) (by (with_reducible repeat ((refine blk_drew ?_))); refine blk_put (cs := #[.int .i64 ((rd_T85 l0_6 x7_2).f0), .string ((rd_T85 l0_6 x7_2).f1), .int .i64 0]) ?_ 2 _ rfl; (with_reducible repeat ((refine blk_drew ?_))); refine blk_put (cs := #[.int .i64 ((rd_T85 l0_6 x7_2).f0), .string (⟨#[]⟩ : ByteArray), .int .i64 0]) ?_ 1 _ rfl; (with_reducible repeat ((refine blk_drew ?_))); refine blk_put (cs := #[.int .i64 0, .string (⟨#[]⟩ : ByteArray), .int .i64 0]) ?_ 0 _ rfl; (with_reducible repeat ((refine blk_drew ?_))); exact BK320.out) hb); have n4_ := Aside0.mk (below_step (by repeat ((with_reducible first | exact HB.out | refine below_set ?_ GE320.out))) hb); clear HO_4; clear BK310; clear BK320; clear HB; have HO_4 := n0_; have HO323 := n1_; have BK310 := n2_; have BK320 := n3_; have HB := n4_; clear n0_ n1_ n2_ n3_ n4_; (try clear hb); (try clear hb2); (try clear hk); (try clear hi); (try clear ho0); have hcz38_0 : w37.cell? ⟨gb320, 0, none⟩ = some (.int .i64 ((rd_T85 l0_6 x7_2).f0)) := (blk_cell BK320.out 0).trans rfl; have hcz38_1 : w37.cell? ⟨gb320, 1, none⟩ = some (.string ((rd_T85 l0_6 x7_2).f1)) := (blk_cell BK320.out 1).trans rfl; have hcz38_2 : w37.cell? ⟨gb320, 2, none⟩ = some (.int .i64 ((rd_T85 l0_6 x7_2).f2)) := (blk_cell BK320.out 2).trans rfl; have hfz38_0 := blk_frozen BK320.out 0; have hfz38_1 := blk_frozen BK320.out 1; have hfz38_2 := blk_frozen BK320.out 2; obtain ⟨Ao39, co39, eo39⟩ := Kd.R_slice HO323.out; subst eo39) | ((with_reducible refine gate_callee (f := 65) rfl ?_); refine goesL_ (some 75) rfl rfl Try.func65 (by kernel_rfl) rfl #[.slice Ao39 t321.length co39, .string ((rd_T85 l0_6 x7_2).f1)] rfl (by (try simp only [List.map_toArray, List.map_cons, List.map_nil]); (rfl)) ?_; (with_reducible refine (variorumref01_PutText.calls k2 _ _ t321 ((rd_T85 l0_6 x7_2).f1) t324 _ ?side1 ?side2 A31.out).mono ?_); (case side1 => repeat ((exact (Kd.R_reads' HO323.out).2.2))); (case side2 => exact (Kd.R_reads' HO323.out).2.1); rintro e w40 ⟨v325, rfl, ho0, hb⟩; refine ⟨_, rfl, ?_⟩; have n0_ := Aside0.mk (Kd.R_elder' (by (with_reducible repeat ((apply Kd.R_drew))); exact HO_4.out) (Kd.R_base ho0) hb); have n1_ := Aside0.mk (Kd.R_elder' (by (with_reducible repeat ((apply Kd.R_drew))); exact HO323.out) (Kd.R_base ho0) hb); have n2_ := Aside0.mk (Kd.R_lower (Kd.R_new' (Kd.R_new' ho0 (Kd.R_lt (by (with_reducible repeat ((apply Kd.R_drew))); exact HO_4.out))) (Kd.R_lt (by (with_reducible repeat ((apply Kd.R_drew))); exact HO323.out))) (below_size (by repeat ((with_reducible (exact HB.out)))))); have n3_ := Aside0.mk (blk_below (g := gb310) (o := .cells #[.int .i64 a0_0, .int .i64 a0_1, .int .i64 a0_2, .int .i64 a0_3, .int .i64 a0_4, .int .i64 a0_5, .slice (some ad319) l0_6.length c0_6, .string a0_7, .slice A0_8 l0_8.length c0_8] 44 (0, 0)) (by (with_reducible repeat ((refine blk_drew ?_))); exact BK310.out) hb); have n4_ := Aside0.mk (blk_below (g := gb320) (o := .cells #[.int .i64 ((rd_T85 l0_6 x7_2).f0), .string ((rd_T85 l0_6 x7_2).f1), .int .i64 ((rd_T85 l0_6 x7_2).f2)] 85 (0, 0)) (by (with_reducible repeat ((refine blk_drew ?_))); exact BK320.out) hb); have n5_ := Aside0.mk (below_step (by repeat ((with_reducible (exact HB.out)))) hb); clear HO_4; clear HO323; clear BK310; clear BK320; clear HB; have HO_4 := n0_; have HO323 := n1_; have HO326 := n2_; have BK310 := n3_; have BK320 := n4_; have HB := n5_; clear n0_ n1_ n2_ n3_ n4_ n5_; (try clear hb); (try clear hb2); (try clear hk); (try clear hi); (try clear ho0)))
            go_roundg k2
            case measure => have := HK1.out; have := HK2.out; omega
            case rel => exact ⟨(t324), (wrap64 (x7_2 + 1)), (by (rfl)), H', ⟨by have := HK1.out; have := HK2.out; omega⟩, ⟨by (with_reducible repeat ((apply Kd.R_drew))); exact Kd.R_mono HO326.out (fun _ hk => trivial)⟩, ⟨by (with_reducible repeat ((refine blk_drew ?_))); exact BK310.out⟩, ⟨by repeat ((with_reducible (exact HB.out)))⟩⟩
          ·rw [if_neg c21] at H
           exact absurd H (by simp)
         ·rw [if_neg c20] at H
          have c20b0 : decide (x7_2 < (l0_6.length : Int)) = false := decide_eq_false c20
          clear c20
          have H' := Aside0.mk H
          clear H
          have hcz41_0 : wr.cell? ⟨gb310, 0, none⟩ = some (.int .i64 a0_0) := (blk_cell BK310.out 0).trans rfl
          have hcz41_1 : wr.cell? ⟨gb310, 1, none⟩ = some (.int .i64 a0_1) := (blk_cell BK310.out 1).trans rfl
          have hcz41_2 : wr.cell? ⟨gb310, 2, none⟩ = some (.int .i64 a0_2) := (blk_cell BK310.out 2).trans rfl
          have hcz41_3 : wr.cell? ⟨gb310, 3, none⟩ = some (.int .i64 a0_3) := (blk_cell BK310.out 3).trans rfl
          have hcz41_4 : wr.cell? ⟨gb310, 4, none⟩ = some (.int .i64 a0_4) := (blk_cell BK310.out 4).trans rfl
          have hcz41_5 : wr.cell? ⟨gb310, 5, none⟩ = some (.int .i64 a0_5) := (blk_cell BK310.out 5).trans rfl
          have hcz41_6 : wr.cell? ⟨gb310, 6, none⟩ = some (.slice A0_6 l0_6.length c0_6) := (blk_cell BK310.out 6).trans rfl
          have hcz41_7 : wr.cell? ⟨gb310, 7, none⟩ = some (.string a0_7) := (blk_cell BK310.out 7).trans rfl
          have hcz41_8 : wr.cell? ⟨gb310, 8, none⟩ = some (.slice A0_8 l0_8.length c0_8) := (blk_cell BK310.out 8).trans rfl
          have hfz41_0 := blk_frozen BK310.out 0
          have hfz41_1 := blk_frozen BK310.out 1
          have hfz41_2 := blk_frozen BK310.out 2
          have hfz41_3 := blk_frozen BK310.out 3
          have hfz41_4 := blk_frozen BK310.out 4
          have hfz41_5 := blk_frozen BK310.out 5
          have hfz41_6 := blk_frozen BK310.out 6
          have hfz41_7 := blk_frozen BK310.out 7
          have hfz41_8 := blk_frozen BK310.out 8
          go_wp2
          go_roundg k2
          case measure => have := HK1.out; have := HK2.out; omega
          case rel => exact ⟨(x4_2), (wrap64 (x6_1 + 1)), (by (rfl)), H', ⟨by have := HK1.out; have := HK2.out; omega⟩, ⟨by (with_reducible repeat ((apply Kd.R_drew))); exact HO_4.out⟩, ⟨by (with_reducible repeat ((refine blk_drew ?_))); exact BK310.out⟩, ⟨by repeat ((with_reducible (exact HB.out)))⟩⟩
      ·rw [if_neg c15] at H
       have c15b0 : ((bt t315 x6_1) == 111) = false := beq_eq_false_iff_ne.mpr c15
       have c15b1 : ((bt t315 x6_1) != 111) = true := bne_iff_ne.mpr c15
       by_cases c42 : (bt t315 x6_1) = 116
       ·rw [if_pos c42] at H
        have c42b0 : ((bt t315 x6_1) == 116) = true := beq_iff_eq.mpr c42
        have c42b1 : ((bt t315 x6_1) != 116) = false := bne_eq_false_iff_eq.mpr c42
        clear c42
        replace H := Option.bind_eq_some_iff.mp H
        obtain ⟨t327, A430, H⟩ := H
        replace H : (variorumref11_Encode.l0 k1 t327 t315 (wrap64 (x6_1 + 1)) a0_0 a0_1 a0_2 a0_3 a0_4 a0_5 l0_6 a0_7 l0_8) = some (r1, r2) := H
        have A43 := Aside0.mk A430
        clear A430
        have H' := Aside0.mk H
        clear H
        have p14 : 0 ≤ (x6_1 : Int) := of_decide_eq_true (by (with_reducible assumption))
        have q14 : x6_1 < (t315.size : Int) := of_decide_eq_true (by (with_reducible assumption))
        have hx14 := bt_at t315 x6_1
        replace p14 := eq_true p14
        replace q14 := eq_true q14
        have hcz44_0 : wr.cell? ⟨gb310, 0, none⟩ = some (.int .i64 a0_0) := (blk_cell BK310.out 0).trans rfl
        have hcz44_1 : wr.cell? ⟨gb310, 1, none⟩ = some (.int .i64 a0_1) := (blk_cell BK310.out 1).trans rfl
        have hcz44_2 : wr.cell? ⟨gb310, 2, none⟩ = some (.int .i64 a0_2) := (blk_cell BK310.out 2).trans rfl
        have hcz44_3 : wr.cell? ⟨gb310, 3, none⟩ = some (.int .i64 a0_3) := (blk_cell BK310.out 3).trans rfl
        have hcz44_4 : wr.cell? ⟨gb310, 4, none⟩ = some (.int .i64 a0_4) := (blk_cell BK310.out 4).trans rfl
        have hcz44_5 : wr.cell? ⟨gb310, 5, none⟩ = some (.int .i64 a0_5) := (blk_cell BK310.out 5).trans rfl
        have hcz44_6 : wr.cell? ⟨gb310, 6, none⟩ = some (.slice A0_6 l0_6.length c0_6) := (blk_cell BK310.out 6).trans rfl
        have hcz44_7 : wr.cell? ⟨gb310, 7, none⟩ = some (.string a0_7) := (blk_cell BK310.out 7).trans rfl
        have hcz44_8 : wr.cell? ⟨gb310, 8, none⟩ = some (.slice A0_8 l0_8.length c0_8) := (blk_cell BK310.out 8).trans rfl
        have hfz44_0 := blk_frozen BK310.out 0
        have hfz44_1 := blk_frozen BK310.out 1
        have hfz44_2 := blk_frozen BK310.out 2
        have hfz44_3 := blk_frozen BK310.out 3
        have hfz44_4 := blk_frozen BK310.out 4
        have hfz44_5 := blk_frozen BK310.out 5
        have hfz44_6 := blk_frozen BK310.out 6
        have hfz44_7 := blk_frozen BK310.out 7
        have hfz44_8 := blk_frozen BK310.out 8
        obtain ⟨Ao45, co45, eo45⟩ := Kd.R_slice HO_4.out
        subst eo45
        go_wp2_with (first | ((with_reducible refine gate_callee (f := 65) rfl ?_); refine goesL_ (some 81) rfl rfl Try.func65 (by kernel_rfl) rfl #[.slice Ao45 x4_1.length co45, .string a0_7] rfl (by (try simp only [List.map_toArray, List.map_cons, List.map_nil]); (rfl)) ?_; (with_reducible refine (variorumref01_PutText.calls k1 _ _ x4_1 a0_7 t327 _ ?side1 ?side2 A43.out).mono ?_); (case side1 => repeat ((exact (Kd.R_reads' HO_4.out).2.2))); (case side2 => exact (Kd.R_reads' HO_4.out).2.1); rintro e w46 ⟨v328, rfl, ho0, hb⟩; refine ⟨_, rfl, ?_⟩; have n0_ := Aside0.mk (Kd.R_elder' (by (with_reducible repeat ((apply Kd.R_drew))); exact HO_4.out) (Kd.R_base ho0) hb); have n1_ := Aside0.mk (Kd.R_lower (Kd.R_new' ho0 (Kd.R_lt (by (with_reducible repeat ((apply Kd.R_drew))); exact HO_4.out))) (below_size (by repeat ((with_reducible (exact HB.out)))))); have n2_ := Aside0.mk (blk_below (g := gb310) (o := .cells #[.int .i64 a0_0, .int .i64 a0_1, .int .i64 a0_2, .int .i64 a0_3, .int .i64 a0_4, .int .i64 a0_5, .slice A0_6 l0_6.length c0_6, .string a0_7, .slice A0_8 l0_8.length c0_8] 44 (0, 0)) (by (with_reducible repeat ((refine blk_drew ?_))); exact BK310.out) hb); have n3_ := Aside0.mk (below_step (by repeat ((with_reducible (exact HB.out)))) hb); clear HO_4; clear BK310; clear HB; have HO_4 := n0_; have HO329 := n1_; have BK310 := n2_; have HB := n3_; clear n0_ n1_ n2_ n3_; (try clear hb); (try clear hb2); (try clear hk); (try clear hi); (try clear ho0)))
        go_roundg k1
        case measure => have := HK1.out; omega
        case rel => exact ⟨(t327), (wrap64 (x6_1 + 1)), (by (rfl)), H', ⟨by have := HK1.out; omega⟩, ⟨by (with_reducible repeat ((apply Kd.R_drew))); exact Kd.R_mono HO329.out (fun _ hk => trivial)⟩, ⟨by (with_reducible repeat ((refine blk_drew ?_))); exact BK310.out⟩, ⟨by repeat ((with_reducible (exact HB.out)))⟩⟩
       ·rw [if_neg c42] at H
        have c42b0 : ((bt t315 x6_1) == 116) = false := beq_eq_false_iff_ne.mpr c42
        have c42b1 : ((bt t315 x6_1) != 116) = true := bne_iff_ne.mpr c42
        by_cases c47 : (bt t315 x6_1) = 110
        ·rw [if_pos c47] at H
         have c47b0 : ((bt t315 x6_1) == 110) = true := beq_iff_eq.mpr c47
         have c47b1 : ((bt t315 x6_1) != 110) = false := bne_eq_false_iff_eq.mpr c47
         clear c47
         replace H := Option.bind_eq_some_iff.mp H
         obtain ⟨t330, A480, H⟩ := H
         replace H : (variorumref11_Encode.l2 k1 t330 t315 x6_1 0 0 a0_0 a0_1 a0_2 a0_3 a0_4 a0_5 l0_6 a0_7 l0_8) = some (r1, r2) := H
         have A48 := Aside0.mk A480
         clear A480
         have H' := Aside0.mk H
         clear H
         have p14 : 0 ≤ (x6_1 : Int) := of_decide_eq_true (by (with_reducible assumption))
         have q14 : x6_1 < (t315.size : Int) := of_decide_eq_true (by (with_reducible assumption))
         have hx14 := bt_at t315 x6_1
         replace p14 := eq_true p14
         replace q14 := eq_true q14
         have hcz49_0 : wr.cell? ⟨gb310, 0, none⟩ = some (.int .i64 a0_0) := (blk_cell BK310.out 0).trans rfl
         have hcz49_1 : wr.cell? ⟨gb310, 1, none⟩ = some (.int .i64 a0_1) := (blk_cell BK310.out 1).trans rfl
         have hcz49_2 : wr.cell? ⟨gb310, 2, none⟩ = some (.int .i64 a0_2) := (blk_cell BK310.out 2).trans rfl
         have hcz49_3 : wr.cell? ⟨gb310, 3, none⟩ = some (.int .i64 a0_3) := (blk_cell BK310.out 3).trans rfl
         have hcz49_4 : wr.cell? ⟨gb310, 4, none⟩ = some (.int .i64 a0_4) := (blk_cell BK310.out 4).trans rfl
         have hcz49_5 : wr.cell? ⟨gb310, 5, none⟩ = some (.int .i64 a0_5) := (blk_cell BK310.out 5).trans rfl
         have hcz49_6 : wr.cell? ⟨gb310, 6, none⟩ = some (.slice A0_6 l0_6.length c0_6) := (blk_cell BK310.out 6).trans rfl
         have hcz49_7 : wr.cell? ⟨gb310, 7, none⟩ = some (.string a0_7) := (blk_cell BK310.out 7).trans rfl
         have hcz49_8 : wr.cell? ⟨gb310, 8, none⟩ = some (.slice A0_8 l0_8.length c0_8) := (blk_cell BK310.out 8).trans rfl
         have hfz49_0 := blk_frozen BK310.out 0
         have hfz49_1 := blk_frozen BK310.out 1
         have hfz49_2 := blk_frozen BK310.out 2
         have hfz49_3 := blk_frozen BK310.out 3
         have hfz49_4 := blk_frozen BK310.out 4
         have hfz49_5 := blk_frozen BK310.out 5
         have hfz49_6 := blk_frozen BK310.out 6
         have hfz49_7 := blk_frozen BK310.out 7
         have hfz49_8 := blk_frozen BK310.out 8
         obtain ⟨Ao50, co50, eo50⟩ := Kd.R_slice HO_4.out
         subst eo50
         go_wp2_with (first | ((with_reducible refine gate_callee (f := 41) rfl ?_); refine goesL_ (some 88) rfl rfl Try.func41 (by kernel_rfl) rfl #[.slice Ao50 x4_1.length co50, .int .i64 (l0_8.length : Int)] rfl (by (try simp only [List.map_toArray, List.map_cons, List.map_nil]); (rfl)) ?_; (with_reducible refine (variorumref01_Put.calls k1 _ _ x4_1 (l0_8.length : Int) t330 _ ?side1 ?side2 A48.out).mono ?_); (case side1 => repeat ((exact (Kd.R_reads' HO_4.out).2.2))); (case side2 => exact (Kd.R_reads' HO_4.out).2.1); rintro e w51 ⟨v331, rfl, ho0, hb⟩; refine ⟨_, rfl, ?_⟩; have n0_ := Aside0.mk (Kd.R_elder' (by (with_reducible repeat ((apply Kd.R_drew))); exact HO_4.out) (Kd.R_base ho0) hb); have n1_ := Aside0.mk (Kd.R_lower (Kd.R_new' ho0 (Kd.R_lt (by (with_reducible repeat ((apply Kd.R_drew))); exact HO_4.out))) (below_size (by repeat ((with_reducible (exact HB.out)))))); have n2_ := Aside0.mk (blk_below (g := gb310) (o := .cells #[.int .i64 a0_0, .int .i64 a0_1, .int .i64 a0_2, .int .i64 a0_3, .int .i64 a0_4, .int .i64 a0_5, .slice A0_6 l0_6.length c0_6, .string a0_7, .slice A0_8 l0_8.length c0_8] 44 (0, 0)) (by (with_reducible repeat ((refine blk_drew ?_))); exact BK310.out) hb); have n3_ := Aside0.mk (below_step (by repeat ((with_reducible (exact HB.out)))) hb); clear HO_4; clear BK310; clear HB; have HO_4 := n0_; have HO332 := n1_; have BK310 := n2_; have HB := n3_; clear n0_ n1_ n2_ n3_; (try clear hb); (try clear hb2); (try clear hk); (try clear hi); (try clear ho0)))
         go_loopg [4, 9, 10] k1 (fun kq v4 v9 v10 w' => ∃ (x4_2 : List Int) (x9_2 : Int) (x10_2 : Int), v9 = .int .i64 x9_2 ∧ v10 = .int .i64 x10_2 ∧ Aside0 (variorumref11_Encode.l2 kq x4_2 t315 x6_1 x9_2 x10_2 a0_0 a0_1 a0_2 a0_3 a0_4 a0_5 l0_6 a0_7 l0_8 = some (r1, r2)) ∧ Aside0 (kq ≤ k1) ∧ Aside0 (Kd.R (Kd.int .u8) 5 w' w.heap.size (fun _ => True) v4 x4_2) ∧ Aside0 (w'.heap[gb310]? = some (.cells #[.int .i64 a0_0, .int .i64 a0_1, .int .i64 a0_2, .int .i64 a0_3, .int .i64 a0_4, .int .i64 a0_5, (.slice A0_6 l0_6.length c0_6), .string a0_7, (.slice A0_8 l0_8.length c0_8)] 44 (0, 0))) ∧ Aside0 (Below w.heap.size w w'))
         case atStart => exact ⟨(t330), (0), (0), (by (rfl)), (by (rfl)), H', ⟨Nat.le_refl _⟩, ⟨by (with_reducible repeat ((apply Kd.R_drew))); exact Kd.R_mono HO332.out (fun _ hk => trivial)⟩, ⟨by (with_reducible repeat ((refine blk_drew ?_))); exact BK310.out⟩, ⟨by repeat ((with_reducible (exact HB.out)))⟩⟩
         case round =>
          clear H'
          try clear c1
          try clear p1
          try clear q1
          try clear hx1
          try clear c2
          try clear p2
          try clear c3
          try clear p3
          try clear q3
          try clear hx3
          try clear c4
          try clear c6
          try clear p6
          try clear c12
          try clear c12b0
          try clear c13
          try clear c13b0
          try clear p14
          try clear q14
          try clear hx14
          try clear c15
          try clear c15b0
          try clear c15b1
          try clear c20
          try clear c20b0
          try clear c21
          try clear c21b0
          try clear c22
          try clear c23
          try clear c23b0
          try clear c23b1
          try clear c24
          try clear c26
          try clear p31
          try clear q31
          try clear hx31
          try clear c34
          try clear c41
          try clear c42
          try clear c42b0
          try clear c42b1
          try clear c47
          try clear c47b0
          try clear c47b1
          try clear hcz11_0
          try clear hcz11_1
          try clear hcz11_2
          try clear hcz11_3
          try clear hcz11_4
          try clear hcz11_5
          try clear hcz11_6
          try clear hcz11_7
          try clear hcz11_8
          try clear hcz17_0
          try clear hcz17_1
          try clear hcz17_2
          try clear hcz17_3
          try clear hcz17_4
          try clear hcz17_5
          try clear hcz17_6
          try clear hcz17_7
          try clear hcz17_8
          try clear hcz24_0
          try clear hcz24_1
          try clear hcz24_2
          try clear hcz24_3
          try clear hcz24_4
          try clear hcz24_5
          try clear hcz24_6
          try clear hcz24_7
          try clear hcz24_8
          try clear hcz27_0
          try clear hcz27_1
          try clear hcz27_2
          try clear hcz30_0
          try clear hcz30_1
          try clear hcz30_2
          try clear hcz32_0
          try clear hcz32_1
          try clear hcz32_2
          try clear hcz32_3
          try clear hcz32_4
          try clear hcz32_5
          try clear hcz32_6
          try clear hcz32_7
          try clear hcz32_8
          try clear hcz35_0
          try clear hcz35_1
          try clear hcz35_2
          try clear hcz38_0
          try clear hcz38_1
          try clear hcz38_2
          try clear hcz41_0
          try clear hcz41_1
          try clear hcz41_2
          try clear hcz41_3
          try clear hcz41_4
          try clear hcz41_5
          try clear hcz41_6
          try clear hcz41_7
          try clear hcz41_8
          try clear hcz44_0
          try clear hcz44_1
          try clear hcz44_2
          try clear hcz44_3
          try clear hcz44_4
          try clear hcz44_5
          try clear hcz44_6
          try clear hcz44_7
          try clear hcz44_8
          try clear hcz49_0
          try clear hcz49_1
          try clear hcz49_2
          try clear hcz49_3
          try clear hcz49_4
          try clear hcz49_5
          try clear hcz49_6
          try clear hcz49_7
          try clear hcz49_8
          try clear hcz7_0
          try clear hcz7_1
          try clear hcz7_2
          try clear hcz7_3
          try clear hcz7_4
          try clear hcz7_5
          try clear hcz7_6
          try clear hcz7_7
          try clear hcz7_8
          try clear hcz9_0
          try clear hcz9_1
          try clear hcz9_2
          try clear hcz9_3
          try clear hcz9_4
          try clear hcz9_5
          try clear hcz9_6
          try clear hcz9_7
          try clear hcz9_8
          try clear hfz11_0
          try clear hfz11_1
          try clear hfz11_2
          try clear hfz11_3
          try clear hfz11_4
          try clear hfz11_5
          try clear hfz11_6
          try clear hfz11_7
          try clear hfz11_8
          try clear hfz17_0
          try clear hfz17_1
          try clear hfz17_2
          try clear hfz17_3
          try clear hfz17_4
          try clear hfz17_5
          try clear hfz17_6
          try clear hfz17_7
          try clear hfz17_8
          try clear hfz24_0
          try clear hfz24_1
          try clear hfz24_2
          try clear hfz24_3
          try clear hfz24_4
          try clear hfz24_5
          try clear hfz24_6
          try clear hfz24_7
          try clear hfz24_8
          try clear hfz27_0
          try clear hfz27_1
          try clear hfz27_2
          try clear hfz30_0
          try clear hfz30_1
          try clear hfz30_2
          try clear hfz32_0
          try clear hfz32_1
          try clear hfz32_2
          try clear hfz32_3
          try clear hfz32_4
          try clear hfz32_5
          try clear hfz32_6
          try clear hfz32_7
          try clear hfz32_8
          try clear hfz35_0
          try clear hfz35_1
          try clear hfz35_2
          try clear hfz38_0
          try clear hfz38_1
          try clear hfz38_2
          try clear hfz41_0
          try clear hfz41_1
          try clear hfz41_2
          try clear hfz41_3
          try clear hfz41_4
          try clear hfz41_5
          try clear hfz41_6
          try clear hfz41_7
          try clear hfz41_8
          try clear hfz44_0
          try clear hfz44_1
          try clear hfz44_2
          try clear hfz44_3
          try clear hfz44_4
          try clear hfz44_5
          try clear hfz44_6
          try clear hfz44_7
          try clear hfz44_8
          try clear hfz49_0
          try clear hfz49_1
          try clear hfz49_2
          try clear hfz49_3
          try clear hfz49_4
          try clear hfz49_5
          try clear hfz49_6
          try clear hfz49_7
          try clear hfz49_8
          try clear hfz7_0
          try clear hfz7_1
          try clear hfz7_2
          try clear hfz7_3
          try clear hfz7_4
          try clear hfz7_5
          try clear hfz7_6
          try clear hfz7_7
          try clear hfz7_8
          try clear hfz9_0
          try clear hfz9_1
          try clear hfz9_2
          try clear hfz9_3
          try clear hfz9_4
          try clear hfz9_5
          try clear hfz9_6
          try clear hfz9_7
          try clear hfz9_8
          try clear hx319_0
          try clear hx319_1
          try clear hx319_2
          try clear p1
          try clear p14
          try clear p2
          try clear p319
          try clear q1
          try clear q14
          try clear q319
          obtain ⟨x4_2, x9_2, x10_2, rfl, rfl, HA, HK2, HO_4, BK310, HB⟩ := hrel
          cases gk with
          | zero => exact absurd HA.out (by simp [variorumref11_Encode.l2])
          | succ k2 =>
           have H := HA.out
           clear HA
           simp only [variorumref11_Encode.l2] at H
           by_cases c52 : x10_2 < (l0_8.length : Int)
           ·rw [if_pos c52] at H
            have c52b0 : decide (x10_2 < (l0_8.length : Int)) = true := decide_eq_true c52
            clear c52
            by_cases c53 : 0 ≤ x10_2
            ·rw [if_pos c53] at H
             have c53b0 : decide (0 ≤ x10_2) = true := decide_eq_true c53
             clear c53
             replace H := Option.bind_eq_some_iff.mp H
             obtain ⟨t335, A540, H⟩ := H
             replace H : ((variorumref01_Put.f k2 t335 (wrap64 (((rd_T104 l0_8 x10_2).f0.f1) - ((rd_T104 l0_8 x10_2).f0.f0)))).bind fun t338 => ((variorumref01_Put.f k2 t338 ((rd_T104 l0_8 x10_2).f1)).bind fun t341 => (variorumref11_Encode.l2 k2 t341 t315 x6_1 ((rd_T104 l0_8 x10_2).f0.f0) (wrap64 (x10_2 + 1)) a0_0 a0_1 a0_2 a0_3 a0_4 a0_5 l0_6 a0_7 l0_8))) = some (r1, r2) := H
             have A54 := Aside0.mk A540
             clear A540
             replace H := Option.bind_eq_some_iff.mp H
             obtain ⟨t338, A550, H⟩ := H
             replace H : ((variorumref01_Put.f k2 t338 ((rd_T104 l0_8 x10_2).f1)).bind fun t341 => (variorumref11_Encode.l2 k2 t341 t315 x6_1 ((rd_T104 l0_8 x10_2).f0.f0) (wrap64 (x10_2 + 1)) a0_0 a0_1 a0_2 a0_3 a0_4 a0_5 l0_6 a0_7 l0_8)) = some (r1, r2) := H
             have A55 := Aside0.mk A550
             clear A550
             replace H := Option.bind_eq_some_iff.mp H
             obtain ⟨t341, A560, H⟩ := H
             replace H : (variorumref11_Encode.l2 k2 t341 t315 x6_1 ((rd_T104 l0_8 x10_2).f0.f0) (wrap64 (x10_2 + 1)) a0_0 a0_1 a0_2 a0_3 a0_4 a0_5 l0_6 a0_7 l0_8) = some (r1, r2) := H
             have A56 := Aside0.mk A560
             clear A560
             have H' := Aside0.mk H
             clear H
             have hcz57_0 : wr.cell? ⟨gb310, 0, none⟩ = some (.int .i64 a0_0) := (blk_cell BK310.out 0).trans rfl
             have hcz57_1 : wr.cell? ⟨gb310, 1, none⟩ = some (.int .i64 a0_1) := (blk_cell BK310.out 1).trans rfl
             have hcz57_2 : wr.cell? ⟨gb310, 2, none⟩ = some (.int .i64 a0_2) := (blk_cell BK310.out 2).trans rfl
             have hcz57_3 : wr.cell? ⟨gb310, 3, none⟩ = some (.int .i64 a0_3) := (blk_cell BK310.out 3).trans rfl
             have hcz57_4 : wr.cell? ⟨gb310, 4, none⟩ = some (.int .i64 a0_4) := (blk_cell BK310.out 4).trans rfl
             have hcz57_5 : wr.cell? ⟨gb310, 5, none⟩ = some (.int .i64 a0_5) := (blk_cell BK310.out 5).trans rfl
             have hcz57_6 : wr.cell? ⟨gb310, 6, none⟩ = some (.slice A0_6 l0_6.length c0_6) := (blk_cell BK310.out 6).trans rfl
             have hcz57_7 : wr.cell? ⟨gb310, 7, none⟩ = some (.string a0_7) := (blk_cell BK310.out 7).trans rfl
             have hcz57_8 : wr.cell? ⟨gb310, 8, none⟩ = some (.slice A0_8 l0_8.length c0_8) := (blk_cell BK310.out 8).trans rfl
             have hfz57_0 := blk_frozen BK310.out 0
             have hfz57_1 := blk_frozen BK310.out 1
             have hfz57_2 := blk_frozen BK310.out 2
             have hfz57_3 := blk_frozen BK310.out 3
             have hfz57_4 := blk_frozen BK310.out 4
             have hfz57_5 := blk_frozen BK310.out 5
             have hfz57_6 := blk_frozen BK310.out 6
             have hfz57_7 := blk_frozen BK310.out 7
             have hfz57_8 := blk_frozen BK310.out 8
             have p333 : 0 ≤ (x10_2 : Int) := of_decide_eq_true (by (with_reducible assumption))
             have q333 : x10_2 < (l0_8.length : Int) := of_decide_eq_true (by (with_reducible assumption))
             obtain ⟨ad333, e333, hx333_0, hx333_1, hx333_2⟩ := at_T104 HR0_8.out x10_2 p333 q333
             cases e333
             replace hx333_0 := (HB.out.cell (World.block_lt_of_cell? w _ hx333_0)).trans hx333_0
             replace hx333_1 := (HB.out.cell (World.block_lt_of_cell? w _ hx333_1)).trans hx333_1
             replace hx333_2 := (HB.out.cell (World.block_lt_of_cell? w _ hx333_2)).trans hx333_2
             replace p333 := eq_true p333
             replace q333 := eq_true q333
             try go_wp2_with (first | ((with_reducible refine gate_dst (N := 11) rfl ?_); refine box_event ?hg (N := 11) ?hd (cs := #[.int .i64 0, .int .i64 0, .int .i64 0]) (t := 104) ?hr ?_; (case hd => rfl); (case hg => rfl); (case hr => (go_simp; done)); intro gb334 hg w58 hbox hb; have n0_ := Aside0.mk (Kd.R_below (by (with_reducible repeat ((apply Kd.R_drew))); exact HO_4.out) hb); have n1_ := Aside0.mk (blk_below (g := gb310) (o := .cells #[.int .i64 a0_0, .int .i64 a0_1, .int .i64 a0_2, .int .i64 a0_3, .int .i64 a0_4, .int .i64 a0_5, .slice A0_6 l0_6.length c0_6, .string a0_7, .slice (some ad333) l0_8.length c0_8] 44 (0, 0)) (by (with_reducible repeat ((refine blk_drew ?_))); exact BK310.out) hb); have n2_ := Aside0.mk (below_step (by repeat ((with_reducible (exact HB.out)))) hb); have n3_ := Aside0.mk (hbox); have n4_ := Aside0.mk ((by rw [hg]; exact (below_size (by repeat ((with_reducible (exact HB.out))))) : w.heap.size ≤ gb334)); have n5_ := Aside0.mk ((by rw [hg]; exact (below_size (by repeat ((with_reducible (exact HB.out))))) : w.heap.size ≤ gb334)); have n6_ := Aside0.mk ((by rw [hg]; exact Nat.ne_of_lt (blk_lt (g := gb310) (o := .cells #[.int .i64 a0_0, .int .i64 a0_1, .int .i64 a0_2, .int .i64 a0_3, .int .i64 a0_4, .int .i64 a0_5, .slice A0_6 l0_6.length c0_6, .string a0_7, .slice (some ad333) l0_8.length c0_8] 44 (0, 0)) (by (with_reducible repeat ((refine blk_drew ?_))); exact BK310.out)) : gb310 ≠ gb334)); have n7_ := Aside0.mk ((by rw [hg]; exact Nat.ne_of_gt (blk_lt (g := gb310) (o := .cells #[.int .i64 a0_0, .int .i64 a0_1, .int .i64 a0_2, .int .i64 a0_3, .int .i64 a0_4, .int .i64 a0_5, .slice A0_6 l0_6.length c0_6, .string a0_7, .slice (some ad333) l0_8.length c0_8] 44 (0, 0)) (by (with_reducible repeat ((refine blk_drew ?_))); exact BK310.out)) : gb334 ≠ gb310)); clear HO_4; clear BK310; clear HB; have HO_4 := n0_; have BK310 := n1_; have HB := n2_; have BK334 := n3_; have GW334 := n4_; have GE334 := n5_; have NB310_334 := n6_; have NB334_310 := n7_; clear n0_ n1_ n2_ n3_ n4_ n5_ n6_ n7_; clear hb hbox hg; have hnb59 := NB334_310.out; have hnc59 := NB310_334.out; have hcz60_0 : w58.cell? ⟨gb334, 0, none⟩ = some (.int .i64 0) := (blk_cell BK334.out 0).trans rfl; have hcz60_1 : w58.cell? ⟨gb334, 1, none⟩ = some (.int .i64 0) := (blk_cell BK334.out 1).trans rfl; have hcz60_2 : w58.cell? ⟨gb334, 2, none⟩ = some (.int .i64 0) := (blk_cell BK334.out 2).trans rfl; have hfz60_0 := blk_frozen BK334.out 0; have hfz60_1 := blk_frozen BK334.out 1; have hfz60_2 := blk_frozen BK334.out 2))
             have n0_ : Aside0 (Kd.R (Kd.int .u8) 5 (((w58.setCell ⟨gb334, 0, none⟩ (.int .i64 ((rd_T104 l0_8 x10_2).f0.f0))).setCell ⟨gb334, 1, none⟩ (.int .i64 ((rd_T104 l0_8 x10_2).f0.f1))).setCell ⟨gb334, 2, none⟩ (.int .i64 ((rd_T104 l0_8 x10_2).f1))) w.heap.size (fun _ => True) u4 x4_2) := ⟨by (with_reducible repeat ((apply Kd.R_drew))); exact Kd.R_mono (Kd.R_far (p := ⟨gb334, 2, none⟩) (Kd.R_far (p := ⟨gb334, 1, none⟩) (Kd.R_far (p := ⟨gb334, 0, none⟩) (Kd.R_types HO_4.out BK334.out (by decide)) (fun _ hk => hk.2) (.int .i64 ((rd_T104 l0_8 x10_2).f0.f0))) (fun _ hk => hk.2) (.int .i64 ((rd_T104 l0_8 x10_2).f0.f1))) (fun _ hk => hk.2) (.int .i64 ((rd_T104 l0_8 x10_2).f1))) (fun _ hk => trivial)⟩
             have n1_ : Aside0 ((((w58.setCell ⟨gb334, 0, none⟩ (.int .i64 ((rd_T104 l0_8 x10_2).f0.f0))).setCell ⟨gb334, 1, none⟩ (.int .i64 ((rd_T104 l0_8 x10_2).f0.f1))).setCell ⟨gb334, 2, none⟩ (.int .i64 ((rd_T104 l0_8 x10_2).f1))).heap[gb310]? = some (.cells #[.int .i64 a0_0, .int .i64 a0_1, .int .i64 a0_2, .int .i64 a0_3, .int .i64 a0_4, .int .i64 a0_5, .slice A0_6 l0_6.length c0_6, .string a0_7, .slice (some ad333) l0_8.length c0_8] 44 (0, 0))) := ⟨by (with_reducible repeat ((refine blk_drew ?_))); refine blk_far ?_ NB310_334.out _; (with_reducible repeat ((refine blk_drew ?_))); refine blk_far ?_ NB310_334.out _; (with_reducible repeat ((refine blk_drew ?_))); refine blk_far ?_ NB310_334.out _; (with_reducible repeat ((refine blk_drew ?_))); exact BK310.out⟩
             have n2_ : Aside0 ((((w58.setCell ⟨gb334, 0, none⟩ (.int .i64 ((rd_T104 l0_8 x10_2).f0.f0))).setCell ⟨gb334, 1, none⟩ (.int .i64 ((rd_T104 l0_8 x10_2).f0.f1))).setCell ⟨gb334, 2, none⟩ (.int .i64 ((rd_T104 l0_8 x10_2).f1))).heap[gb334]? = some (.cells #[.int .i64 ((rd_T104 l0_8 x10_2).f0.f0), .int .i64 ((rd_T104 l0_8 x10_2).f0.f1), .int .i64 ((rd_T104 l0_8 x10_2).f1)] 104 (0, 0))) := ⟨by (with_reducible repeat ((refine blk_drew ?_))); refine blk_put (cs := #[.int .i64 ((rd_T104 l0_8 x10_2).f0.f0), .int .i64 ((rd_T104 l0_8 x10_2).f0.f1), .int .i64 0]) ?_ 2 _ rfl; (with_reducible repeat ((refine blk_drew ?_))); refine blk_put (cs := #[.int .i64 ((rd_T104 l0_8 x10_2).f0.f0), .int .i64 0, .int .i64 0]) ?_ 1 _ rfl; (with_reducible repeat ((refine blk_drew ?_))); refine blk_put (cs := #[.int .i64 0, .int .i64 0, .int .i64 0]) ?_ 0 _ rfl; (with_reducible repeat ((refine blk_drew ?_))); exact BK334.out⟩
             have n3_ : Aside0 (Below w.heap.size w (((w58.setCell ⟨gb334, 0, none⟩ (.int .i64 ((rd_T104 l0_8 x10_2).f0.f0))).setCell ⟨gb334, 1, none⟩ (.int .i64 ((rd_T104 l0_8 x10_2).f0.f1))).setCell ⟨gb334, 2, none⟩ (.int .i64 ((rd_T104 l0_8 x10_2).f1)))) := ⟨by repeat ((with_reducible first | exact HB.out | refine below_set ?_ GE334.out))⟩
             (try clear HO_4)
             (try clear BK310)
             (try clear BK334)
             (try clear HB)
             generalize (((w58.setCell ⟨gb334, 0, none⟩ (.int .i64 ((rd_T104 l0_8 x10_2).f0.f0))).setCell ⟨gb334, 1, none⟩ (.int .i64 ((rd_T104 l0_8 x10_2).f0.f1))).setCell ⟨gb334, 2, none⟩ (.int .i64 ((rd_T104 l0_8 x10_2).f1))) = w61 at n0_ n1_ n2_ n3_ ⊢
             have HO_4 := n0_
             have BK310 := n1_
             have BK334 := n2_
             have HB := n3_
             clear n0_ n1_ n2_ n3_
             have n0_ := Aside0.mk (Kd.R_drew HO_4.out)
             have n1_ := Aside0.mk (blk_drew BK310.out)
             have n2_ := Aside0.mk (blk_drew BK334.out)
             have n3_ := Aside0.mk (below_drew1 HB.out)
             clear HO_4
             clear BK310
             clear BK334
             clear HB
             have HO_4 := n0_
             have BK310 := n1_
             have BK334 := n2_
             have HB := n3_
             clear n0_ n1_ n2_ n3_
             obtain ⟨Ao63, co63, eo63⟩ := Kd.R_slice HO_4.out
             ((subst eo63))
             refine start_ (n := 19) (S := fun w' => w'.cell? ⟨gb334, 0, none⟩ = some (.int .i64 ((rd_T104 l0_8 x10_2).f0.f0)) ∧ w'.cell? ⟨gb334, 1, none⟩ = some (.int .i64 ((rd_T104 l0_8 x10_2).f0.f1)) ∧ w'.cell? ⟨gb334, 2, none⟩ = some (.int .i64 ((rd_T104 l0_8 x10_2).f1))) (ds := []) codeB25 (by kernel_rfl) rfl rfl ⟨(blk_cell BK334.out 0).trans rfl, (blk_cell BK334.out 1).trans rfl, (blk_cell BK334.out 2).trans rfl⟩ (fun hHeld => ?_); refine with_tabW variorumref11_Encode.tab29 variorumref11_Encode.bits29 (fun HT_ HW_ => ?_)
             generalize w61.drew = w62 at HO_4 BK310 BK334 HB hHeld ⊢
             refine pu_ 0 101 codeB0 HT_ ?_
             refine pu_ 1 102 codeB1 HT_ ?_
             refine pu_ 2 103 codeB2 HT_ ?_
             refine pu_ 4 105 codeB3 HT_ ?_
             refine pu_ 7 108 codeB4 HT_ ?_
             refine pu_ 8 109 codeB5 HT_ ?_
             refine pu_ 10 111 codeB6 HT_ ?_
             refine pu_ 11 112 codeB7 HT_ ?_
             refine pu_ 15 116 codeB8 HT_ ?_
             refine pt_ 3 104 codeB19 HT_ HW_ rfl hHeld (by rintro w' ⟨s0, s1, s2⟩; go_simp; with_reducible rfl) ?_
             refine pu_ 5 106 codeB9 HT_ ?_
             refine pt_ 9 110 codeB20 HT_ HW_ rfl hHeld (by rintro w' ⟨s0, s1, s2⟩; go_simp; with_reducible rfl) ?_
             refine pt_ 12 113 codeB21 HT_ HW_ rfl hHeld (by rintro w' ⟨s0, s1, s2⟩; go_simp; with_reducible rfl) ?_
             refine pu_ 13 114 codeB10 HT_ ?_
             refine pt_ 16 117 codeB22 HT_ HW_ rfl hHeld (by rintro w' ⟨s0, s1, s2⟩; go_simp; with_reducible rfl) ?_
             refine one_ (i := 6) (N := some 107) codeB26 rfl rfl (one_of HT_.out (by kernel_rfl)) (by decide) (fun K hK => ?_)
             refine goes_ Try.func41 (by kernel_rfl) rfl #[.slice Ao63 x4_2.length co63, .int .i64 (wrap64 (((rd_T104 l0_8 x10_2).f0.f0) - x9_2))] (by rfl) rfl rfl (by (try simp only [List.map_toArray, List.map_cons, List.map_nil]); (rfl)) ?_
             with_reducible refine (variorumref01_Put.calls k2 _ _ x4_2 (wrap64 (((rd_T104 l0_8 x10_2).f0.f0) - x9_2)) t335 _ ?side1 ?side2 A54.out).mono ?_
             (case side1 => repeat ((exact (Kd.R_reads' HO_4.out).2.2)))
             (case side2 => exact (Kd.R_reads' HO_4.out).2.1)
             rintro e w64 ⟨v336, rfl, ho0, hb⟩
             refine ⟨_, rfl, ?_⟩
             have n0_ := Aside0.mk (Kd.R_elder' (by (with_reducible repeat ((apply Kd.R_drew))); exact HO_4.out) (Kd.R_base ho0) hb)
             have n1_ := Aside0.mk (Kd.R_lower (Kd.R_new' ho0 (Kd.R_lt (by (with_reducible repeat ((apply Kd.R_drew))); exact HO_4.out))) (below_size (by repeat ((with_reducible (exact HB.out))))))
             have n2_ := Aside0.mk (blk_below (g := gb310) (o := .cells #[.int .i64 a0_0, .int .i64 a0_1, .int .i64 a0_2, .int .i64 a0_3, .int .i64 a0_4, .int .i64 a0_5, .slice A0_6 l0_6.length c0_6, .string a0_7, .slice (some ad333) l0_8.length c0_8] 44 (0, 0)) (by (with_reducible repeat ((refine blk_drew ?_))); exact BK310.out) hb)
             have n3_ := Aside0.mk (blk_below (g := gb334) (o := .cells #[.int .i64 ((rd_T104 l0_8 x10_2).f0.f0), .int .i64 ((rd_T104 l0_8 x10_2).f0.f1), .int .i64 ((rd_T104 l0_8 x10_2).f1)] 104 (0, 0)) (by (with_reducible repeat ((refine blk_drew ?_))); exact BK334.out) hb)
             have n4_ := Aside0.mk (below_step (by repeat ((with_reducible (exact HB.out)))) hb)
             clear HO_4
             clear BK310
             clear BK334
             clear HB
             have HO_4 := n0_
             have HO337 := n1_
             have BK310 := n2_
             have BK334 := n3_
             have HB := n4_
             clear n0_ n1_ n2_ n3_ n4_
             (try clear hb)
             (try clear hb2)
             (try clear hk)
             (try clear hi)
             (try clear ho0)
             obtain ⟨Ao65, co65, eo65⟩ := Kd.R_slice HO337.out
             ((subst eo65))
             refine hK.out _ _ ⟨(blk_cell BK334.out 0).trans rfl, (blk_cell BK334.out 1).trans rfl, (blk_cell BK334.out 2).trans rfl⟩ (fun hHeld => ?_)
             clear hK K
             refine norm_ (a' := ?_) ?_ ?_
             rotate_left
             ·show Act.put _ (some 107) _ = _
              simp only [Act.put, List.setIfInBounds_toArray, List.set_cons_zero, List.set_cons_succ, i64_w, i32_w]
              rfl
             refine one_ (i := 14) (N := some 115) codeB27 rfl rfl (one_of HT_.out (by kernel_rfl)) (by decide) (fun K hK => ?_)
             refine goes_ Try.func41 (by kernel_rfl) rfl #[.slice Ao65 t335.length co65, .int .i64 (wrap64 (((rd_T104 l0_8 x10_2).f0.f1) - ((rd_T104 l0_8 x10_2).f0.f0)))] (by rfl) rfl rfl (by (try simp only [List.map_toArray, List.map_cons, List.map_nil]); (rfl)) ?_
             with_reducible refine (variorumref01_Put.calls k2 _ _ t335 (wrap64 (((rd_T104 l0_8 x10_2).f0.f1) - ((rd_T104 l0_8 x10_2).f0.f0))) t338 _ ?side1 ?side2 A55.out).mono ?_
             (case side1 => repeat ((exact (Kd.R_reads' HO337.out).2.2)))
             (case side2 => exact (Kd.R_reads' HO337.out).2.1)
             rintro e w66 ⟨v339, rfl, ho0, hb⟩
             refine ⟨_, rfl, ?_⟩
             have n0_ := Aside0.mk (Kd.R_elder' (by (with_reducible repeat ((apply Kd.R_drew))); exact HO_4.out) (Kd.R_base ho0) hb)
             have n1_ := Aside0.mk (Kd.R_elder' (by (with_reducible repeat ((apply Kd.R_drew))); exact HO337.out) (Kd.R_base ho0) hb)
             have n2_ := Aside0.mk (Kd.R_lower (Kd.R_new' (Kd.R_new' ho0 (Kd.R_lt (by (with_reducible repeat ((apply Kd.R_drew))); exact HO_4.out))) (Kd.R_lt (by (with_reducible repeat ((apply Kd.R_drew))); exact HO337.out))) (below_size (by repeat ((with_reducible (exact HB.out))))))
             have n3_ := Aside0.mk (blk_below (g := gb310) (o := .cells #[.int .i64 a0_0, .int .i64 a0_1, .int .i64 a0_2, .int .i64 a0_3, .int .i64 a0_4, .int .i64 a0_5, .slice A0_6 l0_6.length c0_6, .string a0_7, .slice (some ad333) l0_8.length c0_8] 44 (0, 0)) (by (with_reducible repeat ((refine blk_drew ?_))); exact BK310.out) hb)
             have n4_ := Aside0.mk (blk_below (g := gb334) (o := .cells #[.int .i64 ((rd_T104 l0_8 x10_2).f0.f0), .int .i64 ((rd_T104 l0_8 x10_2).f0.f1), .int .i64 ((rd_T104 l0_8 x10_2).f1)] 104 (0, 0)) (by (with_reducible repeat ((refine blk_drew ?_))); exact BK334.out) hb)
             have n5_ := Aside0.mk (below_step (by repeat ((with_reducible (exact HB.out)))) hb)
             clear HO_4
             clear HO337
             clear BK310
             clear BK334
             clear HB
             have HO_4 := n0_
             have HO337 := n1_
             have HO340 := n2_
             have BK310 := n3_
             have BK334 := n4_
             have HB := n5_
             clear n0_ n1_ n2_ n3_ n4_ n5_
             (try clear hb)
             (try clear hb2)
             (try clear hk)
             (try clear hi)
             (try clear ho0)
             obtain ⟨Ao67, co67, eo67⟩ := Kd.R_slice HO340.out
             ((subst eo67))
             refine hK.out _ _ ⟨(blk_cell BK334.out 0).trans rfl, (blk_cell BK334.out 1).trans rfl, (blk_cell BK334.out 2).trans rfl⟩ (fun hHeld => ?_)
             clear hK K
             refine norm_ (a' := ?_) ?_ ?_
             rotate_left
             ·show Act.put _ (some 115) _ = _
              simp only [Act.put, List.setIfInBounds_toArray, List.set_cons_zero, List.set_cons_succ, i64_w, i32_w]
              rfl
             refine one_ (i := 17) (N := some 118) codeB28 rfl rfl (one_of HT_.out (by kernel_rfl)) (by decide) (fun K hK => ?_)
             refine goes_ Try.func41 (by kernel_rfl) rfl #[.slice Ao67 t338.length co67, .int .i64 ((rd_T104 l0_8 x10_2).f1)] (by rfl) rfl rfl (by (try simp only [List.map_toArray, List.map_cons, List.map_nil]); (rfl)) ?_
             with_reducible refine (variorumref01_Put.calls k2 _ _ t338 ((rd_T104 l0_8 x10_2).f1) t341 _ ?side1 ?side2 A56.out).mono ?_
             (case side1 => repeat ((exact (Kd.R_reads' HO340.out).2.2)))
             (case side2 => exact (Kd.R_reads' HO340.out).2.1)
             rintro e w68 ⟨v342, rfl, ho0, hb⟩
             refine ⟨_, rfl, ?_⟩
             have n0_ := Aside0.mk (Kd.R_elder' (by (with_reducible repeat ((apply Kd.R_drew))); exact HO_4.out) (Kd.R_base ho0) hb)
             have n1_ := Aside0.mk (Kd.R_elder' (by (with_reducible repeat ((apply Kd.R_drew))); exact HO337.out) (Kd.R_base ho0) hb)
             have n2_ := Aside0.mk (Kd.R_elder' (by (with_reducible repeat ((apply Kd.R_drew))); exact HO340.out) (Kd.R_base ho0) hb)
             have n3_ := Aside0.mk (Kd.R_lower (Kd.R_new' (Kd.R_new' (Kd.R_new' ho0 (Kd.R_lt (by (with_reducible repeat ((apply Kd.R_drew))); exact HO_4.out))) (Kd.R_lt (by (with_reducible repeat ((apply Kd.R_drew))); exact HO337.out))) (Kd.R_lt (by (with_reducible repeat ((apply Kd.R_drew))); exact HO340.out))) (below_size (by repeat ((with_reducible (exact HB.out))))))
             have n4_ := Aside0.mk (blk_below (g := gb310) (o := .cells #[.int .i64 a0_0, .int .i64 a0_1, .int .i64 a0_2, .int .i64 a0_3, .int .i64 a0_4, .int .i64 a0_5, .slice A0_6 l0_6.length c0_6, .string a0_7, .slice (some ad333) l0_8.length c0_8] 44 (0, 0)) (by (with_reducible repeat ((refine blk_drew ?_))); exact BK310.out) hb)
             have n5_ := Aside0.mk (blk_below (g := gb334) (o := .cells #[.int .i64 ((rd_T104 l0_8 x10_2).f0.f0), .int .i64 ((rd_T104 l0_8 x10_2).f0.f1), .int .i64 ((rd_T104 l0_8 x10_2).f1)] 104 (0, 0)) (by (with_reducible repeat ((refine blk_drew ?_))); exact BK334.out) hb)
             have n6_ := Aside0.mk (below_step (by repeat ((with_reducible (exact HB.out)))) hb)
             clear HO_4
             clear HO337
             clear HO340
             clear BK310
             clear BK334
             clear HB
             have HO_4 := n0_
             have HO337 := n1_
             have HO340 := n2_
             have HO343 := n3_
             have BK310 := n4_
             have BK334 := n5_
             have HB := n6_
             clear n0_ n1_ n2_ n3_ n4_ n5_ n6_
             (try clear hb)
             (try clear hb2)
             (try clear hk)
             (try clear hi)
             (try clear ho0)
             refine hK.out _ _ ⟨(blk_cell BK334.out 0).trans rfl, (blk_cell BK334.out 1).trans rfl, (blk_cell BK334.out 2).trans rfl⟩ (fun hHeld => ?_)
             clear hK K
             refine norm_ (a' := ?_) ?_ ?_
             rotate_left
             ·show Act.put _ (some 118) _ = _
              simp only [Act.put, List.setIfInBounds_toArray, List.set_cons_zero, List.set_cons_succ, i64_w, i32_w]
              rfl
             refine pu_ 18 4 codeB11 HT_ ?_
             refine done_ (done_of HT_.out (by kernel_rfl)) ?_
             have hcz69_0 : w68.cell? ⟨gb334, 0, none⟩ = some (.int .i64 ((rd_T104 l0_8 x10_2).f0.f0)) := (blk_cell BK334.out 0).trans rfl
             have hcz69_1 : w68.cell? ⟨gb334, 1, none⟩ = some (.int .i64 ((rd_T104 l0_8 x10_2).f0.f1)) := (blk_cell BK334.out 1).trans rfl
             have hcz69_2 : w68.cell? ⟨gb334, 2, none⟩ = some (.int .i64 ((rd_T104 l0_8 x10_2).f1)) := (blk_cell BK334.out 2).trans rfl
             have hfz69_0 := blk_frozen BK334.out 0
             have hfz69_1 := blk_frozen BK334.out 1
             have hfz69_2 := blk_frozen BK334.out 2
             try go_wp2
             go_roundg k2
             case measure => have := HK1.out; have := HK2.out; omega
             case rel => exact ⟨(t341), ((rd_T104 l0_8 x10_2).f0.f0), (wrap64 (x10_2 + 1)), (by (rfl)), (by (rfl)), H', ⟨by have := HK1.out; have := HK2.out; omega⟩, ⟨by (with_reducible repeat ((apply Kd.R_drew))); exact Kd.R_mono HO343.out (fun _ hk => trivial)⟩, ⟨by (with_reducible repeat ((refine blk_drew ?_))); exact BK310.out⟩, ⟨by repeat ((with_reducible (exact HB.out)))⟩⟩
            ·rw [if_neg c53] at H
             exact absurd H (by simp)
           ·rw [if_neg c52] at H
            have c52b0 : decide (x10_2 < (l0_8.length : Int)) = false := decide_eq_false c52
            clear c52
            have H' := Aside0.mk H
            clear H
            have hcz70_0 : wr.cell? ⟨gb310, 0, none⟩ = some (.int .i64 a0_0) := (blk_cell BK310.out 0).trans rfl
            have hcz70_1 : wr.cell? ⟨gb310, 1, none⟩ = some (.int .i64 a0_1) := (blk_cell BK310.out 1).trans rfl
            have hcz70_2 : wr.cell? ⟨gb310, 2, none⟩ = some (.int .i64 a0_2) := (blk_cell BK310.out 2).trans rfl
            have hcz70_3 : wr.cell? ⟨gb310, 3, none⟩ = some (.int .i64 a0_3) := (blk_cell BK310.out 3).trans rfl
            have hcz70_4 : wr.cell? ⟨gb310, 4, none⟩ = some (.int .i64 a0_4) := (blk_cell BK310.out 4).trans rfl
            have hcz70_5 : wr.cell? ⟨gb310, 5, none⟩ = some (.int .i64 a0_5) := (blk_cell BK310.out 5).trans rfl
            have hcz70_6 : wr.cell? ⟨gb310, 6, none⟩ = some (.slice A0_6 l0_6.length c0_6) := (blk_cell BK310.out 6).trans rfl
            have hcz70_7 : wr.cell? ⟨gb310, 7, none⟩ = some (.string a0_7) := (blk_cell BK310.out 7).trans rfl
            have hcz70_8 : wr.cell? ⟨gb310, 8, none⟩ = some (.slice A0_8 l0_8.length c0_8) := (blk_cell BK310.out 8).trans rfl
            have hfz70_0 := blk_frozen BK310.out 0
            have hfz70_1 := blk_frozen BK310.out 1
            have hfz70_2 := blk_frozen BK310.out 2
            have hfz70_3 := blk_frozen BK310.out 3
            have hfz70_4 := blk_frozen BK310.out 4
            have hfz70_5 := blk_frozen BK310.out 5
            have hfz70_6 := blk_frozen BK310.out 6
            have hfz70_7 := blk_frozen BK310.out 7
            have hfz70_8 := blk_frozen BK310.out 8
            go_wp2
            go_roundg k2
            case measure => have := HK1.out; have := HK2.out; omega
            case rel => exact ⟨(x4_2), (wrap64 (x6_1 + 1)), (by (rfl)), H', ⟨by have := HK1.out; have := HK2.out; omega⟩, ⟨by (with_reducible repeat ((apply Kd.R_drew))); exact HO_4.out⟩, ⟨by (with_reducible repeat ((refine blk_drew ?_))); exact BK310.out⟩, ⟨by repeat ((with_reducible (exact HB.out)))⟩⟩
        ·rw [if_neg c47] at H
         have c47b0 : ((bt t315 x6_1) == 110) = false := beq_eq_false_iff_ne.mpr c47
         have c47b1 : ((bt t315 x6_1) != 110) = true := bne_iff_ne.mpr c47
         replace H := Option.bind_eq_some_iff.mp H
         obtain ⟨⟨t344, t345⟩, A720, H⟩ := H
         replace H : ((variorumref01_Put.f k1 x4_1 t344).bind fun t346 => (variorumref11_Encode.l0 k1 t346 t315 (wrap64 (x6_1 + 1)) a0_0 a0_1 a0_2 a0_3 a0_4 a0_5 l0_6 a0_7 l0_8)) = some (r1, r2) := H
         have A72 := Aside0.mk A720
         clear A720
         replace H := Option.bind_eq_some_iff.mp H
         obtain ⟨t346, A730, H⟩ := H
         replace H : (variorumref11_Encode.l0 k1 t346 t315 (wrap64 (x6_1 + 1)) a0_0 a0_1 a0_2 a0_3 a0_4 a0_5 l0_6 a0_7 l0_8) = some (r1, r2) := H
         have A73 := Aside0.mk A730
         clear A730
         have H' := Aside0.mk H
         clear H
         have p14 : 0 ≤ (x6_1 : Int) := of_decide_eq_true (by (with_reducible assumption))
         have q14 : x6_1 < (t315.size : Int) := of_decide_eq_true (by (with_reducible assumption))
         have hx14 := bt_at t315 x6_1
         replace p14 := eq_true p14
         replace q14 := eq_true q14
         try go_wp2
         have n0_ := Aside0.mk (Kd.R_drew HO_4.out)
         have n1_ := Aside0.mk (blk_drew BK310.out)
         have n2_ := Aside0.mk (below_drew1 HB.out)
         clear HO_4
         clear BK310
         clear HB
         have HO_4 := n0_
         have BK310 := n1_
         have HB := n2_
         clear n0_ n1_ n2_
         have p71 : 0 ≤ (x6_1 : Int) := of_decide_eq_true (by (with_reducible assumption))
         have q71 : x6_1 < (t315.size : Int) := of_decide_eq_true (by (with_reducible assumption))
         have hx71 := bt_at t315 x6_1
         replace p71 := eq_true p71
         replace q71 := eq_true q71
         refine start_ (n := 10) (S := fun w' => w'.cell? ⟨gb310, 0, none⟩ = some (.int .i64 a0_0) ∧ w'.cell? ⟨gb310, 1, none⟩ = some (.int .i64 a0_1) ∧ w'.cell? ⟨gb310, 2, none⟩ = some (.int .i64 a0_2) ∧ w'.cell? ⟨gb310, 3, none⟩ = some (.int .i64 a0_3) ∧ w'.cell? ⟨gb310, 4, none⟩ = some (.int .i64 a0_4) ∧ w'.cell? ⟨gb310, 5, none⟩ = some (.int .i64 a0_5) ∧ w'.cell? ⟨gb310, 6, none⟩ = some (.slice A0_6 l0_6.length c0_6) ∧ w'.cell? ⟨gb310, 7, none⟩ = some (.string a0_7) ∧ w'.cell? ⟨gb310, 8, none⟩ = some (.slice A0_8 l0_8.length c0_8)) (ds := []) codeB29 (by kernel_rfl) rfl rfl ⟨(blk_cell BK310.out 0).trans rfl, (blk_cell BK310.out 1).trans rfl, (blk_cell BK310.out 2).trans rfl, (blk_cell BK310.out 3).trans rfl, (blk_cell BK310.out 4).trans rfl, (blk_cell BK310.out 5).trans rfl, (blk_cell BK310.out 6).trans rfl, (blk_cell BK310.out 7).trans rfl, (blk_cell BK310.out 8).trans rfl⟩ (fun hHeld => ?_); refine with_tabW variorumref11_Encode.tab9 variorumref11_Encode.bits9 (fun HT_ HW_ => ?_)
         generalize wr.drew = w74 at HO_4 BK310 HB hHeld ⊢
         refine pu_ 1 34 codeB12 HT_ ?_
         refine pu_ 2 35 codeB13 HT_ ?_
         refine pt_ 0 33 codeB23 HT_ HW_ rfl hHeld (by rintro w' ⟨s0, s1, s2, s3, s4, s5, s6, s7, s8⟩; go_simp; with_reducible rfl) ?_
         refine pt_ 3 36 codeB24 HT_ HW_ rfl hHeld (by rintro w' ⟨s0, s1, s2, s3, s4, s5, s6, s7, s8⟩; go_simp; with_reducible rfl) ?_
         refine one_ (i := 4) (N := some 37) codeB30 rfl rfl (one_of HT_.out (by kernel_rfl)) (by decide) (fun K hK => ?_)
         refine goes_ Try.func66 (by kernel_rfl) rfl #[.agg #[.int .i64 a0_0, .int .i64 a0_1, .int .i64 a0_2, .int .i64 a0_3, .int .i64 a0_4, .int .i64 a0_5, .slice A0_6 l0_6.length c0_6, .string a0_7, .slice A0_8 l0_8.length c0_8], .int .u8 (bt t315 x6_1)] (by rfl) rfl rfl (by (try simp only [List.map_toArray, List.map_cons, List.map_nil]); (rfl)) ?_
         with_reducible refine (variorumref11_num.calls a0_0 a0_1 a0_2 a0_3 a0_4 a0_5 _ _ l0_6 a0_7 _ _ l0_8 (bt t315 x6_1) t344 t345 _ ?side1 ?side2 ?side3 ?side4 A72.out).mono ?_
         (case side1 => repeat ((exact (Kd.C_below HR0_6.out HB.out))))
         (case side2 => exact HC0_6.out)
         (case side3 => repeat ((exact (Kd.C_below HR0_8.out HB.out))))
         (case side4 => exact HC0_8.out)
         rintro e w75 ⟨rfl, hb⟩
         refine ⟨_, rfl, ?_⟩
         have n0_ := Aside0.mk (Kd.R_below (by (with_reducible repeat ((apply Kd.R_drew))); exact HO_4.out) hb)
         have n1_ := Aside0.mk (blk_below (g := gb310) (o := .cells #[.int .i64 a0_0, .int .i64 a0_1, .int .i64 a0_2, .int .i64 a0_3, .int .i64 a0_4, .int .i64 a0_5, .slice A0_6 l0_6.length c0_6, .string a0_7, .slice A0_8 l0_8.length c0_8] 44 (0, 0)) (by (with_reducible repeat ((refine blk_drew ?_))); exact BK310.out) hb)
         have n2_ := Aside0.mk (below_step (by repeat ((with_reducible (exact HB.out)))) hb)
         clear HO_4
         clear BK310
         clear HB
         have HO_4 := n0_
         have BK310 := n1_
         have HB := n2_
         clear n0_ n1_ n2_
         (try clear hb)
         (try clear hb2)
         (try clear hk)
         (try clear hi)
         refine hK.out _ _ ⟨(blk_cell BK310.out 0).trans rfl, (blk_cell BK310.out 1).trans rfl, (blk_cell BK310.out 2).trans rfl, (blk_cell BK310.out 3).trans rfl, (blk_cell BK310.out 4).trans rfl, (blk_cell BK310.out 5).trans rfl, (blk_cell BK310.out 6).trans rfl, (blk_cell BK310.out 7).trans rfl, (blk_cell BK310.out 8).trans rfl⟩ (fun hHeld => ?_)
         clear hK K
         refine norm_ (a' := ?_) ?_ ?_
         rotate_left
         ·show Act.put _ (some 37) _ = _
          simp only [Act.put, List.setIfInBounds_toArray, List.set_cons_zero, List.set_cons_succ, i64_w, i32_w]
          rfl
         refine pu_ 5 32 codeB14 HT_ ?_
         refine pu_ 6 38 codeB15 HT_ ?_
         refine pu_ 7 39 codeB16 HT_ ?_
         refine pu_ 8 12 codeB17 HT_ ?_
         refine pu_ 9 13 codeB18 HT_ ?_
         refine done_ (done_of HT_.out (by kernel_rfl)) ?_
         obtain ⟨Ao76, co76, eo76⟩ := Kd.R_slice HO_4.out
         subst eo76
         try go_wp2_with (first | ((with_reducible refine gate_callee (f := 41) rfl ?_); refine goesL_ (some 42) rfl rfl Try.func41 (by kernel_rfl) rfl #[.slice Ao76 x4_1.length co76, .int .i64 t344] rfl (by (try simp only [List.map_toArray, List.map_cons, List.map_nil]); (rfl)) ?_; (with_reducible refine (variorumref01_Put.calls k1 _ _ x4_1 t344 t346 _ ?side1 ?side2 A73.out).mono ?_); (case side1 => repeat ((exact (Kd.R_reads' HO_4.out).2.2))); (case side2 => exact (Kd.R_reads' HO_4.out).2.1); rintro e w77 ⟨v347, rfl, ho0, hb⟩; refine ⟨_, rfl, ?_⟩; have n0_ := Aside0.mk (Kd.R_elder' (by (with_reducible repeat ((apply Kd.R_drew))); exact HO_4.out) (Kd.R_base ho0) hb); have n1_ := Aside0.mk (Kd.R_lower (Kd.R_new' ho0 (Kd.R_lt (by (with_reducible repeat ((apply Kd.R_drew))); exact HO_4.out))) (below_size (by repeat ((with_reducible (exact HB.out)))))); have n2_ := Aside0.mk (blk_below (g := gb310) (o := .cells #[.int .i64 a0_0, .int .i64 a0_1, .int .i64 a0_2, .int .i64 a0_3, .int .i64 a0_4, .int .i64 a0_5, .slice A0_6 l0_6.length c0_6, .string a0_7, .slice A0_8 l0_8.length c0_8] 44 (0, 0)) (by (with_reducible repeat ((refine blk_drew ?_))); exact BK310.out) hb); have n3_ := Aside0.mk (below_step (by repeat ((with_reducible (exact HB.out)))) hb); clear HO_4; clear BK310; clear HB; have HO_4 := n0_; have HO348 := n1_; have BK310 := n2_; have HB := n3_; clear n0_ n1_ n2_ n3_; (try clear hb); (try clear hb2); (try clear hk); (try clear hi); (try clear ho0)))
         go_roundg k1
         case measure => have := HK1.out; omega
         case rel => exact ⟨(t346), (wrap64 (x6_1 + 1)), (by (rfl)), H', ⟨by have := HK1.out; omega⟩, ⟨by (with_reducible repeat ((apply Kd.R_drew))); exact Kd.R_mono HO348.out (fun _ hk => trivial)⟩, ⟨by (with_reducible repeat ((refine blk_drew ?_))); exact BK310.out⟩, ⟨by repeat ((with_reducible (exact HB.out)))⟩⟩
     ·rw [if_neg c13] at H
      exact absurd H (by simp)
    ·rw [if_neg c12] at H
     have c12b0 : decide (x6_1 < (t315.size : Int)) = false := decide_eq_false c12
     clear c12
     simp only [Option.some.injEq, Prod.mk.injEq] at H
     obtain ⟨rfl, rfl⟩ := H
     go_wp2
     go_ret2
     exact ⟨_, by (rfl), by (with_reducible repeat ((apply Kd.R_drew))); exact HO_4.out, by repeat ((with_reducible (exact HB.out)))⟩
 ·replace c3 := Bool.eq_false_iff.mpr c3
  subst c3
  have H1 : (some (([] : List Int), 2)) = some (r1, r2) := by rw [if_neg (show ¬ (false = true) by decide)] at H; exact H
  clear H
  have H := H1
  clear H1
  simp only [Option.some.injEq, Prod.mk.injEq] at H
  obtain ⟨rfl, rfl⟩ := H
  go_enter Try.func22, Try.ntmps22
  go_wp2_with (first | ((with_reducible refine gate_dst (N := 1) rfl ?_); refine box_event ?hg (N := 1) ?hd (cs := #[.int .i64 a0_0, .int .i64 a0_1, .int .i64 a0_2, .int .i64 a0_3, .int .i64 a0_4, .int .i64 a0_5, .slice A0_6 l0_6.length c0_6, .string a0_7, .slice A0_8 l0_8.length c0_8]) (t := 44) ?hr ?_; (case hd => rfl); (case hg => rfl); (case hr => (go_simp; done)); intro gb310 hg w78 hbox hb; have n0_ := Aside0.mk (below_step (by repeat ((with_reducible (exact HB.out)))) hb); have n1_ := Aside0.mk (hbox); have n2_ := Aside0.mk ((by rw [hg]; exact (below_size (by repeat ((with_reducible (exact HB.out))))) : w.heap.size ≤ gb310)); have n3_ := Aside0.mk ((by rw [hg]; exact (below_size (by repeat ((with_reducible (exact HB.out))))) : w.heap.size ≤ gb310)); clear HB; have HB := n0_; have BK310 := n1_; have GW310 := n2_; have GE310 := n3_; clear n0_ n1_ n2_ n3_; clear hb hbox hg; have hcz79_0 : w78.cell? ⟨gb310, 0, none⟩ = some (.int .i64 a0_0) := (blk_cell BK310.out 0).trans rfl; have hcz79_1 : w78.cell? ⟨gb310, 1, none⟩ = some (.int .i64 a0_1) := (blk_cell BK310.out 1).trans rfl; have hcz79_2 : w78.cell? ⟨gb310, 2, none⟩ = some (.int .i64 a0_2) := (blk_cell BK310.out 2).trans rfl; have hcz79_3 : w78.cell? ⟨gb310, 3, none⟩ = some (.int .i64 a0_3) := (blk_cell BK310.out 3).trans rfl; have hcz79_4 : w78.cell? ⟨gb310, 4, none⟩ = some (.int .i64 a0_4) := (blk_cell BK310.out 4).trans rfl; have hcz79_5 : w78.cell? ⟨gb310, 5, none⟩ = some (.int .i64 a0_5) := (blk_cell BK310.out 5).trans rfl; have hcz79_6 : w78.cell? ⟨gb310, 6, none⟩ = some (.slice A0_6 l0_6.length c0_6) := (blk_cell BK310.out 6).trans rfl; have hcz79_7 : w78.cell? ⟨gb310, 7, none⟩ = some (.string a0_7) := (blk_cell BK310.out 7).trans rfl; have hcz79_8 : w78.cell? ⟨gb310, 8, none⟩ = some (.slice A0_8 l0_8.length c0_8) := (blk_cell BK310.out 8).trans rfl; have hfz79_0 := blk_frozen BK310.out 0; have hfz79_1 := blk_frozen BK310.out 1; have hfz79_2 := blk_frozen BK310.out 2; have hfz79_3 := blk_frozen BK310.out 3; have hfz79_4 := blk_frozen BK310.out 4; have hfz79_5 := blk_frozen BK310.out 5; have hfz79_6 := blk_frozen BK310.out 6; have hfz79_7 := blk_frozen BK310.out 7; have hfz79_8 := blk_frozen BK310.out 8) | ((with_reducible refine gate_callee (f := 24) rfl ?_); refine goesL_ (some 15) rfl rfl Try.func24 (by kernel_rfl) rfl #[.agg #[.int .i64 a0_0, .int .i64 a0_1, .int .i64 a0_2, .int .i64 a0_3, .int .i64 a0_4, .int .i64 a0_5, .slice A0_6 l0_6.length c0_6, .string a0_7, .slice A0_8 l0_8.length c0_8]] rfl (by (try simp only [List.map_toArray, List.map_cons, List.map_nil]); (rfl)) ?_; (with_reducible refine (variorumref11_Good.calls k a0_0 a0_1 a0_2 a0_3 a0_4 a0_5 _ _ l0_6 a0_7 _ _ l0_8 false _ ?side1 ?side2 ?side3 ?side4 A2.out).mono ?_); (case side1 => repeat ((exact (Kd.C_below HR0_6.out HB.out)))); (case side2 => exact HC0_6.out); (case side3 => repeat ((exact (Kd.C_below HR0_8.out HB.out)))); (case side4 => exact HC0_8.out); rintro e w80 ⟨rfl, hb⟩; refine ⟨_, rfl, ?_⟩; have n0_ := Aside0.mk (blk_below (g := gb310) (o := .cells #[.int .i64 a0_0, .int .i64 a0_1, .int .i64 a0_2, .int .i64 a0_3, .int .i64 a0_4, .int .i64 a0_5, .slice A0_6 l0_6.length c0_6, .string a0_7, .slice A0_8 l0_8.length c0_8] 44 (0, 0)) (by (with_reducible repeat ((refine blk_drew ?_))); exact BK310.out) hb); have n1_ := Aside0.mk (below_step (by repeat ((with_reducible (exact HB.out)))) hb); clear BK310; clear HB; have BK310 := n0_; have HB := n1_; clear n0_ n1_; (try clear hb); (try clear hb2); (try clear hk); (try clear hi)))
  go_ret2
  exact ⟨_, by (rfl), by (exact Kd.R_nil _ _ _ _ _), by repeat ((with_reducible (exact HB.out)))⟩
end Go.Proofs.Ytedfcjcnhgomoaa.P
end
-- MERGED YtedfcjcnhgomoaaMsgQ
section
namespace Go.Proofs.Ytedfcjcnhgomoaa.MsgQ
open Go.RowKit Go.Proofs.Ytedfcjcnhgomoaa.EditK Go.Proofs.Ytedfcjcnhgomoaa.P Go.Proofs.YtedfcjcnhgomoaaW.PrintWords Go.Proofs.YtedfcjcnhgomoaaW.PrintLast Go.Proofs.YtedfcjcnhgomoaaW.PrintMore Go.Proofs.Ytedfcjcnhgomoaa.Own Go.Proofs.Ytedfcjcnhgomoaa.Vy Go.Proofs.Ytedfcjcnhgomoaa.NoteN Go.Proofs.Ytedfcjcnhgomoaa.MsgA Go.Proofs.Ytedfcjcnhgomoaa.MsgD Go.Proofs.Ytedfcjcnhgomoaa.MsgW Go.Proofs.Ytedfcjcnhgomoaa.MsgE Go.Proofs.Ytedfcjcnhgomoaa.MsgR
set_option linter.unusedSimpArgs false
set_option linter.unusedVariables false
theorem putS_k (l : List Int) (n : Int) (hl : l.length ≤ 140737488354000) {k : Nat} (hk : 11 ≤ k) : variorumref01_PutSigned.f k l n = some (putSL l n) :=
 at_rounds (g := fun k => variorumref01_PutSigned.f k l n) (fun k => variorumref01_PutSigned.mono l n k) hk (VaryRef.putS_f l n hl)
abbrev E0 (m : Ms) (k : Nat) (b : List Int) (F : ByteArray) (i : Int) : Option (List Int × Int) := variorumref11_Encode.l0 k b F i m.k m.c m.e m.r m.s m.d m.o m.t m.n
theorem up (m : Ms) {k k' : Nat} (hk : k ≤ k') {b : List Int} {F : ByteArray} {i : Int} {r : List Int × Int} (h : E0 m k b F i = some r) : E0 m k' b F i = some r :=
 at_rounds (g := fun k => E0 m k b F i) (fun k => (variorumref11_Encode.mono_l k).1 _ _ _ _ _ _ _ _ _ _ _ _) hk h
theorem l1_e (m : Ms) (F : ByteArray) (i : Int) (r : List Int × Int) (ho : m.o.length ≤ 1000000) : ∀ (suf pre : List EditL.Rn) (b : List Int) (k : Nat), m.o = pre ++ suf → 20 ≤ k → b.length + wgt suf ≤ 140737488300000 → E0 m k (opR suf b) F (wrap64 (i + 1)) = some r →
  variorumref11_Encode.l1 (k + suf.length + 1) b F i (pre.length : Int) m.k m.c m.e m.r m.s m.d m.o m.t m.n = some r := by
 intro suf
 induction suf with
 | nil =>
  intro pre b k hfe hk hl h
  have : m.o.length = pre.length := by rw [hfe]; simp
  simp only [variorumref11_Encode.l1]
  rw [if_neg (by omega)]
  exact h
 | cons x suf ih =>
  intro pre b k hfe hk hl h
  simp only [wgt] at hl
  have hlen : m.o.length = pre.length + (suf.length + 1) := by rw [hfe]; simp
  have hz : rd_T85 m.o (pre.length : Int) = x := rd_at hfe
  have next := ih (pre ++ [x]) (opStep b x) k (by rw [hfe]; simp) hk (by have := opStep_len b x; omega) h
  rw [show ((pre ++ [x]).length : Int) = (pre.length : Int) + 1 by simp] at next
  rw [show k + (x :: suf).length + 1 = (k + suf.length + 1) + 1 by simp; omega]
  simp only [variorumref11_Encode.l1]
  have h1 := Vy.putSL_len b (wrap64 (x.f0 - x.f2))
  rw [if_pos (by omega), if_pos (by omega), hz, putS_k b _ (by omega) (by omega), Option.bind_some, w64 (x := (pre.length : Int) + 1) (by omega) (by omega)]
  by_cases he : x.f1.size = 0
  ·rw [if_pos (tlE.2 he)]
   rw [show opStep b x = putSL b (wrap64 (x.f0 - x.f2)) by unfold opStep; rw [if_pos he]] at next
   exact next
  ·rw [if_neg (fun e => he (tlE.1 e)), VaryRef.putT_f _ _ _ (by omega) (by omega), Option.bind_some]
   rw [show opStep b x = putTL (putSL b (wrap64 (x.f0 - x.f2))) (numsOf x.f1) by unfold opStep; rw [if_neg he]] at next
   exact next
theorem l2_e (m : Ms) (F : ByteArray) (i : Int) (r : List Int × Int) (hn : m.n.length ≤ 1000000) : ∀ (suf pre : List Nt) (b : List Int) (q : Int) (k : Nat), m.n = pre ++ suf → 20 ≤ k → b.length + 27 * suf.length ≤ 140737488300000 → E0 m k (noteR suf q b) F (wrap64 (i + 1)) = some r →
  variorumref11_Encode.l2 (k + suf.length + 1) b F i q (pre.length : Int) m.k m.c m.e m.r m.s m.d m.o m.t m.n = some r := by
 intro suf
 induction suf with
 | nil =>
  intro pre b q k hfe hk hl h
  have : m.n.length = pre.length := by rw [hfe]; simp
  simp only [variorumref11_Encode.l2]
  rw [if_neg (by omega)]
  exact h
 | cons x suf ih =>
  intro pre b q k hfe hk hl h
  simp only [List.length_cons] at hl
  have hlen : m.n.length = pre.length + (suf.length + 1) := by rw [hfe]; simp
  have hz : rd_T104 m.n (pre.length : Int) = x := by
   rw [hfe]
   unfold rd_T104
   rw [Int.toNat_natCast, List.getD_eq_getElem?_getD, List.getElem?_append_right (Nat.le_refl _), Nat.sub_self]; rfl
  have next := ih (pre ++ [x]) (noteStep b q x) x.f0.f0 k (by rw [hfe]; simp) hk (by have := noteStep_len b q x; omega) h
  rw [show ((pre ++ [x]).length : Int) = (pre.length : Int) + 1 by simp] at next
  rw [show k + (x :: suf).length + 1 = (k + suf.length + 1) + 1 by simp; omega]
  simp only [variorumref11_Encode.l2]
  have h1 := putL_len b (wrap64 (x.f0.f0 - q))
  have h2 := putL_len (putL b (wrap64 (x.f0.f0 - q))) (wrap64 (x.f0.f1 - x.f0.f0))
  rw [if_pos (by omega), if_pos (by omega), hz, VaryRef.put_f b _ _ (by omega) (by omega), Option.bind_some, VaryRef.put_f _ _ _ (by omega) (by omega), Option.bind_some, VaryRef.put_f _ _ _ (by omega) (by omega), Option.bind_some, w64 (x := (pre.length : Int) + 1) (by omega) (by omega)]
  exact next
def ch (f : Int) : Int := if f = 0 then 99 else if f = 1 then 101 else if f = 2 then 114 else if f = 3 then 115 else if f = 4 then 100 else if f = 5 then 111 else if f = 6 then 116 else 110
theorem step_e (m : Ms) (hs : Small m) (F : ByteArray) (i f : Int) (b : List Int) (k : Nat) (r : List Int × Int) (hk : 20 ≤ k) (h0 : 0 ≤ i) (hi : i < (F.size : Int)) (hF : F.size ≤ 100) (hc : bt F i = ch f) (hf : 0 ≤ f ∧ f < 8) (hl : b.length ≤ 100000000000000) (h : E0 m k (m.fieldB f b) F (i + 1) = some r) : E0 m (k + 2000010) b F i = some r := by
 have hw := w64 (x := i + 1) (by omega) (by omega)
 have h1 := hs.o
 have h2 := hs.w
 have h3 := hs.t
 have h4 := hs.n
 have hp := putL_len b (m.o.length : Int)
 have hp2 := putL_len b (m.n.length : Int)
 obtain ⟨K, hK⟩ : ∃ K, K = k + 2000009 := ⟨_, rfl⟩
 rw [show k + 2000010 = K + 1 by omega]
 show variorumref11_Encode.l0 (K + 1) b F i m.k m.c m.e m.r m.s m.d m.o m.t m.n = some r
 simp only [variorumref11_Encode.l0]
 rw [if_pos hi, if_pos h0, hc]
 have hq : f = 0 ∨ f = 1 ∨ f = 2 ∨ f = 3 ∨ f = 4 ∨ f = 5 ∨ f = 6 ∨ f = 7 := by omega
 rcases hq with rfl | rfl | rfl | rfl | rfl | rfl | rfl | rfl
 iterate 5
  ·rw [if_neg (by decide), if_neg (by decide), if_neg (by decide)]
   unfold variorumref11_num.f
   simp only [ch]
   show ((variorumref01_Put.f _ b _).bind fun t248 => variorumref11_Encode.l0 _ t248 F (wrap64 (i + 1)) _ _ _ _ _ _ _ _ _) = some r
   rw [VaryRef.put_f b _ _ (by omega) (by omega), Option.bind_some, hw]
   exact up m (show k ≤ K by omega) h
 ·rw [if_pos (by decide), VaryRef.put_f b _ _ (by omega) (by omega), Option.bind_some]
  have := l1_e m F i r h1 m.o [] (putL b (m.o.length : Int)) (K - 1 - m.o.length) rfl (by omega) (by omega) (by rw [hw]; exact up m (by omega) h)
  rwa [show K - 1 - m.o.length + m.o.length + 1 = K by omega] at this
 ·rw [if_neg (by decide), if_pos (by decide), VaryRef.putT_f b _ _ (by omega) (by omega), Option.bind_some, hw]
  exact up m (show k ≤ K by omega) h
 ·rw [if_neg (by decide), if_neg (by decide), if_pos (by decide), VaryRef.put_f b _ _ (by omega) (by omega), Option.bind_some]
  have := l2_e m F i r h4 m.n [] (putL b (m.n.length : Int)) 0 (K - 1 - m.n.length) rfl (by omega) (by omega) (by rw [hw]; exact up m (by omega) h)
  rwa [show K - 1 - m.n.length + m.n.length + 1 = K by omega] at this
theorem end_e (m : Ms) (F : ByteArray) (b : List Int) (k : Nat) : E0 m (k + 1) b F (F.size : Int) = some (b, 0) := by
 show variorumref11_Encode.l0 (k + 1) b F (F.size : Int) _ _ _ _ _ _ _ _ _ = _
 simp only [variorumref11_Encode.l0]
 rw [if_neg (by omega)]
def Names (F : ByteArray) : Int → List Int → Prop
 | i, [] => i = (F.size : Int)
 | i, f :: l => bt F i = ch f ∧ 0 ≤ f ∧ f < 8 ∧ i < (F.size : Int) ∧ Names F (i + 1) l
theorem all_e (m : Ms) (hs : Small m) (F : ByteArray) (hF : F.size ≤ 100) : ∀ (l : List Int) (i : Int) (b : List Int), 0 ≤ i → Names F i l → b.length + l.length * 2000000000000 ≤ 100000000000000 → E0 m (21 + l.length * 2000010) b F i = some (m.encR l b, 0) := by
 intro l
 induction l with
 | nil =>
  intro i b _ h _
  have h' : i = (F.size : Int) := h
  rw [h']
  exact end_e m F b 20
 | cons f l ih =>
  intro i b h0 h hl
  obtain ⟨h1, h2, h3, h4, h5⟩ := h
  simp only [List.length_cons] at hl ⊢
  have hb := field_len hs f b
  have next := ih (i + 1) (m.fieldB f b) (by omega) h5 (by omega)
  have := step_e m hs F i f b (21 + l.length * 2000010) _ (by omega) h0 h4 hF h1 ⟨h2, h3⟩ (by omega) next
  rwa [show 21 + l.length * 2000010 + 2000010 = 21 + (l.length + 1) * 2000010 by omega] at this
theorem fields_names (q : Int) : ∃ F, variorumref11_Fields.f q = some F ∧ F.size ≤ 100 ∧ Names F 0 (fieldsL q) := by
 unfold variorumref11_Fields.f fieldsL
 repeat' split
 ·exact ⟨_, rfl, by decide, by rfl, by decide, by decide, by decide, by rfl, by decide, by decide, by decide, by rfl, by decide, by decide, by decide, by rfl, by decide, by decide, by decide, by rfl⟩
 ·exact ⟨_, rfl, by decide, by rfl, by decide, by decide, by decide, by rfl, by decide, by decide, by decide, by rfl, by decide, by decide, by decide, by rfl, by decide, by decide, by decide, by rfl⟩
 ·exact ⟨_, rfl, by decide, by rfl, by decide, by decide, by decide, by rfl, by decide, by decide, by decide, by rfl⟩
 ·exact ⟨_, rfl, by decide, by rfl, by decide, by decide, by decide, by rfl, by decide, by decide, by decide, by rfl, by decide, by decide, by decide, by rfl⟩
 ·exact ⟨_, rfl, by decide, by rfl, by decide, by decide, by decide, by rfl, by decide, by decide, by decide, by rfl⟩
 ·exact ⟨_, rfl, by decide, by rfl, by decide, by decide, by decide, by rfl⟩
 ·exact ⟨_, rfl, by decide, by rfl, by decide, by decide, by decide, by rfl⟩
 ·exact ⟨_, rfl, by decide, by rfl⟩
theorem renc_f (m : Ms) (hs : Small m) (k : Nat) (hk : 10000000 ≤ k) :
  variorumref11_Encode.f k m.k m.c m.e m.r m.s m.d m.o m.t m.n = some (if m.good then m.encL else [], if m.good then 0 else 2) := by
 have h1 := hs.o
 have h4 := hs.n
 unfold variorumref11_Encode.f
 rw [rgood_f m k (by omega) (by omega) (by omega) h4, Option.bind_some]
 cases hg : m.good with
 | false => rfl
 | true =>
  obtain ⟨F, hF, hsz, hnm⟩ := fields_names m.k
  rw [if_pos rfl, VaryRef.put_f [] _ _ (by omega) (by simp), Option.bind_some, hF, Option.bind_some]
  have hl := (fields_ok m.k).2.2
  have hp := putL_len [] m.k
  have := all_e m hs F hsz (fieldsL m.k) 0 (putL [] m.k) (Int.le_refl _) hnm (by simp at hp; omega)
  exact up m (by omega) this
end Go.Proofs.Ytedfcjcnhgomoaa.MsgQ
end
-- MERGED YtedfcjcnhgomoaaMsgLives
section
namespace Go.Proofs.Ytedfcjcnhgomoaa.MsgLives
open Go.RowKit Go.Proofs.Ytedfcjcnhgomoaa.P Go.Proofs.YtedfcjcnhgomoaaW.PrintWords Go.Proofs.YtedfcjcnhgomoaaW.PrintLast Go.Proofs.YtedfcjcnhgomoaaW.PrintMore Go.Proofs.Ytedfcjcnhgomoaa.Own Go.Proofs.Ytedfcjcnhgomoaa.Vy Go.Proofs.Ytedfcjcnhgomoaa.NoteN Go.Proofs.Ytedfcjcnhgomoaa.MsgA Go.Proofs.Ytedfcjcnhgomoaa.MsgD Go.Proofs.Ytedfcjcnhgomoaa.MsgW Go.Proofs.Ytedfcjcnhgomoaa.MsgE Go.Proofs.Ytedfcjcnhgomoaa.MsgR
set_option linter.unusedSimpArgs false
set_option linter.unusedVariables false
def m1 : Ms := ⟨3, 0, 0, 5, 2, 0, [], ⟨#[]⟩, []⟩
def o2 : List EditL.Rn := [⟨2, ⟨#[]⟩, 0⟩, ⟨0, ⟨#[120]⟩, 0⟩]
def m2 : Ms := ⟨2, 1, 0, 0, 1, 0, o2, ⟨#[]⟩, []⟩
theorem good_1 : m1.good = true := by rw [good_ref]; kernel_rfl
theorem good_2 : m2.good = true := by rw [good_ref]; kernel_rfl
theorem put_s (l : List Int) (n : Nat) (h : n < 128) : putL l (n : Int) = l ++ [(n : Int)] := by
 have hM : M = 4611686018427387904 := rfl
 rw [putL_good (by omega), enc_lt h]
theorem enc_1 : m1.encL = [3, 5, 2] := by
 show putL (putL (putL [] ((3 : Nat) : Int)) ((5 : Nat) : Int)) ((2 : Nat) : Int) = _
 rw [put_s _ 3 (by decide), put_s _ 5 (by decide), put_s _ 2 (by decide)]; rfl
theorem enc_2 : m2.encL = [2, 1, 0, 1, 2, 4, 0, 1, 120] := by
 show opR o2 (putL (putL (putL (putL (putL [] ((2 : Nat) : Int)) ((1 : Nat) : Int)) ((0 : Nat) : Int)) ((1 : Nat) : Int)) ((2 : Nat) : Int)) = _
 rw [put_s _ 2 (by decide), put_s _ 1 (by decide), put_s _ 0 (by decide), put_s _ 1 (by decide), put_s _ 2 (by decide)]
 have s1 : ∀ X, opStep X ⟨2, ⟨#[]⟩, 0⟩ = putL X ((4 : Nat) : Int) := fun X => by
  unfold opStep
  rw [if_pos (by rfl), EditK.w64 (x := (2 : Int) - 0) (by decide) (by decide)]
  unfold putSL
  rw [if_neg (by decide)]; rfl
 have s2 : ∀ X, opStep X ⟨0, ⟨#[120]⟩, 0⟩ = putL (putL X ((0 : Nat) : Int)) ((1 : Nat) : Int) ++ numsOf ⟨#[120]⟩ := fun X => by
  unfold opStep
  rw [if_neg (by decide), EditK.w64 (x := (0 : Int) - 0) (by decide) (by decide)]
  unfold putSL
  rw [if_neg (by decide)]; rfl
 show opStep (opStep _ ⟨2, ⟨#[]⟩, 0⟩) ⟨0, ⟨#[120]⟩, 0⟩ = _
 rw [s1, s2, put_s _ 4 (by decide), put_s _ 0 (by decide), put_s _ 1 (by decide)]; rfl
theorem small_1 : Small m1 := ⟨by decide, by decide, by decide, by decide⟩
theorem small_2 : Small m2 := ⟨by decide, by decide, by decide, by decide⟩
theorem addr0 (b i : Nat) : ((⟨b, 0, none⟩ : Addr).add i) = ⟨b, i, none⟩ := by simp [Addr.add]; exact fun h => h.symm
theorem lit_r2 (w : World) (x y : EditL.Rn) : Kd.C k85 (w.alloc (.cells #[.int .i64 x.f0, .string x.f1, .int .i64 x.f2, .int .i64 y.f0, .string y.f1, .int .i64 y.f2] 85)) (some ⟨w.heap.size, 0, none⟩) ([x, y] : List EditL.Rn).length [x, y] := by
 refine ⟨rfl, by simp, fun _ => ⟨_, rfl, fun j p hj => ?_⟩⟩
 rcases j with _ | _ | j
 ·obtain rfl : x = p := by simpa using hj
  refine ⟨_, rfl, k85_mk _ x, fun i u hu => ?_⟩
  rw [show (0 * k85.sz + i) = i by omega, addr0, cell_of_row _ _ i _ _ _ (Own.heap_new w _)]
  rcases i with _ | _ | _ | i
  ·simpa using hu
  ·simpa using hu
  ·simpa using hu
  ·simp at hu
 ·obtain rfl : y = p := by simpa using hj
  refine ⟨_, rfl, k85_mk _ y, fun i u hu => ?_⟩
  rw [show ((0 + 1) * k85.sz + i) = 3 + i by show (0 + 1) * 3 + i = _; omega, addr0, cell_of_row _ _ (3 + i) _ _ _ (Own.heap_new w _)]
  rcases i with _ | _ | _ | i
  ·simpa using hu
  ·simpa using hu
  ·simpa using hu
  ·simp at hu
 ·simp at hj
set_option maxHeartbeats 8000000 in
set_option maxRecDepth 100000 in
theorem lives_c (w : World) : Calls Try.prog 20 #[] w fun e w' => e = .returned (.bool true) ∧ Below w.heap.size w w' := by
 have HE1 := Aside0.mk (encode_c m1 none 0 none 0 w ⟨Kd.C_nil _ _, Nat.le_refl _, Kd.C_nil _ _, Nat.le_refl _⟩ small_1)
 unfold EncPost at HE1
 rw [good_1, enc_1] at HE1
 go_enter Try.func20, Try.ntmps20
 go_wp2_with fail
 refine HE1.out.mono ?_
 rintro e w1 ⟨v1, rfl, hs1, hb1⟩
 simp only [if_true] at hs1
 obtain ⟨A1, c1, rfl, hc1, hC1⟩ := hs1
 have hs1 : Sl w1 (.slice A1 ([3, 5, 2] : List Int).length c1) [3, 5, 2] := ⟨A1, c1, rfl, hc1, hC1⟩
 have HS1 := Aside0.mk hs1
 have HB1 := Aside0.mk hb1
 have HB2 := Aside0.mk (below_alloc (Below.refl w1.heap.size w1) (.cells #[.int .i64 2, .string ⟨#[]⟩, .int .i64 0, .int .i64 0, .string ⟨#[120]⟩, .int .i64 0] 85))
 have HE2 := Aside0.mk (encode_c m2 (some ⟨w1.heap.size, 0, none⟩) 2 none 0 _ ⟨lit_r2 w1 ⟨2, ⟨#[]⟩, 0⟩ ⟨0, ⟨#[120]⟩, 0⟩, by decide, Kd.C_nil _ _, Nat.le_refl _⟩ small_2)
 unfold EncPost at HE2
 rw [good_2, enc_2] at HE2
 clear hs1 hb1 hC1 hc1 HE1
 go_wp2_with fail
 refine HE2.out.mono ?_
 rintro e w2 ⟨v2, rfl, hs2, hb2⟩
 simp only [if_true] at hs2
 obtain ⟨A2, c2, rfl, hc2, hC2⟩ := hs2
 have hs2 : Sl w2 (.slice A2 ([2, 1, 0, 1, 2, 4, 0, 1, 120] : List Int).length c2) [2, 1, 0, 1, 2, 4, 0, 1, 120] := ⟨A2, c2, rfl, hc2, hC2⟩
 have HX2 := Aside0.mk (HB2.out.trans (hb2.mono HB2.out.size))
 have HBF := Aside0.mk (below_step HB1.out HX2.out)
 have l3 : Sl (w2.alloc (.cells #[.int .u8 3, .int .u8 5, .int .u8 2] 5)) (.slice (some ⟨w2.heap.size, 0, none⟩) ([3, 5, 2] : List Int).length ([3, 5, 2] : List Int).length) [3, 5, 2] := Sl.lit rfl (by decide)
 obtain ⟨w3, hw3⟩ : ∃ w3, w3 = w2.alloc (.cells #[.int .u8 3, .int .u8 5, .int .u8 2] 5) := ⟨_, rfl⟩
 rw [← hw3] at l3
 have l9 : Sl (w3.alloc (.cells #[.int .u8 2, .int .u8 1, .int .u8 0, .int .u8 1, .int .u8 2, .int .u8 4, .int .u8 0, .int .u8 1, .int .u8 120] 5)) (.slice (some ⟨w3.heap.size, 0, none⟩) ([2, 1, 0, 1, 2, 4, 0, 1, 120] : List Int).length ([2, 1, 0, 1, 2, 4, 0, 1, 120] : List Int).length) [2, 1, 0, 1, 2, 4, 0, 1, 120] := Sl.lit rfl (by decide)
 have q1 : (convert 25 9 (.slice A1 3 c1)).run Try.prog w2 = .ok (.string (strOfNums [3, 5, 2])) w2 := Sl.string (P := Try.prog) Try.underlying25 Try.underlying5 Try.underlying9 (HS1.out.below HX2.out)
 have q2 : (convert 25 9 (.slice (some ⟨w2.heap.size, 0, none⟩) 3 3)).run Try.prog w3 = .ok (.string (strOfNums [3, 5, 2])) w3 := Sl.string (P := Try.prog) Try.underlying25 Try.underlying5 Try.underlying9 l3
 have q3 : (convert 25 9 (.slice A2 9 c2)).run Try.prog w3 = .ok (.string (strOfNums [2, 1, 0, 1, 2, 4, 0, 1, 120])) w3 := Sl.string (P := Try.prog) Try.underlying25 Try.underlying5 Try.underlying9 (hs2.below (show Below w2.heap.size w2 w3 by rw [hw3]; exact below_alloc (Below.refl _ _) _))
 have q4 : (convert 25 9 (.slice (some ⟨w3.heap.size, 0, none⟩) 9 9)).run Try.prog (w3.alloc (.cells #[.int .u8 2, .int .u8 1, .int .u8 0, .int .u8 1, .int .u8 2, .int .u8 4, .int .u8 0, .int .u8 1, .int .u8 120] 5)) = .ok (.string (strOfNums [2, 1, 0, 1, 2, 4, 0, 1, 120])) (w3.alloc (.cells #[.int .u8 2, .int .u8 1, .int .u8 0, .int .u8 1, .int .u8 2, .int .u8 4, .int .u8 0, .int .u8 1, .int .u8 120] 5)) := Sl.string (P := Try.prog) Try.underlying25 Try.underlying5 Try.underlying9 l9
 have HW3 := Aside0.mk hw3
 have HB5 := Aside0.mk (below_alloc (show Below w.heap.size w w3 by rw [hw3]; exact below_alloc HBF.out _) (.cells #[.int .u8 2, .int .u8 1, .int .u8 0, .int .u8 1, .int .u8 2, .int .u8 4, .int .u8 0, .int .u8 1, .int .u8 120] 5))
 clear hw3 hs2 hb2 hC2 hc2 HE2 l3 l9
 go_wp2_with (first | rw [← HW3.out])
 go_ret
 exact ⟨rfl, HB5.out⟩
end Go.Proofs.Ytedfcjcnhgomoaa.MsgLives
end
-- MERGED YtedfcjcnhgomoaaPPart3
section
namespace Go.Proofs.Ytedfcjcnhgomoaa.P
open Go.RowKit Go.Proofs.YtedfcjcnhgomoaaW.PrintWords Go.Proofs.YtedfcjcnhgomoaaW.PrintLast Go.Proofs.YtedfcjcnhgomoaaW.PrintMore
attribute [local go_sem] max2_int min2_int max_two min_two max_three min_three max_four min_four   -- for this text's walks alone
set_option linter.unusedVariables false
set_option linter.unusedSimpArgs false
theorem eqA102 (d : Nat) (w : World) (x0 y0 : Int) (x1 y1 : Int) :
  (Op.equalIn (d + 2) 102 (.agg #[.int .i64 x0, .int .i64 x1]) (.agg #[.int .i64 y0, .int .i64 y1])).run Try.prog w = .ok (x0 == y0 && (x1 == y1)) w := by
 refine eqA_of Try.underlying102 (by kernel_rfl) ?_
 refine eqf_cons (by rfl) (by go_simp; rfl) (by go_simp; rfl) (by go_simp) ?_
 exact eqf_last (by rfl) (by go_simp; rfl) (by go_simp; rfl) (by go_simp)
theorem eqA104 (d : Nat) (w : World) (x0 y0 : Int) (x1 y1 : Int) (x2 y2 : Int) :
  (Op.equalIn (d + 3) 104 (.agg #[.int .i64 x0, .int .i64 x1, .int .i64 x2]) (.agg #[.int .i64 y0, .int .i64 y1, .int .i64 y2])).run Try.prog w = .ok ((x0 == y0 && (x1 == y1)) && (x2 == y2)) w := by
 refine eqA_of Try.underlying104 (by kernel_rfl) ?_
 refine eqf_cons (by rfl) (by go_simp) (by go_simp) (eqA102 (d + 0) w _ _ _ _) ?_
 exact eqf_last (by rfl) (by go_simp; rfl) (by go_simp; rfl) (by go_simp)
end Go.Proofs.Ytedfcjcnhgomoaa.P
end
-- MERGED YtedfcjcnhgomoaaPvariorumref11Same
section
namespace Go.Proofs.Ytedfcjcnhgomoaa.P
open Go.RowKit Go.Proofs.YtedfcjcnhgomoaaW.PrintWords Go.Proofs.YtedfcjcnhgomoaaW.PrintLast Go.Proofs.YtedfcjcnhgomoaaW.PrintMore
attribute [local go_sem] max2_int min2_int max_two min_two max_three min_three max_four min_four   -- for this text's walks alone
set_option linter.unusedVariables false
set_option linter.unusedSimpArgs false
attribute [local go_sem high] eqA104
mutual
def variorumref11_Same.j0 : Nat → Bool → Int → Int → Int → Int → Int → Int → List (S85) → ByteArray → List (S104) → Int → Int → Int → Int → Int → Int → List (S85) → ByteArray → List (S104) → Option (Bool)
 | 0, _, _, _, _, _, _, _, _, _, _, _, _, _, _, _, _, _, _, _ => none
 | k + 1, x69, x352000, x352001, x352002, x352003, x352004, x352005, x352006, x352007, x352008, x353000, x353001, x353002, x353003, x353004, x353005, x353006, x353007, x353008 => if x69 = true then (some false) else (variorumref11_Same.l0 k 0 x352000 x352001 x352002 x352003 x352004 x352005 x352006 x352007 x352008 x353000 x353001 x353002 x353003 x353004 x353005 x353006 x353007 x353008)
def variorumref11_Same.l0 : Nat → Int → Int → Int → Int → Int → Int → Int → List (S85) → ByteArray → List (S104) → Int → Int → Int → Int → Int → Int → List (S85) → ByteArray → List (S104) → Option (Bool)
 | 0, _, _, _, _, _, _, _, _, _, _, _, _, _, _, _, _, _, _, _ => none
 | k + 1, x5, x352000, x352001, x352002, x352003, x352004, x352005, x352006, x352007, x352008, x353000, x353001, x353002, x353003, x353004, x353005, x353006, x353007, x353008 => if x5 < (x352008.length : Int) then (if 0 ≤ x5 then (if x5 < (x353008.length : Int) then (if ((!(((rd_T104 x352008 x5).f0.f0) == ((rd_T104 x353008 x5).f0.f0)) || (!(((rd_T104 x352008 x5).f0.f1) == ((rd_T104 x353008 x5).f0.f1)))) || (!(((rd_T104 x352008 x5).f1) == ((rd_T104 x353008 x5).f1)))) = true then (some false) else (variorumref11_Same.l0 k (wrap64 (x5 + 1)) x352000 x352001 x352002 x352003 x352004 x352005 x352006 x352007 x352008 x353000 x353001 x353002 x353003 x353004 x353005 x353006 x353007 x353008)) else (none)) else (none)) else (some true)
end
def variorumref11_Same.f (k : Nat) (a0_0 : Int) (a0_1 : Int) (a0_2 : Int) (a0_3 : Int) (a0_4 : Int) (a0_5 : Int) (l0_6 : List (S85)) (a0_7 : ByteArray) (l0_8 : List (S104)) (a1_0 : Int) (a1_1 : Int) (a1_2 : Int) (a1_3 : Int) (a1_4 : Int) (a1_5 : Int) (l1_6 : List (S85)) (a1_7 : ByteArray) (l1_8 : List (S104)) : Option (Bool) := if a0_0 = a1_0 then (if a0_1 = a1_1 then (if a0_2 = a1_2 then (if a0_3 = a1_3 then (if a0_4 = a1_4 then (if a0_5 = a1_5 then (if a0_7.toList = a1_7.toList then (if (l0_8.length : Int) = (l1_8.length : Int) then ((variorumref06_Same.f k l0_6 l1_6).bind fun t353 => (variorumref11_Same.j0 k (!t353) a0_0 a0_1 a0_2 a0_3 a0_4 a0_5 l0_6 a0_7 l0_8 a1_0 a1_1 a1_2 a1_3 a1_4 a1_5 l1_6 a1_7 l1_8)) else (variorumref11_Same.j0 k true a0_0 a0_1 a0_2 a0_3 a0_4 a0_5 l0_6 a0_7 l0_8 a1_0 a1_1 a1_2 a1_3 a1_4 a1_5 l1_6 a1_7 l1_8)) else (variorumref11_Same.j0 k true a0_0 a0_1 a0_2 a0_3 a0_4 a0_5 l0_6 a0_7 l0_8 a1_0 a1_1 a1_2 a1_3 a1_4 a1_5 l1_6 a1_7 l1_8)) else (variorumref11_Same.j0 k true a0_0 a0_1 a0_2 a0_3 a0_4 a0_5 l0_6 a0_7 l0_8 a1_0 a1_1 a1_2 a1_3 a1_4 a1_5 l1_6 a1_7 l1_8)) else (variorumref11_Same.j0 k true a0_0 a0_1 a0_2 a0_3 a0_4 a0_5 l0_6 a0_7 l0_8 a1_0 a1_1 a1_2 a1_3 a1_4 a1_5 l1_6 a1_7 l1_8)) else (variorumref11_Same.j0 k true a0_0 a0_1 a0_2 a0_3 a0_4 a0_5 l0_6 a0_7 l0_8 a1_0 a1_1 a1_2 a1_3 a1_4 a1_5 l1_6 a1_7 l1_8)) else (variorumref11_Same.j0 k true a0_0 a0_1 a0_2 a0_3 a0_4 a0_5 l0_6 a0_7 l0_8 a1_0 a1_1 a1_2 a1_3 a1_4 a1_5 l1_6 a1_7 l1_8)) else (variorumref11_Same.j0 k true a0_0 a0_1 a0_2 a0_3 a0_4 a0_5 l0_6 a0_7 l0_8 a1_0 a1_1 a1_2 a1_3 a1_4 a1_5 l1_6 a1_7 l1_8)) else (variorumref11_Same.j0 k true a0_0 a0_1 a0_2 a0_3 a0_4 a0_5 l0_6 a0_7 l0_8 a1_0 a1_1 a1_2 a1_3 a1_4 a1_5 l1_6 a1_7 l1_8)
set_option maxHeartbeats 8000000 in
set_option maxRecDepth 100000 in
theorem variorumref11_Same.calls (k : Nat) (a0_0 : Int) (a0_1 : Int) (a0_2 : Int) (a0_3 : Int) (a0_4 : Int) (a0_5 : Int) (A0_6 : Option Addr) (c0_6 : Nat) (l0_6 : List (S85)) (a0_7 : ByteArray) (A0_8 : Option Addr) (c0_8 : Nat) (l0_8 : List (S104)) (a1_0 : Int) (a1_1 : Int) (a1_2 : Int) (a1_3 : Int) (a1_4 : Int) (a1_5 : Int) (A1_6 : Option Addr) (c1_6 : Nat) (l1_6 : List (S85)) (a1_7 : ByteArray) (A1_8 : Option Addr) (c1_8 : Nat) (l1_8 : List (S104)) (r : Bool) (w : World) (hr0_6 : Kd.C k85 w A0_6 l0_6.length l0_6) (hc0_6 : l0_6.length ≤ c0_6) (hr0_8 : Kd.C k104 w A0_8 l0_8.length l0_8) (hc0_8 : l0_8.length ≤ c0_8) (hr1_6 : Kd.C k85 w A1_6 l1_6.length l1_6) (hc1_6 : l1_6.length ≤ c1_6) (hr1_8 : Kd.C k104 w A1_8 l1_8.length l1_8) (hc1_8 : l1_8.length ≤ c1_8) (h : variorumref11_Same.f k a0_0 a0_1 a0_2 a0_3 a0_4 a0_5 l0_6 a0_7 l0_8 a1_0 a1_1 a1_2 a1_3 a1_4 a1_5 l1_6 a1_7 l1_8 = some r) :
  Calls Try.prog 26 #[.agg #[.int .i64 a0_0, .int .i64 a0_1, .int .i64 a0_2, .int .i64 a0_3, .int .i64 a0_4, .int .i64 a0_5, .slice A0_6 l0_6.length c0_6, .string a0_7, .slice A0_8 l0_8.length c0_8], .agg #[.int .i64 a1_0, .int .i64 a1_1, .int .i64 a1_2, .int .i64 a1_3, .int .i64 a1_4, .int .i64 a1_5, .slice A1_6 l1_6.length c1_6, .string a1_7, .slice A1_8 l1_8.length c1_8]] w fun e w' => e = .returned (.bool r) ∧ Below w.heap.size w w' := by
 have hu44 := Try.underlying44
 have hu104 := Try.underlying104
 have HR0_6 := Aside0.mk hr0_6
 have HC0_6 := Aside0.mk hc0_6
 clear hr0_6 hc0_6
 have HR0_8 := Aside0.mk hr0_8
 have HC0_8 := Aside0.mk hc0_8
 clear hr0_8 hc0_8
 have HR1_6 := Aside0.mk hr1_6
 have HC1_6 := Aside0.mk hc1_6
 clear hr1_6 hc1_6
 have HR1_8 := Aside0.mk hr1_8
 have HC1_8 := Aside0.mk hc1_8
 clear hr1_8 hc1_8
 have HB := Aside0.mk (Below.refl w.heap.size w)
 have H : (if a0_0 = a1_0 then (if a0_1 = a1_1 then (if a0_2 = a1_2 then (if a0_3 = a1_3 then (if a0_4 = a1_4 then (if a0_5 = a1_5 then (if a0_7.toList = a1_7.toList then (if (l0_8.length : Int) = (l1_8.length : Int) then ((variorumref06_Same.f k l0_6 l1_6).bind fun t353 => (variorumref11_Same.j0 k (!t353) a0_0 a0_1 a0_2 a0_3 a0_4 a0_5 l0_6 a0_7 l0_8 a1_0 a1_1 a1_2 a1_3 a1_4 a1_5 l1_6 a1_7 l1_8)) else (variorumref11_Same.j0 k true a0_0 a0_1 a0_2 a0_3 a0_4 a0_5 l0_6 a0_7 l0_8 a1_0 a1_1 a1_2 a1_3 a1_4 a1_5 l1_6 a1_7 l1_8)) else (variorumref11_Same.j0 k true a0_0 a0_1 a0_2 a0_3 a0_4 a0_5 l0_6 a0_7 l0_8 a1_0 a1_1 a1_2 a1_3 a1_4 a1_5 l1_6 a1_7 l1_8)) else (variorumref11_Same.j0 k true a0_0 a0_1 a0_2 a0_3 a0_4 a0_5 l0_6 a0_7 l0_8 a1_0 a1_1 a1_2 a1_3 a1_4 a1_5 l1_6 a1_7 l1_8)) else (variorumref11_Same.j0 k true a0_0 a0_1 a0_2 a0_3 a0_4 a0_5 l0_6 a0_7 l0_8 a1_0 a1_1 a1_2 a1_3 a1_4 a1_5 l1_6 a1_7 l1_8)) else (variorumref11_Same.j0 k true a0_0 a0_1 a0_2 a0_3 a0_4 a0_5 l0_6 a0_7 l0_8 a1_0 a1_1 a1_2 a1_3 a1_4 a1_5 l1_6 a1_7 l1_8)) else (variorumref11_Same.j0 k true a0_0 a0_1 a0_2 a0_3 a0_4 a0_5 l0_6 a0_7 l0_8 a1_0 a1_1 a1_2 a1_3 a1_4 a1_5 l1_6 a1_7 l1_8)) else (variorumref11_Same.j0 k true a0_0 a0_1 a0_2 a0_3 a0_4 a0_5 l0_6 a0_7 l0_8 a1_0 a1_1 a1_2 a1_3 a1_4 a1_5 l1_6 a1_7 l1_8)) else (variorumref11_Same.j0 k true a0_0 a0_1 a0_2 a0_3 a0_4 a0_5 l0_6 a0_7 l0_8 a1_0 a1_1 a1_2 a1_3 a1_4 a1_5 l1_6 a1_7 l1_8)) = some r := h
 clear h
 have HC3 := Aside0.mk H
 clear H
 go_enter Try.func26, Try.ntmps26
 go_upto_region 1 with (first | ((with_reducible refine gate_dst (N := 2) rfl ?_); (try (refine gate_guard (by rfl) ?_; dsimp only)); refine box_event ?hg (N := 2) ?hd (cs := #[.int .i64 a0_0, .int .i64 a0_1, .int .i64 a0_2, .int .i64 a0_3, .int .i64 a0_4, .int .i64 a0_5, .slice A0_6 l0_6.length c0_6, .string a0_7, .slice A0_8 l0_8.length c0_8]) (t := 44) ?hr ?_; (case hd => rfl); (case hg => rfl); (case hr => (go_simp; done)); intro gb351 hg w4 hbox hb; have n0_ := Aside0.mk (below_step (by repeat ((with_reducible (exact HB.out)))) hb); have n1_ := Aside0.mk (hbox); have n2_ := Aside0.mk ((by rw [hg]; exact (below_size (by repeat ((with_reducible (exact HB.out))))) : w.heap.size ≤ gb351)); have n3_ := Aside0.mk ((by rw [hg]; exact (below_size (by repeat ((with_reducible (exact HB.out))))) : w.heap.size ≤ gb351)); clear HB; have HB := n0_; have BK351 := n1_; have GW351 := n2_; have GE351 := n3_; clear n0_ n1_ n2_ n3_; clear hb hbox hg) | ((with_reducible refine gate_dst (N := 3) rfl ?_); (try (refine gate_guard (by rfl) ?_; dsimp only)); refine box_event ?hg (N := 3) ?hd (cs := #[.int .i64 a1_0, .int .i64 a1_1, .int .i64 a1_2, .int .i64 a1_3, .int .i64 a1_4, .int .i64 a1_5, .slice A1_6 l1_6.length c1_6, .string a1_7, .slice A1_8 l1_8.length c1_8]) (t := 44) ?hr ?_; (case hd => rfl); (case hg => rfl); (case hr => (go_simp; done)); intro gb352 hg w5 hbox hb; have n0_ := Aside0.mk (blk_below (g := gb351) (o := .cells #[.int .i64 a0_0, .int .i64 a0_1, .int .i64 a0_2, .int .i64 a0_3, .int .i64 a0_4, .int .i64 a0_5, .slice A0_6 l0_6.length c0_6, .string a0_7, .slice A0_8 l0_8.length c0_8] 44 (0, 0)) (by (with_reducible repeat ((refine blk_drew ?_))); exact BK351.out) hb); have n1_ := Aside0.mk (below_step (by repeat ((with_reducible (exact HB.out)))) hb); have n2_ := Aside0.mk (hbox); have n3_ := Aside0.mk ((by rw [hg]; exact (below_size (by repeat ((with_reducible (exact HB.out))))) : w.heap.size ≤ gb352)); have n4_ := Aside0.mk ((by rw [hg]; exact (below_size (by repeat ((with_reducible (exact HB.out))))) : w.heap.size ≤ gb352)); have n5_ := Aside0.mk ((by rw [hg]; exact Nat.ne_of_lt (blk_lt (g := gb351) (o := .cells #[.int .i64 a0_0, .int .i64 a0_1, .int .i64 a0_2, .int .i64 a0_3, .int .i64 a0_4, .int .i64 a0_5, .slice A0_6 l0_6.length c0_6, .string a0_7, .slice A0_8 l0_8.length c0_8] 44 (0, 0)) (by (with_reducible repeat ((refine blk_drew ?_))); exact BK351.out)) : gb351 ≠ gb352)); have n6_ := Aside0.mk ((by rw [hg]; exact Nat.ne_of_gt (blk_lt (g := gb351) (o := .cells #[.int .i64 a0_0, .int .i64 a0_1, .int .i64 a0_2, .int .i64 a0_3, .int .i64 a0_4, .int .i64 a0_5, .slice A0_6 l0_6.length c0_6, .string a0_7, .slice A0_8 l0_8.length c0_8] 44 (0, 0)) (by (with_reducible repeat ((refine blk_drew ?_))); exact BK351.out)) : gb352 ≠ gb351)); clear BK351; clear HB; have BK351 := n0_; have HB := n1_; have BK352 := n2_; have GW352 := n3_; have GE352 := n4_; have NB351_352 := n5_; have NB352_351 := n6_; clear n0_ n1_ n2_ n3_ n4_ n5_ n6_; clear hb hbox hg))
 repeat (go_quiet (((with_reducible refine gate_dst (N := 2) rfl ?_); (try (refine gate_guard (by rfl) ?_; dsimp only)); refine box_event ?hg (N := 2) ?hd (cs := #[.int .i64 a0_0, .int .i64 a0_1, .int .i64 a0_2, .int .i64 a0_3, .int .i64 a0_4, .int .i64 a0_5, .slice A0_6 l0_6.length c0_6, .string a0_7, .slice A0_8 l0_8.length c0_8]) (t := 44) ?hr ?_; (case hd => rfl); (case hg => rfl); (case hr => (go_simp; rfl)); intro gb351 hg w4 hbox hb; have n0_ := Aside0.mk (below_step (by repeat ((exact HB.out))) hb); have n1_ := Aside0.mk (hbox); have n2_ := Aside0.mk ((by rw [hg]; exact (below_size (by repeat ((exact HB.out)))) : w.heap.size ≤ gb351)); have n3_ := Aside0.mk ((by rw [hg]; exact (below_size (by repeat ((exact HB.out)))) : w.heap.size ≤ gb351)); clear HB; have HB := n0_; have BK351 := n1_; have GW351 := n2_; have GE351 := n3_; clear n0_ n1_ n2_ n3_; clear hb hbox hg)); go_upto_region 1 with (((with_reducible refine gate_dst (N := 2) rfl ?_); (try (refine gate_guard (by rfl) ?_; dsimp only)); refine box_event ?hg (N := 2) ?hd (cs := #[.int .i64 a0_0, .int .i64 a0_1, .int .i64 a0_2, .int .i64 a0_3, .int .i64 a0_4, .int .i64 a0_5, .slice A0_6 l0_6.length c0_6, .string a0_7, .slice A0_8 l0_8.length c0_8]) (t := 44) ?hr ?_; (case hd => rfl); (case hg => rfl); (case hr => (go_simp; rfl)); intro gb351 hg w4 hbox hb; have n0_ := Aside0.mk (below_step (by repeat ((exact HB.out))) hb); have n1_ := Aside0.mk (hbox); have n2_ := Aside0.mk ((by rw [hg]; exact (below_size (by repeat ((exact HB.out)))) : w.heap.size ≤ gb351)); have n3_ := Aside0.mk ((by rw [hg]; exact (below_size (by repeat ((exact HB.out)))) : w.heap.size ≤ gb351)); clear HB; have HB := n0_; have BK351 := n1_; have GW351 := n2_; have GE351 := n3_; clear n0_ n1_ n2_ n3_; clear hb hbox hg)))
 (try simp only [Act.put, List.setIfInBounds_toArray, List.set_cons_zero, List.set_cons_succ])
 go_cut [69] (fun v69 wc => ∃ (kq : Nat) (x69_2 : Bool), v69 = .bool x69_2 ∧ Aside0 (variorumref11_Same.j0 kq x69_2 a0_0 a0_1 a0_2 a0_3 a0_4 a0_5 l0_6 a0_7 l0_8 a1_0 a1_1 a1_2 a1_3 a1_4 a1_5 l1_6 a1_7 l1_8 = some r) ∧ Aside0 (kq ≤ k) ∧ Aside0 (wc.heap[gb351]? = some (.cells #[.int .i64 a0_0, .int .i64 a0_1, .int .i64 a0_2, .int .i64 a0_3, .int .i64 a0_4, .int .i64 a0_5, (.slice A0_6 l0_6.length c0_6), .string a0_7, (.slice A0_8 l0_8.length c0_8)] 44 (0, 0))) ∧ Aside0 (wc.heap[gb352]? = some (.cells #[.int .i64 a1_0, .int .i64 a1_1, .int .i64 a1_2, .int .i64 a1_3, .int .i64 a1_4, .int .i64 a1_5, (.slice A1_6 l1_6.length c1_6), .string a1_7, (.slice A1_8 l1_8.length c1_8)] 44 (0, 0))) ∧ Aside0 (Below w.heap.size w wc))
 case first =>
  have H := HC3.out
  clear HC3
  by_cases c6 : a0_0 = a1_0
  ·rw [if_pos c6] at H
   have c6b0 : (a0_0 == a1_0) = true := beq_iff_eq.mpr c6
   have c6b1 : (a0_0 != a1_0) = false := bne_eq_false_iff_eq.mpr c6
   clear c6
   ((skip))
   by_cases c7 : a0_1 = a1_1
   ·rw [if_pos c7] at H
    have c7b0 : (a0_1 == a1_1) = true := beq_iff_eq.mpr c7
    have c7b1 : (a0_1 != a1_1) = false := bne_eq_false_iff_eq.mpr c7
    clear c7
    by_cases c8 : a0_2 = a1_2
    ·rw [if_pos c8] at H
     have c8b0 : (a0_2 == a1_2) = true := beq_iff_eq.mpr c8
     have c8b1 : (a0_2 != a1_2) = false := bne_eq_false_iff_eq.mpr c8
     clear c8
     by_cases c9 : a0_3 = a1_3
     ·rw [if_pos c9] at H
      have c9b0 : (a0_3 == a1_3) = true := beq_iff_eq.mpr c9
      have c9b1 : (a0_3 != a1_3) = false := bne_eq_false_iff_eq.mpr c9
      clear c9
      by_cases c10 : a0_4 = a1_4
      ·rw [if_pos c10] at H
       have c10b0 : (a0_4 == a1_4) = true := beq_iff_eq.mpr c10
       have c10b1 : (a0_4 != a1_4) = false := bne_eq_false_iff_eq.mpr c10
       clear c10
       by_cases c11 : a0_5 = a1_5
       ·rw [if_pos c11] at H
        have c11b0 : (a0_5 == a1_5) = true := beq_iff_eq.mpr c11
        have c11b1 : (a0_5 != a1_5) = false := bne_eq_false_iff_eq.mpr c11
        clear c11
        by_cases c12 : a0_7.toList = a1_7.toList
        ·rw [if_pos c12] at H
         have c12b0 : (a0_7.toList == a1_7.toList) = true := beq_iff_eq.mpr c12
         have c12b1 : (a0_7.toList != a1_7.toList) = false := bne_eq_false_iff_eq.mpr c12
         clear c12
         by_cases c13 : (l0_8.length : Int) = (l1_8.length : Int)
         ·rw [if_pos c13] at H
          have c13b0 : ((l0_8.length : Int) == (l1_8.length : Int)) = true := beq_iff_eq.mpr c13
          have c13b1 : ((l0_8.length : Int) != (l1_8.length : Int)) = false := bne_eq_false_iff_eq.mpr c13
          have c13b2 : (l0_8.length == l1_8.length) = true := by (simp at c13 ⊢; omega)
          clear c13
          replace H := Option.bind_eq_some_iff.mp H
          obtain ⟨t353, A140, H⟩ := H
          replace H : (variorumref11_Same.j0 k (!t353) a0_0 a0_1 a0_2 a0_3 a0_4 a0_5 l0_6 a0_7 l0_8 a1_0 a1_1 a1_2 a1_3 a1_4 a1_5 l1_6 a1_7 l1_8) = some r := H
          have A14 := Aside0.mk A140
          clear A140
          have H' := Aside0.mk H
          clear H
          have hnb15 := NB351_352.out
          have hnc15 := NB352_351.out
          have hcz16_0 : w5.cell? ⟨gb351, 0, none⟩ = some (.int .i64 a0_0) := (blk_cell BK351.out 0).trans rfl
          have hcz16_1 : w5.cell? ⟨gb351, 1, none⟩ = some (.int .i64 a0_1) := (blk_cell BK351.out 1).trans rfl
          have hcz16_2 : w5.cell? ⟨gb351, 2, none⟩ = some (.int .i64 a0_2) := (blk_cell BK351.out 2).trans rfl
          have hcz16_3 : w5.cell? ⟨gb351, 3, none⟩ = some (.int .i64 a0_3) := (blk_cell BK351.out 3).trans rfl
          have hcz16_4 : w5.cell? ⟨gb351, 4, none⟩ = some (.int .i64 a0_4) := (blk_cell BK351.out 4).trans rfl
          have hcz16_5 : w5.cell? ⟨gb351, 5, none⟩ = some (.int .i64 a0_5) := (blk_cell BK351.out 5).trans rfl
          have hcz16_6 : w5.cell? ⟨gb351, 6, none⟩ = some (.slice A0_6 l0_6.length c0_6) := (blk_cell BK351.out 6).trans rfl
          have hcz16_7 : w5.cell? ⟨gb351, 7, none⟩ = some (.string a0_7) := (blk_cell BK351.out 7).trans rfl
          have hcz16_8 : w5.cell? ⟨gb351, 8, none⟩ = some (.slice A0_8 l0_8.length c0_8) := (blk_cell BK351.out 8).trans rfl
          have hfz16_0 := blk_frozen BK351.out 0
          have hfz16_1 := blk_frozen BK351.out 1
          have hfz16_2 := blk_frozen BK351.out 2
          have hfz16_3 := blk_frozen BK351.out 3
          have hfz16_4 := blk_frozen BK351.out 4
          have hfz16_5 := blk_frozen BK351.out 5
          have hfz16_6 := blk_frozen BK351.out 6
          have hfz16_7 := blk_frozen BK351.out 7
          have hfz16_8 := blk_frozen BK351.out 8
          have hcz17_0 : w5.cell? ⟨gb352, 0, none⟩ = some (.int .i64 a1_0) := (blk_cell BK352.out 0).trans rfl
          have hcz17_1 : w5.cell? ⟨gb352, 1, none⟩ = some (.int .i64 a1_1) := (blk_cell BK352.out 1).trans rfl
          have hcz17_2 : w5.cell? ⟨gb352, 2, none⟩ = some (.int .i64 a1_2) := (blk_cell BK352.out 2).trans rfl
          have hcz17_3 : w5.cell? ⟨gb352, 3, none⟩ = some (.int .i64 a1_3) := (blk_cell BK352.out 3).trans rfl
          have hcz17_4 : w5.cell? ⟨gb352, 4, none⟩ = some (.int .i64 a1_4) := (blk_cell BK352.out 4).trans rfl
          have hcz17_5 : w5.cell? ⟨gb352, 5, none⟩ = some (.int .i64 a1_5) := (blk_cell BK352.out 5).trans rfl
          have hcz17_6 : w5.cell? ⟨gb352, 6, none⟩ = some (.slice A1_6 l1_6.length c1_6) := (blk_cell BK352.out 6).trans rfl
          have hcz17_7 : w5.cell? ⟨gb352, 7, none⟩ = some (.string a1_7) := (blk_cell BK352.out 7).trans rfl
          have hcz17_8 : w5.cell? ⟨gb352, 8, none⟩ = some (.slice A1_8 l1_8.length c1_8) := (blk_cell BK352.out 8).trans rfl
          have hfz17_0 := blk_frozen BK352.out 0
          have hfz17_1 := blk_frozen BK352.out 1
          have hfz17_2 := blk_frozen BK352.out 2
          have hfz17_3 := blk_frozen BK352.out 3
          have hfz17_4 := blk_frozen BK352.out 4
          have hfz17_5 := blk_frozen BK352.out 5
          have hfz17_6 := blk_frozen BK352.out 6
          have hfz17_7 := blk_frozen BK352.out 7
          have hfz17_8 := blk_frozen BK352.out 8
          go_wp2_with (first | (go_at_call 73; (with_reducible refine (variorumref06_Same.calls k _ _ l0_6 _ _ l1_6 t353 _ ?side1 ?side2 ?side3 ?side4 A14.out).mono ?_); (case side1 => repeat ((exact (Kd.C_below HR0_6.out HB.out)))); (case side2 => exact HC0_6.out); (case side3 => repeat ((exact (Kd.C_below HR1_6.out HB.out)))); (case side4 => exact HC1_6.out); rintro e w' ⟨rfl, ⟨nd, rfl⟩⟩; (try (exact ⟨rfl, _, World.drewN_drewN _ _ _⟩))))
          repeat (go_quiet (first | (go_at_call 73; (with_reducible refine (variorumref06_Same.calls k _ _ l0_6 _ _ l1_6 t353 _ ?side1 ?side2 ?side3 ?side4 A14.out).mono ?_); (case side1 => repeat ((exact (Kd.C_below HR0_6.out HB.out)))); (case side2 => exact HC0_6.out); (case side3 => repeat ((exact (Kd.C_below HR1_6.out HB.out)))); (case side4 => exact HC1_6.out); rintro e w' ⟨rfl, ⟨nd, rfl⟩⟩; (try (exact ⟨rfl, _, World.drewN_drewN _ _ _⟩)))); try go_wp2_with (first | (go_at_call 73; (with_reducible refine (variorumref06_Same.calls k _ _ l0_6 _ _ l1_6 t353 _ ?side1 ?side2 ?side3 ?side4 A14.out).mono ?_); (case side1 => repeat ((exact (Kd.C_below HR0_6.out HB.out)))); (case side2 => exact HC0_6.out); (case side3 => repeat ((exact (Kd.C_below HR1_6.out HB.out)))); (case side4 => exact HC1_6.out); rintro e w' ⟨rfl, ⟨nd, rfl⟩⟩; (try (exact ⟨rfl, _, World.drewN_drewN _ _ _⟩)))))
          go_meet
          case rel => exact ⟨_, (!t353), (by (rfl)), H', ⟨by (omega)⟩, ⟨by (with_reducible repeat ((refine blk_drewN ?_ _))); exact BK351.out⟩, ⟨by (with_reducible repeat ((refine blk_drewN ?_ _))); exact BK352.out⟩, ⟨by repeat ((with_reducible first | exact HB.out | apply pw_below_drewN))⟩⟩
         ·rw [if_neg c13] at H
          have c13b0 : ((l0_8.length : Int) == (l1_8.length : Int)) = false := beq_eq_false_iff_ne.mpr c13
          have c13b1 : ((l0_8.length : Int) != (l1_8.length : Int)) = true := bne_iff_ne.mpr c13
          have c13b2 : (l0_8.length == l1_8.length) = false := by (simp at c13 ⊢; omega)
          have H' := Aside0.mk H
          clear H
          have hnb18 := NB351_352.out
          have hnc18 := NB352_351.out
          have hcz19_0 : w5.cell? ⟨gb351, 0, none⟩ = some (.int .i64 a0_0) := (blk_cell BK351.out 0).trans rfl
          have hcz19_1 : w5.cell? ⟨gb351, 1, none⟩ = some (.int .i64 a0_1) := (blk_cell BK351.out 1).trans rfl
          have hcz19_2 : w5.cell? ⟨gb351, 2, none⟩ = some (.int .i64 a0_2) := (blk_cell BK351.out 2).trans rfl
          have hcz19_3 : w5.cell? ⟨gb351, 3, none⟩ = some (.int .i64 a0_3) := (blk_cell BK351.out 3).trans rfl
          have hcz19_4 : w5.cell? ⟨gb351, 4, none⟩ = some (.int .i64 a0_4) := (blk_cell BK351.out 4).trans rfl
          have hcz19_5 : w5.cell? ⟨gb351, 5, none⟩ = some (.int .i64 a0_5) := (blk_cell BK351.out 5).trans rfl
          have hcz19_6 : w5.cell? ⟨gb351, 6, none⟩ = some (.slice A0_6 l0_6.length c0_6) := (blk_cell BK351.out 6).trans rfl
          have hcz19_7 : w5.cell? ⟨gb351, 7, none⟩ = some (.string a0_7) := (blk_cell BK351.out 7).trans rfl
          have hcz19_8 : w5.cell? ⟨gb351, 8, none⟩ = some (.slice A0_8 l0_8.length c0_8) := (blk_cell BK351.out 8).trans rfl
          have hfz19_0 := blk_frozen BK351.out 0
          have hfz19_1 := blk_frozen BK351.out 1
          have hfz19_2 := blk_frozen BK351.out 2
          have hfz19_3 := blk_frozen BK351.out 3
          have hfz19_4 := blk_frozen BK351.out 4
          have hfz19_5 := blk_frozen BK351.out 5
          have hfz19_6 := blk_frozen BK351.out 6
          have hfz19_7 := blk_frozen BK351.out 7
          have hfz19_8 := blk_frozen BK351.out 8
          have hcz20_0 : w5.cell? ⟨gb352, 0, none⟩ = some (.int .i64 a1_0) := (blk_cell BK352.out 0).trans rfl
          have hcz20_1 : w5.cell? ⟨gb352, 1, none⟩ = some (.int .i64 a1_1) := (blk_cell BK352.out 1).trans rfl
          have hcz20_2 : w5.cell? ⟨gb352, 2, none⟩ = some (.int .i64 a1_2) := (blk_cell BK352.out 2).trans rfl
          have hcz20_3 : w5.cell? ⟨gb352, 3, none⟩ = some (.int .i64 a1_3) := (blk_cell BK352.out 3).trans rfl
          have hcz20_4 : w5.cell? ⟨gb352, 4, none⟩ = some (.int .i64 a1_4) := (blk_cell BK352.out 4).trans rfl
          have hcz20_5 : w5.cell? ⟨gb352, 5, none⟩ = some (.int .i64 a1_5) := (blk_cell BK352.out 5).trans rfl
          have hcz20_6 : w5.cell? ⟨gb352, 6, none⟩ = some (.slice A1_6 l1_6.length c1_6) := (blk_cell BK352.out 6).trans rfl
          have hcz20_7 : w5.cell? ⟨gb352, 7, none⟩ = some (.string a1_7) := (blk_cell BK352.out 7).trans rfl
          have hcz20_8 : w5.cell? ⟨gb352, 8, none⟩ = some (.slice A1_8 l1_8.length c1_8) := (blk_cell BK352.out 8).trans rfl
          have hfz20_0 := blk_frozen BK352.out 0
          have hfz20_1 := blk_frozen BK352.out 1
          have hfz20_2 := blk_frozen BK352.out 2
          have hfz20_3 := blk_frozen BK352.out 3
          have hfz20_4 := blk_frozen BK352.out 4
          have hfz20_5 := blk_frozen BK352.out 5
          have hfz20_6 := blk_frozen BK352.out 6
          have hfz20_7 := blk_frozen BK352.out 7
          have hfz20_8 := blk_frozen BK352.out 8
          go_wp2
          repeat (go_quiet (fail); try go_wp2)
          go_meet
          case rel => exact ⟨_, (true), (by (rfl)), H', ⟨by (omega)⟩, ⟨by (with_reducible repeat ((refine blk_drew ?_))); exact BK351.out⟩, ⟨by (with_reducible repeat ((refine blk_drew ?_))); exact BK352.out⟩, ⟨by repeat ((with_reducible (exact HB.out)))⟩⟩
        ·rw [if_neg c12] at H
         have c12b0 : (a0_7.toList == a1_7.toList) = false := beq_eq_false_iff_ne.mpr c12
         have c12b1 : (a0_7.toList != a1_7.toList) = true := bne_iff_ne.mpr c12
         have H' := Aside0.mk H
         clear H
         have hnb21 := NB351_352.out
         have hnc21 := NB352_351.out
         have hcz22_0 : w5.cell? ⟨gb351, 0, none⟩ = some (.int .i64 a0_0) := (blk_cell BK351.out 0).trans rfl
         have hcz22_1 : w5.cell? ⟨gb351, 1, none⟩ = some (.int .i64 a0_1) := (blk_cell BK351.out 1).trans rfl
         have hcz22_2 : w5.cell? ⟨gb351, 2, none⟩ = some (.int .i64 a0_2) := (blk_cell BK351.out 2).trans rfl
         have hcz22_3 : w5.cell? ⟨gb351, 3, none⟩ = some (.int .i64 a0_3) := (blk_cell BK351.out 3).trans rfl
         have hcz22_4 : w5.cell? ⟨gb351, 4, none⟩ = some (.int .i64 a0_4) := (blk_cell BK351.out 4).trans rfl
         have hcz22_5 : w5.cell? ⟨gb351, 5, none⟩ = some (.int .i64 a0_5) := (blk_cell BK351.out 5).trans rfl
         have hcz22_6 : w5.cell? ⟨gb351, 6, none⟩ = some (.slice A0_6 l0_6.length c0_6) := (blk_cell BK351.out 6).trans rfl
         have hcz22_7 : w5.cell? ⟨gb351, 7, none⟩ = some (.string a0_7) := (blk_cell BK351.out 7).trans rfl
         have hcz22_8 : w5.cell? ⟨gb351, 8, none⟩ = some (.slice A0_8 l0_8.length c0_8) := (blk_cell BK351.out 8).trans rfl
         have hfz22_0 := blk_frozen BK351.out 0
         have hfz22_1 := blk_frozen BK351.out 1
         have hfz22_2 := blk_frozen BK351.out 2
         have hfz22_3 := blk_frozen BK351.out 3
         have hfz22_4 := blk_frozen BK351.out 4
         have hfz22_5 := blk_frozen BK351.out 5
         have hfz22_6 := blk_frozen BK351.out 6
         have hfz22_7 := blk_frozen BK351.out 7
         have hfz22_8 := blk_frozen BK351.out 8
         have hcz23_0 : w5.cell? ⟨gb352, 0, none⟩ = some (.int .i64 a1_0) := (blk_cell BK352.out 0).trans rfl
         have hcz23_1 : w5.cell? ⟨gb352, 1, none⟩ = some (.int .i64 a1_1) := (blk_cell BK352.out 1).trans rfl
         have hcz23_2 : w5.cell? ⟨gb352, 2, none⟩ = some (.int .i64 a1_2) := (blk_cell BK352.out 2).trans rfl
         have hcz23_3 : w5.cell? ⟨gb352, 3, none⟩ = some (.int .i64 a1_3) := (blk_cell BK352.out 3).trans rfl
         have hcz23_4 : w5.cell? ⟨gb352, 4, none⟩ = some (.int .i64 a1_4) := (blk_cell BK352.out 4).trans rfl
         have hcz23_5 : w5.cell? ⟨gb352, 5, none⟩ = some (.int .i64 a1_5) := (blk_cell BK352.out 5).trans rfl
         have hcz23_6 : w5.cell? ⟨gb352, 6, none⟩ = some (.slice A1_6 l1_6.length c1_6) := (blk_cell BK352.out 6).trans rfl
         have hcz23_7 : w5.cell? ⟨gb352, 7, none⟩ = some (.string a1_7) := (blk_cell BK352.out 7).trans rfl
         have hcz23_8 : w5.cell? ⟨gb352, 8, none⟩ = some (.slice A1_8 l1_8.length c1_8) := (blk_cell BK352.out 8).trans rfl
         have hfz23_0 := blk_frozen BK352.out 0
         have hfz23_1 := blk_frozen BK352.out 1
         have hfz23_2 := blk_frozen BK352.out 2
         have hfz23_3 := blk_frozen BK352.out 3
         have hfz23_4 := blk_frozen BK352.out 4
         have hfz23_5 := blk_frozen BK352.out 5
         have hfz23_6 := blk_frozen BK352.out 6
         have hfz23_7 := blk_frozen BK352.out 7
         have hfz23_8 := blk_frozen BK352.out 8
         go_wp2
         repeat (go_quiet (fail); try go_wp2)
         go_meet
         case rel => exact ⟨_, (true), (by (rfl)), H', ⟨by (omega)⟩, ⟨by (with_reducible repeat ((refine blk_drew ?_))); exact BK351.out⟩, ⟨by (with_reducible repeat ((refine blk_drew ?_))); exact BK352.out⟩, ⟨by repeat ((with_reducible (exact HB.out)))⟩⟩
       ·rw [if_neg c11] at H
        have c11b0 : (a0_5 == a1_5) = false := beq_eq_false_iff_ne.mpr c11
        have c11b1 : (a0_5 != a1_5) = true := bne_iff_ne.mpr c11
        have H' := Aside0.mk H
        clear H
        have hnb24 := NB351_352.out
        have hnc24 := NB352_351.out
        have hcz25_0 : w5.cell? ⟨gb351, 0, none⟩ = some (.int .i64 a0_0) := (blk_cell BK351.out 0).trans rfl
        have hcz25_1 : w5.cell? ⟨gb351, 1, none⟩ = some (.int .i64 a0_1) := (blk_cell BK351.out 1).trans rfl
        have hcz25_2 : w5.cell? ⟨gb351, 2, none⟩ = some (.int .i64 a0_2) := (blk_cell BK351.out 2).trans rfl
        have hcz25_3 : w5.cell? ⟨gb351, 3, none⟩ = some (.int .i64 a0_3) := (blk_cell BK351.out 3).trans rfl
        have hcz25_4 : w5.cell? ⟨gb351, 4, none⟩ = some (.int .i64 a0_4) := (blk_cell BK351.out 4).trans rfl
        have hcz25_5 : w5.cell? ⟨gb351, 5, none⟩ = some (.int .i64 a0_5) := (blk_cell BK351.out 5).trans rfl
        have hcz25_6 : w5.cell? ⟨gb351, 6, none⟩ = some (.slice A0_6 l0_6.length c0_6) := (blk_cell BK351.out 6).trans rfl
        have hcz25_7 : w5.cell? ⟨gb351, 7, none⟩ = some (.string a0_7) := (blk_cell BK351.out 7).trans rfl
        have hcz25_8 : w5.cell? ⟨gb351, 8, none⟩ = some (.slice A0_8 l0_8.length c0_8) := (blk_cell BK351.out 8).trans rfl
        have hfz25_0 := blk_frozen BK351.out 0
        have hfz25_1 := blk_frozen BK351.out 1
        have hfz25_2 := blk_frozen BK351.out 2
        have hfz25_3 := blk_frozen BK351.out 3
        have hfz25_4 := blk_frozen BK351.out 4
        have hfz25_5 := blk_frozen BK351.out 5
        have hfz25_6 := blk_frozen BK351.out 6
        have hfz25_7 := blk_frozen BK351.out 7
        have hfz25_8 := blk_frozen BK351.out 8
        have hcz26_0 : w5.cell? ⟨gb352, 0, none⟩ = some (.int .i64 a1_0) := (blk_cell BK352.out 0).trans rfl
        have hcz26_1 : w5.cell? ⟨gb352, 1, none⟩ = some (.int .i64 a1_1) := (blk_cell BK352.out 1).trans rfl
        have hcz26_2 : w5.cell? ⟨gb352, 2, none⟩ = some (.int .i64 a1_2) := (blk_cell BK352.out 2).trans rfl
        have hcz26_3 : w5.cell? ⟨gb352, 3, none⟩ = some (.int .i64 a1_3) := (blk_cell BK352.out 3).trans rfl
        have hcz26_4 : w5.cell? ⟨gb352, 4, none⟩ = some (.int .i64 a1_4) := (blk_cell BK352.out 4).trans rfl
        have hcz26_5 : w5.cell? ⟨gb352, 5, none⟩ = some (.int .i64 a1_5) := (blk_cell BK352.out 5).trans rfl
        have hcz26_6 : w5.cell? ⟨gb352, 6, none⟩ = some (.slice A1_6 l1_6.length c1_6) := (blk_cell BK352.out 6).trans rfl
        have hcz26_7 : w5.cell? ⟨gb352, 7, none⟩ = some (.string a1_7) := (blk_cell BK352.out 7).trans rfl
        have hcz26_8 : w5.cell? ⟨gb352, 8, none⟩ = some (.slice A1_8 l1_8.length c1_8) := (blk_cell BK352.out 8).trans rfl
        have hfz26_0 := blk_frozen BK352.out 0
        have hfz26_1 := blk_frozen BK352.out 1
        have hfz26_2 := blk_frozen BK352.out 2
        have hfz26_3 := blk_frozen BK352.out 3
        have hfz26_4 := blk_frozen BK352.out 4
        have hfz26_5 := blk_frozen BK352.out 5
        have hfz26_6 := blk_frozen BK352.out 6
        have hfz26_7 := blk_frozen BK352.out 7
        have hfz26_8 := blk_frozen BK352.out 8
        go_wp2
        repeat (go_quiet (fail); try go_wp2)
        go_meet
        case rel => exact ⟨_, (true), (by (rfl)), H', ⟨by (omega)⟩, ⟨by (with_reducible repeat ((refine blk_drew ?_))); exact BK351.out⟩, ⟨by (with_reducible repeat ((refine blk_drew ?_))); exact BK352.out⟩, ⟨by repeat ((with_reducible (exact HB.out)))⟩⟩
      ·rw [if_neg c10] at H
       have c10b0 : (a0_4 == a1_4) = false := beq_eq_false_iff_ne.mpr c10
       have c10b1 : (a0_4 != a1_4) = true := bne_iff_ne.mpr c10
       have H' := Aside0.mk H
       clear H
       have hnb27 := NB351_352.out
       have hnc27 := NB352_351.out
       have hcz28_0 : w5.cell? ⟨gb351, 0, none⟩ = some (.int .i64 a0_0) := (blk_cell BK351.out 0).trans rfl
       have hcz28_1 : w5.cell? ⟨gb351, 1, none⟩ = some (.int .i64 a0_1) := (blk_cell BK351.out 1).trans rfl
       have hcz28_2 : w5.cell? ⟨gb351, 2, none⟩ = some (.int .i64 a0_2) := (blk_cell BK351.out 2).trans rfl
       have hcz28_3 : w5.cell? ⟨gb351, 3, none⟩ = some (.int .i64 a0_3) := (blk_cell BK351.out 3).trans rfl
       have hcz28_4 : w5.cell? ⟨gb351, 4, none⟩ = some (.int .i64 a0_4) := (blk_cell BK351.out 4).trans rfl
       have hcz28_5 : w5.cell? ⟨gb351, 5, none⟩ = some (.int .i64 a0_5) := (blk_cell BK351.out 5).trans rfl
       have hcz28_6 : w5.cell? ⟨gb351, 6, none⟩ = some (.slice A0_6 l0_6.length c0_6) := (blk_cell BK351.out 6).trans rfl
       have hcz28_7 : w5.cell? ⟨gb351, 7, none⟩ = some (.string a0_7) := (blk_cell BK351.out 7).trans rfl
       have hcz28_8 : w5.cell? ⟨gb351, 8, none⟩ = some (.slice A0_8 l0_8.length c0_8) := (blk_cell BK351.out 8).trans rfl
       have hfz28_0 := blk_frozen BK351.out 0
       have hfz28_1 := blk_frozen BK351.out 1
       have hfz28_2 := blk_frozen BK351.out 2
       have hfz28_3 := blk_frozen BK351.out 3
       have hfz28_4 := blk_frozen BK351.out 4
       have hfz28_5 := blk_frozen BK351.out 5
       have hfz28_6 := blk_frozen BK351.out 6
       have hfz28_7 := blk_frozen BK351.out 7
       have hfz28_8 := blk_frozen BK351.out 8
       have hcz29_0 : w5.cell? ⟨gb352, 0, none⟩ = some (.int .i64 a1_0) := (blk_cell BK352.out 0).trans rfl
       have hcz29_1 : w5.cell? ⟨gb352, 1, none⟩ = some (.int .i64 a1_1) := (blk_cell BK352.out 1).trans rfl
       have hcz29_2 : w5.cell? ⟨gb352, 2, none⟩ = some (.int .i64 a1_2) := (blk_cell BK352.out 2).trans rfl
       have hcz29_3 : w5.cell? ⟨gb352, 3, none⟩ = some (.int .i64 a1_3) := (blk_cell BK352.out 3).trans rfl
       have hcz29_4 : w5.cell? ⟨gb352, 4, none⟩ = some (.int .i64 a1_4) := (blk_cell BK352.out 4).trans rfl
       have hcz29_5 : w5.cell? ⟨gb352, 5, none⟩ = some (.int .i64 a1_5) := (blk_cell BK352.out 5).trans rfl
       have hcz29_6 : w5.cell? ⟨gb352, 6, none⟩ = some (.slice A1_6 l1_6.length c1_6) := (blk_cell BK352.out 6).trans rfl
       have hcz29_7 : w5.cell? ⟨gb352, 7, none⟩ = some (.string a1_7) := (blk_cell BK352.out 7).trans rfl
       have hcz29_8 : w5.cell? ⟨gb352, 8, none⟩ = some (.slice A1_8 l1_8.length c1_8) := (blk_cell BK352.out 8).trans rfl
       have hfz29_0 := blk_frozen BK352.out 0
       have hfz29_1 := blk_frozen BK352.out 1
       have hfz29_2 := blk_frozen BK352.out 2
       have hfz29_3 := blk_frozen BK352.out 3
       have hfz29_4 := blk_frozen BK352.out 4
       have hfz29_5 := blk_frozen BK352.out 5
       have hfz29_6 := blk_frozen BK352.out 6
       have hfz29_7 := blk_frozen BK352.out 7
       have hfz29_8 := blk_frozen BK352.out 8
       go_wp2
       repeat (go_quiet (fail); try go_wp2)
       go_meet
       case rel => exact ⟨_, (true), (by (rfl)), H', ⟨by (omega)⟩, ⟨by (with_reducible repeat ((refine blk_drew ?_))); exact BK351.out⟩, ⟨by (with_reducible repeat ((refine blk_drew ?_))); exact BK352.out⟩, ⟨by repeat ((with_reducible (exact HB.out)))⟩⟩
     ·rw [if_neg c9] at H
      have c9b0 : (a0_3 == a1_3) = false := beq_eq_false_iff_ne.mpr c9
      have c9b1 : (a0_3 != a1_3) = true := bne_iff_ne.mpr c9
      have H' := Aside0.mk H
      clear H
      have hnb30 := NB351_352.out
      have hnc30 := NB352_351.out
      have hcz31_0 : w5.cell? ⟨gb351, 0, none⟩ = some (.int .i64 a0_0) := (blk_cell BK351.out 0).trans rfl
      have hcz31_1 : w5.cell? ⟨gb351, 1, none⟩ = some (.int .i64 a0_1) := (blk_cell BK351.out 1).trans rfl
      have hcz31_2 : w5.cell? ⟨gb351, 2, none⟩ = some (.int .i64 a0_2) := (blk_cell BK351.out 2).trans rfl
      have hcz31_3 : w5.cell? ⟨gb351, 3, none⟩ = some (.int .i64 a0_3) := (blk_cell BK351.out 3).trans rfl
      have hcz31_4 : w5.cell? ⟨gb351, 4, none⟩ = some (.int .i64 a0_4) := (blk_cell BK351.out 4).trans rfl
      have hcz31_5 : w5.cell? ⟨gb351, 5, none⟩ = some (.int .i64 a0_5) := (blk_cell BK351.out 5).trans rfl
      have hcz31_6 : w5.cell? ⟨gb351, 6, none⟩ = some (.slice A0_6 l0_6.length c0_6) := (blk_cell BK351.out 6).trans rfl
      have hcz31_7 : w5.cell? ⟨gb351, 7, none⟩ = some (.string a0_7) := (blk_cell BK351.out 7).trans rfl
      have hcz31_8 : w5.cell? ⟨gb351, 8, none⟩ = some (.slice A0_8 l0_8.length c0_8) := (blk_cell BK351.out 8).trans rfl
      have hfz31_0 := blk_frozen BK351.out 0
      have hfz31_1 := blk_frozen BK351.out 1
      have hfz31_2 := blk_frozen BK351.out 2
      have hfz31_3 := blk_frozen BK351.out 3
      have hfz31_4 := blk_frozen BK351.out 4
      have hfz31_5 := blk_frozen BK351.out 5
      have hfz31_6 := blk_frozen BK351.out 6
      have hfz31_7 := blk_frozen BK351.out 7
      have hfz31_8 := blk_frozen BK351.out 8
      have hcz32_0 : w5.cell? ⟨gb352, 0, none⟩ = some (.int .i64 a1_0) := (blk_cell BK352.out 0).trans rfl
      have hcz32_1 : w5.cell? ⟨gb352, 1, none⟩ = some (.int .i64 a1_1) := (blk_cell BK352.out 1).trans rfl
      have hcz32_2 : w5.cell? ⟨gb352, 2, none⟩ = some (.int .i64 a1_2) := (blk_cell BK352.out 2).trans rfl
      have hcz32_3 : w5.cell? ⟨gb352, 3, none⟩ = some (.int .i64 a1_3) := (blk_cell BK352.out 3).trans rfl
      have hcz32_4 : w5.cell? ⟨gb352, 4, none⟩ = some (.int .i64 a1_4) := (blk_cell BK352.out 4).trans rfl
      have hcz32_5 : w5.cell? ⟨gb352, 5, none⟩ = some (.int .i64 a1_5) := (blk_cell BK352.out 5).trans rfl
      have hcz32_6 : w5.cell? ⟨gb352, 6, none⟩ = some (.slice A1_6 l1_6.length c1_6) := (blk_cell BK352.out 6).trans rfl
      have hcz32_7 : w5.cell? ⟨gb352, 7, none⟩ = some (.string a1_7) := (blk_cell BK352.out 7).trans rfl
      have hcz32_8 : w5.cell? ⟨gb352, 8, none⟩ = some (.slice A1_8 l1_8.length c1_8) := (blk_cell BK352.out 8).trans rfl
      have hfz32_0 := blk_frozen BK352.out 0
      have hfz32_1 := blk_frozen BK352.out 1
      have hfz32_2 := blk_frozen BK352.out 2
      have hfz32_3 := blk_frozen BK352.out 3
      have hfz32_4 := blk_frozen BK352.out 4
      have hfz32_5 := blk_frozen BK352.out 5
      have hfz32_6 := blk_frozen BK352.out 6
      have hfz32_7 := blk_frozen BK352.out 7
      have hfz32_8 := blk_frozen BK352.out 8
      go_wp2
      repeat (go_quiet (fail); try go_wp2)
      go_meet
      case rel => exact ⟨_, (true), (by (rfl)), H', ⟨by (omega)⟩, ⟨by (with_reducible repeat ((refine blk_drew ?_))); exact BK351.out⟩, ⟨by (with_reducible repeat ((refine blk_drew ?_))); exact BK352.out⟩, ⟨by repeat ((with_reducible (exact HB.out)))⟩⟩
    ·rw [if_neg c8] at H
     have c8b0 : (a0_2 == a1_2) = false := beq_eq_false_iff_ne.mpr c8
     have c8b1 : (a0_2 != a1_2) = true := bne_iff_ne.mpr c8
     have H' := Aside0.mk H
     clear H
     have hnb33 := NB351_352.out
     have hnc33 := NB352_351.out
     have hcz34_0 : w5.cell? ⟨gb351, 0, none⟩ = some (.int .i64 a0_0) := (blk_cell BK351.out 0).trans rfl
     have hcz34_1 : w5.cell? ⟨gb351, 1, none⟩ = some (.int .i64 a0_1) := (blk_cell BK351.out 1).trans rfl
     have hcz34_2 : w5.cell? ⟨gb351, 2, none⟩ = some (.int .i64 a0_2) := (blk_cell BK351.out 2).trans rfl
     have hcz34_3 : w5.cell? ⟨gb351, 3, none⟩ = some (.int .i64 a0_3) := (blk_cell BK351.out 3).trans rfl
     have hcz34_4 : w5.cell? ⟨gb351, 4, none⟩ = some (.int .i64 a0_4) := (blk_cell BK351.out 4).trans rfl
     have hcz34_5 : w5.cell? ⟨gb351, 5, none⟩ = some (.int .i64 a0_5) := (blk_cell BK351.out 5).trans rfl
     have hcz34_6 : w5.cell? ⟨gb351, 6, none⟩ = some (.slice A0_6 l0_6.length c0_6) := (blk_cell BK351.out 6).trans rfl
     have hcz34_7 : w5.cell? ⟨gb351, 7, none⟩ = some (.string a0_7) := (blk_cell BK351.out 7).trans rfl
     have hcz34_8 : w5.cell? ⟨gb351, 8, none⟩ = some (.slice A0_8 l0_8.length c0_8) := (blk_cell BK351.out 8).trans rfl
     have hfz34_0 := blk_frozen BK351.out 0
     have hfz34_1 := blk_frozen BK351.out 1
     have hfz34_2 := blk_frozen BK351.out 2
     have hfz34_3 := blk_frozen BK351.out 3
     have hfz34_4 := blk_frozen BK351.out 4
     have hfz34_5 := blk_frozen BK351.out 5
     have hfz34_6 := blk_frozen BK351.out 6
     have hfz34_7 := blk_frozen BK351.out 7
     have hfz34_8 := blk_frozen BK351.out 8
     have hcz35_0 : w5.cell? ⟨gb352, 0, none⟩ = some (.int .i64 a1_0) := (blk_cell BK352.out 0).trans rfl
     have hcz35_1 : w5.cell? ⟨gb352, 1, none⟩ = some (.int .i64 a1_1) := (blk_cell BK352.out 1).trans rfl
     have hcz35_2 : w5.cell? ⟨gb352, 2, none⟩ = some (.int .i64 a1_2) := (blk_cell BK352.out 2).trans rfl
     have hcz35_3 : w5.cell? ⟨gb352, 3, none⟩ = some (.int .i64 a1_3) := (blk_cell BK352.out 3).trans rfl
     have hcz35_4 : w5.cell? ⟨gb352, 4, none⟩ = some (.int .i64 a1_4) := (blk_cell BK352.out 4).trans rfl
     have hcz35_5 : w5.cell? ⟨gb352, 5, none⟩ = some (.int .i64 a1_5) := (blk_cell BK352.out 5).trans rfl
     have hcz35_6 : w5.cell? ⟨gb352, 6, none⟩ = some (.slice A1_6 l1_6.length c1_6) := (blk_cell BK352.out 6).trans rfl
     have hcz35_7 : w5.cell? ⟨gb352, 7, none⟩ = some (.string a1_7) := (blk_cell BK352.out 7).trans rfl
     have hcz35_8 : w5.cell? ⟨gb352, 8, none⟩ = some (.slice A1_8 l1_8.length c1_8) := (blk_cell BK352.out 8).trans rfl
     have hfz35_0 := blk_frozen BK352.out 0
     have hfz35_1 := blk_frozen BK352.out 1
     have hfz35_2 := blk_frozen BK352.out 2
     have hfz35_3 := blk_frozen BK352.out 3
     have hfz35_4 := blk_frozen BK352.out 4
     have hfz35_5 := blk_frozen BK352.out 5
     have hfz35_6 := blk_frozen BK352.out 6
     have hfz35_7 := blk_frozen BK352.out 7
     have hfz35_8 := blk_frozen BK352.out 8
     go_wp2
     repeat (go_quiet (fail); try go_wp2)
     go_meet
     case rel => exact ⟨_, (true), (by (rfl)), H', ⟨by (omega)⟩, ⟨by (with_reducible repeat ((refine blk_drew ?_))); exact BK351.out⟩, ⟨by (with_reducible repeat ((refine blk_drew ?_))); exact BK352.out⟩, ⟨by repeat ((with_reducible (exact HB.out)))⟩⟩
   ·rw [if_neg c7] at H
    have c7b0 : (a0_1 == a1_1) = false := beq_eq_false_iff_ne.mpr c7
    have c7b1 : (a0_1 != a1_1) = true := bne_iff_ne.mpr c7
    have H' := Aside0.mk H
    clear H
    have hnb36 := NB351_352.out
    have hnc36 := NB352_351.out
    have hcz37_0 : w5.cell? ⟨gb351, 0, none⟩ = some (.int .i64 a0_0) := (blk_cell BK351.out 0).trans rfl
    have hcz37_1 : w5.cell? ⟨gb351, 1, none⟩ = some (.int .i64 a0_1) := (blk_cell BK351.out 1).trans rfl
    have hcz37_2 : w5.cell? ⟨gb351, 2, none⟩ = some (.int .i64 a0_2) := (blk_cell BK351.out 2).trans rfl
    have hcz37_3 : w5.cell? ⟨gb351, 3, none⟩ = some (.int .i64 a0_3) := (blk_cell BK351.out 3).trans rfl
    have hcz37_4 : w5.cell? ⟨gb351, 4, none⟩ = some (.int .i64 a0_4) := (blk_cell BK351.out 4).trans rfl
    have hcz37_5 : w5.cell? ⟨gb351, 5, none⟩ = some (.int .i64 a0_5) := (blk_cell BK351.out 5).trans rfl
    have hcz37_6 : w5.cell? ⟨gb351, 6, none⟩ = some (.slice A0_6 l0_6.length c0_6) := (blk_cell BK351.out 6).trans rfl
    have hcz37_7 : w5.cell? ⟨gb351, 7, none⟩ = some (.string a0_7) := (blk_cell BK351.out 7).trans rfl
    have hcz37_8 : w5.cell? ⟨gb351, 8, none⟩ = some (.slice A0_8 l0_8.length c0_8) := (blk_cell BK351.out 8).trans rfl
    have hfz37_0 := blk_frozen BK351.out 0
    have hfz37_1 := blk_frozen BK351.out 1
    have hfz37_2 := blk_frozen BK351.out 2
    have hfz37_3 := blk_frozen BK351.out 3
    have hfz37_4 := blk_frozen BK351.out 4
    have hfz37_5 := blk_frozen BK351.out 5
    have hfz37_6 := blk_frozen BK351.out 6
    have hfz37_7 := blk_frozen BK351.out 7
    have hfz37_8 := blk_frozen BK351.out 8
    have hcz38_0 : w5.cell? ⟨gb352, 0, none⟩ = some (.int .i64 a1_0) := (blk_cell BK352.out 0).trans rfl
    have hcz38_1 : w5.cell? ⟨gb352, 1, none⟩ = some (.int .i64 a1_1) := (blk_cell BK352.out 1).trans rfl
    have hcz38_2 : w5.cell? ⟨gb352, 2, none⟩ = some (.int .i64 a1_2) := (blk_cell BK352.out 2).trans rfl
    have hcz38_3 : w5.cell? ⟨gb352, 3, none⟩ = some (.int .i64 a1_3) := (blk_cell BK352.out 3).trans rfl
    have hcz38_4 : w5.cell? ⟨gb352, 4, none⟩ = some (.int .i64 a1_4) := (blk_cell BK352.out 4).trans rfl
    have hcz38_5 : w5.cell? ⟨gb352, 5, none⟩ = some (.int .i64 a1_5) := (blk_cell BK352.out 5).trans rfl
    have hcz38_6 : w5.cell? ⟨gb352, 6, none⟩ = some (.slice A1_6 l1_6.length c1_6) := (blk_cell BK352.out 6).trans rfl
    have hcz38_7 : w5.cell? ⟨gb352, 7, none⟩ = some (.string a1_7) := (blk_cell BK352.out 7).trans rfl
    have hcz38_8 : w5.cell? ⟨gb352, 8, none⟩ = some (.slice A1_8 l1_8.length c1_8) := (blk_cell BK352.out 8).trans rfl
    have hfz38_0 := blk_frozen BK352.out 0
    have hfz38_1 := blk_frozen BK352.out 1
    have hfz38_2 := blk_frozen BK352.out 2
    have hfz38_3 := blk_frozen BK352.out 3
    have hfz38_4 := blk_frozen BK352.out 4
    have hfz38_5 := blk_frozen BK352.out 5
    have hfz38_6 := blk_frozen BK352.out 6
    have hfz38_7 := blk_frozen BK352.out 7
    have hfz38_8 := blk_frozen BK352.out 8
    go_wp2
    repeat (go_quiet (fail); try go_wp2)
    go_meet
    case rel => exact ⟨_, (true), (by (rfl)), H', ⟨by (omega)⟩, ⟨by (with_reducible repeat ((refine blk_drew ?_))); exact BK351.out⟩, ⟨by (with_reducible repeat ((refine blk_drew ?_))); exact BK352.out⟩, ⟨by repeat ((with_reducible (exact HB.out)))⟩⟩
  ·rw [if_neg c6] at H
   have c6b0 : (a0_0 == a1_0) = false := beq_eq_false_iff_ne.mpr c6
   have c6b1 : (a0_0 != a1_0) = true := bne_iff_ne.mpr c6
   ((skip))
   have H' := Aside0.mk H
   clear H
   have hnb39 := NB351_352.out
   have hnc39 := NB352_351.out
   have hcz40_0 : w5.cell? ⟨gb351, 0, none⟩ = some (.int .i64 a0_0) := (blk_cell BK351.out 0).trans rfl
   have hcz40_1 : w5.cell? ⟨gb351, 1, none⟩ = some (.int .i64 a0_1) := (blk_cell BK351.out 1).trans rfl
   have hcz40_2 : w5.cell? ⟨gb351, 2, none⟩ = some (.int .i64 a0_2) := (blk_cell BK351.out 2).trans rfl
   have hcz40_3 : w5.cell? ⟨gb351, 3, none⟩ = some (.int .i64 a0_3) := (blk_cell BK351.out 3).trans rfl
   have hcz40_4 : w5.cell? ⟨gb351, 4, none⟩ = some (.int .i64 a0_4) := (blk_cell BK351.out 4).trans rfl
   have hcz40_5 : w5.cell? ⟨gb351, 5, none⟩ = some (.int .i64 a0_5) := (blk_cell BK351.out 5).trans rfl
   have hcz40_6 : w5.cell? ⟨gb351, 6, none⟩ = some (.slice A0_6 l0_6.length c0_6) := (blk_cell BK351.out 6).trans rfl
   have hcz40_7 : w5.cell? ⟨gb351, 7, none⟩ = some (.string a0_7) := (blk_cell BK351.out 7).trans rfl
   have hcz40_8 : w5.cell? ⟨gb351, 8, none⟩ = some (.slice A0_8 l0_8.length c0_8) := (blk_cell BK351.out 8).trans rfl
   have hfz40_0 := blk_frozen BK351.out 0
   have hfz40_1 := blk_frozen BK351.out 1
   have hfz40_2 := blk_frozen BK351.out 2
   have hfz40_3 := blk_frozen BK351.out 3
   have hfz40_4 := blk_frozen BK351.out 4
   have hfz40_5 := blk_frozen BK351.out 5
   have hfz40_6 := blk_frozen BK351.out 6
   have hfz40_7 := blk_frozen BK351.out 7
   have hfz40_8 := blk_frozen BK351.out 8
   have hcz41_0 : w5.cell? ⟨gb352, 0, none⟩ = some (.int .i64 a1_0) := (blk_cell BK352.out 0).trans rfl
   have hcz41_1 : w5.cell? ⟨gb352, 1, none⟩ = some (.int .i64 a1_1) := (blk_cell BK352.out 1).trans rfl
   have hcz41_2 : w5.cell? ⟨gb352, 2, none⟩ = some (.int .i64 a1_2) := (blk_cell BK352.out 2).trans rfl
   have hcz41_3 : w5.cell? ⟨gb352, 3, none⟩ = some (.int .i64 a1_3) := (blk_cell BK352.out 3).trans rfl
   have hcz41_4 : w5.cell? ⟨gb352, 4, none⟩ = some (.int .i64 a1_4) := (blk_cell BK352.out 4).trans rfl
   have hcz41_5 : w5.cell? ⟨gb352, 5, none⟩ = some (.int .i64 a1_5) := (blk_cell BK352.out 5).trans rfl
   have hcz41_6 : w5.cell? ⟨gb352, 6, none⟩ = some (.slice A1_6 l1_6.length c1_6) := (blk_cell BK352.out 6).trans rfl
   have hcz41_7 : w5.cell? ⟨gb352, 7, none⟩ = some (.string a1_7) := (blk_cell BK352.out 7).trans rfl
   have hcz41_8 : w5.cell? ⟨gb352, 8, none⟩ = some (.slice A1_8 l1_8.length c1_8) := (blk_cell BK352.out 8).trans rfl
   have hfz41_0 := blk_frozen BK352.out 0
   have hfz41_1 := blk_frozen BK352.out 1
   have hfz41_2 := blk_frozen BK352.out 2
   have hfz41_3 := blk_frozen BK352.out 3
   have hfz41_4 := blk_frozen BK352.out 4
   have hfz41_5 := blk_frozen BK352.out 5
   have hfz41_6 := blk_frozen BK352.out 6
   have hfz41_7 := blk_frozen BK352.out 7
   have hfz41_8 := blk_frozen BK352.out 8
   go_wp2
   repeat (go_quiet (fail); try go_wp2)
   go_meet
   case rel => exact ⟨_, (true), (by (rfl)), H', ⟨by (omega)⟩, ⟨by (with_reducible repeat ((refine blk_drew ?_))); exact BK351.out⟩, ⟨by (with_reducible repeat ((refine blk_drew ?_))); exact BK352.out⟩, ⟨by repeat ((with_reducible (exact HB.out)))⟩⟩
 case rest =>
  clear HC3
  try clear c1
  try clear c2
  try clear p2
  try clear c3
  try clear c6
  try clear c6b0
  try clear c6b1
  try clear c7
  try clear c7b0
  try clear c7b1
  try clear c8
  try clear c8b0
  try clear c8b1
  try clear c9
  try clear c9b0
  try clear c9b1
  try clear c10
  try clear c10b0
  try clear c10b1
  try clear c11
  try clear c11b0
  try clear c11b1
  try clear c12
  try clear c12b0
  try clear c12b1
  try clear c13
  try clear c13b0
  try clear c13b1
  try clear c13b2
  try clear c15
  try clear c18
  try clear c21
  try clear c24
  try clear c26
  try clear c27
  try clear c30
  try clear c33
  try clear c36
  try clear c39
  try clear hcz16_0
  try clear hcz16_1
  try clear hcz16_2
  try clear hcz16_3
  try clear hcz16_4
  try clear hcz16_5
  try clear hcz16_6
  try clear hcz16_7
  try clear hcz16_8
  try clear hcz17_0
  try clear hcz17_1
  try clear hcz17_2
  try clear hcz17_3
  try clear hcz17_4
  try clear hcz17_5
  try clear hcz17_6
  try clear hcz17_7
  try clear hcz17_8
  try clear hcz19_0
  try clear hcz19_1
  try clear hcz19_2
  try clear hcz19_3
  try clear hcz19_4
  try clear hcz19_5
  try clear hcz19_6
  try clear hcz19_7
  try clear hcz19_8
  try clear hcz20_0
  try clear hcz20_1
  try clear hcz20_2
  try clear hcz20_3
  try clear hcz20_4
  try clear hcz20_5
  try clear hcz20_6
  try clear hcz20_7
  try clear hcz20_8
  try clear hcz22_0
  try clear hcz22_1
  try clear hcz22_2
  try clear hcz22_3
  try clear hcz22_4
  try clear hcz22_5
  try clear hcz22_6
  try clear hcz22_7
  try clear hcz22_8
  try clear hcz23_0
  try clear hcz23_1
  try clear hcz23_2
  try clear hcz23_3
  try clear hcz23_4
  try clear hcz23_5
  try clear hcz23_6
  try clear hcz23_7
  try clear hcz23_8
  try clear hcz25_0
  try clear hcz25_1
  try clear hcz25_2
  try clear hcz25_3
  try clear hcz25_4
  try clear hcz25_5
  try clear hcz25_6
  try clear hcz25_7
  try clear hcz25_8
  try clear hcz26_0
  try clear hcz26_1
  try clear hcz26_2
  try clear hcz26_3
  try clear hcz26_4
  try clear hcz26_5
  try clear hcz26_6
  try clear hcz26_7
  try clear hcz26_8
  try clear hcz28_0
  try clear hcz28_1
  try clear hcz28_2
  try clear hcz28_3
  try clear hcz28_4
  try clear hcz28_5
  try clear hcz28_6
  try clear hcz28_7
  try clear hcz28_8
  try clear hcz29_0
  try clear hcz29_1
  try clear hcz29_2
  try clear hcz29_3
  try clear hcz29_4
  try clear hcz29_5
  try clear hcz29_6
  try clear hcz29_7
  try clear hcz29_8
  try clear hcz31_0
  try clear hcz31_1
  try clear hcz31_2
  try clear hcz31_3
  try clear hcz31_4
  try clear hcz31_5
  try clear hcz31_6
  try clear hcz31_7
  try clear hcz31_8
  try clear hcz32_0
  try clear hcz32_1
  try clear hcz32_2
  try clear hcz32_3
  try clear hcz32_4
  try clear hcz32_5
  try clear hcz32_6
  try clear hcz32_7
  try clear hcz32_8
  try clear hcz34_0
  try clear hcz34_1
  try clear hcz34_2
  try clear hcz34_3
  try clear hcz34_4
  try clear hcz34_5
  try clear hcz34_6
  try clear hcz34_7
  try clear hcz34_8
  try clear hcz35_0
  try clear hcz35_1
  try clear hcz35_2
  try clear hcz35_3
  try clear hcz35_4
  try clear hcz35_5
  try clear hcz35_6
  try clear hcz35_7
  try clear hcz35_8
  try clear hcz37_0
  try clear hcz37_1
  try clear hcz37_2
  try clear hcz37_3
  try clear hcz37_4
  try clear hcz37_5
  try clear hcz37_6
  try clear hcz37_7
  try clear hcz37_8
  try clear hcz38_0
  try clear hcz38_1
  try clear hcz38_2
  try clear hcz38_3
  try clear hcz38_4
  try clear hcz38_5
  try clear hcz38_6
  try clear hcz38_7
  try clear hcz38_8
  try clear hcz40_0
  try clear hcz40_1
  try clear hcz40_2
  try clear hcz40_3
  try clear hcz40_4
  try clear hcz40_5
  try clear hcz40_6
  try clear hcz40_7
  try clear hcz40_8
  try clear hcz41_0
  try clear hcz41_1
  try clear hcz41_2
  try clear hcz41_3
  try clear hcz41_4
  try clear hcz41_5
  try clear hcz41_6
  try clear hcz41_7
  try clear hcz41_8
  try clear hfz16_0
  try clear hfz16_1
  try clear hfz16_2
  try clear hfz16_3
  try clear hfz16_4
  try clear hfz16_5
  try clear hfz16_6
  try clear hfz16_7
  try clear hfz16_8
  try clear hfz17_0
  try clear hfz17_1
  try clear hfz17_2
  try clear hfz17_3
  try clear hfz17_4
  try clear hfz17_5
  try clear hfz17_6
  try clear hfz17_7
  try clear hfz17_8
  try clear hfz19_0
  try clear hfz19_1
  try clear hfz19_2
  try clear hfz19_3
  try clear hfz19_4
  try clear hfz19_5
  try clear hfz19_6
  try clear hfz19_7
  try clear hfz19_8
  try clear hfz20_0
  try clear hfz20_1
  try clear hfz20_2
  try clear hfz20_3
  try clear hfz20_4
  try clear hfz20_5
  try clear hfz20_6
  try clear hfz20_7
  try clear hfz20_8
  try clear hfz22_0
  try clear hfz22_1
  try clear hfz22_2
  try clear hfz22_3
  try clear hfz22_4
  try clear hfz22_5
  try clear hfz22_6
  try clear hfz22_7
  try clear hfz22_8
  try clear hfz23_0
  try clear hfz23_1
  try clear hfz23_2
  try clear hfz23_3
  try clear hfz23_4
  try clear hfz23_5
  try clear hfz23_6
  try clear hfz23_7
  try clear hfz23_8
  try clear hfz25_0
  try clear hfz25_1
  try clear hfz25_2
  try clear hfz25_3
  try clear hfz25_4
  try clear hfz25_5
  try clear hfz25_6
  try clear hfz25_7
  try clear hfz25_8
  try clear hfz26_0
  try clear hfz26_1
  try clear hfz26_2
  try clear hfz26_3
  try clear hfz26_4
  try clear hfz26_5
  try clear hfz26_6
  try clear hfz26_7
  try clear hfz26_8
  try clear hfz28_0
  try clear hfz28_1
  try clear hfz28_2
  try clear hfz28_3
  try clear hfz28_4
  try clear hfz28_5
  try clear hfz28_6
  try clear hfz28_7
  try clear hfz28_8
  try clear hfz29_0
  try clear hfz29_1
  try clear hfz29_2
  try clear hfz29_3
  try clear hfz29_4
  try clear hfz29_5
  try clear hfz29_6
  try clear hfz29_7
  try clear hfz29_8
  try clear hfz31_0
  try clear hfz31_1
  try clear hfz31_2
  try clear hfz31_3
  try clear hfz31_4
  try clear hfz31_5
  try clear hfz31_6
  try clear hfz31_7
  try clear hfz31_8
  try clear hfz32_0
  try clear hfz32_1
  try clear hfz32_2
  try clear hfz32_3
  try clear hfz32_4
  try clear hfz32_5
  try clear hfz32_6
  try clear hfz32_7
  try clear hfz32_8
  try clear hfz34_0
  try clear hfz34_1
  try clear hfz34_2
  try clear hfz34_3
  try clear hfz34_4
  try clear hfz34_5
  try clear hfz34_6
  try clear hfz34_7
  try clear hfz34_8
  try clear hfz35_0
  try clear hfz35_1
  try clear hfz35_2
  try clear hfz35_3
  try clear hfz35_4
  try clear hfz35_5
  try clear hfz35_6
  try clear hfz35_7
  try clear hfz35_8
  try clear hfz37_0
  try clear hfz37_1
  try clear hfz37_2
  try clear hfz37_3
  try clear hfz37_4
  try clear hfz37_5
  try clear hfz37_6
  try clear hfz37_7
  try clear hfz37_8
  try clear hfz38_0
  try clear hfz38_1
  try clear hfz38_2
  try clear hfz38_3
  try clear hfz38_4
  try clear hfz38_5
  try clear hfz38_6
  try clear hfz38_7
  try clear hfz38_8
  try clear hfz40_0
  try clear hfz40_1
  try clear hfz40_2
  try clear hfz40_3
  try clear hfz40_4
  try clear hfz40_5
  try clear hfz40_6
  try clear hfz40_7
  try clear hfz40_8
  try clear hfz41_0
  try clear hfz41_1
  try clear hfz41_2
  try clear hfz41_3
  try clear hfz41_4
  try clear hfz41_5
  try clear hfz41_6
  try clear hfz41_7
  try clear hfz41_8
  obtain ⟨kq, x69_2, rfl, HA, HJ2, BK351, BK352, HB⟩ := hcut
  cases kq with
  | zero => exact absurd HA.out (by simp [variorumref11_Same.j0])
  | succ kj2 =>
   have H := HA.out
   clear HA
   simp only [variorumref11_Same.j0] at H
   by_cases c42 : x69_2 = true
   ·subst c42
    have H1 : (some false) = some r := by rw [if_pos rfl] at H; exact H
    clear H
    have H := H1
    clear H1
    obtain rfl := Option.some.inj H
    go_wp2
    repeat (go_quiet (fail); try go_wp2)
    go_ret
    exact ⟨by (rfl), by repeat ((with_reducible (exact HB.out)))⟩
   ·replace c42 := Bool.eq_false_iff.mpr c42
    subst c42
    have H1 : (variorumref11_Same.l0 kj2 0 a0_0 a0_1 a0_2 a0_3 a0_4 a0_5 l0_6 a0_7 l0_8 a1_0 a1_1 a1_2 a1_3 a1_4 a1_5 l1_6 a1_7 l1_8) = some r := by rw [if_neg (show ¬ (false = true) by decide)] at H; exact H
    clear H
    have H := H1
    clear H1
    have H' := Aside0.mk H
    clear H
    go_wp2
    repeat (go_quiet (fail); try go_wp2)
    go_loopg [5] kj2 (fun kq v5 w' => ∃ (x5_2 : Int), v5 = .int .i64 x5_2 ∧ Aside0 (variorumref11_Same.l0 kq x5_2 a0_0 a0_1 a0_2 a0_3 a0_4 a0_5 l0_6 a0_7 l0_8 a1_0 a1_1 a1_2 a1_3 a1_4 a1_5 l1_6 a1_7 l1_8 = some r) ∧ Aside0 (kq ≤ kj2) ∧ Aside0 (w'.heap[gb351]? = some (.cells #[.int .i64 a0_0, .int .i64 a0_1, .int .i64 a0_2, .int .i64 a0_3, .int .i64 a0_4, .int .i64 a0_5, (.slice A0_6 l0_6.length c0_6), .string a0_7, (.slice A0_8 l0_8.length c0_8)] 44 (0, 0))) ∧ Aside0 (w'.heap[gb352]? = some (.cells #[.int .i64 a1_0, .int .i64 a1_1, .int .i64 a1_2, .int .i64 a1_3, .int .i64 a1_4, .int .i64 a1_5, (.slice A1_6 l1_6.length c1_6), .string a1_7, (.slice A1_8 l1_8.length c1_8)] 44 (0, 0))) ∧ Aside0 (Below w.heap.size w w'))
    case atStart => exact ⟨(0), (by (rfl)), H', ⟨Nat.le_refl _⟩, ⟨by (with_reducible repeat ((refine blk_drew ?_))); exact BK351.out⟩, ⟨by (with_reducible repeat ((refine blk_drew ?_))); exact BK352.out⟩, ⟨by repeat ((with_reducible (exact HB.out)))⟩⟩
    case round =>
     clear H'
     try clear c1
     try clear c2
     try clear p2
     try clear c3
     try clear c4
     try clear c6
     try clear c6b0
     try clear c6b1
     try clear c7
     try clear c7b0
     try clear c7b1
     try clear c8
     try clear c8b0
     try clear c8b1
     try clear c9
     try clear c9b0
     try clear c9b1
     try clear c10
     try clear c10b0
     try clear c10b1
     try clear c11
     try clear c11b0
     try clear c11b1
     try clear c12
     try clear c12b0
     try clear c12b1
     try clear c13
     try clear c13b0
     try clear c13b1
     try clear c13b2
     try clear c15
     try clear c18
     try clear c21
     try clear c24
     try clear c26
     try clear c27
     try clear c30
     try clear c33
     try clear c36
     try clear c39
     try clear c42
     try clear hcz16_0
     try clear hcz16_1
     try clear hcz16_2
     try clear hcz16_3
     try clear hcz16_4
     try clear hcz16_5
     try clear hcz16_6
     try clear hcz16_7
     try clear hcz16_8
     try clear hcz17_0
     try clear hcz17_1
     try clear hcz17_2
     try clear hcz17_3
     try clear hcz17_4
     try clear hcz17_5
     try clear hcz17_6
     try clear hcz17_7
     try clear hcz17_8
     try clear hcz19_0
     try clear hcz19_1
     try clear hcz19_2
     try clear hcz19_3
     try clear hcz19_4
     try clear hcz19_5
     try clear hcz19_6
     try clear hcz19_7
     try clear hcz19_8
     try clear hcz20_0
     try clear hcz20_1
     try clear hcz20_2
     try clear hcz20_3
     try clear hcz20_4
     try clear hcz20_5
     try clear hcz20_6
     try clear hcz20_7
     try clear hcz20_8
     try clear hcz22_0
     try clear hcz22_1
     try clear hcz22_2
     try clear hcz22_3
     try clear hcz22_4
     try clear hcz22_5
     try clear hcz22_6
     try clear hcz22_7
     try clear hcz22_8
     try clear hcz23_0
     try clear hcz23_1
     try clear hcz23_2
     try clear hcz23_3
     try clear hcz23_4
     try clear hcz23_5
     try clear hcz23_6
     try clear hcz23_7
     try clear hcz23_8
     try clear hcz25_0
     try clear hcz25_1
     try clear hcz25_2
     try clear hcz25_3
     try clear hcz25_4
     try clear hcz25_5
     try clear hcz25_6
     try clear hcz25_7
     try clear hcz25_8
     try clear hcz26_0
     try clear hcz26_1
     try clear hcz26_2
     try clear hcz26_3
     try clear hcz26_4
     try clear hcz26_5
     try clear hcz26_6
     try clear hcz26_7
     try clear hcz26_8
     try clear hcz28_0
     try clear hcz28_1
     try clear hcz28_2
     try clear hcz28_3
     try clear hcz28_4
     try clear hcz28_5
     try clear hcz28_6
     try clear hcz28_7
     try clear hcz28_8
     try clear hcz29_0
     try clear hcz29_1
     try clear hcz29_2
     try clear hcz29_3
     try clear hcz29_4
     try clear hcz29_5
     try clear hcz29_6
     try clear hcz29_7
     try clear hcz29_8
     try clear hcz31_0
     try clear hcz31_1
     try clear hcz31_2
     try clear hcz31_3
     try clear hcz31_4
     try clear hcz31_5
     try clear hcz31_6
     try clear hcz31_7
     try clear hcz31_8
     try clear hcz32_0
     try clear hcz32_1
     try clear hcz32_2
     try clear hcz32_3
     try clear hcz32_4
     try clear hcz32_5
     try clear hcz32_6
     try clear hcz32_7
     try clear hcz32_8
     try clear hcz34_0
     try clear hcz34_1
     try clear hcz34_2
     try clear hcz34_3
     try clear hcz34_4
     try clear hcz34_5
     try clear hcz34_6
     try clear hcz34_7
     try clear hcz34_8
     try clear hcz35_0
     try clear hcz35_1
     try clear hcz35_2
     try clear hcz35_3
     try clear hcz35_4
     try clear hcz35_5
     try clear hcz35_6
     try clear hcz35_7
     try clear hcz35_8
     try clear hcz37_0
     try clear hcz37_1
     try clear hcz37_2
     try clear hcz37_3
     try clear hcz37_4
     try clear hcz37_5
     try clear hcz37_6
     try clear hcz37_7
     try clear hcz37_8
     try clear hcz38_0
     try clear hcz38_1
     try clear hcz38_2
     try clear hcz38_3
     try clear hcz38_4
     try clear hcz38_5
     try clear hcz38_6
     try clear hcz38_7
     try clear hcz38_8
     try clear hcz40_0
     try clear hcz40_1
     try clear hcz40_2
     try clear hcz40_3
     try clear hcz40_4
     try clear hcz40_5
     try clear hcz40_6
     try clear hcz40_7
     try clear hcz40_8
     try clear hcz41_0
     try clear hcz41_1
     try clear hcz41_2
     try clear hcz41_3
     try clear hcz41_4
     try clear hcz41_5
     try clear hcz41_6
     try clear hcz41_7
     try clear hcz41_8
     try clear hfz16_0
     try clear hfz16_1
     try clear hfz16_2
     try clear hfz16_3
     try clear hfz16_4
     try clear hfz16_5
     try clear hfz16_6
     try clear hfz16_7
     try clear hfz16_8
     try clear hfz17_0
     try clear hfz17_1
     try clear hfz17_2
     try clear hfz17_3
     try clear hfz17_4
     try clear hfz17_5
     try clear hfz17_6
     try clear hfz17_7
     try clear hfz17_8
     try clear hfz19_0
     try clear hfz19_1
     try clear hfz19_2
     try clear hfz19_3
     try clear hfz19_4
     try clear hfz19_5
     try clear hfz19_6
     try clear hfz19_7
     try clear hfz19_8
     try clear hfz20_0
     try clear hfz20_1
     try clear hfz20_2
     try clear hfz20_3
     try clear hfz20_4
     try clear hfz20_5
     try clear hfz20_6
     try clear hfz20_7
     try clear hfz20_8
     try clear hfz22_0
     try clear hfz22_1
     try clear hfz22_2
     try clear hfz22_3
     try clear hfz22_4
     try clear hfz22_5
     try clear hfz22_6
     try clear hfz22_7
     try clear hfz22_8
     try clear hfz23_0
     try clear hfz23_1
     try clear hfz23_2
     try clear hfz23_3
     try clear hfz23_4
     try clear hfz23_5
     try clear hfz23_6
     try clear hfz23_7
     try clear hfz23_8
     try clear hfz25_0
     try clear hfz25_1
     try clear hfz25_2
     try clear hfz25_3
     try clear hfz25_4
     try clear hfz25_5
     try clear hfz25_6
     try clear hfz25_7
     try clear hfz25_8
     try clear hfz26_0
     try clear hfz26_1
     try clear hfz26_2
     try clear hfz26_3
     try clear hfz26_4
     try clear hfz26_5
     try clear hfz26_6
     try clear hfz26_7
     try clear hfz26_8
     try clear hfz28_0
     try clear hfz28_1
     try clear hfz28_2
     try clear hfz28_3
     try clear hfz28_4
     try clear hfz28_5
     try clear hfz28_6
     try clear hfz28_7
     try clear hfz28_8
     try clear hfz29_0
     try clear hfz29_1
     try clear hfz29_2
     try clear hfz29_3
     try clear hfz29_4
     try clear hfz29_5
     try clear hfz29_6
     try clear hfz29_7
     try clear hfz29_8
     try clear hfz31_0
     try clear hfz31_1
     try clear hfz31_2
     try clear hfz31_3
     try clear hfz31_4
     try clear hfz31_5
     try clear hfz31_6
     try clear hfz31_7
     try clear hfz31_8
     try clear hfz32_0
     try clear hfz32_1
     try clear hfz32_2
     try clear hfz32_3
     try clear hfz32_4
     try clear hfz32_5
     try clear hfz32_6
     try clear hfz32_7
     try clear hfz32_8
     try clear hfz34_0
     try clear hfz34_1
     try clear hfz34_2
     try clear hfz34_3
     try clear hfz34_4
     try clear hfz34_5
     try clear hfz34_6
     try clear hfz34_7
     try clear hfz34_8
     try clear hfz35_0
     try clear hfz35_1
     try clear hfz35_2
     try clear hfz35_3
     try clear hfz35_4
     try clear hfz35_5
     try clear hfz35_6
     try clear hfz35_7
     try clear hfz35_8
     try clear hfz37_0
     try clear hfz37_1
     try clear hfz37_2
     try clear hfz37_3
     try clear hfz37_4
     try clear hfz37_5
     try clear hfz37_6
     try clear hfz37_7
     try clear hfz37_8
     try clear hfz38_0
     try clear hfz38_1
     try clear hfz38_2
     try clear hfz38_3
     try clear hfz38_4
     try clear hfz38_5
     try clear hfz38_6
     try clear hfz38_7
     try clear hfz38_8
     try clear hfz40_0
     try clear hfz40_1
     try clear hfz40_2
     try clear hfz40_3
     try clear hfz40_4
     try clear hfz40_5
     try clear hfz40_6
     try clear hfz40_7
     try clear hfz40_8
     try clear hfz41_0
     try clear hfz41_1
     try clear hfz41_2
     try clear hfz41_3
     try clear hfz41_4
     try clear hfz41_5
     try clear hfz41_6
     try clear hfz41_7
     try clear hfz41_8
     try clear p2
     obtain ⟨x5_2, rfl, HA, HK2, BK351, BK352, HB⟩ := hrel
     cases gk with
     | zero => exact absurd HA.out (by simp [variorumref11_Same.l0])
     | succ k2 =>
      have H := HA.out
      clear HA
      simp only [variorumref11_Same.l0] at H
      by_cases c43 : x5_2 < (l0_8.length : Int)
      ·rw [if_pos c43] at H
       have c43b0 : decide (x5_2 < (l0_8.length : Int)) = true := decide_eq_true c43
       clear c43
       by_cases c44 : 0 ≤ x5_2
       ·rw [if_pos c44] at H
        have c44b0 : decide (0 ≤ x5_2) = true := decide_eq_true c44
        clear c44
        by_cases c45 : x5_2 < (l1_8.length : Int)
        ·rw [if_pos c45] at H
         have c45b0 : decide (x5_2 < (l1_8.length : Int)) = true := decide_eq_true c45
         clear c45
         by_cases c46 : ((!(((rd_T104 l0_8 x5_2).f0.f0) == ((rd_T104 l1_8 x5_2).f0.f0)) || (!(((rd_T104 l0_8 x5_2).f0.f1) == ((rd_T104 l1_8 x5_2).f0.f1)))) || (!(((rd_T104 l0_8 x5_2).f1) == ((rd_T104 l1_8 x5_2).f1)))) = true
         ·rw [if_pos c46] at H
          have c46b0 : ((!(((rd_T104 l0_8 x5_2).f0.f0) == ((rd_T104 l1_8 x5_2).f0.f0)) || (!(((rd_T104 l0_8 x5_2).f0.f1) == ((rd_T104 l1_8 x5_2).f0.f1)))) || (!(((rd_T104 l0_8 x5_2).f1) == ((rd_T104 l1_8 x5_2).f1)))) = true := c46
          clear c46
          obtain rfl := Option.some.inj H
          have hnb47 := NB351_352.out
          have hnc47 := NB352_351.out
          have hcz48_0 : wr.cell? ⟨gb351, 0, none⟩ = some (.int .i64 a0_0) := (blk_cell BK351.out 0).trans rfl
          have hcz48_1 : wr.cell? ⟨gb351, 1, none⟩ = some (.int .i64 a0_1) := (blk_cell BK351.out 1).trans rfl
          have hcz48_2 : wr.cell? ⟨gb351, 2, none⟩ = some (.int .i64 a0_2) := (blk_cell BK351.out 2).trans rfl
          have hcz48_3 : wr.cell? ⟨gb351, 3, none⟩ = some (.int .i64 a0_3) := (blk_cell BK351.out 3).trans rfl
          have hcz48_4 : wr.cell? ⟨gb351, 4, none⟩ = some (.int .i64 a0_4) := (blk_cell BK351.out 4).trans rfl
          have hcz48_5 : wr.cell? ⟨gb351, 5, none⟩ = some (.int .i64 a0_5) := (blk_cell BK351.out 5).trans rfl
          have hcz48_6 : wr.cell? ⟨gb351, 6, none⟩ = some (.slice A0_6 l0_6.length c0_6) := (blk_cell BK351.out 6).trans rfl
          have hcz48_7 : wr.cell? ⟨gb351, 7, none⟩ = some (.string a0_7) := (blk_cell BK351.out 7).trans rfl
          have hcz48_8 : wr.cell? ⟨gb351, 8, none⟩ = some (.slice A0_8 l0_8.length c0_8) := (blk_cell BK351.out 8).trans rfl
          have hfz48_0 := blk_frozen BK351.out 0
          have hfz48_1 := blk_frozen BK351.out 1
          have hfz48_2 := blk_frozen BK351.out 2
          have hfz48_3 := blk_frozen BK351.out 3
          have hfz48_4 := blk_frozen BK351.out 4
          have hfz48_5 := blk_frozen BK351.out 5
          have hfz48_6 := blk_frozen BK351.out 6
          have hfz48_7 := blk_frozen BK351.out 7
          have hfz48_8 := blk_frozen BK351.out 8
          have p354 : 0 ≤ (x5_2 : Int) := of_decide_eq_true (by (with_reducible assumption))
          have q354 : x5_2 < (l0_8.length : Int) := of_decide_eq_true (by (with_reducible assumption))
          obtain ⟨ad354, e354, hx354_0, hx354_1, hx354_2⟩ := at_T104 HR0_8.out x5_2 p354 q354
          cases e354
          replace hx354_0 := (HB.out.cell (World.block_lt_of_cell? w _ hx354_0)).trans hx354_0
          replace hx354_1 := (HB.out.cell (World.block_lt_of_cell? w _ hx354_1)).trans hx354_1
          replace hx354_2 := (HB.out.cell (World.block_lt_of_cell? w _ hx354_2)).trans hx354_2
          replace p354 := eq_true p354
          replace q354 := eq_true q354
          have hcz49_0 : wr.cell? ⟨gb352, 0, none⟩ = some (.int .i64 a1_0) := (blk_cell BK352.out 0).trans rfl
          have hcz49_1 : wr.cell? ⟨gb352, 1, none⟩ = some (.int .i64 a1_1) := (blk_cell BK352.out 1).trans rfl
          have hcz49_2 : wr.cell? ⟨gb352, 2, none⟩ = some (.int .i64 a1_2) := (blk_cell BK352.out 2).trans rfl
          have hcz49_3 : wr.cell? ⟨gb352, 3, none⟩ = some (.int .i64 a1_3) := (blk_cell BK352.out 3).trans rfl
          have hcz49_4 : wr.cell? ⟨gb352, 4, none⟩ = some (.int .i64 a1_4) := (blk_cell BK352.out 4).trans rfl
          have hcz49_5 : wr.cell? ⟨gb352, 5, none⟩ = some (.int .i64 a1_5) := (blk_cell BK352.out 5).trans rfl
          have hcz49_6 : wr.cell? ⟨gb352, 6, none⟩ = some (.slice A1_6 l1_6.length c1_6) := (blk_cell BK352.out 6).trans rfl
          have hcz49_7 : wr.cell? ⟨gb352, 7, none⟩ = some (.string a1_7) := (blk_cell BK352.out 7).trans rfl
          have hcz49_8 : wr.cell? ⟨gb352, 8, none⟩ = some (.slice A1_8 l1_8.length c1_8) := (blk_cell BK352.out 8).trans rfl
          have hfz49_0 := blk_frozen BK352.out 0
          have hfz49_1 := blk_frozen BK352.out 1
          have hfz49_2 := blk_frozen BK352.out 2
          have hfz49_3 := blk_frozen BK352.out 3
          have hfz49_4 := blk_frozen BK352.out 4
          have hfz49_5 := blk_frozen BK352.out 5
          have hfz49_6 := blk_frozen BK352.out 6
          have hfz49_7 := blk_frozen BK352.out 7
          have hfz49_8 := blk_frozen BK352.out 8
          have p355 : 0 ≤ (x5_2 : Int) := of_decide_eq_true (by (with_reducible assumption))
          have q355 : x5_2 < (l1_8.length : Int) := of_decide_eq_true (by (with_reducible assumption))
          obtain ⟨ad355, e355, hx355_0, hx355_1, hx355_2⟩ := at_T104 HR1_8.out x5_2 p355 q355
          cases e355
          replace hx355_0 := (HB.out.cell (World.block_lt_of_cell? w _ hx355_0)).trans hx355_0
          replace hx355_1 := (HB.out.cell (World.block_lt_of_cell? w _ hx355_1)).trans hx355_1
          replace hx355_2 := (HB.out.cell (World.block_lt_of_cell? w _ hx355_2)).trans hx355_2
          replace p355 := eq_true p355
          replace q355 := eq_true q355
          go_wp2
          repeat (go_quiet (fail); try go_wp2)
          go_ret
          exact ⟨by (rfl), by repeat ((with_reducible first | exact HB.out | apply pw_below_drewN))⟩
         ·rw [if_neg c46] at H
          have c46b0 : ((!(((rd_T104 l0_8 x5_2).f0.f0) == ((rd_T104 l1_8 x5_2).f0.f0)) || (!(((rd_T104 l0_8 x5_2).f0.f1) == ((rd_T104 l1_8 x5_2).f0.f1)))) || (!(((rd_T104 l0_8 x5_2).f1) == ((rd_T104 l1_8 x5_2).f1)))) = false := by simpa using c46
          clear c46
          have H' := Aside0.mk H
          clear H
          have hnb50 := NB351_352.out
          have hnc50 := NB352_351.out
          have hcz51_0 : wr.cell? ⟨gb351, 0, none⟩ = some (.int .i64 a0_0) := (blk_cell BK351.out 0).trans rfl
          have hcz51_1 : wr.cell? ⟨gb351, 1, none⟩ = some (.int .i64 a0_1) := (blk_cell BK351.out 1).trans rfl
          have hcz51_2 : wr.cell? ⟨gb351, 2, none⟩ = some (.int .i64 a0_2) := (blk_cell BK351.out 2).trans rfl
          have hcz51_3 : wr.cell? ⟨gb351, 3, none⟩ = some (.int .i64 a0_3) := (blk_cell BK351.out 3).trans rfl
          have hcz51_4 : wr.cell? ⟨gb351, 4, none⟩ = some (.int .i64 a0_4) := (blk_cell BK351.out 4).trans rfl
          have hcz51_5 : wr.cell? ⟨gb351, 5, none⟩ = some (.int .i64 a0_5) := (blk_cell BK351.out 5).trans rfl
          have hcz51_6 : wr.cell? ⟨gb351, 6, none⟩ = some (.slice A0_6 l0_6.length c0_6) := (blk_cell BK351.out 6).trans rfl
          have hcz51_7 : wr.cell? ⟨gb351, 7, none⟩ = some (.string a0_7) := (blk_cell BK351.out 7).trans rfl
          have hcz51_8 : wr.cell? ⟨gb351, 8, none⟩ = some (.slice A0_8 l0_8.length c0_8) := (blk_cell BK351.out 8).trans rfl
          have hfz51_0 := blk_frozen BK351.out 0
          have hfz51_1 := blk_frozen BK351.out 1
          have hfz51_2 := blk_frozen BK351.out 2
          have hfz51_3 := blk_frozen BK351.out 3
          have hfz51_4 := blk_frozen BK351.out 4
          have hfz51_5 := blk_frozen BK351.out 5
          have hfz51_6 := blk_frozen BK351.out 6
          have hfz51_7 := blk_frozen BK351.out 7
          have hfz51_8 := blk_frozen BK351.out 8
          have p354 : 0 ≤ (x5_2 : Int) := of_decide_eq_true (by (with_reducible assumption))
          have q354 : x5_2 < (l0_8.length : Int) := of_decide_eq_true (by (with_reducible assumption))
          obtain ⟨ad354, e354, hx354_0, hx354_1, hx354_2⟩ := at_T104 HR0_8.out x5_2 p354 q354
          cases e354
          replace hx354_0 := (HB.out.cell (World.block_lt_of_cell? w _ hx354_0)).trans hx354_0
          replace hx354_1 := (HB.out.cell (World.block_lt_of_cell? w _ hx354_1)).trans hx354_1
          replace hx354_2 := (HB.out.cell (World.block_lt_of_cell? w _ hx354_2)).trans hx354_2
          replace p354 := eq_true p354
          replace q354 := eq_true q354
          have hcz52_0 : wr.cell? ⟨gb352, 0, none⟩ = some (.int .i64 a1_0) := (blk_cell BK352.out 0).trans rfl
          have hcz52_1 : wr.cell? ⟨gb352, 1, none⟩ = some (.int .i64 a1_1) := (blk_cell BK352.out 1).trans rfl
          have hcz52_2 : wr.cell? ⟨gb352, 2, none⟩ = some (.int .i64 a1_2) := (blk_cell BK352.out 2).trans rfl
          have hcz52_3 : wr.cell? ⟨gb352, 3, none⟩ = some (.int .i64 a1_3) := (blk_cell BK352.out 3).trans rfl
          have hcz52_4 : wr.cell? ⟨gb352, 4, none⟩ = some (.int .i64 a1_4) := (blk_cell BK352.out 4).trans rfl
          have hcz52_5 : wr.cell? ⟨gb352, 5, none⟩ = some (.int .i64 a1_5) := (blk_cell BK352.out 5).trans rfl
          have hcz52_6 : wr.cell? ⟨gb352, 6, none⟩ = some (.slice A1_6 l1_6.length c1_6) := (blk_cell BK352.out 6).trans rfl
          have hcz52_7 : wr.cell? ⟨gb352, 7, none⟩ = some (.string a1_7) := (blk_cell BK352.out 7).trans rfl
          have hcz52_8 : wr.cell? ⟨gb352, 8, none⟩ = some (.slice A1_8 l1_8.length c1_8) := (blk_cell BK352.out 8).trans rfl
          have hfz52_0 := blk_frozen BK352.out 0
          have hfz52_1 := blk_frozen BK352.out 1
          have hfz52_2 := blk_frozen BK352.out 2
          have hfz52_3 := blk_frozen BK352.out 3
          have hfz52_4 := blk_frozen BK352.out 4
          have hfz52_5 := blk_frozen BK352.out 5
          have hfz52_6 := blk_frozen BK352.out 6
          have hfz52_7 := blk_frozen BK352.out 7
          have hfz52_8 := blk_frozen BK352.out 8
          have p355 : 0 ≤ (x5_2 : Int) := of_decide_eq_true (by (with_reducible assumption))
          have q355 : x5_2 < (l1_8.length : Int) := of_decide_eq_true (by (with_reducible assumption))
          obtain ⟨ad355, e355, hx355_0, hx355_1, hx355_2⟩ := at_T104 HR1_8.out x5_2 p355 q355
          cases e355
          replace hx355_0 := (HB.out.cell (World.block_lt_of_cell? w _ hx355_0)).trans hx355_0
          replace hx355_1 := (HB.out.cell (World.block_lt_of_cell? w _ hx355_1)).trans hx355_1
          replace hx355_2 := (HB.out.cell (World.block_lt_of_cell? w _ hx355_2)).trans hx355_2
          replace p355 := eq_true p355
          replace q355 := eq_true q355
          go_wp2
          repeat (go_quiet (fail); try go_wp2)
          go_roundg k2
          case measure => have := HJ2.out; have := HK2.out; omega
          case rel => exact ⟨(wrap64 (x5_2 + 1)), (by (rfl)), H', ⟨by have := HJ2.out; have := HK2.out; omega⟩, ⟨by (with_reducible repeat ((refine blk_drewN ?_ _))); exact BK351.out⟩, ⟨by (with_reducible repeat ((refine blk_drewN ?_ _))); exact BK352.out⟩, ⟨by repeat ((with_reducible first | exact HB.out | apply pw_below_drewN))⟩⟩
        ·rw [if_neg c45] at H
         exact absurd H (by simp)
       ·rw [if_neg c44] at H
        exact absurd H (by simp)
      ·rw [if_neg c43] at H
       have c43b0 : decide (x5_2 < (l0_8.length : Int)) = false := decide_eq_false c43
       clear c43
       obtain rfl := Option.some.inj H
       have hnb53 := NB351_352.out
       have hnc53 := NB352_351.out
       have hcz54_0 : wr.cell? ⟨gb351, 0, none⟩ = some (.int .i64 a0_0) := (blk_cell BK351.out 0).trans rfl
       have hcz54_1 : wr.cell? ⟨gb351, 1, none⟩ = some (.int .i64 a0_1) := (blk_cell BK351.out 1).trans rfl
       have hcz54_2 : wr.cell? ⟨gb351, 2, none⟩ = some (.int .i64 a0_2) := (blk_cell BK351.out 2).trans rfl
       have hcz54_3 : wr.cell? ⟨gb351, 3, none⟩ = some (.int .i64 a0_3) := (blk_cell BK351.out 3).trans rfl
       have hcz54_4 : wr.cell? ⟨gb351, 4, none⟩ = some (.int .i64 a0_4) := (blk_cell BK351.out 4).trans rfl
       have hcz54_5 : wr.cell? ⟨gb351, 5, none⟩ = some (.int .i64 a0_5) := (blk_cell BK351.out 5).trans rfl
       have hcz54_6 : wr.cell? ⟨gb351, 6, none⟩ = some (.slice A0_6 l0_6.length c0_6) := (blk_cell BK351.out 6).trans rfl
       have hcz54_7 : wr.cell? ⟨gb351, 7, none⟩ = some (.string a0_7) := (blk_cell BK351.out 7).trans rfl
       have hcz54_8 : wr.cell? ⟨gb351, 8, none⟩ = some (.slice A0_8 l0_8.length c0_8) := (blk_cell BK351.out 8).trans rfl
       have hfz54_0 := blk_frozen BK351.out 0
       have hfz54_1 := blk_frozen BK351.out 1
       have hfz54_2 := blk_frozen BK351.out 2
       have hfz54_3 := blk_frozen BK351.out 3
       have hfz54_4 := blk_frozen BK351.out 4
       have hfz54_5 := blk_frozen BK351.out 5
       have hfz54_6 := blk_frozen BK351.out 6
       have hfz54_7 := blk_frozen BK351.out 7
       have hfz54_8 := blk_frozen BK351.out 8
       go_wp2
       repeat (go_quiet (fail); try go_wp2)
       go_ret
       exact ⟨by (rfl), by repeat ((with_reducible (exact HB.out)))⟩
end Go.Proofs.Ytedfcjcnhgomoaa.P
end
-- MERGED YtedfcjcnhgomoaaPapiRun71
section
namespace Go.Proofs.Ytedfcjcnhgomoaa.P
open Go.RowKit Go.Proofs.YtedfcjcnhgomoaaW.PrintWords Go.Proofs.YtedfcjcnhgomoaaW.PrintLast Go.Proofs.YtedfcjcnhgomoaaW.PrintMore
attribute [local go_sem] max2_int min2_int max_two min_two max_three min_three max_four min_four   -- for this text's walks alone
set_option linter.unusedVariables false
set_option linter.unusedSimpArgs false
attribute [local go_sem high] eqA85
def api_Run_71.l0 : Nat → List (S85) → List (S85) → Int → Int → Option (Bool)
 | 0, _, _, _, _ => none
 | k + 1, x0, x1, x12, x13 => if x13 < x12 then (if 0 ≤ x13 then (if x13 < (x0.length : Int) then (if x13 < (x1.length : Int) then (if (!(((rd_T85 x0 x13).f0) == ((rd_T85 x1 x13).f0)) || (!((((rd_T85 x0 x13).f1).toList) == (((rd_T85 x1 x13).f1).toList)) || (!(((rd_T85 x0 x13).f2) == ((rd_T85 x1 x13).f2))))) = true then (some false) else (api_Run_71.l0 k x0 x1 x12 (wrap64 (x13 + 1)))) else (none)) else (none)) else (none)) else (some true)
def api_Run_71.f (k : Nat) (l0 : List (S85)) (l1 : List (S85)) : Option (Bool) := if (l0.length : Int) = (l1.length : Int) then (api_Run_71.l0 k l0 l1 (l0.length : Int) 0) else (some false)
end Go.Proofs.Ytedfcjcnhgomoaa.P
end
-- MERGED YtedfcjcnhgomoaaPapiNote72
section
namespace Go.Proofs.Ytedfcjcnhgomoaa.P
open Go.RowKit Go.Proofs.YtedfcjcnhgomoaaW.PrintWords Go.Proofs.YtedfcjcnhgomoaaW.PrintLast Go.Proofs.YtedfcjcnhgomoaaW.PrintMore
attribute [local go_sem] max2_int min2_int max_two min_two max_three min_three max_four min_four   -- for this text's walks alone
set_option linter.unusedVariables false
set_option linter.unusedSimpArgs false
attribute [local go_sem high] eqA104
def api_Note_72.l0 : Nat → List (S104) → List (S104) → Int → Int → Option (Bool)
 | 0, _, _, _, _ => none
 | k + 1, x0, x1, x12, x13 => if x13 < x12 then (if 0 ≤ x13 then (if x13 < (x0.length : Int) then (if x13 < (x1.length : Int) then (if ((!(((rd_T104 x0 x13).f0.f0) == ((rd_T104 x1 x13).f0.f0)) || (!(((rd_T104 x0 x13).f0.f1) == ((rd_T104 x1 x13).f0.f1)))) || (!(((rd_T104 x0 x13).f1) == ((rd_T104 x1 x13).f1)))) = true then (some false) else (api_Note_72.l0 k x0 x1 x12 (wrap64 (x13 + 1)))) else (none)) else (none)) else (none)) else (some true)
def api_Note_72.f (k : Nat) (l0 : List (S104)) (l1 : List (S104)) : Option (Bool) := if (l0.length : Int) = (l1.length : Int) then (api_Note_72.l0 k l0 l1 (l0.length : Int) 0) else (some false)
end Go.Proofs.Ytedfcjcnhgomoaa.P
end
-- MERGED YtedfcjcnhgomoaaMsgS
section
namespace Go.Proofs.Ytedfcjcnhgomoaa.MsgS
open Go.RowKit Go.Proofs.Ytedfcjcnhgomoaa.EditK Go.Proofs.Ytedfcjcnhgomoaa.P Go.Proofs.YtedfcjcnhgomoaaW.PrintWords Go.Proofs.YtedfcjcnhgomoaaW.PrintLast Go.Proofs.YtedfcjcnhgomoaaW.PrintMore Go.Proofs.Ytedfcjcnhgomoaa.Own Go.Proofs.Ytedfcjcnhgomoaa.NoteN Go.Proofs.Ytedfcjcnhgomoaa.MsgA Go.Proofs.Ytedfcjcnhgomoaa.MsgD Go.Proofs.Ytedfcjcnhgomoaa.MsgW Go.Proofs.Ytedfcjcnhgomoaa.MsgE
set_option linter.unusedSimpArgs false
set_option linter.unusedVariables false
abbrev Rn := EditL.Rn
theorem tl_inj {a b : ByteArray} (h : a.toList = b.toList) : a = b := by
 rw [ByteArray.toList_eq, ByteArray.toList_eq] at h
 obtain ⟨⟨x⟩⟩ := a
 obtain ⟨⟨y⟩⟩ := b
 have : x = y := h
 rw [this]
theorem run_ne {x y : Rn} : (!(x.f0 == y.f0) || (!(x.f1.toList == y.f1.toList) || (!(x.f2 == y.f2)))) = true ↔ x ≠ y := by
 rw [Bool.or_eq_true, Bool.or_eq_true, Bool.not_eq_true', Bool.not_eq_true', Bool.not_eq_true', beq_eq_false_iff_ne, beq_eq_false_iff_ne, beq_eq_false_iff_ne]
 obtain ⟨a, b, c⟩ := x
 obtain ⟨a', b', c'⟩ := y
 simp only
 constructor
 ·rintro h e
  injection e with e1 e2 e3
  subst e1; subst e2; subst e3
  rcases h with h | h | h <;> exact h rfl
 ·intro h
  by_cases h1 : a = a'
  ·by_cases h3 : c = c'
   ·refine .inr (.inl fun e => h ?_)
    rw [h1, h3, tl_inj e]
   ·exact .inr (.inr h3)
  ·exact .inl h1
theorem note_ne {x y : Nt} : ((!(x.f0.f0 == y.f0.f0) || (!(x.f0.f1 == y.f0.f1))) || (!(x.f1 == y.f1))) = true ↔ x ≠ y := by
 rw [Bool.or_eq_true, Bool.or_eq_true, Bool.not_eq_true', Bool.not_eq_true', Bool.not_eq_true', beq_eq_false_iff_ne, beq_eq_false_iff_ne, beq_eq_false_iff_ne]
 obtain ⟨⟨a, b⟩, c⟩ := x
 obtain ⟨⟨a', b'⟩, c'⟩ := y
 simp only
 constructor
 ·rintro h e
  injection e with e1 e3
  injection e1 with e1 e2
  subst e1; subst e2; subst e3
  rcases h with (h | h) | h <;> exact h rfl
 ·intro h
  by_cases h1 : a = a'
  ·by_cases h2 : b = b'
   ·exact .inr fun e => h (by rw [h1, h2, e])
   ·exact .inl (.inr h2)
  ·exact .inl (.inl h1)
theorem snoc' {α : Type} {l pre suf : List α} {r : α} (h : l = pre ++ r :: suf) : l = (pre ++ [r]) ++ suf ∧ ((pre ++ [r]).length : Int) = (pre.length : Int) + 1 ∧ (pre.length : Int) < (l.length : Int) := by
 refine ⟨by rw [h]; simp, by simp, by rw [h]; simp; omega⟩
theorem nt_at {l pre suf : List Nt} {r : Nt} (h : l = pre ++ r :: suf) : rd_T104 l (pre.length : Int) = r := by
 subst h
 unfold rd_T104
 rw [Int.toNat_natCast, List.getD_eq_getElem?_getD, List.getElem?_append_right (Nat.le_refl _), Nat.sub_self]; rfl
theorem r6_l (x y : List Rn) (hx : x.length ≤ 140737488351232) : ∀ (s t pre pre' : List Rn) (k : Nat), x = pre ++ s → y = pre' ++ t → pre.length = pre'.length → s.length = t.length → s.length < k →
  ∃ b, variorumref06_Same.l0 k x y (pre.length : Int) = some b ∧ (b = true ↔ s = t) := by
 intro s
 induction s with
 | nil =>
  intro t pre pre' k hxe hye hpp hst hk
  obtain ⟨k, rfl⟩ : ∃ m, k = m + 1 := ⟨k - 1, by omega⟩
  obtain rfl : t = [] := List.eq_nil_of_length_eq_zero hst.symm
  have : x.length = pre.length := by rw [hxe]; simp
  simp only [variorumref06_Same.l0]
  rw [if_neg (by omega)]
  exact ⟨true, rfl, by simp⟩
 | cons r s ih =>
  intro t pre pre' k hxe hye hpp hst hk
  obtain ⟨k, rfl⟩ : ∃ m, k = m + 1 := ⟨k - 1, by omega⟩
  cases t with
  | nil => simp at hst
  | cons q t =>
   obtain ⟨hl2, hn, hlt⟩ := snoc' hxe
   obtain ⟨hl2', hn', hlt'⟩ := snoc' hye
   obtain ⟨b, hb, hb2⟩ := ih t (pre ++ [r]) (pre' ++ [q]) k hl2 hl2' (by simp [hpp]) (by simpa using hst) (by simp at hk; omega)
   rw [hn] at hb
   have e1 := rd_at hxe
   have e2 := rd_at hye
   rw [← hpp] at e2
   simp only [variorumref06_Same.l0]
   rw [if_pos hlt, if_pos (by omega), if_pos (by omega), e1, e2, w64 (x := (pre.length : Int) + 1) (by omega) (by omega), hb]
   by_cases h : r = q
   ·rw [if_neg (fun h2 => run_ne.1 h2 h)]
    exact ⟨b, rfl, by rw [hb2]; simp [h]⟩
   ·rw [if_pos (run_ne.2 h)]
    exact ⟨false, rfl, by simp [h]⟩
theorem r6_f {x y : List Rn} (hx : x.length ≤ 140737488351232) (k : Nat) (hk : x.length < k) : ∃ b, variorumref06_Same.f k x y = some b ∧ (b = true ↔ x = y) := by
 unfold variorumref06_Same.f
 by_cases h : x.length = y.length
 ·rw [if_pos (by omega)]
  exact r6_l x y hx x y [] [] k rfl rfl rfl h hk
 ·rw [if_neg (by omega)]
  exact ⟨false, rfl, by simp; intro e; exact h (by rw [e])⟩
theorem r11_l (x y : List Nt) (hx : x.length ≤ 140737488351232) (p0 p1 p2 p3 p4 p5 : Int) (p6 : List Rn) (p7 : ByteArray) (q0 q1 q2 q3 q4 q5 : Int) (q6 : List Rn) (q7 : ByteArray) : ∀ (s t pre pre' : List Nt) (k : Nat), x = pre ++ s → y = pre' ++ t → pre.length = pre'.length → s.length = t.length → s.length < k →
  ∃ b, variorumref11_Same.l0 k (pre.length : Int) p0 p1 p2 p3 p4 p5 p6 p7 x q0 q1 q2 q3 q4 q5 q6 q7 y = some b ∧ (b = true ↔ s = t) := by
 intro s
 induction s with
 | nil =>
  intro t pre pre' k hxe hye hpp hst hk
  obtain ⟨k, rfl⟩ : ∃ m, k = m + 1 := ⟨k - 1, by omega⟩
  obtain rfl : t = [] := List.eq_nil_of_length_eq_zero hst.symm
  have : x.length = pre.length := by rw [hxe]; simp
  simp only [variorumref11_Same.l0]
  rw [if_neg (by omega)]
  exact ⟨true, rfl, by simp⟩
 | cons r s ih =>
  intro t pre pre' k hxe hye hpp hst hk
  obtain ⟨k, rfl⟩ : ∃ m, k = m + 1 := ⟨k - 1, by omega⟩
  cases t with
  | nil => simp at hst
  | cons q t =>
   obtain ⟨hl2, hn, hlt⟩ := snoc' hxe
   obtain ⟨hl2', hn', hlt'⟩ := snoc' hye
   obtain ⟨b, hb, hb2⟩ := ih t (pre ++ [r]) (pre' ++ [q]) k hl2 hl2' (by simp [hpp]) (by simpa using hst) (by simp at hk; omega)
   rw [hn] at hb
   have e1 := nt_at hxe
   have e2 := nt_at hye
   rw [← hpp] at e2
   simp only [variorumref11_Same.l0]
   rw [if_pos hlt, if_pos (by omega), if_pos (by omega), e1, e2, w64 (x := (pre.length : Int) + 1) (by omega) (by omega), hb]
   by_cases h : r = q
   ·rw [if_neg (fun h2 => note_ne.1 h2 h)]
    exact ⟨b, rfl, by rw [hb2]; simp [h]⟩
   ·rw [if_pos (note_ne.2 h)]
    exact ⟨false, rfl, by simp [h]⟩
theorem j0_r (k : Nat) (z : Bool) (a b : Ms) (hz : z = false → ∃ r, variorumref11_Same.l0 k 0 a.k a.c a.e a.r a.s a.d a.o a.t a.n b.k b.c b.e b.r b.s b.d b.o b.t b.n = some r ∧ (r = true ↔ a.n = b.n)) : ∃ r, variorumref11_Same.j0 (k + 1) z a.k a.c a.e a.r a.s a.d a.o a.t a.n b.k b.c b.e b.r b.s b.d b.o b.t b.n = some r ∧ (r = true ↔ (z = false ∧ a.n = b.n)) := by
 simp only [variorumref11_Same.j0]
 cases z with
 | true => exact ⟨false, by rw [if_pos (by trivial)], by simp⟩
 | false =>
  obtain ⟨r, h1, h2⟩ := hz rfl
  exact ⟨r, by rw [if_neg (by simp)]; exact h1, by rw [h2]; simp⟩
theorem rsame_f (a b : Ms) (ho : a.o.length ≤ 1000000) (hn : a.n.length ≤ 1000000) (k : Nat) (hk : 2000000 ≤ k) : ∃ r, variorumref11_Same.f k a.k a.c a.e a.r a.s a.d a.o a.t a.n b.k b.c b.e b.r b.s b.d b.o b.t b.n = some r ∧ (r = true ↔ a = b) := by
 obtain ⟨k, rfl⟩ : ∃ m, k = m + 1 := ⟨k - 1, by omega⟩
 unfold variorumref11_Same.f
 have no : ∀ (P : Prop), (P → a ≠ b) → P → ∃ r, variorumref11_Same.j0 (k + 1) true a.k a.c a.e a.r a.s a.d a.o a.t a.n b.k b.c b.e b.r b.s b.d b.o b.t b.n = some r ∧ (r = true ↔ a = b) := fun P h hp => by
  obtain ⟨r, h1, h2⟩ := j0_r k true a b (fun h => by cases h)
  exact ⟨r, h1, by rw [h2]; simp [h hp]⟩
 by_cases h0 : a.k = b.k
 ·rw [if_pos h0]
  by_cases h1 : a.c = b.c
  ·rw [if_pos h1]
   by_cases h2 : a.e = b.e
   ·rw [if_pos h2]
    by_cases h3 : a.r = b.r
    ·rw [if_pos h3]
     by_cases h4 : a.s = b.s
     ·rw [if_pos h4]
      by_cases h5 : a.d = b.d
      ·rw [if_pos h5]
       by_cases h6 : a.t.toList = b.t.toList
       ·rw [if_pos h6]
        by_cases h7 : a.n.length = b.n.length
        ·rw [if_pos (by omega)]
         obtain ⟨q, hq, hq2⟩ := r6_f (x := a.o) (y := b.o) (by omega) (k + 1) (by omega)
         rw [hq, Option.bind_some]
         obtain ⟨r, e1, e2⟩ := j0_r k (!q) a b (fun _ => r11_l a.n b.n (by omega) a.k a.c a.e a.r a.s a.d a.o a.t b.k b.c b.e b.r b.s b.d b.o b.t a.n b.n [] [] k rfl rfl rfl h7 (by omega))
         refine ⟨r, e1, ?_⟩
         rw [e2, Bool.not_eq_false', hq2]
         obtain ⟨a0, a1, a2, a3, a4, a5, a6, a7, a8⟩ := a
         obtain ⟨b0, b1, b2, b3, b4, b5, b6, b7, b8⟩ := b
         simp only at h0 h1 h2 h3 h4 h5 h6 ⊢
         have h6 := tl_inj h6
         subst h0 h1 h2 h3 h4 h5 h6
         simp
        ·rw [if_neg (by omega)]; exact no _ (fun h e => h (by rw [e])) h7
       ·rw [if_neg h6]; exact no _ (fun h e => h (by rw [e])) h6
      ·rw [if_neg h5]; exact no _ (fun h e => h (by rw [e])) h5
     ·rw [if_neg h4]; exact no _ (fun h e => h (by rw [e])) h4
    ·rw [if_neg h3]; exact no _ (fun h e => h (by rw [e])) h3
   ·rw [if_neg h2]; exact no _ (fun h e => h (by rw [e])) h2
  ·rw [if_neg h1]; exact no _ (fun h e => h (by rw [e])) h1
 ·rw [if_neg h0]; exact no _ (fun h e => h (by rw [e])) h0
end Go.Proofs.Ytedfcjcnhgomoaa.MsgS
end
-- MERGED YtedfcjcnhgomoaaPvariorumlaw06Light
section
namespace Go.Proofs.Ytedfcjcnhgomoaa.P
open Go.RowKit Go.Proofs.YtedfcjcnhgomoaaW.PrintWords Go.Proofs.YtedfcjcnhgomoaaW.PrintLast Go.Proofs.YtedfcjcnhgomoaaW.PrintMore
attribute [local go_sem] max2_int min2_int max_two min_two max_three min_three max_four min_four   -- for this text's walks alone
set_option linter.unusedVariables false
set_option linter.unusedSimpArgs false
def variorumlaw06_Light.l0 : Nat → List (S85) → Int → Int → Option (Bool)
 | 0, _, _, _ => none
 | k + 1, x8, x9, x10 => if x10 < x9 then (if 0 ≤ x10 then (if x10 < (x8.length : Int) then (if (((rd_T85 x8 x10).f1).size : Int) > 200 then (some false) else (variorumlaw06_Light.l0 k x8 x9 (wrap64 (x10 + 1)))) else (none)) else (none)) else (some true)
def variorumlaw06_Light.f (k : Nat) (l0 : List (S85)) : Option (Bool) := if (l0.length : Int) > 100 then (some false) else (variorumlaw06_Light.l0 k l0 (l0.length : Int) 0)
end Go.Proofs.Ytedfcjcnhgomoaa.P
end
-- MERGED YtedfcjcnhgomoaaPvariorumlaw11Light
section
namespace Go.Proofs.Ytedfcjcnhgomoaa.P
open Go.RowKit Go.Proofs.YtedfcjcnhgomoaaW.PrintWords Go.Proofs.YtedfcjcnhgomoaaW.PrintLast Go.Proofs.YtedfcjcnhgomoaaW.PrintMore
attribute [local go_sem] max2_int min2_int max_two min_two max_three min_three max_four min_four   -- for this text's walks alone
set_option linter.unusedVariables false
set_option linter.unusedSimpArgs false
def variorumlaw11_Light.f (k : Nat) (a0_0 : Int) (a0_1 : Int) (a0_2 : Int) (a0_3 : Int) (a0_4 : Int) (a0_5 : Int) (l0_6 : List (S85)) (a0_7 : ByteArray) (l0_8 : List (S104)) : Option (Bool) := (variorumlaw06_Light.f k l0_6).bind fun t220 => (if t220 = true then (if (a0_7.size : Int) ≤ 4000 then (some (decide ((l0_8.length : Int) ≤ 200))) else (some false)) else (some false))
end Go.Proofs.Ytedfcjcnhgomoaa.P
end
-- MERGED YtedfcjcnhgomoaaMsgLaw
section
namespace Go.Proofs.Ytedfcjcnhgomoaa.MsgLaw
open Go.RowKit Go.Proofs.Ytedfcjcnhgomoaa.EditK Go.Proofs.Ytedfcjcnhgomoaa.P Go.Proofs.YtedfcjcnhgomoaaW.PrintWords Go.Proofs.YtedfcjcnhgomoaaW.PrintLast Go.Proofs.YtedfcjcnhgomoaaW.PrintMore Go.Proofs.Ytedfcjcnhgomoaa.Own Go.Proofs.Ytedfcjcnhgomoaa.Vy Go.Proofs.Ytedfcjcnhgomoaa.NoteN Go.Proofs.Ytedfcjcnhgomoaa.MsgA Go.Proofs.Ytedfcjcnhgomoaa.MsgD Go.Proofs.Ytedfcjcnhgomoaa.MsgW Go.Proofs.Ytedfcjcnhgomoaa.MsgE Go.Proofs.Ytedfcjcnhgomoaa.MsgR Go.Proofs.Ytedfcjcnhgomoaa.MsgQ Go.Proofs.Ytedfcjcnhgomoaa.MsgS Go.Proofs.Ytedfcjcnhgomoaa.MsgLives
set_option linter.unusedSimpArgs false
set_option linter.unusedVariables false
theorem cells_ms {P : Nat} {m : Ms} {A6 A8 : Option Addr} {c6 c8 : Nat} {W : World} (h : Blk P (m.mg A6 c6 A8 c8) W) : (W.cell? ⟨P, 0, none⟩ = some (.int .i64 m.k) ∧ W.cell? ⟨P, 1, none⟩ = some (.int .i64 m.c) ∧ W.cell? ⟨P, 2, none⟩ = some (.int .i64 m.e) ∧ W.cell? ⟨P, 3, none⟩ = some (.int .i64 m.r) ∧ W.cell? ⟨P, 4, none⟩ = some (.int .i64 m.s) ∧ W.cell? ⟨P, 5, none⟩ = some (.int .i64 m.d)) ∧ W.cell? ⟨P, 6, none⟩ = some (.slice A6 m.o.length c6) ∧ W.cell? ⟨P, 7, none⟩ = some (.string m.t) ∧ W.cell? ⟨P, 8, none⟩ = some (.slice A8 m.n.length c8) := h.cells
end Go.Proofs.Ytedfcjcnhgomoaa.MsgLaw
end
-- MERGED YtedfcjcnhgomoaaVaryM
section
namespace Go.Proofs.Ytedfcjcnhgomoaa.VaryR
open Go.RowKit Go.Proofs.Ytedfcjcnhgomoaa.P Go.Proofs.YtedfcjcnhgomoaaW.PrintWords Go.Proofs.YtedfcjcnhgomoaaW.PrintLast Go.Proofs.YtedfcjcnhgomoaaW.PrintMore Go.Proofs.Ytedfcjcnhgomoaa.Own Go.Proofs.Ytedfcjcnhgomoaa.Vy
set_option maxHeartbeats 1000000 in
theorem num_read (g : Nat) (w : World) (v : Value) (l : List Int) (a : Nat) (h : RdAt g w v l a false) (hok : Byt.Ok l) :
  Calls Try.prog 85 #[.pointer (some ⟨g, 0, none⟩), .func (.func 86) #[] #[]] w (RdPost g v l a false (if (numL (l.drop a)).2 = 0 then (.int .i64 0) else (.int .i64 (numL (l.drop a)).1)) (numL (l.drop a)).2 w) := by
 have H := Aside0.mk h
 clear h
 by_cases hk : (numL (l.drop a)).2 = 0
 ·have HK := Aside0.mk hk
  rw [if_pos hk]
  clear hk
  go_enter Try.func85, Try.ntmps85
  go_wp2_with fail
  refine (bad_c g _ v l a false H.out).mono ?_
  rintro e w' ⟨rfl, rfl⟩
  go_wp2_with fail
  refine (numFn_c g _ v l a H.out hok).mono ?_
  rintro e w' ⟨a', rfl, h1, h2, h3⟩
  have H1 := Aside0.mk h1
  have H2 := Aside0.mk h2
  have H3 := Aside0.mk h3
  rw [decide_eq_true HK.out] at h1
  have H4 := Aside0.mk h1
  clear h1 h2 h3
  go_wp2_with fail
  refine (bad_c g _ v l a' true H4.out).mono ?_
  rintro e w' ⟨rfl, rfl⟩
  go_wp2_with fail
  go_ret
  exact RdPost.mk H1.out H2.out H3.out
 ·have HK := Aside0.mk hk
  rw [if_neg hk]
  clear hk
  go_enter Try.func85, Try.ntmps85
  go_wp2_with fail
  refine (bad_c g _ v l a false H.out).mono ?_
  rintro e w' ⟨rfl, rfl⟩
  go_wp2_with fail
  refine (numFn_c g _ v l a H.out hok).mono ?_
  rintro e w' ⟨a', rfl, h1, h2, h3⟩
  have H1 := Aside0.mk h1
  have H2 := Aside0.mk h2
  have H3 := Aside0.mk h3
  rw [decide_eq_false HK.out] at h1
  have H4 := Aside0.mk h1
  clear h1 h2 h3
  go_wp2_with fail
  refine (bad_c g _ v l a' false H4.out).mono ?_
  rintro e w' ⟨rfl, rfl⟩
  go_wp2_with fail
  go_ret
  exact RdPost.mk H1.out H2.out H3.out
set_option maxHeartbeats 1000000 in
theorem signed_read (g : Nat) (w : World) (v : Value) (l : List Int) (a : Nat) (h : RdAt g w v l a false) (hok : Byt.Ok l) :
  Calls Try.prog 85 #[.pointer (some ⟨g, 0, none⟩), .func (.func 112) #[] #[]] w (RdPost g v l a false (if (sgnL (l.drop a)).2 = 0 then (.int .i64 0) else (.int .i64 (sgnL (l.drop a)).1)) (sgnL (l.drop a)).2 w) := by
 have H := Aside0.mk h
 clear h
 by_cases hk : (sgnL (l.drop a)).2 = 0
 ·have HK := Aside0.mk hk
  rw [if_pos hk]
  clear hk
  go_enter Try.func85, Try.ntmps85
  go_wp2_with fail
  refine (bad_c g _ v l a false H.out).mono ?_
  rintro e w' ⟨rfl, rfl⟩
  go_wp2_with fail
  refine (signed_c g _ v l a H.out hok).mono ?_
  rintro e w' ⟨a', rfl, h1, h2, h3⟩
  have H1 := Aside0.mk h1
  have H2 := Aside0.mk h2
  have H3 := Aside0.mk h3
  rw [decide_eq_true HK.out] at h1
  have H4 := Aside0.mk h1
  clear h1 h2 h3
  go_wp2_with fail
  refine (bad_c g _ v l a' true H4.out).mono ?_
  rintro e w' ⟨rfl, rfl⟩
  go_wp2_with fail
  go_ret
  exact RdPost.mk H1.out H2.out H3.out
 ·have HK := Aside0.mk hk
  rw [if_neg hk]
  clear hk
  go_enter Try.func85, Try.ntmps85
  go_wp2_with fail
  refine (bad_c g _ v l a false H.out).mono ?_
  rintro e w' ⟨rfl, rfl⟩
  go_wp2_with fail
  refine (signed_c g _ v l a H.out hok).mono ?_
  rintro e w' ⟨a', rfl, h1, h2, h3⟩
  have H1 := Aside0.mk h1
  have H2 := Aside0.mk h2
  have H3 := Aside0.mk h3
  rw [decide_eq_false HK.out] at h1
  have H4 := Aside0.mk h1
  clear h1 h2 h3
  go_wp2_with fail
  refine (bad_c g _ v l a' false H4.out).mono ?_
  rintro e w' ⟨rfl, rfl⟩
  go_wp2_with fail
  go_ret
  exact RdPost.mk H1.out H2.out H3.out
set_option maxHeartbeats 1000000 in
theorem text_read (g : Nat) (w : World) (v : Value) (l : List Int) (a : Nat) (h : RdAt g w v l a false) (hok : Byt.Ok l) :
  Calls Try.prog 89 #[.pointer (some ⟨g, 0, none⟩), .func (.func 90) #[] #[]] w (RdPost g v l a false (if (textL (l.drop a)).2 = 0 then (.string ⟨#[]⟩) else (.string (strOfNums (textL (l.drop a)).1))) (textL (l.drop a)).2 w) := by
 have H := Aside0.mk h
 clear h
 by_cases hk : (textL (l.drop a)).2 = 0
 ·have HK := Aside0.mk hk
  rw [if_pos hk]
  clear hk
  go_enter Try.func89, Try.ntmps89
  go_wp2_with fail
  refine (bad_c g _ v l a false H.out).mono ?_
  rintro e w' ⟨rfl, rfl⟩
  go_wp2_with fail
  refine (text_c g _ v l a H.out hok).mono ?_
  rintro e w' ⟨a', rfl, h1, h2, h3⟩
  have H1 := Aside0.mk h1
  have H2 := Aside0.mk h2
  have H3 := Aside0.mk h3
  rw [decide_eq_true HK.out] at h1
  have H4 := Aside0.mk h1
  clear h1 h2 h3
  go_wp2_with fail
  refine (bad_c g _ v l a' true H4.out).mono ?_
  rintro e w' ⟨rfl, rfl⟩
  go_wp2_with fail
  go_ret
  exact RdPost.mk H1.out H2.out H3.out
 ·have HK := Aside0.mk hk
  rw [if_neg hk]
  clear hk
  go_enter Try.func89, Try.ntmps89
  go_wp2_with fail
  refine (bad_c g _ v l a false H.out).mono ?_
  rintro e w' ⟨rfl, rfl⟩
  go_wp2_with fail
  refine (text_c g _ v l a H.out hok).mono ?_
  rintro e w' ⟨a', rfl, h1, h2, h3⟩
  have H1 := Aside0.mk h1
  have H2 := Aside0.mk h2
  have H3 := Aside0.mk h3
  rw [decide_eq_false HK.out] at h1
  have H4 := Aside0.mk h1
  clear h1 h2 h3
  go_wp2_with fail
  refine (bad_c g _ v l a' false H4.out).mono ?_
  rintro e w' ⟨rfl, rfl⟩
  go_wp2_with fail
  go_ret
  exact RdPost.mk H1.out H2.out H3.out
set_option maxHeartbeats 1000000 in
theorem readStr_bad (F : Nat) (g : Nat) (w : World) (v : Value) (l : List Int) (a : Nat) (k : Nat) (h : Rd g w v l a true) :
  Calls Try.prog 89 #[.pointer (some ⟨g, 0, none⟩), .func (.func F) #[] #[]] w (RdPost g v l a true (.string ⟨#[]⟩) k w) := by
 obtain ⟨a', h, _⟩ := h
 have H := Aside0.mk h
 clear h
 go_enter Try.func89, Try.ntmps89
 go_wp2_with fail
 refine (bad_c g _ v l a' true H.out).mono ?_
 rintro e w' ⟨rfl, rfl⟩
 go_wp2_with fail
 go_ret
 exact ⟨rfl, ⟨a', H.out, fun h => by cases h⟩, But.refl g _⟩
theorem num_zero {l : List Int} (h : (numL l).2 = 0) : (numL l).1 = 0 := numL_zero h
theorem sgn_zero {l : List Int} (h : (sgnL l).2 = 0) : (sgnL l).1 = 0 := by
 unfold sgnL at h ⊢; simp only at h ⊢; rw [numL_zero h]; rfl
theorem text_zero {l : List Int} (h : (textL l).2 = 0) : (textL l).1 = [] := by
 unfold textL at h ⊢
 split
 ·rfl
 ·rename_i h1
  rw [if_neg h1] at h
  exact absurd h (by simp only; omega)
theorem stepV_true {α : Type} (z : α) (k : Nat) (x : α) : stepV z true k x = z := rfl
theorem stepV_false {α : Type} {z : α} {k : Nat} {x : α} (h : k = 0 → x = z) : stepV z false k x = x := by
 unfold stepV stepB
 by_cases hk : k = 0
 ·simp [hk, h hk]
 ·simp [hk]
set_option maxHeartbeats 1000000 in
theorem nNum (g : Nat) (w : World) (v : Value) (l : List Int) (a : Nat) (bad : Bool) (h : Rd g w v l a bad) (hok : Byt.Ok l) :
  Calls Try.prog 45 #[.pointer (some ⟨g, 0, none⟩)] w (RdPost g v l a bad (.int .i64 (stepV 0 bad (numL (l.drop a)).2 (numL (l.drop a)).1)) (numL (l.drop a)).2 w) := by
 cases bad with
 | true =>
  have H := Aside0.mk h
  clear h
  rw [stepV_true]
  go_enter Try.func45, Try.ntmps45
  go_wp2_with fail
  refine (readInt_bad _ g _ v l a (numL (l.drop a)).2 H.out).mono ?_
  rintro e w' ⟨rfl, h1, h2⟩
  have H1 := Aside0.mk h1
  have H2 := Aside0.mk h2
  clear h1 h2
  go_wp2_with fail
  go_ret
  exact ⟨rfl, H1.out, H2.out⟩
 | false =>
  obtain ⟨a', h, ha⟩ := h
  obtain rfl := ha rfl
  have H := Aside0.mk h
  clear h ha
  rw [stepV_false num_zero]
  go_enter Try.func45, Try.ntmps45
  go_wp2_with fail
  refine (num_read g _ v l a' H.out hok).mono ?_
  rintro e w' ⟨rfl, h1, h2⟩
  have H1 := Aside0.mk h1
  have H2 := Aside0.mk h2
  clear h1 h2
  by_cases hk : (numL (l.drop a')).2 = 0
  ·have HZ := Aside0.mk (num_zero hk)
   rw [if_pos hk]
   clear hk
   go_wp2_with fail
   go_ret
   exact ⟨by rw [HZ.out]; rfl, H1.out, H2.out⟩
  ·rw [if_neg hk]
   clear hk
   go_wp2_with fail
   go_ret
   exact ⟨rfl, H1.out, H2.out⟩
set_option maxHeartbeats 1000000 in
theorem nSigned (g : Nat) (w : World) (v : Value) (l : List Int) (a : Nat) (bad : Bool) (h : Rd g w v l a bad) (hok : Byt.Ok l) :
  Calls Try.prog 102 #[.pointer (some ⟨g, 0, none⟩)] w (RdPost g v l a bad (.int .i64 (stepV 0 bad (sgnL (l.drop a)).2 (sgnL (l.drop a)).1)) (sgnL (l.drop a)).2 w) := by
 cases bad with
 | true =>
  have H := Aside0.mk h
  clear h
  rw [stepV_true]
  go_enter Try.func102, Try.ntmps102
  go_wp2_with fail
  refine (readInt_bad _ g _ v l a (sgnL (l.drop a)).2 H.out).mono ?_
  rintro e w' ⟨rfl, h1, h2⟩
  have H1 := Aside0.mk h1
  have H2 := Aside0.mk h2
  clear h1 h2
  go_wp2_with fail
  go_ret
  exact ⟨rfl, H1.out, H2.out⟩
 | false =>
  obtain ⟨a', h, ha⟩ := h
  obtain rfl := ha rfl
  have H := Aside0.mk h
  clear h ha
  rw [stepV_false sgn_zero]
  go_enter Try.func102, Try.ntmps102
  go_wp2_with fail
  refine (signed_read g _ v l a' H.out hok).mono ?_
  rintro e w' ⟨rfl, h1, h2⟩
  have H1 := Aside0.mk h1
  have H2 := Aside0.mk h2
  clear h1 h2
  by_cases hk : (sgnL (l.drop a')).2 = 0
  ·have HZ := Aside0.mk (sgn_zero hk)
   rw [if_pos hk]
   clear hk
   go_wp2_with fail
   go_ret
   exact ⟨by rw [HZ.out]; rfl, H1.out, H2.out⟩
  ·rw [if_neg hk]
   clear hk
   go_wp2_with fail
   go_ret
   exact ⟨rfl, H1.out, H2.out⟩
set_option maxHeartbeats 1000000 in
theorem nText (g : Nat) (w : World) (v : Value) (l : List Int) (a : Nat) (bad : Bool) (h : Rd g w v l a bad) (hok : Byt.Ok l) :
  Calls Try.prog 51 #[.pointer (some ⟨g, 0, none⟩)] w (RdPost g v l a bad (.string (strOfNums (stepV [] bad (textL (l.drop a)).2 (textL (l.drop a)).1))) (textL (l.drop a)).2 w) := by
 cases bad with
 | true =>
  have H := Aside0.mk h
  clear h
  rw [stepV_true]
  go_enter Try.func51, Try.ntmps51
  go_wp2_with fail
  refine (readStr_bad _ g _ v l a (textL (l.drop a)).2 H.out).mono ?_
  rintro e w' ⟨rfl, h1, h2⟩
  have H1 := Aside0.mk h1
  have H2 := Aside0.mk h2
  clear h1 h2
  go_wp2_with fail
  go_ret
  exact ⟨rfl, H1.out, H2.out⟩
 | false =>
  obtain ⟨a', h, ha⟩ := h
  obtain rfl := ha rfl
  have H := Aside0.mk h
  clear h ha
  rw [stepV_false text_zero]
  go_enter Try.func51, Try.ntmps51
  go_wp2_with fail
  refine (text_read g _ v l a' H.out hok).mono ?_
  rintro e w' ⟨rfl, h1, h2⟩
  have H1 := Aside0.mk h1
  have H2 := Aside0.mk h2
  clear h1 h2
  by_cases hk : (textL (l.drop a')).2 = 0
  ·have HZ := Aside0.mk (text_zero hk)
   rw [if_pos hk]
   clear hk
   go_wp2_with fail
   go_ret
   exact ⟨by rw [HZ.out]; rfl, H1.out, H2.out⟩
  ·rw [if_neg hk]
   clear hk
   go_wp2_with fail
   go_ret
   exact ⟨rfl, H1.out, H2.out⟩
theorem nBad (g : Nat) (w : World) (v : Value) (l : List Int) (a : Nat) (bad : Bool) (h : Rd g w v l a bad) :
  Calls Try.prog 48 #[.pointer (some ⟨g, 0, none⟩)] w fun e w' => e = .returned (.bool bad) ∧ w' = w := by
 obtain ⟨a', h, _⟩ := h
 exact bad_c g w v l a' bad h
def leftL (l : List Int) (a : Nat) (bad : Bool) : Nat := if bad then 0 else l.length - a
set_option maxHeartbeats 1000000 in
theorem nLeft (g : Nat) (w : World) (v : Value) (l : List Int) (a : Nat) (bad : Bool) (h : Rd g w v l a bad) :
  Calls Try.prog 47 #[.pointer (some ⟨g, 0, none⟩)] w fun e w' => e = .returned (.int .i64 ((leftL l a bad : Nat) : Int)) ∧ Drawn0 w w' := by
 obtain ⟨a', h, ha⟩ := h
 have H := Aside0.mk h
 clear h
 cases bad with
 | true =>
  clear ha
  go_enter Try.func47, Try.ntmps47
  go_wp2_with fail
  refine (bad_c g _ v l a' true H.out).mono ?_
  rintro e w' ⟨rfl, rfl⟩
  go_wp2_with fail
  go_ret
  exact ⟨rfl, ⟨0, rfl⟩⟩
 | false =>
  obtain rfl := ha rfl
  clear ha
  obtain ⟨q, hq⟩ : ∃ q, q = l.length - a' := ⟨_, rfl⟩
  have HQ := Aside0.mk hq
  have hc := fun w => ahead_c g w v l a' false
  rw [← hq] at hc
  clear hq
  go_enter Try.func47, Try.ntmps47
  go_wp2_with fail
  refine (bad_c g _ v l a' false H.out).mono ?_
  rintro e w' ⟨rfl, rfl⟩
  go_wp2_with fail
  refine (hc _ H.out).mono ?_
  rintro e w' ⟨rfl, n, rfl⟩
  go_wp2_with fail
  go_ret
  exact ⟨by unfold leftL; rw [if_neg (by simp), ← HQ.out]; rfl, ⟨n, rfl⟩⟩
set_option maxHeartbeats 1000000 in
theorem nDone (g : Nat) (w : World) (v : Value) (l : List Int) (a : Nat) (bad : Bool) (h : Rd g w v l a bad) :
  Calls Try.prog 52 #[.pointer (some ⟨g, 0, none⟩)] w fun e w' => e = .returned (.bool (!bad && decide (l.length - a = 0))) ∧ Drawn0 w w' := by
 obtain ⟨a', h, ha⟩ := h
 have H := Aside0.mk h
 clear h
 cases bad with
 | true =>
  clear ha
  go_enter Try.func52, Try.ntmps52
  go_wp2_with fail
  refine (bad_c g _ v l a' true H.out).mono ?_
  rintro e w' ⟨rfl, rfl⟩
  go_wp2_with fail
  go_ret
  exact ⟨rfl, ⟨0, rfl⟩⟩
 | false =>
  obtain rfl := ha rfl
  clear ha
  obtain ⟨q, hq⟩ : ∃ q, q = l.length - a' := ⟨_, rfl⟩
  have HQ := Aside0.mk hq
  have hc := fun w => ahead_c g w v l a' false
  rw [← hq] at hc
  clear hq
  by_cases hz : q = 0
  ·subst hz
   go_enter Try.func52, Try.ntmps52
   go_wp2_with fail
   refine (bad_c g _ v l a' false H.out).mono ?_
   rintro e w' ⟨rfl, rfl⟩
   go_wp2_with fail
   refine (hc _ H.out).mono ?_
   rintro e w' ⟨rfl, n, rfl⟩
   go_wp2_with fail
   go_ret
   exact ⟨by rw [← HQ.out]; rfl, ⟨n, rfl⟩⟩
  ·have hz2 : ((q : Int) == 0) = false := by simp; omega
   have HZ := Aside0.mk hz
   clear hz
   go_enter Try.func52, Try.ntmps52
   go_wp2_with fail
   refine (bad_c g _ v l a' false H.out).mono ?_
   rintro e w' ⟨rfl, rfl⟩
   go_wp2_with fail
   refine (hc _ H.out).mono ?_
   rintro e w' ⟨rfl, n, rfl⟩
   go_wp2_with fail
   go_ret
   exact ⟨by rw [← HQ.out, decide_eq_false HZ.out]; rfl, ⟨n, rfl⟩⟩
set_option maxHeartbeats 1000000 in
theorem nRead (w : World) (v : Value) (l : List Int) (h : Sl w v l) (hl : l.length ≤ 140737488355000) :
  Calls Try.prog 44 #[v] w fun e w' => e = .returned (.pointer (some ⟨w.heap.size, 0, none⟩)) ∧ Rd w.heap.size w' v l 0 false ∧ Below w.heap.size w w' ∧ w'.heap.size = w.heap.size + 1 := by
 have H := Aside0.mk h
 have HL := Aside0.mk hl
 obtain ⟨A, c, rfl, hc, hC⟩ := h
 clear hC hl
 go_enter Try.func44, Try.ntmps44
 go_wp2_with fail
 go_ret
 exact ⟨rfl, ⟨0, ⟨by rw [Own.heap_new]; rfl, H.out.alloc _, Nat.zero_le _, HL.out⟩, fun _ => rfl⟩, below_alloc (Below.refl _ _) _, by show (w.heap.push _).size = _; simp⟩
end Go.Proofs.Ytedfcjcnhgomoaa.VaryR
end
-- MERGED YtedfcjcnhgomoaaDecA
section
namespace Go.Proofs.Ytedfcjcnhgomoaa.DecA
open Go.RowKit Go.Proofs.Ytedfcjcnhgomoaa.P Go.Proofs.YtedfcjcnhgomoaaW.PrintWords Go.Proofs.YtedfcjcnhgomoaaW.PrintLast Go.Proofs.YtedfcjcnhgomoaaW.PrintMore Go.Proofs.Ytedfcjcnhgomoaa.Own Go.Proofs.Ytedfcjcnhgomoaa.Vy Go.Proofs.Ytedfcjcnhgomoaa.VaryR Go.Proofs.Ytedfcjcnhgomoaa.NoteN Go.Proofs.Ytedfcjcnhgomoaa.MsgA
attribute [local go_sem] max2_int min2_int max_two min_two
set_option linter.unusedSimpArgs false
set_option linter.unusedVariables false
theorem but_far {g R : Nat} {w w2 : World} (h : But g w w2) (hR : w.heap.size ≤ R) (o : Nat) (u : Value) : But g w (w2.setCell ⟨R, o, none⟩ u) := by
 have h2 := But.setCell R o w2 u
 exact ⟨h2.os.trans h.os, h2.tape.trans h.tape, h2.output.trans h.output, Nat.le_trans h.size h2.size, fun k hk hn => (h2.block k (Nat.lt_of_lt_of_le hk h.size) (fun e => by have := Option.some.inj e; omega)).trans (h.block k hk hn)⟩
theorem run_noByte {R : Nat} {w : World} {x : Int} {s : ByteArray} {y : Int} (h : w.heap[R]? = some (.cells #[.int .i64 x, .string s, .int .i64 y] 85 (0, 0))) : ∀ o q, w.cell? ⟨R, o, none⟩ ≠ some (.int .u8 q) := by
 intro o q hq
 rw [cell_of_row w _ o _ _ _ h] at hq
 rcases o with _ | _ | _ | o <;> simp at hq
theorem rd_set {g R : Nat} {w : World} {v : Value} {l : List Int} {a : Nat} {bad : Bool} {x : Int} {s : ByteArray} {y : Int} (h : Rd g w v l a bad) (hT : w.heap[R]? = some (.cells #[.int .i64 x, .string s, .int .i64 y] 85 (0, 0))) (hne : g ≠ R) (x' : Int) (s' : ByteArray) (y' : Int) :
  Rd g (((w.setCell ⟨R, 0, none⟩ (.int .i64 x')).setCell ⟨R, 1, none⟩ (.string s')).setCell ⟨R, 2, none⟩ (.int .i64 y')) v l a bad :=
 h.but (((But.setCell R 0 w _).trans (But.setCell R 1 _ _)).trans (But.setCell R 2 _ _)) hne (run_noByte hT)
structure At where
 a : Nat
 bad : Bool
def At.num (l : List Int) (s : At) : Int × At := (stepV 0 s.bad (numL (l.drop s.a)).2 (numL (l.drop s.a)).1, ⟨stepA s.bad s.a (numL (l.drop s.a)).2, stepB s.bad (numL (l.drop s.a)).2⟩)
def At.signed (l : List Int) (s : At) : Int × At := (stepV 0 s.bad (sgnL (l.drop s.a)).2 (sgnL (l.drop s.a)).1, ⟨stepA s.bad s.a (sgnL (l.drop s.a)).2, stepB s.bad (sgnL (l.drop s.a)).2⟩)
def At.text (l : List Int) (s : At) : ByteArray × At := (strOfNums (stepV [] s.bad (textL (l.drop s.a)).2 (textL (l.drop s.a)).1), ⟨stepA s.bad s.a (textL (l.drop s.a)).2, stepB s.bad (textL (l.drop s.a)).2⟩)
def At.run (l : List Int) (s : At) : EditL.Rn × At :=
 if (s.signed l).1 = 0 then (⟨0, ((s.signed l).2.text l).1, 0⟩, ((s.signed l).2.text l).2)
 else (⟨if (s.signed l).1 < 0 then 0 else (s.signed l).1, ⟨#[]⟩, if wrap64 (-(s.signed l).1) < 0 then 0 else wrap64 (-(s.signed l).1)⟩, (s.signed l).2)
def RunPost (g : Nat) (v : Value) (l : List Int) (s : At) (w : World) (e : Ending) (w' : World) : Prop :=
 e = .returned (.agg #[.int .i64 (s.run l).1.f0, .string (s.run l).1.f1, .int .i64 (s.run l).1.f2]) ∧ Rd g w' v l (s.run l).2.a (s.run l).2.bad ∧ But g w w'
set_option maxHeartbeats 4000000 in
set_option maxRecDepth 100000 in
theorem run_c (g X : Nat) (w : World) (v : Value) (l : List Int) (s : At) (h : Rd g w v l s.a s.bad) (hok : Byt.Ok l) (hX : w.heap[X]? = some (.cells #[.pointer (some ⟨g, 0, none⟩)] 73 (0, 0))) (hne : X ≠ g) :
  Calls Try.prog 101 #[.pointer (some ⟨X, 0, none⟩)] w (RunPost g v l s w) := by
 obtain ⟨R, hR⟩ : ∃ R, R = w.heap.size := ⟨_, rfl⟩
 obtain ⟨w1, hw1⟩ : ∃ w1, w1 = w.alloc (.cells #[.int .i64 0, .string ⟨#[]⟩, .int .i64 0] 85) := ⟨_, rfl⟩
 have hb1 : Below w.heap.size w w1 := by rw [hw1]; exact below_alloc (Below.refl _ _) _
 have HX := Aside0.mk (show w1.heap[X]? = some (.cells #[.pointer (some ⟨g, 0, none⟩)] 73 (0, 0)) from (hb1.block _ (Array.getElem?_eq_some_iff.1 hX).1).trans hX)
 have HT := Aside0.mk (show w1.heap[R]? = some (.cells #[.int .i64 0, .string ⟨#[]⟩, .int .i64 0] 85 (0, 0)) by rw [hw1, hR]; exact Own.heap_new _ _)
 have HS := Aside0.mk (VaryR.nSigned g w1 v l s.a s.bad (h.below hb1) hok)
 have HGR := Aside0.mk (show g ≠ R by
  obtain ⟨a', h1, _⟩ := h
  have := (Array.getElem?_eq_some_iff.1 h1.heap).1
  omega)
 have HB1 := Aside0.mk (grown_of_below hb1 (some g))
 have HOK := Aside0.mk hok
 have HNE := Aside0.mk hne
 have HW1 := Aside0.mk hw1
 have HRE := Aside0.mk hR
 have x0 : w1.cell? ⟨X, 0, none⟩ = some (.pointer (some ⟨g, 0, none⟩)) := by rw [cell_of_row _ _ 0 _ _ _ HX.out]; rfl
 obtain ⟨n, hn⟩ : ∃ n, n = (s.signed l).1 := ⟨_, rfl⟩
 obtain ⟨s1, hs1⟩ : ∃ s1, s1 = (s.signed l).2 := ⟨_, rfl⟩
 have hrun : s.run l = if n = 0 then (⟨0, (s1.text l).1, 0⟩, (s1.text l).2) else (⟨if n < 0 then 0 else n, ⟨#[]⟩, if wrap64 (-n) < 0 then 0 else wrap64 (-n)⟩, s1) := by unfold At.run; rw [← hn, ← hs1]
 have HRUN := Aside0.mk hrun
 have HSN := Aside0.mk (show stepV 0 s.bad (sgnL (l.drop s.a)).2 (sgnL (l.drop s.a)).1 = n from hn.symm)
 have HSA := Aside0.mk (show stepA s.bad s.a (sgnL (l.drop s.a)).2 = s1.a by rw [hs1]; rfl)
 have HSB := Aside0.mk (show stepB s.bad (sgnL (l.drop s.a)).2 = s1.bad by rw [hs1]; rfl)
 clear hX h hok hne hw1 hR hn hs1 hrun hb1
 unfold RdPost at HS
 rw [HSN.out, HSA.out, HSB.out] at HS
 unfold RunPost
 rw [HRUN.out]
 go_enter Try.func101, Try.ntmps101
 go_wp2_with (first | rw [← HRE.out, ← HW1.out])
 refine HS.out.mono ?_
 rintro e w2 ⟨rfl, hrd, hb2⟩
 have HRD2 := Aside0.mk hrd
 have HB2 := Aside0.mk (HB1.out.trans hb2)
 have HT2 := Aside0.mk ((hb2.block R (Array.getElem?_eq_some_iff.1 HT.out).1 (fun e => HGR.out (Option.some.inj e).symm)).trans HT.out)
 have HX2 := Aside0.mk ((hb2.block X (Array.getElem?_eq_some_iff.1 HX.out).1 (fun e => HNE.out (Option.some.inj e))).trans HX.out)
 clear hrd hb2 x0 HS
 have x0 : w2.cell? ⟨X, 0, none⟩ = some (.pointer (some ⟨g, 0, none⟩)) := by rw [cell_of_row _ _ 0 _ _ _ HX2.out]; rfl
 have t0 : w2.cell? ⟨R, 0, none⟩ = some (.int .i64 0) := by rw [cell_of_row _ _ 0 _ _ _ HT2.out]; rfl
 have t1 : w2.cell? ⟨R, 1, none⟩ = some (.string ⟨#[]⟩) := by rw [cell_of_row _ _ 1 _ _ _ HT2.out]; rfl
 have t2 : w2.cell? ⟨R, 2, none⟩ = some (.int .i64 0) := by rw [cell_of_row _ _ 2 _ _ _ HT2.out]; rfl
 have f0 := frozen_of_row _ _ 0 _ _ HT2.out
 have f1 := frozen_of_row _ _ 1 _ _ HT2.out
 have f2 := frozen_of_row _ _ 2 _ _ HT2.out
 by_cases h0 : n = 0
 ·subst h0
  have HTX := Aside0.mk (VaryR.nText g w2 v l s1.a s1.bad HRD2.out HOK.out)
  go_wp2_with fail
  refine HTX.out.mono ?_
  rintro e w3 ⟨rfl, hrd, hb3⟩
  have HRD3 := Aside0.mk hrd
  have HB3 := Aside0.mk (HB2.out.trans hb3)
  have HT3 := Aside0.mk ((hb3.block R (Array.getElem?_eq_some_iff.1 HT2.out).1 (fun e => HGR.out (Option.some.inj e).symm)).trans HT2.out)
  clear hrd hb3 x0 t0 t1 t2 f0 f1 f2 HTX
  have t0 : w3.cell? ⟨R, 0, none⟩ = some (.int .i64 0) := by rw [cell_of_row _ _ 0 _ _ _ HT3.out]; rfl
  have t1 : w3.cell? ⟨R, 1, none⟩ = some (.string ⟨#[]⟩) := by rw [cell_of_row _ _ 1 _ _ _ HT3.out]; rfl
  have t2 : w3.cell? ⟨R, 2, none⟩ = some (.int .i64 0) := by rw [cell_of_row _ _ 2 _ _ _ HT3.out]; rfl
  have f0 := frozen_of_row _ _ 0 _ _ HT3.out
  have f1 := frozen_of_row _ _ 1 _ _ HT3.out
  have f2 := frozen_of_row _ _ 2 _ _ HT3.out
  go_wp2_with fail
  refine bodyPost_ret (results_cell_row rfl _ _ R 85 #[_, _, _] (0, 0) _ rfl (set3 HT3.out _ _ _) Try.underlying85 rfl (by kernel_rfl)) rfl ?_
  exact ⟨rfl, rd_set HRD3.out HT3.out HGR.out _ _ _, but_far (but_far (but_far HB3.out (by rw [HRE.out]; exact Nat.le_refl _) 0 _) (by rw [HRE.out]; exact Nat.le_refl _) 1 _) (by rw [HRE.out]; exact Nat.le_refl _) 2 _⟩
 ·have HNZ := Aside0.mk h0
  have hq : (n == 0) = false := by simpa using h0
  go_wp2_with fail
  ·refine bodyPost_ret (results_cell_row rfl _ _ R 85 #[.int .i64 0, .string ⟨#[]⟩, .int .i64 0] (0, 0) _ rfl (set3 HT2.out _ _ _) Try.underlying85 rfl (by kernel_rfl)) rfl ?_
   exact ⟨rfl, rd_set HRD2.out HT2.out HGR.out _ _ _, but_far (but_far (but_far HB2.out (by rw [HRE.out]; exact Nat.le_refl _) 0 _) (by rw [HRE.out]; exact Nat.le_refl _) 1 _) (by rw [HRE.out]; exact Nat.le_refl _) 2 _⟩
  ·refine bodyPost_ret (results_cell_row rfl _ _ R 85 #[.int .i64 0, .string ⟨#[]⟩, .int .i64 (wrap64 (-n))] (0, 0) _ rfl (set3 HT2.out _ _ _) Try.underlying85 rfl (by kernel_rfl)) rfl ?_
   exact ⟨rfl, rd_set HRD2.out HT2.out HGR.out _ _ _, but_far (but_far (but_far HB2.out (by rw [HRE.out]; exact Nat.le_refl _) 0 _) (by rw [HRE.out]; exact Nat.le_refl _) 1 _) (by rw [HRE.out]; exact Nat.le_refl _) 2 _⟩
  ·refine bodyPost_ret (results_cell_row rfl _ _ R 85 #[.int .i64 n, .string ⟨#[]⟩, .int .i64 0] (0, 0) _ rfl (set3 HT2.out _ _ _) Try.underlying85 rfl (by kernel_rfl)) rfl ?_
   exact ⟨rfl, rd_set HRD2.out HT2.out HGR.out _ _ _, but_far (but_far (but_far HB2.out (by rw [HRE.out]; exact Nat.le_refl _) 0 _) (by rw [HRE.out]; exact Nat.le_refl _) 1 _) (by rw [HRE.out]; exact Nat.le_refl _) 2 _⟩
  ·refine bodyPost_ret (results_cell_row rfl _ _ R 85 #[.int .i64 n, .string ⟨#[]⟩, .int .i64 (wrap64 (-n))] (0, 0) _ rfl (set3 HT2.out _ _ _) Try.underlying85 rfl (by kernel_rfl)) rfl ?_
   exact ⟨rfl, rd_set HRD2.out HT2.out HGR.out _ _ _, but_far (but_far (but_far HB2.out (by rw [HRE.out]; exact Nat.le_refl _) 0 _) (by rw [HRE.out]; exact Nat.le_refl _) 1 _) (by rw [HRE.out]; exact Nat.le_refl _) 2 _⟩
theorem num_a (g : Nat) (v : Value) (l : List Int) (hok : Byt.Ok l) (s : At) (W : World) (h : Rd g W v l s.a s.bad) : Calls Try.prog 45 #[.pointer (some ⟨g, 0, none⟩)] W fun e W' => e = .returned (.int .i64 (s.num l).1) ∧ Rd g W' v l (s.num l).2.a (s.num l).2.bad ∧ But g W W' := VaryR.nNum g W v l s.a s.bad h hok
def far (n : Int) : Int := if 16777217 < n then 16777217 else n
def At.note (l : List Int) (q : Int) (s : At) : Nt × Int × At :=
 (⟨⟨far (wrap64 (q + far (s.num l).1)), wrap64 (far (wrap64 (q + far (s.num l).1)) + far ((s.num l).2.num l).1)⟩, (((s.num l).2.num l).2.num l).1⟩, far (wrap64 (q + far (s.num l).1)), (((s.num l).2.num l).2.num l).2)
structure But2 (g Y : Nat) (w w' : World) : Prop where
 os : w'.os = w.os
 tape : w'.tape = w.tape
 output : w'.output = w.output
 size : w.heap.size ≤ w'.heap.size
 block : ∀ b, b < w.heap.size → b ≠ g → b ≠ Y → w'.heap[b]? = w.heap[b]?
theorem But2.trans {g Y : Nat} {a b c : World} (h : But2 g Y a b) (k : But2 g Y b c) : But2 g Y a c :=
 ⟨k.os.trans h.os, k.tape.trans h.tape, k.output.trans h.output, Nat.le_trans h.size k.size, fun i hi h1 h2 => (k.block i (Nat.lt_of_lt_of_le hi h.size) h1 h2).trans (h.block i hi h1 h2)⟩
theorem But2.of {g Y : Nat} {a b : World} (h : But g a b) : But2 g Y a b := ⟨h.os, h.tape, h.output, h.size, fun i hi h1 _ => h.block i hi (fun e => h1 (Option.some.inj e))⟩
def NotePost (g Y : Nat) (v : Value) (l : List Int) (q : Int) (s : At) (w : World) (e : Ending) (w' : World) : Prop :=
 e = .returned (.agg #[.int .i64 (s.note l q).1.f0.f0, .int .i64 (s.note l q).1.f0.f1, .int .i64 (s.note l q).1.f1]) ∧ Rd g w' v l (s.note l q).2.2.a (s.note l q).2.2.bad ∧ w'.heap[Y]? = some (.cells #[.int .i64 (s.note l q).2.1] 3 (0, 0)) ∧ But2 g Y w w'
def S1.T1 : Bool × List (List Nat × List Nat) := (true, [([], []), ([0], [0]), ([1], [1]), ([], []), ([3, 1], [3]), ([4], [4]), ([], []), ([6, 4], [6]), ([2, 7, 0, 1, 2], [2]), ([5, 8, 0, 1, 2, 3, 4, 5, 8], [5]), ([7, 9, 0, 1, 2, 3, 4, 5, 6, 7, 8, 9], [7])])
def S1.B1 : List Nat := [0, 1, 3, 0, 11, 27, 0, 91, 223, 511, 1023]
theorem S1.tab1 : rtab .any (opsOf Try.f104 1) = S1.T1 := by kernel_rfl
theorem S1.bits1 : waitsOk S1.T1.2 S1.B1 = true := by kernel_rfl
set_option maxHeartbeats 8000000 in
set_option maxRecDepth 100000 in
theorem note_c (g X Y : Nat) (w : World) (v : Value) (l : List Int) (q : Int) (s : At) (h : Rd g w v l s.a s.bad) (hok : Byt.Ok l) (hX : w.heap[X]? = some (.cells #[.pointer (some ⟨g, 0, none⟩)] 73 (0, 0))) (hY : w.heap[Y]? = some (.cells #[.int .i64 q] 3 (0, 0))) (hne : X ≠ g) (hyg : Y ≠ g) (hxy : X ≠ Y) :
  Calls Try.prog 104 #[.pointer (some ⟨X, 0, none⟩), .pointer (some ⟨Y, 0, none⟩)] w (NotePost g Y v l q s w) := by
 obtain ⟨R, hR⟩ : ∃ R, R = w.heap.size := ⟨_, rfl⟩
 obtain ⟨w1, hw1⟩ : ∃ w1, w1 = w.alloc (.cells #[.int .i64 0, .int .i64 0, .int .i64 0] 104) := ⟨_, rfl⟩
 have hb1 : Below w.heap.size w w1 := by rw [hw1]; exact below_alloc (Below.refl _ _) _
 have HX := Aside0.mk (show w1.heap[X]? = some (.cells #[.pointer (some ⟨g, 0, none⟩)] 73 (0, 0)) from (hb1.block _ (Array.getElem?_eq_some_iff.1 hX).1).trans hX)
 have HY := Aside0.mk (show w1.heap[Y]? = some (.cells #[.int .i64 q] 3 (0, 0)) from (hb1.block _ (Array.getElem?_eq_some_iff.1 hY).1).trans hY)
 have HT := Aside0.mk (show w1.heap[R]? = some (.cells #[.int .i64 0, .int .i64 0, .int .i64 0] 104 (0, 0)) by rw [hw1, hR]; exact Own.heap_new _ _)
 have HR0 := Aside0.mk (show Rd g w1 v l s.a s.bad from h.below hb1)
 have HB1 := Aside0.mk hb1
 have HYL := Aside0.mk (Array.getElem?_eq_some_iff.1 hY).1
 have HGR := Aside0.mk (show g ≠ R by
  obtain ⟨a', h1, _⟩ := h
  have := (Array.getElem?_eq_some_iff.1 h1.heap).1
  omega)
 have HOK := Aside0.mk hok
 have HNE := Aside0.mk (And.intro hne (And.intro hyg hxy))
 have HW1 := Aside0.mk hw1
 have HRE := Aside0.mk hR
 have HBU := Aside0.mk (But.refl g w1)
 have HALX := Aside0.mk (fun (W : World) (hW : But g w1 W) => (show W.cell? ⟨X, 0, none⟩ = some (.pointer (some ⟨g, 0, none⟩)) by
  have e := (hW.block X (Array.getElem?_eq_some_iff.1 HX.out).1 (fun e => HNE.out.1 (Option.some.inj e))).trans HX.out
  rw [cell_of_row _ _ 0 _ _ _ e]; rfl))
 clear hX hY h hok hne hyg hxy hw1 hR hb1
 go_enter Try.func104, Try.ntmps104
 go_wp2_with (first | rw [← HRE.out, ← HW1.out])
 refine start_ (n := 11) (S := fun w' => True) (ds := []) #[false, false, false, false, false, false, false, false, false, false, false] (by kernel_rfl) rfl rfl trivial (fun hHeld => ?_); refine with_tabW S1.tab1 S1.bits1 (fun HT_ HW_ => ?_)
 refine inv_at [0, 1, 2, 3, 4, 5, 6, 7, 8, 9, 10] (fun a0_ b a w' => a = putSel a0_ b [(0, 6, (.pointer (some ⟨g, 0, none⟩))), (1, 7, (.int .i64 (s.num l).1)), (2, 8, (.int .i64 (far (s.num l).1))), (3, 9, (.pointer (some ⟨g, 0, none⟩))), (4, 10, (.int .i64 ((s.num l).2.num l).1)), (5, 11, (.int .i64 (far ((s.num l).2.num l).1))), (6, 12, (.pointer (some ⟨g, 0, none⟩))), (7, 13, (.int .i64 (((s.num l).2.num l).2.num l).1)), (8, 3, (.int .i64 (far (s.num l).1))), (9, 4, (.int .i64 (far ((s.num l).2.num l).1))), (10, 5, (.int .i64 (((s.num l).2.num l).2.num l).1))] ∧ (But g w1 w') ∧ (b 1 = false → Rd g w' v l s.a s.bad) ∧ (b 1 = true → b 4 = false → Rd g w' v l (s.num l).2.a (s.num l).2.bad) ∧ (b 4 = true → b 7 = false → Rd g w' v l ((s.num l).2.num l).2.a ((s.num l).2.num l).2.bad) ∧ (b 7 = true → Rd g w' v l (((s.num l).2.num l).2.num l).2.a (((s.num l).2.num l).2.num l).2.bad)) HT_.out HW_.out (by kernel_rfl) (by kernel_rfl) ?_ ?_ ?_
 ·exact ⟨by simp only [putSel, Bool.false_eq_true, if_false], HBU.out.trans (But.drewN g _ 1), fun _ => HR0.out.below (below_drew1 (Below.refl _ _)), fun h_ => absurd h_ (by decide), fun h_ => absurd h_ (by decide), fun h_ => absurd h_ (by decide)⟩
 ·skip
  clear HBU HR0
  refine steps_cons ?_ ?_
  ·rintro b a w' ⟨ha, Q_HBU, Q_HR0, Q_HR1, Q_HR2, Q_HR3⟩ hb_ hon hoff
   refine ⟨_, rfl, fun K hK => ?_⟩
   have e0 : a.tmps[0]? = some ((.pointer (some ⟨X, 0, none⟩))) := by rw [ha]; exact (putSel_off rfl).trans rfl
   replace ha := Aside0.mk ha
   have HBU := Aside0.mk Q_HBU
   have HR0 := Aside0.mk (Q_HR0 (hoff 1 (by kernel_rfl)))
   have x0_ := HALX.out _ HBU.out
   refine value_ (w1 := w') (v := (.pointer (some ⟨g, 0, none⟩))) (by rfl) rfl ?_ ?_
   ·go_simp
    (try simp only [i64_w])
    try (first | rfl | assumption)
   refine hK.out _ _ ⟨(by rw [ha.out]; exact putSel_upk 0 hb_ rfl rfl rfl), Q_HBU, Q_HR0, fun h0_ _ => absurd ((hoff 1 (by kernel_rfl)).symm.trans h0_) (by decide), fun h0_ _ => absurd ((hoff 4 (by kernel_rfl)).symm.trans h0_) (by decide), fun h0_ => absurd ((hoff 7 (by kernel_rfl)).symm.trans h0_) (by decide)⟩
  refine steps_cons ?_ ?_
  ·rintro b a w' ⟨ha, Q_HBU, Q_HR0, Q_HR1, Q_HR2, Q_HR3⟩ hb_ hon hoff
   refine ⟨_, rfl, fun K hK => ?_⟩
   have e6 : a.tmps[6]? = some ((.pointer (some ⟨g, 0, none⟩))) := by rw [ha]; exact putSel_on (e := (0, 6, (.pointer (some ⟨g, 0, none⟩)))) 0 rfl rfl (hon 0 (by kernel_rfl)) rfl
   replace ha := Aside0.mk ha
   have HBU := Aside0.mk Q_HBU
   have HR0 := Aside0.mk (Q_HR0 hb_)
   refine goes_ Try.func45 (by kernel_rfl) rfl #[.pointer (some ⟨g, 0, none⟩)] (by rfl) rfl rfl (by first | (simp only [List.map_toArray, List.map_cons, List.map_nil, Act.eval, Array.getD_eq_getD_getElem?, Option.getD_some, e6]; done) | (simp only [List.map_toArray, List.map_cons, List.map_nil, Act.eval, Array.getD_eq_getD_getElem?, Option.getD_some, e6]; rfl)) ?_
   refine (num_a g v l HOK.out s _ HR0.out).mono ?_
   rintro e w1_ ⟨rfl, hrd, hb⟩
   refine ⟨_, rfl, ?_⟩
   refine hK.out _ _ ⟨(by rw [ha.out]; exact putSel_upk 1 hb_ rfl rfl rfl), HBU.out.trans hb, fun h0_ => absurd ((up_self b 1).symm.trans h0_) (by decide), fun _ _ => hrd, fun h0_ _ => absurd ((hoff 4 (by kernel_rfl)).symm.trans h0_) (by decide), fun h0_ => absurd ((hoff 7 (by kernel_rfl)).symm.trans h0_) (by decide)⟩
  refine steps_cons ?_ ?_
  ·rintro b a w' ⟨ha, Q_HBU, Q_HR0, Q_HR1, Q_HR2, Q_HR3⟩ hb_ hon hoff
   refine ⟨_, rfl, fun K hK => ?_⟩
   have e7 : a.tmps[7]? = some ((.int .i64 (s.num l).1)) := by rw [ha]; exact putSel_on (e := (1, 7, (.int .i64 (s.num l).1))) 1 rfl rfl (hon 1 (by kernel_rfl)) rfl
   replace ha := Aside0.mk ha
   have HBU := Aside0.mk Q_HBU
   refine value_ (w1 := w') (v := (.int .i64 (far (s.num l).1))) (by rfl) rfl ?_ ?_
   ·go_simp
    (try simp only [i64_w])
    try (first | rfl | assumption)
   refine hK.out _ _ ⟨(by rw [ha.out]; exact putSel_upk 2 hb_ rfl rfl rfl), Q_HBU, fun h0_ => absurd ((hon 1 (by kernel_rfl)).symm.trans h0_) (by decide), Q_HR1, Q_HR2, Q_HR3⟩
  refine steps_cons ?_ ?_
  ·rintro b a w' ⟨ha, Q_HBU, Q_HR0, Q_HR1, Q_HR2, Q_HR3⟩ hb_ hon hoff
   refine ⟨_, rfl, fun K hK => ?_⟩
   have e0 : a.tmps[0]? = some ((.pointer (some ⟨X, 0, none⟩))) := by rw [ha]; exact (putSel_off rfl).trans rfl
   replace ha := Aside0.mk ha
   have HBU := Aside0.mk Q_HBU
   have x0_ := HALX.out _ HBU.out
   refine value_ (w1 := w') (v := (.pointer (some ⟨g, 0, none⟩))) (by rfl) rfl ?_ ?_
   ·go_simp
    (try simp only [i64_w])
    try (first | rfl | assumption)
   refine hK.out _ _ ⟨(by rw [ha.out]; exact putSel_upk 3 hb_ rfl rfl rfl), Q_HBU, Q_HR0, Q_HR1, fun h0_ _ => absurd ((hoff 4 (by kernel_rfl)).symm.trans h0_) (by decide), fun h0_ => absurd ((hoff 7 (by kernel_rfl)).symm.trans h0_) (by decide)⟩
  refine steps_cons ?_ ?_
  ·rintro b a w' ⟨ha, Q_HBU, Q_HR0, Q_HR1, Q_HR2, Q_HR3⟩ hb_ hon hoff
   refine ⟨_, rfl, fun K hK => ?_⟩
   have e9 : a.tmps[9]? = some ((.pointer (some ⟨g, 0, none⟩))) := by rw [ha]; exact putSel_on (e := (3, 9, (.pointer (some ⟨g, 0, none⟩)))) 3 rfl rfl (hon 3 (by kernel_rfl)) rfl
   replace ha := Aside0.mk ha
   have HBU := Aside0.mk Q_HBU
   have HR1 := Aside0.mk (Q_HR1 (hon 1 (by kernel_rfl)) hb_)
   refine goes_ Try.func45 (by kernel_rfl) rfl #[.pointer (some ⟨g, 0, none⟩)] (by rfl) rfl rfl (by first | (simp only [List.map_toArray, List.map_cons, List.map_nil, Act.eval, Array.getD_eq_getD_getElem?, Option.getD_some, e9]; done) | (simp only [List.map_toArray, List.map_cons, List.map_nil, Act.eval, Array.getD_eq_getD_getElem?, Option.getD_some, e9]; rfl)) ?_
   refine (num_a g v l HOK.out (s.num l).2 _ HR1.out).mono ?_
   rintro e w1_ ⟨rfl, hrd, hb⟩
   refine ⟨_, rfl, ?_⟩
   refine hK.out _ _ ⟨(by rw [ha.out]; exact putSel_upk 4 hb_ rfl rfl rfl), HBU.out.trans hb, fun h0_ => absurd ((hon 1 (by kernel_rfl)).symm.trans h0_) (by decide), fun _ h1_ => absurd ((up_self b 4).symm.trans h1_) (by decide), fun _ _ => hrd, fun h0_ => absurd ((hoff 7 (by kernel_rfl)).symm.trans h0_) (by decide)⟩
  refine steps_cons ?_ ?_
  ·rintro b a w' ⟨ha, Q_HBU, Q_HR0, Q_HR1, Q_HR2, Q_HR3⟩ hb_ hon hoff
   refine ⟨_, rfl, fun K hK => ?_⟩
   have e10 : a.tmps[10]? = some ((.int .i64 ((s.num l).2.num l).1)) := by rw [ha]; exact putSel_on (e := (4, 10, (.int .i64 ((s.num l).2.num l).1))) 4 rfl rfl (hon 4 (by kernel_rfl)) rfl
   replace ha := Aside0.mk ha
   have HBU := Aside0.mk Q_HBU
   refine value_ (w1 := w') (v := (.int .i64 (far ((s.num l).2.num l).1))) (by rfl) rfl ?_ ?_
   ·go_simp
    (try simp only [i64_w])
    try (first | rfl | assumption)
   refine hK.out _ _ ⟨(by rw [ha.out]; exact putSel_upk 5 hb_ rfl rfl rfl), Q_HBU, fun h0_ => absurd ((hon 1 (by kernel_rfl)).symm.trans h0_) (by decide), fun _ h1_ => absurd ((hon 4 (by kernel_rfl)).symm.trans h1_) (by decide), Q_HR2, Q_HR3⟩
  refine steps_cons ?_ ?_
  ·rintro b a w' ⟨ha, Q_HBU, Q_HR0, Q_HR1, Q_HR2, Q_HR3⟩ hb_ hon hoff
   refine ⟨_, rfl, fun K hK => ?_⟩
   have e0 : a.tmps[0]? = some ((.pointer (some ⟨X, 0, none⟩))) := by rw [ha]; exact (putSel_off rfl).trans rfl
   replace ha := Aside0.mk ha
   have HBU := Aside0.mk Q_HBU
   have x0_ := HALX.out _ HBU.out
   refine value_ (w1 := w') (v := (.pointer (some ⟨g, 0, none⟩))) (by rfl) rfl ?_ ?_
   ·go_simp
    (try simp only [i64_w])
    try (first | rfl | assumption)
   refine hK.out _ _ ⟨(by rw [ha.out]; exact putSel_upk 6 hb_ rfl rfl rfl), Q_HBU, Q_HR0, Q_HR1, Q_HR2, fun h0_ => absurd ((hoff 7 (by kernel_rfl)).symm.trans h0_) (by decide)⟩
  refine steps_cons ?_ ?_
  ·rintro b a w' ⟨ha, Q_HBU, Q_HR0, Q_HR1, Q_HR2, Q_HR3⟩ hb_ hon hoff
   refine ⟨_, rfl, fun K hK => ?_⟩
   have e12 : a.tmps[12]? = some ((.pointer (some ⟨g, 0, none⟩))) := by rw [ha]; exact putSel_on (e := (6, 12, (.pointer (some ⟨g, 0, none⟩)))) 6 rfl rfl (hon 6 (by kernel_rfl)) rfl
   replace ha := Aside0.mk ha
   have HBU := Aside0.mk Q_HBU
   have HR2 := Aside0.mk (Q_HR2 (hon 4 (by kernel_rfl)) hb_)
   refine goes_ Try.func45 (by kernel_rfl) rfl #[.pointer (some ⟨g, 0, none⟩)] (by rfl) rfl rfl (by first | (simp only [List.map_toArray, List.map_cons, List.map_nil, Act.eval, Array.getD_eq_getD_getElem?, Option.getD_some, e12]; done) | (simp only [List.map_toArray, List.map_cons, List.map_nil, Act.eval, Array.getD_eq_getD_getElem?, Option.getD_some, e12]; rfl)) ?_
   refine (num_a g v l HOK.out ((s.num l).2.num l).2 _ HR2.out).mono ?_
   rintro e w1_ ⟨rfl, hrd, hb⟩
   refine ⟨_, rfl, ?_⟩
   refine hK.out _ _ ⟨(by rw [ha.out]; exact putSel_upk 7 hb_ rfl rfl rfl), HBU.out.trans hb, fun h0_ => absurd ((hon 1 (by kernel_rfl)).symm.trans h0_) (by decide), fun _ h1_ => absurd ((hon 4 (by kernel_rfl)).symm.trans h1_) (by decide), fun _ h1_ => absurd ((up_self b 7).symm.trans h1_) (by decide), fun _ => hrd⟩
  refine steps_cons ?_ ?_
  ·rintro b a w' ⟨ha, Q_HBU, Q_HR0, Q_HR1, Q_HR2, Q_HR3⟩ hb_ hon hoff
   refine ⟨_, rfl, fun K hK => ?_⟩
   have e8 : a.tmps[8]? = some ((.int .i64 (far (s.num l).1))) := by rw [ha]; exact putSel_on (e := (2, 8, (.int .i64 (far (s.num l).1)))) 2 rfl rfl (hon 2 (by kernel_rfl)) rfl
   replace ha := Aside0.mk ha
   have HBU := Aside0.mk Q_HBU
   have HR3 := Aside0.mk (Q_HR3 (hon 7 (by kernel_rfl)))
   refine value_ (w1 := w') (v := (.int .i64 (far (s.num l).1))) (by rfl) rfl ?_ ?_
   ·go_simp
    (try simp only [i64_w])
    try (first | rfl | assumption)
   refine hK.out _ _ ⟨(by rw [ha.out]; exact putSel_upk 8 hb_ rfl rfl rfl), Q_HBU, fun h0_ => absurd ((hon 1 (by kernel_rfl)).symm.trans h0_) (by decide), fun _ h1_ => absurd ((hon 4 (by kernel_rfl)).symm.trans h1_) (by decide), fun _ h1_ => absurd ((hon 7 (by kernel_rfl)).symm.trans h1_) (by decide), Q_HR3⟩
  refine steps_cons ?_ ?_
  ·rintro b a w' ⟨ha, Q_HBU, Q_HR0, Q_HR1, Q_HR2, Q_HR3⟩ hb_ hon hoff
   refine ⟨_, rfl, fun K hK => ?_⟩
   have e11 : a.tmps[11]? = some ((.int .i64 (far ((s.num l).2.num l).1))) := by rw [ha]; exact putSel_on (e := (5, 11, (.int .i64 (far ((s.num l).2.num l).1)))) 5 rfl rfl (hon 5 (by kernel_rfl)) rfl
   replace ha := Aside0.mk ha
   have HBU := Aside0.mk Q_HBU
   have HR3 := Aside0.mk (Q_HR3 (hon 7 (by kernel_rfl)))
   refine value_ (w1 := w') (v := (.int .i64 (far ((s.num l).2.num l).1))) (by rfl) rfl ?_ ?_
   ·go_simp
    (try simp only [i64_w])
    try (first | rfl | assumption)
   refine hK.out _ _ ⟨(by rw [ha.out]; exact putSel_upk 9 hb_ rfl rfl rfl), Q_HBU, fun h0_ => absurd ((hon 1 (by kernel_rfl)).symm.trans h0_) (by decide), fun _ h1_ => absurd ((hon 4 (by kernel_rfl)).symm.trans h1_) (by decide), fun _ h1_ => absurd ((hon 7 (by kernel_rfl)).symm.trans h1_) (by decide), Q_HR3⟩
  refine steps_cons ?_ ?_
  ·rintro b a w' ⟨ha, Q_HBU, Q_HR0, Q_HR1, Q_HR2, Q_HR3⟩ hb_ hon hoff
   refine ⟨_, rfl, fun K hK => ?_⟩
   have e13 : a.tmps[13]? = some ((.int .i64 (((s.num l).2.num l).2.num l).1)) := by rw [ha]; exact putSel_on (e := (7, 13, (.int .i64 (((s.num l).2.num l).2.num l).1))) 7 rfl rfl (hon 7 (by kernel_rfl)) rfl
   replace ha := Aside0.mk ha
   have HBU := Aside0.mk Q_HBU
   have HR3 := Aside0.mk (Q_HR3 (hon 7 (by kernel_rfl)))
   refine value_ (w1 := w') (v := (.int .i64 (((s.num l).2.num l).2.num l).1)) (by rfl) rfl ?_ ?_
   ·go_simp
    (try simp only [i64_w])
    try (first | rfl | assumption)
   refine hK.out _ _ ⟨(by rw [ha.out]; exact putSel_upk 10 hb_ rfl rfl rfl), Q_HBU, fun h0_ => absurd ((hon 1 (by kernel_rfl)).symm.trans h0_) (by decide), fun _ h1_ => absurd ((hon 4 (by kernel_rfl)).symm.trans h1_) (by decide), fun _ h1_ => absurd ((hon 7 (by kernel_rfl)).symm.trans h1_) (by decide), Q_HR3⟩
  exact steps_nil
 rintro b a we hall ⟨ha, Q_HBU, Q_HR0, Q_HR1, Q_HR2, Q_HR3⟩
 clear HBU HR0
 have hb0_ := hall 0 (by kernel_rfl)
 have hb1_ := hall 1 (by kernel_rfl)
 have hb2_ := hall 2 (by kernel_rfl)
 have hb3_ := hall 3 (by kernel_rfl)
 have hb4_ := hall 4 (by kernel_rfl)
 have hb5_ := hall 5 (by kernel_rfl)
 have hb6_ := hall 6 (by kernel_rfl)
 have hb7_ := hall 7 (by kernel_rfl)
 have hb8_ := hall 8 (by kernel_rfl)
 have hb9_ := hall 9 (by kernel_rfl)
 have hb10_ := hall 10 (by kernel_rfl)
 subst ha
 simp only [putSel, hb0_, hb1_, hb2_, hb3_, hb4_, hb5_, hb6_, hb7_, hb8_, hb9_, hb10_, if_true, Act.put, List.setIfInBounds_toArray, List.set_cons_zero, List.set_cons_succ]
 have HBU := Aside0.mk Q_HBU
 clear Q_HBU
 clear Q_HR0
 clear Q_HR1
 clear Q_HR2
 have HR3 := Aside0.mk (Q_HR3 hb7_)
 clear Q_HR3
 clear hall hb0_ hb1_ hb2_ hb3_ hb4_ hb5_ hb6_ hb7_ hb8_ hb9_ hb10_
 obtain ⟨n1, hn1⟩ : ∃ n1, n1 = far (s.num l).1 := ⟨_, rfl⟩
 obtain ⟨n2, hn2⟩ : ∃ n2, n2 = far ((s.num l).2.num l).1 := ⟨_, rfl⟩
 obtain ⟨n3, hn3⟩ : ∃ n3, n3 = (((s.num l).2.num l).2.num l).1 := ⟨_, rfl⟩
 obtain ⟨s3, hs3⟩ : ∃ s3, s3 = (((s.num l).2.num l).2.num l).2 := ⟨_, rfl⟩
 obtain ⟨q2, hq2⟩ : ∃ q2, q2 = far (wrap64 (q + n1)) := ⟨_, rfl⟩
 have hnote : s.note l q = (⟨⟨q2, wrap64 (q2 + n2)⟩, n3⟩, q2, s3) := by unfold At.note; rw [← hn1, ← hn2, ← hn3, ← hs3, ← hq2]
 have HNT := Aside0.mk hnote
 have HQ2 := Aside0.mk hq2
 have HYE := Aside0.mk ((HBU.out.block Y (Array.getElem?_eq_some_iff.1 HY.out).1 (fun e => HNE.out.2.1 (Option.some.inj e))).trans HY.out)
 rw [← hn1, ← hn2, ← hn3]
 rw [← hs3] at HR3
 have HTE := Aside0.mk ((HBU.out.block R (Array.getElem?_eq_some_iff.1 HT.out).1 (fun e => HGR.out (Option.some.inj e).symm)).trans HT.out)
 have HRY := Aside0.mk (show R ≠ Y by have h1 := HYL.out; have h2 := HRE.out; omega)
 clear hn1 hn2 hn3 hs3 hq2 hnote
 have y0 : we.cell? ⟨Y, 0, none⟩ = some (.int .i64 q) := by rw [cell_of_row _ _ 0 _ _ _ HYE.out]; rfl
 have fy := frozen_of_row _ _ 0 _ _ HYE.out
 by_cases hf : 16777217 < wrap64 (q + n1)
 ·have e2 : q2 = 16777217 := by rw [HQ2.out]; unfold far; rw [if_pos hf]
  obtain ⟨wy, hwy⟩ : ∃ wy, wy = we.setCell ⟨Y, 0, none⟩ (.int .i64 (16777217)) := ⟨_, rfl⟩
  have HYY := Aside0.mk (show wy.heap[Y]? = some (.cells #[.int .i64 q2] 3 (0, 0)) by rw [hwy, e2]; exact heap_setCell_same we Y 0 _ _ _ HYE.out)
  have HTY := Aside0.mk (show wy.heap[R]? = some (.cells #[.int .i64 0, .int .i64 0, .int .i64 0] 104 (0, 0)) by rw [hwy]; exact (heap_setCell_other we ⟨Y, 0, none⟩ R _ HRY.out).trans HTE.out)
  have HRDY := Aside0.mk (show Rd g wy v l s3.a s3.bad by
   rw [hwy]
   refine HR3.out.but (But.setCell Y 0 we _) HNE.out.2.1.symm ?_
   intro o z hz
   rw [cell_of_row _ _ o _ _ _ HYE.out] at hz
   rcases o with _ | o <;> simp at hz)
  have HWY := Aside0.mk hwy
  have HE2 := Aside0.mk e2
  have yy : wy.cell? ⟨Y, 0, none⟩ = some (.int .i64 (16777217)) := by rw [cell_of_row _ _ 0 _ _ _ HYY.out, e2]; rfl
  have t0 : wy.cell? ⟨R, 0, none⟩ = some (.int .i64 0) := by rw [cell_of_row _ _ 0 _ _ _ HTY.out]; rfl
  have t1 : wy.cell? ⟨R, 1, none⟩ = some (.int .i64 0) := by rw [cell_of_row _ _ 1 _ _ _ HTY.out]; rfl
  have t2 : wy.cell? ⟨R, 2, none⟩ = some (.int .i64 0) := by rw [cell_of_row _ _ 2 _ _ _ HTY.out]; rfl
  have f0 := frozen_of_row _ _ 0 _ _ HTY.out
  have f1 := frozen_of_row _ _ 1 _ _ HTY.out
  have f2 := frozen_of_row _ _ 2 _ _ HTY.out
  clear hwy e2
  go_wp2_with (first | rw [← HWY.out])
  refine bodyPost_ret (results_cell_row rfl _ _ R 104 #[_, _, _] (0, 0) _ rfl (set3 HTY.out _ _ _) Try.underlying104 rfl (by kernel_rfl)) rfl ?_
  unfold NotePost
  rw [HNT.out, HE2.out]
  refine ⟨rfl, ?_, ?_, ⟨?_, ?_, ?_, ?_, ?_⟩⟩
  ·refine HRDY.out.but (((But.setCell R 0 wy _).trans (But.setCell R 1 _ _)).trans (But.setCell R 2 _ _)) HGR.out ?_
   intro o z hz
   rw [cell_of_row _ _ o _ _ _ HTY.out] at hz
   rcases o with _ | _ | _ | o <;> simp at hz
  ·rw [Below.heap_setCell _ _ _ _ (show Y ≠ R from HRY.out.symm), Below.heap_setCell _ _ _ _ (show Y ≠ R from HRY.out.symm), Below.heap_setCell _ _ _ _ (show Y ≠ R from HRY.out.symm), HYY.out, HE2.out]
  ·show wy.os = w.os; rw [HWY.out]; exact HBU.out.os.trans HB1.out.os
  ·show wy.tape = w.tape; rw [HWY.out]; exact HBU.out.tape.trans HB1.out.tape
  ·show wy.output = w.output; rw [HWY.out]; exact HBU.out.output.trans HB1.out.output
  ·exact Nat.le_trans HB1.out.size (Nat.le_trans HBU.out.size (Nat.le_trans (by rw [HWY.out]; exact (But.setCell Y 0 we _).size) (((But.setCell R 0 wy _).trans (But.setCell R 1 _ _)).trans (But.setCell R 2 _ _)).size))
  ·intro b hb hbg hby
   have hbr : b ≠ R := by have := HRE.out; omega
   rw [Below.heap_setCell _ _ _ _ (show b ≠ R from hbr), Below.heap_setCell _ _ _ _ (show b ≠ R from hbr), Below.heap_setCell _ _ _ _ (show b ≠ R from hbr), HWY.out, Below.heap_setCell _ _ _ _ (show b ≠ Y from hby)]
   exact (HBU.out.block b (by have := HB1.out.size; omega) (fun e => hbg (Option.some.inj e))).trans (HB1.out.block b hb)
 ·have e2 : q2 = wrap64 (q + n1) := by rw [HQ2.out]; unfold far; rw [if_neg hf]
  obtain ⟨wy, hwy⟩ : ∃ wy, wy = we.setCell ⟨Y, 0, none⟩ (.int .i64 (wrap64 (q + n1))) := ⟨_, rfl⟩
  have HYY := Aside0.mk (show wy.heap[Y]? = some (.cells #[.int .i64 q2] 3 (0, 0)) by rw [hwy, e2]; exact heap_setCell_same we Y 0 _ _ _ HYE.out)
  have HTY := Aside0.mk (show wy.heap[R]? = some (.cells #[.int .i64 0, .int .i64 0, .int .i64 0] 104 (0, 0)) by rw [hwy]; exact (heap_setCell_other we ⟨Y, 0, none⟩ R _ HRY.out).trans HTE.out)
  have HRDY := Aside0.mk (show Rd g wy v l s3.a s3.bad by
   rw [hwy]
   refine HR3.out.but (But.setCell Y 0 we _) HNE.out.2.1.symm ?_
   intro o z hz
   rw [cell_of_row _ _ o _ _ _ HYE.out] at hz
   rcases o with _ | o <;> simp at hz)
  have HWY := Aside0.mk hwy
  have HE2 := Aside0.mk e2
  have yy : wy.cell? ⟨Y, 0, none⟩ = some (.int .i64 (wrap64 (q + n1))) := by rw [cell_of_row _ _ 0 _ _ _ HYY.out, e2]; rfl
  have t0 : wy.cell? ⟨R, 0, none⟩ = some (.int .i64 0) := by rw [cell_of_row _ _ 0 _ _ _ HTY.out]; rfl
  have t1 : wy.cell? ⟨R, 1, none⟩ = some (.int .i64 0) := by rw [cell_of_row _ _ 1 _ _ _ HTY.out]; rfl
  have t2 : wy.cell? ⟨R, 2, none⟩ = some (.int .i64 0) := by rw [cell_of_row _ _ 2 _ _ _ HTY.out]; rfl
  have f0 := frozen_of_row _ _ 0 _ _ HTY.out
  have f1 := frozen_of_row _ _ 1 _ _ HTY.out
  have f2 := frozen_of_row _ _ 2 _ _ HTY.out
  clear hwy e2
  go_wp2_with (first | rw [← HWY.out])
  refine bodyPost_ret (results_cell_row rfl _ _ R 104 #[_, _, _] (0, 0) _ rfl (set3 HTY.out _ _ _) Try.underlying104 rfl (by kernel_rfl)) rfl ?_
  unfold NotePost
  rw [HNT.out, HE2.out]
  refine ⟨rfl, ?_, ?_, ⟨?_, ?_, ?_, ?_, ?_⟩⟩
  ·refine HRDY.out.but (((But.setCell R 0 wy _).trans (But.setCell R 1 _ _)).trans (But.setCell R 2 _ _)) HGR.out ?_
   intro o z hz
   rw [cell_of_row _ _ o _ _ _ HTY.out] at hz
   rcases o with _ | _ | _ | o <;> simp at hz
  ·rw [Below.heap_setCell _ _ _ _ (show Y ≠ R from HRY.out.symm), Below.heap_setCell _ _ _ _ (show Y ≠ R from HRY.out.symm), Below.heap_setCell _ _ _ _ (show Y ≠ R from HRY.out.symm), HYY.out, HE2.out]
  ·show wy.os = w.os; rw [HWY.out]; exact HBU.out.os.trans HB1.out.os
  ·show wy.tape = w.tape; rw [HWY.out]; exact HBU.out.tape.trans HB1.out.tape
  ·show wy.output = w.output; rw [HWY.out]; exact HBU.out.output.trans HB1.out.output
  ·exact Nat.le_trans HB1.out.size (Nat.le_trans HBU.out.size (Nat.le_trans (by rw [HWY.out]; exact (But.setCell Y 0 we _).size) (((But.setCell R 0 wy _).trans (But.setCell R 1 _ _)).trans (But.setCell R 2 _ _)).size))
  ·intro b hb hbg hby
   have hbr : b ≠ R := by have := HRE.out; omega
   rw [Below.heap_setCell _ _ _ _ (show b ≠ R from hbr), Below.heap_setCell _ _ _ _ (show b ≠ R from hbr), Below.heap_setCell _ _ _ _ (show b ≠ R from hbr), HWY.out, Below.heap_setCell _ _ _ _ (show b ≠ Y from hby)]
   exact (HBU.out.block b (by have := HB1.out.size; omega) (fun e => hbg (Option.some.inj e))).trans (HB1.out.block b hb)
end Go.Proofs.Ytedfcjcnhgomoaa.DecA
end
-- MERGED YtedfcjcnhgomoaaRowRn
section
namespace Go.Proofs.Ytedfcjcnhgomoaa.RowRn
open Go.RowKit Go.Proofs.Ytedfcjcnhgomoaa.P Go.Proofs.YtedfcjcnhgomoaaW.PrintWords Go.Proofs.YtedfcjcnhgomoaaW.PrintLast Go.Proofs.YtedfcjcnhgomoaaW.PrintMore Go.Proofs.Ytedfcjcnhgomoaa.Own Go.Proofs.Ytedfcjcnhgomoaa.EditL Go.Proofs.Ytedfcjcnhgomoaa.EditK
set_option linter.unusedSimpArgs false
set_option linter.unusedVariables false
def rcells (l : List Rn) : List Value := l.flatMap fun r => [.int .i64 r.f0, .string r.f1, .int .i64 r.f2]
theorem rcells_length (l : List Rn) : (rcells l).length = l.length * 3 := by
 unfold rcells
 induction l with
 | nil => rfl
 | cons p l ih => rw [List.flatMap_cons, List.length_append, ih, List.length_cons]; simp; omega
theorem rcells_snoc (l : List Rn) (r : Rn) : rcells (l ++ [r]) = rcells l ++ [.int .i64 r.f0, .string r.f1, .int .i64 r.f2] := by simp [rcells]
theorem rcells_at (l : List Rn) : ∀ (j : Nat) (r : Rn), l[j]? = some r → ((rcells l).drop (j * 3)).take 3 = [.int .i64 r.f0, .string r.f1, .int .i64 r.f2] := by
 induction l with
 | nil => intro j r h; simp at h
 | cons p l ih =>
  intro j r h
  have e : rcells (p :: l) = [.int .i64 p.f0, .string p.f1, .int .i64 p.f2] ++ rcells l := rfl
  cases j with
  | zero =>
   obtain rfl : p = r := by simpa using h
   rw [e]; simp
  | succ j =>
   have h2 : l[j]? = some r := by simpa using h
   rw [e, show (j + 1) * 3 = 3 + j * 3 by omega, ← List.drop_drop]
   exact ih j r h2
abbrev RO (w : World) (B : Nat) (v : Value) (l : List Rn) : Prop := w.ownsRow B 85 3 v l.length (rcells l)
theorem RO.R {w : World} {B : Nat} {v : Value} {l : List Rn} (h : RO w B v l) : Kd.R k85 85 w B (fun _ => True) v l :=
 ⟨fun _ _ => trivial, rcells l, h, by rw [rcells_length]; rfl, fun j p hj => by
  have e := rcells_at l j p hj
  show k85.M _ _ _ p (((rcells l).drop (j * 3)).take 3)
  rw [e]; exact k85_mkM _ _ _ p⟩
theorem RO.below {w w' : World} {B : Nat} {v : Value} {l : List Rn} (h : RO w B v l) (hb : Below w.heap.size w w') : RO w' B v l := own_move h fun k hk => hb.block k (own_lt h k hk)
theorem infoRn : (Try.prog.info? 85).map (fun i => (i.zero, i.size, i.bytes)) = some (some (.agg #[.int .i64 0, .string ⟨#[]⟩, .int .i64 0]), 3, 32) := by kernel_rfl
theorem cells3_new (W : World) (a b c : Value) (T : TypeId) : ∀ (j : Nat) (u : Value), [a, b, c][j]? = some u → (W.alloc (.cells #[a, b, c] T)).cell? ((⟨W.heap.size, 0, none⟩ : Addr).add j) = some u := by
 intro j u h
 have e : ((⟨W.heap.size, 0, none⟩ : Addr).add j) = ⟨W.heap.size, j, none⟩ := by simp [Addr.add]; exact fun h => h.symm
 rw [e, cell_of_row _ _ j _ _ _ (Own.heap_new W (.cells #[a, b, c] T))]
 simpa using h
structure Grew (W w' : World) (B : Nat) (v v' : Value) (xs : List Rn) (r : Rn) : Prop where
 own : RO w' B v' (xs ++ [r])
 grown : W.grownBy w' v.ownBlock
 at_ : v'.ownBlock = v.ownBlock ∨ ∃ b, v'.ownBlock = some b ∧ W.heap.size ≤ b
 form : ∃ g cap, v' = .slice (some ⟨g, 0, none⟩) (xs.length + 1) cap
theorem exec_run {P : Program} (hP : P = Try.prog) {W : World} {f : Operand → Value} {o : Oper} {s x : Operand} (hop : o.op = Op.call { callee := Callee.builtin Builtin.append, args := #[s, x], argTypes := #[41, 41] })
  {B : Nat} (hB : B ≤ W.heap.size) {v : Value} {xs : List Rn} (hs : f s = v) (hx : RO W B v xs) (r : Rn)
  (he : f x = .slice (some ⟨W.heap.size, 0, none⟩) 1 1) (hl : xs.length + 1 ≤ 4398046511104) :
  ∃ v' w', (execOp f o).run P (W.alloc (.cells #[.int .i64 r.f0, .string r.f1, .int .i64 r.f2] 85)) = .ok (.value v') w' ∧ Grew W w' B v v' xs r := by
 subst hP
 obtain ⟨i0, hi0, hz0, hz1, hz2⟩ := info_parts infoRn
 obtain ⟨tmp, ht⟩ : ∃ tmp : Obj, tmp = .cells #[.int .i64 r.f0, .string r.f1, .int .i64 r.f2] 85 := ⟨_, rfl⟩
 have hxa := hx.alloc tmp
 have hnew := cells3_new W (.int .i64 r.f0) (.string r.f1) (.int .i64 r.f2) 85
 rw [← ht] at hnew ⊢
 obtain ⟨v', w', hrun, h1, h2, h3, h4⟩ := run_append_own_at (P := Try.prog) (w := W.alloc tmp) B 41 o.type 85 i0 _ 3 32 Try.underlying41 hi0 hz0 hz1 hz2 rfl (by decide) v xs.length (rcells xs) hxa ⟨W.heap.size, 0, none⟩ 1 1 [.int .i64 r.f0, .string r.f1, .int .i64 r.f2] rfl hnew (by simp [Value.oneCell']) (by unfold maxLen; omega) (by omega) (by simp; omega)
 refine ⟨v', w', ?_, ⟨?_, ?_, ?_, ?_⟩⟩
 ·simp [execOp, hop, resolve, invoke, builtin, hs, he, hrun, Result.andThen]
 ·show w'.ownsRow B _ 3 v' (xs ++ [r]).length (rcells (xs ++ [r]))
  rw [List.length_append, rcells_snoc]; exact h1
 ·exact ⟨h2.os, h2.tape, h2.output, by have := h2.size; simp at this; omega, fun k hk hn => (h2.block k (by simp; omega) hn).trans (Own.heap_old W tmp k hk)⟩
 ·rcases h4 with h4 | h4
  ·exact .inl h4
  ·exact .inr ⟨_, h4, by simp⟩
 ·exact ownsRow_succ h1
theorem wpList_run {ops : Array Oper} {rest : List Oper} {o : Oper} {a : Act} {W : World} {Q : Exit → Act → World → Prop} {s x : Operand} (hg : o.guard = none)
  (hop : o.op = Op.call { callee := Callee.builtin Builtin.append, args := #[s, x], argTypes := #[41, 41] })
  {B : Nat} (hB : B ≤ W.heap.size) {v : Value} {xs : List Rn} (hs : a.eval s = v) (hx : RO W B v xs) (r : Rn) (he : a.eval x = .slice (some ⟨W.heap.size, 0, none⟩) 1 1) (hl : xs.length + 1 ≤ 4398046511104)
  (hK : ∀ v' w', Grew W w' B v v' xs r → wpList Try.prog ops Q rest (a.put o.dst v') w') :
  wpList Try.prog ops Q (o :: rest) a (W.alloc (.cells #[.int .i64 r.f0, .string r.f1, .int .i64 r.f2] 85)) := by
 obtain ⟨v', w', hrun, h⟩ := exec_run rfl (o := o) (f := a.eval) hop hB hs hx r he hl
 refine wpList_plain hg fun K hK' => ?_
 unfold Oper.wp
 rw [hrun]
 exact hK' _ _ (hK v' w' h)
end Go.Proofs.Ytedfcjcnhgomoaa.RowRn
end

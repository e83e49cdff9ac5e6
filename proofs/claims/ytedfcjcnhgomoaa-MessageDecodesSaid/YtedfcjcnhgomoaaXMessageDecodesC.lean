/- Shaken: what the claim's theorem needs of our texts, of the printed ones and of the print's words. -/
import Derived.Test.YtedfcjcnhgomoaaXMessageDecodesB
import Derived.Outline
import Derived.Stop.BytesEq
-- MERGED YtedfcjcnhgomoaaMsgB
section
namespace Go.Proofs.Ytedfcjcnhgomoaa.MsgB
open Go.RowKit Go.Proofs.Ytedfcjcnhgomoaa.P Go.Proofs.YtedfcjcnhgomoaaW.PrintWords Go.Proofs.YtedfcjcnhgomoaaW.PrintLast Go.Proofs.YtedfcjcnhgomoaaW.PrintMore Go.Proofs.Ytedfcjcnhgomoaa.Own Go.Proofs.Ytedfcjcnhgomoaa.MsgA
set_option linter.unusedSimpArgs false
set_option linter.unusedVariables false
set_option maxHeartbeats 8000000 in
set_option maxRecDepth 100000 in
theorem without_0 (m : Mg) (go gn : Bool) (w : World) (ho : ∃ A n c, m.o = .slice A n c) (hn : ∃ A n c, m.n = .slice A n c) : Calls Try.prog 67 #[m.val, .int .i64 0] w fun e w' => e = .returned (.tuple #[(m.strip 0).val, .bool (m.ok go gn 0)]) ∧ Below w.heap.size w w' := by
 obtain ⟨k, c, e, r, s, d, o, t, n⟩ := m
 obtain ⟨Ao, no, co, rfl⟩ := ho
 obtain ⟨An, nn, cn, rfl⟩ := hn
 obtain ⟨B, hB⟩ : ∃ B, B = w.heap.size := ⟨_, rfl⟩
 obtain ⟨w2, hw2⟩ : ∃ w2, w2 = (w.alloc (.cells #[.int .i64 k, .int .i64 c, .int .i64 e, .int .i64 r, .int .i64 s, .int .i64 d, (.slice Ao no co), .string t, (.slice An nn cn)] 44)).alloc (.cells #[.int .i64 0, .int .i64 0, .int .i64 0, .int .i64 0, .int .i64 0, .int .i64 0, .slice none 0 0, .string ⟨#[]⟩, .slice none 0 0] 44) := ⟨_, rfl⟩
 have HBB0 := Aside0.mk (show Blk B ⟨k, c, e, r, s, d, (.slice Ao no co), t, (.slice An nn cn)⟩ w2 by unfold Blk; rw [hw2, hB, Own.heap_old _ _ _ (by simp)]; exact Own.heap_new _ _)
 have HZZ0 := Aside0.mk (show Blk (B + 1) ⟨0, 0, 0, 0, 0, 0, .slice none 0 0, ⟨#[]⟩, .slice none 0 0⟩ w2 by unfold Blk; rw [hw2, hB]; have := Own.heap_new (w.alloc (.cells #[.int .i64 k, .int .i64 c, .int .i64 e, .int .i64 r, .int .i64 s, .int .i64 d, (.slice Ao no co), .string t, (.slice An nn cn)] 44)) (.cells #[.int .i64 0, .int .i64 0, .int .i64 0, .int .i64 0, .int .i64 0, .int .i64 0, .slice none 0 0, .string ⟨#[]⟩, .slice none 0 0] 44); rwa [World.size_alloc] at this)
 have HLO0 := Aside0.mk (show Below w.heap.size w w2 by rw [hw2]; exact below_alloc (below_alloc (Below.refl _ _) _) _)
 have HW2 := Aside0.mk hw2
 have HBE := Aside0.mk hB
 clear hw2 hB
 go_enter Try.func67, Try.ntmps67
 unfold Mg.val Mg.cs
 go_wp2_with fail
 rw [← HBE.out, ← HW2.out]
 refine (num_c B 0 (by decide) _).mono ?_
 rintro e1 w3 ⟨rfl, rfl⟩
 have HBB := HBB0
 have HZZ := HZZ0
 have HLO := HLO0
 obtain ⟨⟨x0, x1, x2, x3, x4, x5⟩, x6, x7, x8⟩ := HBB.out.cells
 have f0 := HBB.out.fz 1
 clear HBB0 HZZ0 HLO0 HW2
 unfold most
 by_cases h1 : 0 ≤ c
 ·obtain ⟨w9, hw9⟩ : ∃ w9, w9 = w3.setCell ⟨B, 1, none⟩ (.int .i64 0) := ⟨_, rfl⟩
  have HW3 := Aside0.mk hw9
  have b3 : Blk B ⟨k, 0, e, r, s, d, (.slice Ao no co), t, (.slice An nn cn)⟩ w9 := by rw [hw9]; exact HBB.out.strip0 (f := 0) (by decide)
  have z3 : Blk (B + 1) ⟨0, 0, 0, 0, 0, 0, .slice none 0 0, ⟨#[]⟩, .slice none 0 0⟩ w9 := by rw [hw9]; exact (heap_setCell_other w3 ⟨B, 1, none⟩ (B + 1) _ (by show B + 1 ≠ B; omega)).trans HZZ.out
  have HLO3 := Aside0.mk (show Below w.heap.size w w9 by rw [hw9]; exact HLO.out.setCell (p := ⟨B, 1, none⟩) (by have := HBE.out; show w.heap.size ≤ B; omega) _)
  have HZ3 := Aside0.mk z3
  clear hw9 x0 x2 x3 x4 x5 x6 x7 x8
  obtain ⟨⟨y0, y1, y2, y3, y4, y5⟩, y6, y7, y8⟩ := b3.cells
  obtain ⟨⟨z0, z1, z2, z3', z4, z5⟩, z6, z7, z8⟩ := z3.cells
  have g0 := z3.fz 0
  have g1 := z3.fz 1
  have g2 := z3.fz 2
  have g3 := z3.fz 3
  have g4 := z3.fz 4
  have g5 := z3.fz 5
  have g6 := z3.fz 6
  have g7 := z3.fz 7
  have g8 := z3.fz 8
  clear b3 z3
  go_wp2_with (first | rw [← HW3.out])
  refine bodyPost_ret (results_ct rfl _ _ (B + 1) 44 #[.int .i64 k, .int .i64 0, .int .i64 e, .int .i64 r, .int .i64 s, .int .i64 d, (.slice Ao no co), .string t, (.slice An nn cn)] (0, 0) _ rfl (HZ3.out.set k 0 e r s d (.slice Ao no co) t (.slice An nn cn)) Try.underlying44 rfl (by kernel_rfl)) rfl ?_
  exact ⟨by rw [show Mg.ok ⟨k, c, e, r, s, d, (.slice Ao no co), t, (.slice An nn cn)⟩ go gn 0 = decide (c ≤ 63) from by unfold Mg.ok Mg.get most; simp [h1]]; rfl, below_set9 HLO3.out (by have := HBE.out; omega) _ _ _ _ _ _ _ _ _⟩
 ·obtain ⟨w9, hw9⟩ : ∃ w9, w9 = w3.setCell ⟨B, 1, none⟩ (.int .i64 0) := ⟨_, rfl⟩
  have HW3 := Aside0.mk hw9
  have b3 : Blk B ⟨k, 0, e, r, s, d, (.slice Ao no co), t, (.slice An nn cn)⟩ w9 := by rw [hw9]; exact HBB.out.strip0 (f := 0) (by decide)
  have z3 : Blk (B + 1) ⟨0, 0, 0, 0, 0, 0, .slice none 0 0, ⟨#[]⟩, .slice none 0 0⟩ w9 := by rw [hw9]; exact (heap_setCell_other w3 ⟨B, 1, none⟩ (B + 1) _ (by show B + 1 ≠ B; omega)).trans HZZ.out
  have HLO3 := Aside0.mk (show Below w.heap.size w w9 by rw [hw9]; exact HLO.out.setCell (p := ⟨B, 1, none⟩) (by have := HBE.out; show w.heap.size ≤ B; omega) _)
  have HZ3 := Aside0.mk z3
  clear hw9 x0 x2 x3 x4 x5 x6 x7 x8
  obtain ⟨⟨y0, y1, y2, y3, y4, y5⟩, y6, y7, y8⟩ := b3.cells
  obtain ⟨⟨z0, z1, z2, z3', z4, z5⟩, z6, z7, z8⟩ := z3.cells
  have g0 := z3.fz 0
  have g1 := z3.fz 1
  have g2 := z3.fz 2
  have g3 := z3.fz 3
  have g4 := z3.fz 4
  have g5 := z3.fz 5
  have g6 := z3.fz 6
  have g7 := z3.fz 7
  have g8 := z3.fz 8
  clear b3 z3
  go_wp2_with (first | rw [← HW3.out])
  refine bodyPost_ret (results_ct rfl _ _ (B + 1) 44 #[.int .i64 k, .int .i64 0, .int .i64 e, .int .i64 r, .int .i64 s, .int .i64 d, (.slice Ao no co), .string t, (.slice An nn cn)] (0, 0) _ rfl (HZ3.out.set k 0 e r s d (.slice Ao no co) t (.slice An nn cn)) Try.underlying44 rfl (by kernel_rfl)) rfl ?_
  exact ⟨by rw [show Mg.ok ⟨k, c, e, r, s, d, (.slice Ao no co), t, (.slice An nn cn)⟩ go gn 0 = false from by unfold Mg.ok Mg.get most; simp; omega]; rfl, below_set9 HLO3.out (by have := HBE.out; omega) _ _ _ _ _ _ _ _ _⟩
set_option maxHeartbeats 8000000 in
set_option maxRecDepth 100000 in
theorem without_1 (m : Mg) (go gn : Bool) (w : World) (ho : ∃ A n c, m.o = .slice A n c) (hn : ∃ A n c, m.n = .slice A n c) : Calls Try.prog 67 #[m.val, .int .i64 1] w fun e w' => e = .returned (.tuple #[(m.strip 1).val, .bool (m.ok go gn 1)]) ∧ Below w.heap.size w w' := by
 obtain ⟨k, c, e, r, s, d, o, t, n⟩ := m
 obtain ⟨Ao, no, co, rfl⟩ := ho
 obtain ⟨An, nn, cn, rfl⟩ := hn
 obtain ⟨B, hB⟩ : ∃ B, B = w.heap.size := ⟨_, rfl⟩
 obtain ⟨w2, hw2⟩ : ∃ w2, w2 = (w.alloc (.cells #[.int .i64 k, .int .i64 c, .int .i64 e, .int .i64 r, .int .i64 s, .int .i64 d, (.slice Ao no co), .string t, (.slice An nn cn)] 44)).alloc (.cells #[.int .i64 0, .int .i64 0, .int .i64 0, .int .i64 0, .int .i64 0, .int .i64 0, .slice none 0 0, .string ⟨#[]⟩, .slice none 0 0] 44) := ⟨_, rfl⟩
 have HBB0 := Aside0.mk (show Blk B ⟨k, c, e, r, s, d, (.slice Ao no co), t, (.slice An nn cn)⟩ w2 by unfold Blk; rw [hw2, hB, Own.heap_old _ _ _ (by simp)]; exact Own.heap_new _ _)
 have HZZ0 := Aside0.mk (show Blk (B + 1) ⟨0, 0, 0, 0, 0, 0, .slice none 0 0, ⟨#[]⟩, .slice none 0 0⟩ w2 by unfold Blk; rw [hw2, hB]; have := Own.heap_new (w.alloc (.cells #[.int .i64 k, .int .i64 c, .int .i64 e, .int .i64 r, .int .i64 s, .int .i64 d, (.slice Ao no co), .string t, (.slice An nn cn)] 44)) (.cells #[.int .i64 0, .int .i64 0, .int .i64 0, .int .i64 0, .int .i64 0, .int .i64 0, .slice none 0 0, .string ⟨#[]⟩, .slice none 0 0] 44); rwa [World.size_alloc] at this)
 have HLO0 := Aside0.mk (show Below w.heap.size w w2 by rw [hw2]; exact below_alloc (below_alloc (Below.refl _ _) _) _)
 have HW2 := Aside0.mk hw2
 have HBE := Aside0.mk hB
 clear hw2 hB
 go_enter Try.func67, Try.ntmps67
 unfold Mg.val Mg.cs
 go_wp2_with fail
 rw [← HBE.out, ← HW2.out]
 refine (num_c B 1 (by decide) _).mono ?_
 rintro e1 w3 ⟨rfl, rfl⟩
 have HBB := HBB0
 have HZZ := HZZ0
 have HLO := HLO0
 obtain ⟨⟨x0, x1, x2, x3, x4, x5⟩, x6, x7, x8⟩ := HBB.out.cells
 have f0 := HBB.out.fz 2
 clear HBB0 HZZ0 HLO0 HW2
 unfold most
 by_cases h1 : 0 ≤ e
 ·obtain ⟨w9, hw9⟩ : ∃ w9, w9 = w3.setCell ⟨B, 2, none⟩ (.int .i64 0) := ⟨_, rfl⟩
  have HW3 := Aside0.mk hw9
  have b3 : Blk B ⟨k, c, 0, r, s, d, (.slice Ao no co), t, (.slice An nn cn)⟩ w9 := by rw [hw9]; exact HBB.out.strip0 (f := 1) (by decide)
  have z3 : Blk (B + 1) ⟨0, 0, 0, 0, 0, 0, .slice none 0 0, ⟨#[]⟩, .slice none 0 0⟩ w9 := by rw [hw9]; exact (heap_setCell_other w3 ⟨B, 2, none⟩ (B + 1) _ (by show B + 1 ≠ B; omega)).trans HZZ.out
  have HLO3 := Aside0.mk (show Below w.heap.size w w9 by rw [hw9]; exact HLO.out.setCell (p := ⟨B, 2, none⟩) (by have := HBE.out; show w.heap.size ≤ B; omega) _)
  have HZ3 := Aside0.mk z3
  clear hw9 x0 x1 x3 x4 x5 x6 x7 x8
  obtain ⟨⟨y0, y1, y2, y3, y4, y5⟩, y6, y7, y8⟩ := b3.cells
  obtain ⟨⟨z0, z1, z2, z3', z4, z5⟩, z6, z7, z8⟩ := z3.cells
  have g0 := z3.fz 0
  have g1 := z3.fz 1
  have g2 := z3.fz 2
  have g3 := z3.fz 3
  have g4 := z3.fz 4
  have g5 := z3.fz 5
  have g6 := z3.fz 6
  have g7 := z3.fz 7
  have g8 := z3.fz 8
  clear b3 z3
  go_wp2_with (first | rw [← HW3.out])
  refine bodyPost_ret (results_ct rfl _ _ (B + 1) 44 #[.int .i64 k, .int .i64 c, .int .i64 0, .int .i64 r, .int .i64 s, .int .i64 d, (.slice Ao no co), .string t, (.slice An nn cn)] (0, 0) _ rfl (HZ3.out.set k c 0 r s d (.slice Ao no co) t (.slice An nn cn)) Try.underlying44 rfl (by kernel_rfl)) rfl ?_
  exact ⟨by rw [show Mg.ok ⟨k, c, e, r, s, d, (.slice Ao no co), t, (.slice An nn cn)⟩ go gn 1 = decide (e ≤ 4611686018427387904) from by unfold Mg.ok Mg.get most; simp [h1]]; rfl, below_set9 HLO3.out (by have := HBE.out; omega) _ _ _ _ _ _ _ _ _⟩
 ·obtain ⟨w9, hw9⟩ : ∃ w9, w9 = w3.setCell ⟨B, 2, none⟩ (.int .i64 0) := ⟨_, rfl⟩
  have HW3 := Aside0.mk hw9
  have b3 : Blk B ⟨k, c, 0, r, s, d, (.slice Ao no co), t, (.slice An nn cn)⟩ w9 := by rw [hw9]; exact HBB.out.strip0 (f := 1) (by decide)
  have z3 : Blk (B + 1) ⟨0, 0, 0, 0, 0, 0, .slice none 0 0, ⟨#[]⟩, .slice none 0 0⟩ w9 := by rw [hw9]; exact (heap_setCell_other w3 ⟨B, 2, none⟩ (B + 1) _ (by show B + 1 ≠ B; omega)).trans HZZ.out
  have HLO3 := Aside0.mk (show Below w.heap.size w w9 by rw [hw9]; exact HLO.out.setCell (p := ⟨B, 2, none⟩) (by have := HBE.out; show w.heap.size ≤ B; omega) _)
  have HZ3 := Aside0.mk z3
  clear hw9 x0 x1 x3 x4 x5 x6 x7 x8
  obtain ⟨⟨y0, y1, y2, y3, y4, y5⟩, y6, y7, y8⟩ := b3.cells
  obtain ⟨⟨z0, z1, z2, z3', z4, z5⟩, z6, z7, z8⟩ := z3.cells
  have g0 := z3.fz 0
  have g1 := z3.fz 1
  have g2 := z3.fz 2
  have g3 := z3.fz 3
  have g4 := z3.fz 4
  have g5 := z3.fz 5
  have g6 := z3.fz 6
  have g7 := z3.fz 7
  have g8 := z3.fz 8
  clear b3 z3
  go_wp2_with (first | rw [← HW3.out])
  refine bodyPost_ret (results_ct rfl _ _ (B + 1) 44 #[.int .i64 k, .int .i64 c, .int .i64 0, .int .i64 r, .int .i64 s, .int .i64 d, (.slice Ao no co), .string t, (.slice An nn cn)] (0, 0) _ rfl (HZ3.out.set k c 0 r s d (.slice Ao no co) t (.slice An nn cn)) Try.underlying44 rfl (by kernel_rfl)) rfl ?_
  exact ⟨by rw [show Mg.ok ⟨k, c, e, r, s, d, (.slice Ao no co), t, (.slice An nn cn)⟩ go gn 1 = false from by unfold Mg.ok Mg.get most; simp; omega]; rfl, below_set9 HLO3.out (by have := HBE.out; omega) _ _ _ _ _ _ _ _ _⟩
set_option maxHeartbeats 8000000 in
set_option maxRecDepth 100000 in
theorem without_2 (m : Mg) (go gn : Bool) (w : World) (ho : ∃ A n c, m.o = .slice A n c) (hn : ∃ A n c, m.n = .slice A n c) : Calls Try.prog 67 #[m.val, .int .i64 2] w fun e w' => e = .returned (.tuple #[(m.strip 2).val, .bool (m.ok go gn 2)]) ∧ Below w.heap.size w w' := by
 obtain ⟨k, c, e, r, s, d, o, t, n⟩ := m
 obtain ⟨Ao, no, co, rfl⟩ := ho
 obtain ⟨An, nn, cn, rfl⟩ := hn
 obtain ⟨B, hB⟩ : ∃ B, B = w.heap.size := ⟨_, rfl⟩
 obtain ⟨w2, hw2⟩ : ∃ w2, w2 = (w.alloc (.cells #[.int .i64 k, .int .i64 c, .int .i64 e, .int .i64 r, .int .i64 s, .int .i64 d, (.slice Ao no co), .string t, (.slice An nn cn)] 44)).alloc (.cells #[.int .i64 0, .int .i64 0, .int .i64 0, .int .i64 0, .int .i64 0, .int .i64 0, .slice none 0 0, .string ⟨#[]⟩, .slice none 0 0] 44) := ⟨_, rfl⟩
 have HBB0 := Aside0.mk (show Blk B ⟨k, c, e, r, s, d, (.slice Ao no co), t, (.slice An nn cn)⟩ w2 by unfold Blk; rw [hw2, hB, Own.heap_old _ _ _ (by simp)]; exact Own.heap_new _ _)
 have HZZ0 := Aside0.mk (show Blk (B + 1) ⟨0, 0, 0, 0, 0, 0, .slice none 0 0, ⟨#[]⟩, .slice none 0 0⟩ w2 by unfold Blk; rw [hw2, hB]; have := Own.heap_new (w.alloc (.cells #[.int .i64 k, .int .i64 c, .int .i64 e, .int .i64 r, .int .i64 s, .int .i64 d, (.slice Ao no co), .string t, (.slice An nn cn)] 44)) (.cells #[.int .i64 0, .int .i64 0, .int .i64 0, .int .i64 0, .int .i64 0, .int .i64 0, .slice none 0 0, .string ⟨#[]⟩, .slice none 0 0] 44); rwa [World.size_alloc] at this)
 have HLO0 := Aside0.mk (show Below w.heap.size w w2 by rw [hw2]; exact below_alloc (below_alloc (Below.refl _ _) _) _)
 have HW2 := Aside0.mk hw2
 have HBE := Aside0.mk hB
 clear hw2 hB
 go_enter Try.func67, Try.ntmps67
 unfold Mg.val Mg.cs
 go_wp2_with fail
 rw [← HBE.out, ← HW2.out]
 refine (num_c B 2 (by decide) _).mono ?_
 rintro e1 w3 ⟨rfl, rfl⟩
 have HBB := HBB0
 have HZZ := HZZ0
 have HLO := HLO0
 obtain ⟨⟨x0, x1, x2, x3, x4, x5⟩, x6, x7, x8⟩ := HBB.out.cells
 have f0 := HBB.out.fz 3
 clear HBB0 HZZ0 HLO0 HW2
 unfold most
 by_cases h1 : 0 ≤ r
 ·obtain ⟨w9, hw9⟩ : ∃ w9, w9 = w3.setCell ⟨B, 3, none⟩ (.int .i64 0) := ⟨_, rfl⟩
  have HW3 := Aside0.mk hw9
  have b3 : Blk B ⟨k, c, e, 0, s, d, (.slice Ao no co), t, (.slice An nn cn)⟩ w9 := by rw [hw9]; exact HBB.out.strip0 (f := 2) (by decide)
  have z3 : Blk (B + 1) ⟨0, 0, 0, 0, 0, 0, .slice none 0 0, ⟨#[]⟩, .slice none 0 0⟩ w9 := by rw [hw9]; exact (heap_setCell_other w3 ⟨B, 3, none⟩ (B + 1) _ (by show B + 1 ≠ B; omega)).trans HZZ.out
  have HLO3 := Aside0.mk (show Below w.heap.size w w9 by rw [hw9]; exact HLO.out.setCell (p := ⟨B, 3, none⟩) (by have := HBE.out; show w.heap.size ≤ B; omega) _)
  have HZ3 := Aside0.mk z3
  clear hw9 x0 x1 x2 x4 x5 x6 x7 x8
  obtain ⟨⟨y0, y1, y2, y3, y4, y5⟩, y6, y7, y8⟩ := b3.cells
  obtain ⟨⟨z0, z1, z2, z3', z4, z5⟩, z6, z7, z8⟩ := z3.cells
  have g0 := z3.fz 0
  have g1 := z3.fz 1
  have g2 := z3.fz 2
  have g3 := z3.fz 3
  have g4 := z3.fz 4
  have g5 := z3.fz 5
  have g6 := z3.fz 6
  have g7 := z3.fz 7
  have g8 := z3.fz 8
  clear b3 z3
  go_wp2_with (first | rw [← HW3.out])
  refine bodyPost_ret (results_ct rfl _ _ (B + 1) 44 #[.int .i64 k, .int .i64 c, .int .i64 e, .int .i64 0, .int .i64 s, .int .i64 d, (.slice Ao no co), .string t, (.slice An nn cn)] (0, 0) _ rfl (HZ3.out.set k c e 0 s d (.slice Ao no co) t (.slice An nn cn)) Try.underlying44 rfl (by kernel_rfl)) rfl ?_
  exact ⟨by rw [show Mg.ok ⟨k, c, e, r, s, d, (.slice Ao no co), t, (.slice An nn cn)⟩ go gn 2 = decide (r ≤ 4611686018427387904) from by unfold Mg.ok Mg.get most; simp [h1]]; rfl, below_set9 HLO3.out (by have := HBE.out; omega) _ _ _ _ _ _ _ _ _⟩
 ·obtain ⟨w9, hw9⟩ : ∃ w9, w9 = w3.setCell ⟨B, 3, none⟩ (.int .i64 0) := ⟨_, rfl⟩
  have HW3 := Aside0.mk hw9
  have b3 : Blk B ⟨k, c, e, 0, s, d, (.slice Ao no co), t, (.slice An nn cn)⟩ w9 := by rw [hw9]; exact HBB.out.strip0 (f := 2) (by decide)
  have z3 : Blk (B + 1) ⟨0, 0, 0, 0, 0, 0, .slice none 0 0, ⟨#[]⟩, .slice none 0 0⟩ w9 := by rw [hw9]; exact (heap_setCell_other w3 ⟨B, 3, none⟩ (B + 1) _ (by show B + 1 ≠ B; omega)).trans HZZ.out
  have HLO3 := Aside0.mk (show Below w.heap.size w w9 by rw [hw9]; exact HLO.out.setCell (p := ⟨B, 3, none⟩) (by have := HBE.out; show w.heap.size ≤ B; omega) _)
  have HZ3 := Aside0.mk z3
  clear hw9 x0 x1 x2 x4 x5 x6 x7 x8
  obtain ⟨⟨y0, y1, y2, y3, y4, y5⟩, y6, y7, y8⟩ := b3.cells
  obtain ⟨⟨z0, z1, z2, z3', z4, z5⟩, z6, z7, z8⟩ := z3.cells
  have g0 := z3.fz 0
  have g1 := z3.fz 1
  have g2 := z3.fz 2
  have g3 := z3.fz 3
  have g4 := z3.fz 4
  have g5 := z3.fz 5
  have g6 := z3.fz 6
  have g7 := z3.fz 7
  have g8 := z3.fz 8
  clear b3 z3
  go_wp2_with (first | rw [← HW3.out])
  refine bodyPost_ret (results_ct rfl _ _ (B + 1) 44 #[.int .i64 k, .int .i64 c, .int .i64 e, .int .i64 0, .int .i64 s, .int .i64 d, (.slice Ao no co), .string t, (.slice An nn cn)] (0, 0) _ rfl (HZ3.out.set k c e 0 s d (.slice Ao no co) t (.slice An nn cn)) Try.underlying44 rfl (by kernel_rfl)) rfl ?_
  exact ⟨by rw [show Mg.ok ⟨k, c, e, r, s, d, (.slice Ao no co), t, (.slice An nn cn)⟩ go gn 2 = false from by unfold Mg.ok Mg.get most; simp; omega]; rfl, below_set9 HLO3.out (by have := HBE.out; omega) _ _ _ _ _ _ _ _ _⟩
set_option maxHeartbeats 8000000 in
set_option maxRecDepth 100000 in
theorem without_3 (m : Mg) (go gn : Bool) (w : World) (ho : ∃ A n c, m.o = .slice A n c) (hn : ∃ A n c, m.n = .slice A n c) : Calls Try.prog 67 #[m.val, .int .i64 3] w fun e w' => e = .returned (.tuple #[(m.strip 3).val, .bool (m.ok go gn 3)]) ∧ Below w.heap.size w w' := by
 obtain ⟨k, c, e, r, s, d, o, t, n⟩ := m
 obtain ⟨Ao, no, co, rfl⟩ := ho
 obtain ⟨An, nn, cn, rfl⟩ := hn
 obtain ⟨B, hB⟩ : ∃ B, B = w.heap.size := ⟨_, rfl⟩
 obtain ⟨w2, hw2⟩ : ∃ w2, w2 = (w.alloc (.cells #[.int .i64 k, .int .i64 c, .int .i64 e, .int .i64 r, .int .i64 s, .int .i64 d, (.slice Ao no co), .string t, (.slice An nn cn)] 44)).alloc (.cells #[.int .i64 0, .int .i64 0, .int .i64 0, .int .i64 0, .int .i64 0, .int .i64 0, .slice none 0 0, .string ⟨#[]⟩, .slice none 0 0] 44) := ⟨_, rfl⟩
 have HBB0 := Aside0.mk (show Blk B ⟨k, c, e, r, s, d, (.slice Ao no co), t, (.slice An nn cn)⟩ w2 by unfold Blk; rw [hw2, hB, Own.heap_old _ _ _ (by simp)]; exact Own.heap_new _ _)
 have HZZ0 := Aside0.mk (show Blk (B + 1) ⟨0, 0, 0, 0, 0, 0, .slice none 0 0, ⟨#[]⟩, .slice none 0 0⟩ w2 by unfold Blk; rw [hw2, hB]; have := Own.heap_new (w.alloc (.cells #[.int .i64 k, .int .i64 c, .int .i64 e, .int .i64 r, .int .i64 s, .int .i64 d, (.slice Ao no co), .string t, (.slice An nn cn)] 44)) (.cells #[.int .i64 0, .int .i64 0, .int .i64 0, .int .i64 0, .int .i64 0, .int .i64 0, .slice none 0 0, .string ⟨#[]⟩, .slice none 0 0] 44); rwa [World.size_alloc] at this)
 have HLO0 := Aside0.mk (show Below w.heap.size w w2 by rw [hw2]; exact below_alloc (below_alloc (Below.refl _ _) _) _)
 have HW2 := Aside0.mk hw2
 have HBE := Aside0.mk hB
 clear hw2 hB
 go_enter Try.func67, Try.ntmps67
 unfold Mg.val Mg.cs
 go_wp2_with fail
 rw [← HBE.out, ← HW2.out]
 refine (num_c B 3 (by decide) _).mono ?_
 rintro e1 w3 ⟨rfl, rfl⟩
 have HBB := HBB0
 have HZZ := HZZ0
 have HLO := HLO0
 obtain ⟨⟨x0, x1, x2, x3, x4, x5⟩, x6, x7, x8⟩ := HBB.out.cells
 have f0 := HBB.out.fz 4
 clear HBB0 HZZ0 HLO0 HW2
 unfold most
 by_cases h1 : 0 ≤ s
 ·obtain ⟨w9, hw9⟩ : ∃ w9, w9 = w3.setCell ⟨B, 4, none⟩ (.int .i64 0) := ⟨_, rfl⟩
  have HW3 := Aside0.mk hw9
  have b3 : Blk B ⟨k, c, e, r, 0, d, (.slice Ao no co), t, (.slice An nn cn)⟩ w9 := by rw [hw9]; exact HBB.out.strip0 (f := 3) (by decide)
  have z3 : Blk (B + 1) ⟨0, 0, 0, 0, 0, 0, .slice none 0 0, ⟨#[]⟩, .slice none 0 0⟩ w9 := by rw [hw9]; exact (heap_setCell_other w3 ⟨B, 4, none⟩ (B + 1) _ (by show B + 1 ≠ B; omega)).trans HZZ.out
  have HLO3 := Aside0.mk (show Below w.heap.size w w9 by rw [hw9]; exact HLO.out.setCell (p := ⟨B, 4, none⟩) (by have := HBE.out; show w.heap.size ≤ B; omega) _)
  have HZ3 := Aside0.mk z3
  clear hw9 x0 x1 x2 x3 x5 x6 x7 x8
  obtain ⟨⟨y0, y1, y2, y3, y4, y5⟩, y6, y7, y8⟩ := b3.cells
  obtain ⟨⟨z0, z1, z2, z3', z4, z5⟩, z6, z7, z8⟩ := z3.cells
  have g0 := z3.fz 0
  have g1 := z3.fz 1
  have g2 := z3.fz 2
  have g3 := z3.fz 3
  have g4 := z3.fz 4
  have g5 := z3.fz 5
  have g6 := z3.fz 6
  have g7 := z3.fz 7
  have g8 := z3.fz 8
  clear b3 z3
  go_wp2_with (first | rw [← HW3.out])
  refine bodyPost_ret (results_ct rfl _ _ (B + 1) 44 #[.int .i64 k, .int .i64 c, .int .i64 e, .int .i64 r, .int .i64 0, .int .i64 d, (.slice Ao no co), .string t, (.slice An nn cn)] (0, 0) _ rfl (HZ3.out.set k c e r 0 d (.slice Ao no co) t (.slice An nn cn)) Try.underlying44 rfl (by kernel_rfl)) rfl ?_
  exact ⟨by rw [show Mg.ok ⟨k, c, e, r, s, d, (.slice Ao no co), t, (.slice An nn cn)⟩ go gn 3 = decide (s ≤ 4611686018427387904) from by unfold Mg.ok Mg.get most; simp [h1]]; rfl, below_set9 HLO3.out (by have := HBE.out; omega) _ _ _ _ _ _ _ _ _⟩
 ·obtain ⟨w9, hw9⟩ : ∃ w9, w9 = w3.setCell ⟨B, 4, none⟩ (.int .i64 0) := ⟨_, rfl⟩
  have HW3 := Aside0.mk hw9
  have b3 : Blk B ⟨k, c, e, r, 0, d, (.slice Ao no co), t, (.slice An nn cn)⟩ w9 := by rw [hw9]; exact HBB.out.strip0 (f := 3) (by decide)
  have z3 : Blk (B + 1) ⟨0, 0, 0, 0, 0, 0, .slice none 0 0, ⟨#[]⟩, .slice none 0 0⟩ w9 := by rw [hw9]; exact (heap_setCell_other w3 ⟨B, 4, none⟩ (B + 1) _ (by show B + 1 ≠ B; omega)).trans HZZ.out
  have HLO3 := Aside0.mk (show Below w.heap.size w w9 by rw [hw9]; exact HLO.out.setCell (p := ⟨B, 4, none⟩) (by have := HBE.out; show w.heap.size ≤ B; omega) _)
  have HZ3 := Aside0.mk z3
  clear hw9 x0 x1 x2 x3 x5 x6 x7 x8
  obtain ⟨⟨y0, y1, y2, y3, y4, y5⟩, y6, y7, y8⟩ := b3.cells
  obtain ⟨⟨z0, z1, z2, z3', z4, z5⟩, z6, z7, z8⟩ := z3.cells
  have g0 := z3.fz 0
  have g1 := z3.fz 1
  have g2 := z3.fz 2
  have g3 := z3.fz 3
  have g4 := z3.fz 4
  have g5 := z3.fz 5
  have g6 := z3.fz 6
  have g7 := z3.fz 7
  have g8 := z3.fz 8
  clear b3 z3
  go_wp2_with (first | rw [← HW3.out])
  refine bodyPost_ret (results_ct rfl _ _ (B + 1) 44 #[.int .i64 k, .int .i64 c, .int .i64 e, .int .i64 r, .int .i64 0, .int .i64 d, (.slice Ao no co), .string t, (.slice An nn cn)] (0, 0) _ rfl (HZ3.out.set k c e r 0 d (.slice Ao no co) t (.slice An nn cn)) Try.underlying44 rfl (by kernel_rfl)) rfl ?_
  exact ⟨by rw [show Mg.ok ⟨k, c, e, r, s, d, (.slice Ao no co), t, (.slice An nn cn)⟩ go gn 3 = false from by unfold Mg.ok Mg.get most; simp; omega]; rfl, below_set9 HLO3.out (by have := HBE.out; omega) _ _ _ _ _ _ _ _ _⟩
set_option maxHeartbeats 8000000 in
set_option maxRecDepth 100000 in
theorem without_4 (m : Mg) (go gn : Bool) (w : World) (ho : ∃ A n c, m.o = .slice A n c) (hn : ∃ A n c, m.n = .slice A n c) : Calls Try.prog 67 #[m.val, .int .i64 4] w fun e w' => e = .returned (.tuple #[(m.strip 4).val, .bool (m.ok go gn 4)]) ∧ Below w.heap.size w w' := by
 obtain ⟨k, c, e, r, s, d, o, t, n⟩ := m
 obtain ⟨Ao, no, co, rfl⟩ := ho
 obtain ⟨An, nn, cn, rfl⟩ := hn
 obtain ⟨B, hB⟩ : ∃ B, B = w.heap.size := ⟨_, rfl⟩
 obtain ⟨w2, hw2⟩ : ∃ w2, w2 = (w.alloc (.cells #[.int .i64 k, .int .i64 c, .int .i64 e, .int .i64 r, .int .i64 s, .int .i64 d, (.slice Ao no co), .string t, (.slice An nn cn)] 44)).alloc (.cells #[.int .i64 0, .int .i64 0, .int .i64 0, .int .i64 0, .int .i64 0, .int .i64 0, .slice none 0 0, .string ⟨#[]⟩, .slice none 0 0] 44) := ⟨_, rfl⟩
 have HBB0 := Aside0.mk (show Blk B ⟨k, c, e, r, s, d, (.slice Ao no co), t, (.slice An nn cn)⟩ w2 by unfold Blk; rw [hw2, hB, Own.heap_old _ _ _ (by simp)]; exact Own.heap_new _ _)
 have HZZ0 := Aside0.mk (show Blk (B + 1) ⟨0, 0, 0, 0, 0, 0, .slice none 0 0, ⟨#[]⟩, .slice none 0 0⟩ w2 by unfold Blk; rw [hw2, hB]; have := Own.heap_new (w.alloc (.cells #[.int .i64 k, .int .i64 c, .int .i64 e, .int .i64 r, .int .i64 s, .int .i64 d, (.slice Ao no co), .string t, (.slice An nn cn)] 44)) (.cells #[.int .i64 0, .int .i64 0, .int .i64 0, .int .i64 0, .int .i64 0, .int .i64 0, .slice none 0 0, .string ⟨#[]⟩, .slice none 0 0] 44); rwa [World.size_alloc] at this)
 have HLO0 := Aside0.mk (show Below w.heap.size w w2 by rw [hw2]; exact below_alloc (below_alloc (Below.refl _ _) _) _)
 have HW2 := Aside0.mk hw2
 have HBE := Aside0.mk hB
 clear hw2 hB
 go_enter Try.func67, Try.ntmps67
 unfold Mg.val Mg.cs
 go_wp2_with fail
 rw [← HBE.out, ← HW2.out]
 refine (num_c B 4 (by decide) _).mono ?_
 rintro e1 w3 ⟨rfl, rfl⟩
 have HBB := HBB0
 have HZZ := HZZ0
 have HLO := HLO0
 obtain ⟨⟨x0, x1, x2, x3, x4, x5⟩, x6, x7, x8⟩ := HBB.out.cells
 have f0 := HBB.out.fz 5
 clear HBB0 HZZ0 HLO0 HW2
 unfold most
 by_cases h1 : 0 ≤ d
 ·obtain ⟨w9, hw9⟩ : ∃ w9, w9 = w3.setCell ⟨B, 5, none⟩ (.int .i64 0) := ⟨_, rfl⟩
  have HW3 := Aside0.mk hw9
  have b3 : Blk B ⟨k, c, e, r, s, 0, (.slice Ao no co), t, (.slice An nn cn)⟩ w9 := by rw [hw9]; exact HBB.out.strip0 (f := 4) (by decide)
  have z3 : Blk (B + 1) ⟨0, 0, 0, 0, 0, 0, .slice none 0 0, ⟨#[]⟩, .slice none 0 0⟩ w9 := by rw [hw9]; exact (heap_setCell_other w3 ⟨B, 5, none⟩ (B + 1) _ (by show B + 1 ≠ B; omega)).trans HZZ.out
  have HLO3 := Aside0.mk (show Below w.heap.size w w9 by rw [hw9]; exact HLO.out.setCell (p := ⟨B, 5, none⟩) (by have := HBE.out; show w.heap.size ≤ B; omega) _)
  have HZ3 := Aside0.mk z3
  clear hw9 x0 x1 x2 x3 x4 x6 x7 x8
  obtain ⟨⟨y0, y1, y2, y3, y4, y5⟩, y6, y7, y8⟩ := b3.cells
  obtain ⟨⟨z0, z1, z2, z3', z4, z5⟩, z6, z7, z8⟩ := z3.cells
  have g0 := z3.fz 0
  have g1 := z3.fz 1
  have g2 := z3.fz 2
  have g3 := z3.fz 3
  have g4 := z3.fz 4
  have g5 := z3.fz 5
  have g6 := z3.fz 6
  have g7 := z3.fz 7
  have g8 := z3.fz 8
  clear b3 z3
  go_wp2_with (first | rw [← HW3.out])
  refine bodyPost_ret (results_ct rfl _ _ (B + 1) 44 #[.int .i64 k, .int .i64 c, .int .i64 e, .int .i64 r, .int .i64 s, .int .i64 0, (.slice Ao no co), .string t, (.slice An nn cn)] (0, 0) _ rfl (HZ3.out.set k c e r s 0 (.slice Ao no co) t (.slice An nn cn)) Try.underlying44 rfl (by kernel_rfl)) rfl ?_
  exact ⟨by rw [show Mg.ok ⟨k, c, e, r, s, d, (.slice Ao no co), t, (.slice An nn cn)⟩ go gn 4 = decide (d ≤ 65536) from by unfold Mg.ok Mg.get most; simp [h1]]; rfl, below_set9 HLO3.out (by have := HBE.out; omega) _ _ _ _ _ _ _ _ _⟩
 ·obtain ⟨w9, hw9⟩ : ∃ w9, w9 = w3.setCell ⟨B, 5, none⟩ (.int .i64 0) := ⟨_, rfl⟩
  have HW3 := Aside0.mk hw9
  have b3 : Blk B ⟨k, c, e, r, s, 0, (.slice Ao no co), t, (.slice An nn cn)⟩ w9 := by rw [hw9]; exact HBB.out.strip0 (f := 4) (by decide)
  have z3 : Blk (B + 1) ⟨0, 0, 0, 0, 0, 0, .slice none 0 0, ⟨#[]⟩, .slice none 0 0⟩ w9 := by rw [hw9]; exact (heap_setCell_other w3 ⟨B, 5, none⟩ (B + 1) _ (by show B + 1 ≠ B; omega)).trans HZZ.out
  have HLO3 := Aside0.mk (show Below w.heap.size w w9 by rw [hw9]; exact HLO.out.setCell (p := ⟨B, 5, none⟩) (by have := HBE.out; show w.heap.size ≤ B; omega) _)
  have HZ3 := Aside0.mk z3
  clear hw9 x0 x1 x2 x3 x4 x6 x7 x8
  obtain ⟨⟨y0, y1, y2, y3, y4, y5⟩, y6, y7, y8⟩ := b3.cells
  obtain ⟨⟨z0, z1, z2, z3', z4, z5⟩, z6, z7, z8⟩ := z3.cells
  have g0 := z3.fz 0
  have g1 := z3.fz 1
  have g2 := z3.fz 2
  have g3 := z3.fz 3
  have g4 := z3.fz 4
  have g5 := z3.fz 5
  have g6 := z3.fz 6
  have g7 := z3.fz 7
  have g8 := z3.fz 8
  clear b3 z3
  go_wp2_with (first | rw [← HW3.out])
  refine bodyPost_ret (results_ct rfl _ _ (B + 1) 44 #[.int .i64 k, .int .i64 c, .int .i64 e, .int .i64 r, .int .i64 s, .int .i64 0, (.slice Ao no co), .string t, (.slice An nn cn)] (0, 0) _ rfl (HZ3.out.set k c e r s 0 (.slice Ao no co) t (.slice An nn cn)) Try.underlying44 rfl (by kernel_rfl)) rfl ?_
  exact ⟨by rw [show Mg.ok ⟨k, c, e, r, s, d, (.slice Ao no co), t, (.slice An nn cn)⟩ go gn 4 = false from by unfold Mg.ok Mg.get most; simp; omega]; rfl, below_set9 HLO3.out (by have := HBE.out; omega) _ _ _ _ _ _ _ _ _⟩
set_option maxHeartbeats 8000000 in
set_option maxRecDepth 100000 in
theorem without_5 (m : Mg) (go gn : Bool) (w : World) (ho : ∃ A n c, m.o = .slice A n c) (hn : ∃ A n c, m.n = .slice A n c) (HG : ∀ W, Below w.heap.size w W → Calls Try.prog 93 #[m.o] W fun e W' => e = .returned (.bool go) ∧ Below W.heap.size W W') : Calls Try.prog 67 #[m.val, .int .i64 5] w fun e w' => e = .returned (.tuple #[(m.strip 5).val, .bool (m.ok go gn 5)]) ∧ Below w.heap.size w w' := by
 obtain ⟨k, c, e, r, s, d, o, t, n⟩ := m
 obtain ⟨Ao, no, co, rfl⟩ := ho
 obtain ⟨An, nn, cn, rfl⟩ := hn
 obtain ⟨B, hB⟩ : ∃ B, B = w.heap.size := ⟨_, rfl⟩
 obtain ⟨w2, hw2⟩ : ∃ w2, w2 = (w.alloc (.cells #[.int .i64 k, .int .i64 c, .int .i64 e, .int .i64 r, .int .i64 s, .int .i64 d, (.slice Ao no co), .string t, (.slice An nn cn)] 44)).alloc (.cells #[.int .i64 0, .int .i64 0, .int .i64 0, .int .i64 0, .int .i64 0, .int .i64 0, .slice none 0 0, .string ⟨#[]⟩, .slice none 0 0] 44) := ⟨_, rfl⟩
 have HBB0 := Aside0.mk (show Blk B ⟨k, c, e, r, s, d, (.slice Ao no co), t, (.slice An nn cn)⟩ w2 by unfold Blk; rw [hw2, hB, Own.heap_old _ _ _ (by simp)]; exact Own.heap_new _ _)
 have HZZ0 := Aside0.mk (show Blk (B + 1) ⟨0, 0, 0, 0, 0, 0, .slice none 0 0, ⟨#[]⟩, .slice none 0 0⟩ w2 by unfold Blk; rw [hw2, hB]; have := Own.heap_new (w.alloc (.cells #[.int .i64 k, .int .i64 c, .int .i64 e, .int .i64 r, .int .i64 s, .int .i64 d, (.slice Ao no co), .string t, (.slice An nn cn)] 44)) (.cells #[.int .i64 0, .int .i64 0, .int .i64 0, .int .i64 0, .int .i64 0, .int .i64 0, .slice none 0 0, .string ⟨#[]⟩, .slice none 0 0] 44); rwa [World.size_alloc] at this)
 have HLO0 := Aside0.mk (show Below w.heap.size w w2 by rw [hw2]; exact below_alloc (below_alloc (Below.refl _ _) _) _)
 have HW2 := Aside0.mk hw2
 have HBE := Aside0.mk hB
 clear hw2 hB
 have HGA := Aside0.mk HG
 clear HG
 go_enter Try.func67, Try.ntmps67
 unfold Mg.val Mg.cs
 have HBB := HBB0
 have HZZ := HZZ0
 have HLO := HLO0
 obtain ⟨⟨x0, x1, x2, x3, x4, x5⟩, x6, x7, x8⟩ := HBB.out.cells
 have f0 := HBB.out.fz 6
 go_wp2_with (first | rw [← HBE.out, ← HW2.out])
 clear x0 x1 x2 x3 x4 x5 x6 x7 x8 f0 HBB HZZ HLO
 refine (HGA.out w2 HLO0.out).mono ?_
 rintro e1 w4 ⟨rfl, hb⟩
 have HBB := Aside0.mk (HBB0.out.below hb)
 have HZZ := Aside0.mk (HZZ0.out.below hb)
 have HLO := Aside0.mk (below_step HLO0.out hb)
 obtain ⟨⟨x0, x1, x2, x3, x4, x5⟩, x6, x7, x8⟩ := HBB.out.cells
 have f0 := HBB.out.fz 6
 clear HBB0 HZZ0 HLO0 HW2 hb HGA
 obtain ⟨w9, hw9⟩ : ∃ w9, w9 = w4.setCell ⟨B, 6, none⟩ (.slice none 0 0) := ⟨_, rfl⟩
 have HW3 := Aside0.mk hw9
 have b3 : Blk B ⟨k, c, e, r, s, d, (.slice none 0 0), t, (.slice An nn cn)⟩ w9 := by rw [hw9]; exact HBB.out.strip5
 have z3 : Blk (B + 1) ⟨0, 0, 0, 0, 0, 0, .slice none 0 0, ⟨#[]⟩, .slice none 0 0⟩ w9 := by rw [hw9]; exact (heap_setCell_other w4 ⟨B, 6, none⟩ (B + 1) _ (by show B + 1 ≠ B; omega)).trans HZZ.out
 have HLO3 := Aside0.mk (show Below w.heap.size w w9 by rw [hw9]; exact HLO.out.setCell (p := ⟨B, 6, none⟩) (by have := HBE.out; show w.heap.size ≤ B; omega) _)
 have HZ3 := Aside0.mk z3
 clear hw9 x0 x1 x2 x3 x4 x5 x7 x8
 obtain ⟨⟨y0, y1, y2, y3, y4, y5⟩, y6, y7, y8⟩ := b3.cells
 obtain ⟨⟨z0, z1, z2, z3', z4, z5⟩, z6, z7, z8⟩ := z3.cells
 have g0 := z3.fz 0
 have g1 := z3.fz 1
 have g2 := z3.fz 2
 have g3 := z3.fz 3
 have g4 := z3.fz 4
 have g5 := z3.fz 5
 have g6 := z3.fz 6
 have g7 := z3.fz 7
 have g8 := z3.fz 8
 clear b3 z3
 go_wp2_with (first | rw [← HW3.out])
 refine bodyPost_ret (results_ct rfl _ _ (B + 1) 44 #[.int .i64 k, .int .i64 c, .int .i64 e, .int .i64 r, .int .i64 s, .int .i64 d, (.slice none 0 0), .string t, (.slice An nn cn)] (0, 0) _ rfl (HZ3.out.set k c e r s d (.slice none 0 0) t (.slice An nn cn)) Try.underlying44 rfl (by kernel_rfl)) rfl ?_
 exact ⟨by rfl, below_set9 HLO3.out (by have := HBE.out; omega) _ _ _ _ _ _ _ _ _⟩
set_option maxHeartbeats 8000000 in
set_option maxRecDepth 100000 in
theorem without_6 (m : Mg) (go gn : Bool) (w : World) (ho : ∃ A n c, m.o = .slice A n c) (hn : ∃ A n c, m.n = .slice A n c) : Calls Try.prog 67 #[m.val, .int .i64 6] w fun e w' => e = .returned (.tuple #[(m.strip 6).val, .bool (m.ok go gn 6)]) ∧ Below w.heap.size w w' := by
 obtain ⟨k, c, e, r, s, d, o, t, n⟩ := m
 obtain ⟨Ao, no, co, rfl⟩ := ho
 obtain ⟨An, nn, cn, rfl⟩ := hn
 obtain ⟨B, hB⟩ : ∃ B, B = w.heap.size := ⟨_, rfl⟩
 obtain ⟨w2, hw2⟩ : ∃ w2, w2 = (w.alloc (.cells #[.int .i64 k, .int .i64 c, .int .i64 e, .int .i64 r, .int .i64 s, .int .i64 d, (.slice Ao no co), .string t, (.slice An nn cn)] 44)).alloc (.cells #[.int .i64 0, .int .i64 0, .int .i64 0, .int .i64 0, .int .i64 0, .int .i64 0, .slice none 0 0, .string ⟨#[]⟩, .slice none 0 0] 44) := ⟨_, rfl⟩
 have HBB0 := Aside0.mk (show Blk B ⟨k, c, e, r, s, d, (.slice Ao no co), t, (.slice An nn cn)⟩ w2 by unfold Blk; rw [hw2, hB, Own.heap_old _ _ _ (by simp)]; exact Own.heap_new _ _)
 have HZZ0 := Aside0.mk (show Blk (B + 1) ⟨0, 0, 0, 0, 0, 0, .slice none 0 0, ⟨#[]⟩, .slice none 0 0⟩ w2 by unfold Blk; rw [hw2, hB]; have := Own.heap_new (w.alloc (.cells #[.int .i64 k, .int .i64 c, .int .i64 e, .int .i64 r, .int .i64 s, .int .i64 d, (.slice Ao no co), .string t, (.slice An nn cn)] 44)) (.cells #[.int .i64 0, .int .i64 0, .int .i64 0, .int .i64 0, .int .i64 0, .int .i64 0, .slice none 0 0, .string ⟨#[]⟩, .slice none 0 0] 44); rwa [World.size_alloc] at this)
 have HLO0 := Aside0.mk (show Below w.heap.size w w2 by rw [hw2]; exact below_alloc (below_alloc (Below.refl _ _) _) _)
 have HW2 := Aside0.mk hw2
 have HBE := Aside0.mk hB
 clear hw2 hB
 go_enter Try.func67, Try.ntmps67
 unfold Mg.val Mg.cs
 have HBB := HBB0
 have HZZ := HZZ0
 have HLO := HLO0
 obtain ⟨⟨x0, x1, x2, x3, x4, x5⟩, x6, x7, x8⟩ := HBB.out.cells
 have f0 := HBB.out.fz 7
 clear HBB0 HZZ0 HLO0
 by_cases h1 : (t.size : Int) ≤ 16777216
 ·obtain ⟨w9, hw9⟩ : ∃ w9, w9 = w2.setCell ⟨B, 7, none⟩ (.string ⟨#[]⟩) := ⟨_, rfl⟩
  have HW3 := Aside0.mk hw9
  have b3 : Blk B ⟨k, c, e, r, s, d, (.slice Ao no co), ⟨#[]⟩, (.slice An nn cn)⟩ w9 := by rw [hw9]; exact HBB.out.strip6
  have z3 : Blk (B + 1) ⟨0, 0, 0, 0, 0, 0, .slice none 0 0, ⟨#[]⟩, .slice none 0 0⟩ w9 := by rw [hw9]; exact (heap_setCell_other w2 ⟨B, 7, none⟩ (B + 1) _ (by show B + 1 ≠ B; omega)).trans HZZ.out
  have HLO3 := Aside0.mk (show Below w.heap.size w w9 by rw [hw9]; exact HLO.out.setCell (p := ⟨B, 7, none⟩) (by have := HBE.out; show w.heap.size ≤ B; omega) _)
  have HZ3 := Aside0.mk z3
  clear hw9 x0 x1 x2 x3 x4 x5 x6 x8
  obtain ⟨⟨y0, y1, y2, y3, y4, y5⟩, y6, y7, y8⟩ := b3.cells
  obtain ⟨⟨z0, z1, z2, z3', z4, z5⟩, z6, z7, z8⟩ := z3.cells
  have g0 := z3.fz 0
  have g1 := z3.fz 1
  have g2 := z3.fz 2
  have g3 := z3.fz 3
  have g4 := z3.fz 4
  have g5 := z3.fz 5
  have g6 := z3.fz 6
  have g7 := z3.fz 7
  have g8 := z3.fz 8
  clear b3 z3
  go_wp2_with (first | rw [← HBE.out, ← HW2.out] | rw [← HW3.out])
  refine bodyPost_ret (results_ct rfl _ _ (B + 1) 44 #[.int .i64 k, .int .i64 c, .int .i64 e, .int .i64 r, .int .i64 s, .int .i64 d, (.slice Ao no co), .string ⟨#[]⟩, (.slice An nn cn)] (0, 0) _ rfl (HZ3.out.set k c e r s d (.slice Ao no co) ⟨#[]⟩ (.slice An nn cn)) Try.underlying44 rfl (by kernel_rfl)) rfl ?_
  exact ⟨by rw [show Mg.ok ⟨k, c, e, r, s, d, (.slice Ao no co), t, (.slice An nn cn)⟩ go gn 6 = true from by unfold Mg.ok; simp; omega]; rfl, below_set9 HLO3.out (by have := HBE.out; omega) _ _ _ _ _ _ _ _ _⟩
 ·obtain ⟨w9, hw9⟩ : ∃ w9, w9 = w2.setCell ⟨B, 7, none⟩ (.string ⟨#[]⟩) := ⟨_, rfl⟩
  have HW3 := Aside0.mk hw9
  have b3 : Blk B ⟨k, c, e, r, s, d, (.slice Ao no co), ⟨#[]⟩, (.slice An nn cn)⟩ w9 := by rw [hw9]; exact HBB.out.strip6
  have z3 : Blk (B + 1) ⟨0, 0, 0, 0, 0, 0, .slice none 0 0, ⟨#[]⟩, .slice none 0 0⟩ w9 := by rw [hw9]; exact (heap_setCell_other w2 ⟨B, 7, none⟩ (B + 1) _ (by show B + 1 ≠ B; omega)).trans HZZ.out
  have HLO3 := Aside0.mk (show Below w.heap.size w w9 by rw [hw9]; exact HLO.out.setCell (p := ⟨B, 7, none⟩) (by have := HBE.out; show w.heap.size ≤ B; omega) _)
  have HZ3 := Aside0.mk z3
  clear hw9 x0 x1 x2 x3 x4 x5 x6 x8
  obtain ⟨⟨y0, y1, y2, y3, y4, y5⟩, y6, y7, y8⟩ := b3.cells
  obtain ⟨⟨z0, z1, z2, z3', z4, z5⟩, z6, z7, z8⟩ := z3.cells
  have g0 := z3.fz 0
  have g1 := z3.fz 1
  have g2 := z3.fz 2
  have g3 := z3.fz 3
  have g4 := z3.fz 4
  have g5 := z3.fz 5
  have g6 := z3.fz 6
  have g7 := z3.fz 7
  have g8 := z3.fz 8
  clear b3 z3
  go_wp2_with (first | rw [← HBE.out, ← HW2.out] | rw [← HW3.out])
  refine bodyPost_ret (results_ct rfl _ _ (B + 1) 44 #[.int .i64 k, .int .i64 c, .int .i64 e, .int .i64 r, .int .i64 s, .int .i64 d, (.slice Ao no co), .string ⟨#[]⟩, (.slice An nn cn)] (0, 0) _ rfl (HZ3.out.set k c e r s d (.slice Ao no co) ⟨#[]⟩ (.slice An nn cn)) Try.underlying44 rfl (by kernel_rfl)) rfl ?_
  exact ⟨by rw [show Mg.ok ⟨k, c, e, r, s, d, (.slice Ao no co), t, (.slice An nn cn)⟩ go gn 6 = false from by unfold Mg.ok; simp; omega]; rfl, below_set9 HLO3.out (by have := HBE.out; omega) _ _ _ _ _ _ _ _ _⟩
set_option maxHeartbeats 8000000 in
set_option maxRecDepth 100000 in
theorem without_7 (m : Mg) (go gn : Bool) (w : World) (ho : ∃ A n c, m.o = .slice A n c) (hn : ∃ A n c, m.n = .slice A n c) (HG : ∀ W, Below w.heap.size w W → Calls Try.prog 94 #[m.n] W fun e W' => e = .returned (.bool gn) ∧ Below W.heap.size W W') : Calls Try.prog 67 #[m.val, .int .i64 7] w fun e w' => e = .returned (.tuple #[(m.strip 7).val, .bool (m.ok go gn 7)]) ∧ Below w.heap.size w w' := by
 obtain ⟨k, c, e, r, s, d, o, t, n⟩ := m
 obtain ⟨Ao, no, co, rfl⟩ := ho
 obtain ⟨An, nn, cn, rfl⟩ := hn
 obtain ⟨B, hB⟩ : ∃ B, B = w.heap.size := ⟨_, rfl⟩
 obtain ⟨w2, hw2⟩ : ∃ w2, w2 = (w.alloc (.cells #[.int .i64 k, .int .i64 c, .int .i64 e, .int .i64 r, .int .i64 s, .int .i64 d, (.slice Ao no co), .string t, (.slice An nn cn)] 44)).alloc (.cells #[.int .i64 0, .int .i64 0, .int .i64 0, .int .i64 0, .int .i64 0, .int .i64 0, .slice none 0 0, .string ⟨#[]⟩, .slice none 0 0] 44) := ⟨_, rfl⟩
 have HBB0 := Aside0.mk (show Blk B ⟨k, c, e, r, s, d, (.slice Ao no co), t, (.slice An nn cn)⟩ w2 by unfold Blk; rw [hw2, hB, Own.heap_old _ _ _ (by simp)]; exact Own.heap_new _ _)
 have HZZ0 := Aside0.mk (show Blk (B + 1) ⟨0, 0, 0, 0, 0, 0, .slice none 0 0, ⟨#[]⟩, .slice none 0 0⟩ w2 by unfold Blk; rw [hw2, hB]; have := Own.heap_new (w.alloc (.cells #[.int .i64 k, .int .i64 c, .int .i64 e, .int .i64 r, .int .i64 s, .int .i64 d, (.slice Ao no co), .string t, (.slice An nn cn)] 44)) (.cells #[.int .i64 0, .int .i64 0, .int .i64 0, .int .i64 0, .int .i64 0, .int .i64 0, .slice none 0 0, .string ⟨#[]⟩, .slice none 0 0] 44); rwa [World.size_alloc] at this)
 have HLO0 := Aside0.mk (show Below w.heap.size w w2 by rw [hw2]; exact below_alloc (below_alloc (Below.refl _ _) _) _)
 have HW2 := Aside0.mk hw2
 have HBE := Aside0.mk hB
 clear hw2 hB
 have HGA := Aside0.mk HG
 clear HG
 go_enter Try.func67, Try.ntmps67
 unfold Mg.val Mg.cs
 have HBB := HBB0
 have HZZ := HZZ0
 have HLO := HLO0
 obtain ⟨⟨x0, x1, x2, x3, x4, x5⟩, x6, x7, x8⟩ := HBB.out.cells
 have f0 := HBB.out.fz 8
 go_wp2_with (first | rw [← HBE.out, ← HW2.out])
 clear x0 x1 x2 x3 x4 x5 x6 x7 x8 f0 HBB HZZ HLO
 refine (HGA.out w2 HLO0.out).mono ?_
 rintro e1 w4 ⟨rfl, hb⟩
 have HBB := Aside0.mk (HBB0.out.below hb)
 have HZZ := Aside0.mk (HZZ0.out.below hb)
 have HLO := Aside0.mk (below_step HLO0.out hb)
 obtain ⟨⟨x0, x1, x2, x3, x4, x5⟩, x6, x7, x8⟩ := HBB.out.cells
 have f0 := HBB.out.fz 8
 clear HBB0 HZZ0 HLO0 HW2 hb HGA
 obtain ⟨w9, hw9⟩ : ∃ w9, w9 = w4.setCell ⟨B, 8, none⟩ (.slice none 0 0) := ⟨_, rfl⟩
 have HW3 := Aside0.mk hw9
 have b3 : Blk B ⟨k, c, e, r, s, d, (.slice Ao no co), t, (.slice none 0 0)⟩ w9 := by rw [hw9]; exact HBB.out.strip7
 have z3 : Blk (B + 1) ⟨0, 0, 0, 0, 0, 0, .slice none 0 0, ⟨#[]⟩, .slice none 0 0⟩ w9 := by rw [hw9]; exact (heap_setCell_other w4 ⟨B, 8, none⟩ (B + 1) _ (by show B + 1 ≠ B; omega)).trans HZZ.out
 have HLO3 := Aside0.mk (show Below w.heap.size w w9 by rw [hw9]; exact HLO.out.setCell (p := ⟨B, 8, none⟩) (by have := HBE.out; show w.heap.size ≤ B; omega) _)
 have HZ3 := Aside0.mk z3
 clear hw9 x0 x1 x2 x3 x4 x5 x6 x7
 obtain ⟨⟨y0, y1, y2, y3, y4, y5⟩, y6, y7, y8⟩ := b3.cells
 obtain ⟨⟨z0, z1, z2, z3', z4, z5⟩, z6, z7, z8⟩ := z3.cells
 have g0 := z3.fz 0
 have g1 := z3.fz 1
 have g2 := z3.fz 2
 have g3 := z3.fz 3
 have g4 := z3.fz 4
 have g5 := z3.fz 5
 have g6 := z3.fz 6
 have g7 := z3.fz 7
 have g8 := z3.fz 8
 clear b3 z3
 go_wp2_with (first | rw [← HW3.out])
 refine bodyPost_ret (results_ct rfl _ _ (B + 1) 44 #[.int .i64 k, .int .i64 c, .int .i64 e, .int .i64 r, .int .i64 s, .int .i64 d, (.slice Ao no co), .string t, (.slice none 0 0)] (0, 0) _ rfl (HZ3.out.set k c e r s d (.slice Ao no co) t (.slice none 0 0)) Try.underlying44 rfl (by kernel_rfl)) rfl ?_
 exact ⟨by rfl, below_set9 HLO3.out (by have := HBE.out; omega) _ _ _ _ _ _ _ _ _⟩
end Go.Proofs.Ytedfcjcnhgomoaa.MsgB
end
-- MERGED YtedfcjcnhgomoaaEq6
section
namespace Go.Proofs.Ytedfcjcnhgomoaa.Eq6
open Go.RowKit Go.Proofs.Ytedfcjcnhgomoaa.P
theorem sz3 : ∀ w, (sizeOf 3).run Try.prog w = .ok 1 w := fun w => by
 have h : Try.prog.cellsOf 3 = 1 := by kernel_rfl
 go_simp
theorem eq6 (W : World) (a0 a1 a2 a3 a4 a5 b0 b1 b2 b3 b4 b5 : Int) :
  (Op.equalIn 10000 110 (.agg #[.int .i64 a0, .int .i64 a1, .int .i64 a2, .int .i64 a3, .int .i64 a4, .int .i64 a5]) (.agg #[.int .i64 b0, .int .i64 b1, .int .i64 b2, .int .i64 b3, .int .i64 b4, .int .i64 b5])).run Try.prog W = .ok (a0 == b0 && (a1 == b1 && (a2 == b2 && (a3 == b3 && (a4 == b4 && a5 == b5))))) W := by
 rw [Op.equalIn]
 have pe : ∀ (x y : Int) (w : World), (Op.equalIn 9999 3 (.int .i64 x) (.int .i64 y)).run Try.prog w = .ok (x == y) w := fun x y w => by
  rw [run_equalIn_int w 9998 3 .i64 .i64 _ _ Try.underlying3]
 have pt : ∀ (cs : Array Value) (i : Nat) (v : Value) (w : World), cs[i]? = some v → (∃ x, v = .int .i64 x) → (part 3 cs i).run Try.prog w = .ok v w := fun cs i v w h hv => by
  obtain ⟨x, rfl⟩ := hv
  simp [part, isAgg, run_underlying Try.underlying3, h]
 simp only [Sem.run_bind, run_underlying Try.underlying110, Result.andThen_ok, sz3, Std.Legacy.Range.forIn_eq_forIn_range', Std.Legacy.Range.size, Nat.sub_zero, Nat.add_sub_cancel, Nat.div_one]
 simp only [List.range'_succ, List.range'_zero, List.forIn_cons, List.forIn_nil, Sem.run_bind]
 cases h0 : (a0 == b0) <;> cases h1 : (a1 == b1) <;> cases h2 : (a2 == b2) <;> cases h3 : (a3 == b3) <;> cases h4 : (a4 == b4) <;> cases h5 : (a5 == b5) <;>
 simp [pt, pe, h0, h1, h2, h3, h4, h5, Sem.run_bind, Sem.run_pure, Result.andThen_ok]
end Go.Proofs.Ytedfcjcnhgomoaa.Eq6
end
-- MERGED YtedfcjcnhgomoaaMsgC
section
namespace Go.Proofs.Ytedfcjcnhgomoaa.MsgC
open Go.RowKit Go.Proofs.Ytedfcjcnhgomoaa.P Go.Proofs.YtedfcjcnhgomoaaW.PrintWords Go.Proofs.YtedfcjcnhgomoaaW.PrintLast Go.Proofs.YtedfcjcnhgomoaaW.PrintMore Go.Proofs.Ytedfcjcnhgomoaa.Own Go.Proofs.Ytedfcjcnhgomoaa.MsgA Go.Proofs.Ytedfcjcnhgomoaa.MsgB
set_option linter.unusedSimpArgs false
set_option linter.unusedVariables false
set_option maxHeartbeats 2000000 in
set_option maxRecDepth 100000 in
theorem eqrun_nil (A : Option Addr) (n c : Nat) (hn : n ≤ 4611686018427387904) (w : World) : Calls Try.prog 71 #[.slice A n c, .slice none 0 0] w fun e w' => e = .returned (.bool (decide (n = 0))) ∧ Below w.heap.size w w' := by
 by_cases h : n = 0
 ·subst h
  go_enter Try.func71, Try.ntmps71
  go_wp2_with fail
  go_loopw [13] (fun iv wr => iv = .int .i64 0 ∧ wr = w) (fun _ _ => 0)
  case atStart => exact ⟨rfl, rfl⟩
  case round =>
   obtain ⟨rfl, rfl⟩ := hrel
   go_wp2_with fail
   go_ret
   exact ⟨rfl, Below.refl _ _⟩
 ·have h' : ((n : Int) == 0) = false := by simpa using h
  have hn' : (n : Int) ≤ 4611686018427387904 := by omega
  go_enter Try.func71, Try.ntmps71
  go_wp2_with fail
  go_ret
  exact ⟨by rw [decide_eq_false h]; rfl, Below.refl _ _⟩
set_option maxHeartbeats 2000000 in
set_option maxRecDepth 100000 in
theorem eqnote_nil (A : Option Addr) (n c : Nat) (hn : n ≤ 4611686018427387904) (w : World) : Calls Try.prog 72 #[.slice A n c, .slice none 0 0] w fun e w' => e = .returned (.bool (decide (n = 0))) ∧ Below w.heap.size w w' := by
 by_cases h : n = 0
 ·subst h
  go_enter Try.func72, Try.ntmps72
  go_wp2_with fail
  go_loopw [13] (fun iv wr => iv = .int .i64 0 ∧ wr = w) (fun _ _ => 0)
  case atStart => exact ⟨rfl, rfl⟩
  case round =>
   obtain ⟨rfl, rfl⟩ := hrel
   go_wp2_with fail
   go_ret
   exact ⟨rfl, Below.refl _ _⟩
 ·have h' : ((n : Int) == 0) = false := by simpa using h
  have hn' : (n : Int) ≤ 4611686018427387904 := by omega
  go_enter Try.func72, Try.ntmps72
  go_wp2_with fail
  go_ret
  exact ⟨by rw [decide_eq_false h]; rfl, Below.refl _ _⟩
def Mg.nums (a b : Mg) : Bool := a.k == b.k && (a.c == b.c && (a.e == b.e && (a.r == b.r && (a.s == b.s && a.d == b.d))))
def Mg.same (a b : Mg) (eo en : Bool) : Bool := Mg.nums a b && (a.t.toList == b.t.toList && (eo && en))
set_option maxHeartbeats 8000000 in
set_option maxRecDepth 100000 in
theorem same_c (a b : Mg) (eo en : Bool) (w : World) (hao : ∃ A n c, a.o = .slice A n c) (han : ∃ A n c, a.n = .slice A n c) (hbo : ∃ A n c, b.o = .slice A n c) (hbn : ∃ A n c, b.n = .slice A n c)
  (HO : ∀ W, Below w.heap.size w W → Calls Try.prog 71 #[a.o, b.o] W fun e W' => e = .returned (.bool eo) ∧ Below W.heap.size W W') (HN : ∀ W, Below w.heap.size w W → Calls Try.prog 72 #[a.n, b.n] W fun e W' => e = .returned (.bool en) ∧ Below W.heap.size W W') :
  Calls Try.prog 25 #[a.val, b.val] w fun e w' => e = .returned (.bool (Mg.same a b eo en)) ∧ Below w.heap.size w w' := by
 obtain ⟨k, c, e, r, s, d, o, t, n⟩ := a
 obtain ⟨k2, c2, e2, r2, s2, d2, o2, t2, n2⟩ := b
 obtain ⟨Ao, no, co, rfl⟩ := hao
 obtain ⟨An, nn, cn, rfl⟩ := han
 obtain ⟨Ao2, no2, co2, rfl⟩ := hbo
 obtain ⟨An2, nn2, cn2, rfl⟩ := hbn
 obtain ⟨B, hB⟩ : ∃ B, B = w.heap.size := ⟨_, rfl⟩
 obtain ⟨w2, hw2⟩ : ∃ w2, w2 = (w.alloc (.cells #[.int .i64 k, .int .i64 c, .int .i64 e, .int .i64 r, .int .i64 s, .int .i64 d, .slice Ao no co, .string t, .slice An nn cn] 44)).alloc (.cells #[.int .i64 k2, .int .i64 c2, .int .i64 e2, .int .i64 r2, .int .i64 s2, .int .i64 d2, .slice Ao2 no2 co2, .string t2, .slice An2 nn2 cn2] 44) := ⟨_, rfl⟩
 have HBA := Aside0.mk (show Blk B ⟨k, c, e, r, s, d, .slice Ao no co, t, .slice An nn cn⟩ w2 by unfold Blk; rw [hw2, hB, Own.heap_old _ _ _ (by simp)]; exact Own.heap_new _ _)
 have HBB := Aside0.mk (show Blk (B + 1) ⟨k2, c2, e2, r2, s2, d2, .slice Ao2 no2 co2, t2, .slice An2 nn2 cn2⟩ w2 by unfold Blk; rw [hw2, hB]; have := Own.heap_new (w.alloc (.cells #[.int .i64 k, .int .i64 c, .int .i64 e, .int .i64 r, .int .i64 s, .int .i64 d, .slice Ao no co, .string t, .slice An nn cn] 44)) (.cells #[.int .i64 k2, .int .i64 c2, .int .i64 e2, .int .i64 r2, .int .i64 s2, .int .i64 d2, .slice Ao2 no2 co2, .string t2, .slice An2 nn2 cn2] 44); rwa [World.size_alloc] at this)
 have HLO := Aside0.mk (show Below w.heap.size w w2 by rw [hw2]; exact below_alloc (below_alloc (Below.refl _ _) _) _)
 have HW2 := Aside0.mk hw2
 have HBE := Aside0.mk hB
 have HOA := Aside0.mk HO
 have HNA := Aside0.mk HN
 clear hw2 hB HO HN
 obtain ⟨⟨x0, x1, x2, x3, x4, x5⟩, x6, x7, x8⟩ := HBA.out.cells
 obtain ⟨⟨y0, y1, y2, y3, y4, y5⟩, y6, y7, y8⟩ := HBB.out.cells
 go_enter Try.func25, Try.ntmps25
 unfold Mg.val Mg.cs
 have he6 := fun W => Eq6.eq6 W k c e r s d k2 c2 e2 r2 s2 d2
 cases q1 : (k == k2 && (c == c2 && (e == e2 && (r == r2 && (s == s2 && d == d2))))) with
 | false =>
  rw [q1] at he6
  go_wp2_with (first | rw [← HBE.out, ← HW2.out])
  go_ret
  exact ⟨by unfold Mg.same Mg.nums; rw [q1]; rfl, HLO.out⟩
 | true =>
  rw [q1] at he6
  cases q2 : (t.toList == t2.toList) with
  | false =>
   go_wp2_with (first | rw [← HBE.out, ← HW2.out])
   go_ret
   exact ⟨by unfold Mg.same Mg.nums; rw [q1, q2]; rfl, HLO.out⟩
  | true =>
   go_wp2_with (first | rw [← HBE.out, ← HW2.out])
   refine (HOA.out w2 HLO.out).mono ?_
   rintro e9 w3 ⟨rfl, hb⟩
   have HA3 := Aside0.mk (HBA.out.below hb)
   have HB3 := Aside0.mk (HBB.out.below hb)
   have HL3 := Aside0.mk (below_step HLO.out hb)
   clear hb x0 x1 x2 x3 x4 x5 x6 x7 x8 y0 y1 y2 y3 y4 y5 y6 y7 y8 HW2 he6
   obtain ⟨⟨x0, x1, x2, x3, x4, x5⟩, x6, x7, x8⟩ := HA3.out.cells
   obtain ⟨⟨y0, y1, y2, y3, y4, y5⟩, y6, y7, y8⟩ := HB3.out.cells
   cases eo with
   | false =>
    go_wp2_with fail
    go_ret
    exact ⟨by unfold Mg.same Mg.nums; rw [q1, q2]; rfl, HL3.out⟩
   | true =>
    go_wp2_with fail
    refine (HNA.out w3 HL3.out).mono ?_
    rintro e9 w4 ⟨rfl, hb⟩
    have HL4 := Aside0.mk (below_step HL3.out hb)
    clear hb x0 x1 x2 x3 x4 x5 x6 x7 x8 y0 y1 y2 y3 y4 y5 y6 y7 y8
    go_wp2_with fail
    go_ret
    exact ⟨by unfold Mg.same Mg.nums; rw [q1, q2]; rfl, HL4.out⟩
end Go.Proofs.Ytedfcjcnhgomoaa.MsgC
end
-- MERGED YtedfcjcnhgomoaaMsgD
section
namespace Go.Proofs.Ytedfcjcnhgomoaa.MsgD
open Go.RowKit Go.Proofs.Ytedfcjcnhgomoaa.P Go.Proofs.YtedfcjcnhgomoaaW.PrintWords Go.Proofs.YtedfcjcnhgomoaaW.PrintLast Go.Proofs.YtedfcjcnhgomoaaW.PrintMore Go.Proofs.Ytedfcjcnhgomoaa.Own Go.Proofs.Ytedfcjcnhgomoaa.MsgA Go.Proofs.Ytedfcjcnhgomoaa.MsgB Go.Proofs.Ytedfcjcnhgomoaa.MsgC
set_option linter.unusedSimpArgs false
set_option linter.unusedVariables false
def fieldsL (k : Int) : List Int := if k = 1 then [0, 1, 2, 3] else if k = 2 then [0, 2, 3, 5] else if k = 3 then [2, 3] else if k = 4 then [2, 3, 6] else if k = 5 then [2, 7] else if k = 6 then [1] else if k = 7 then [4] else []
theorem fields_f (k : Int) : message_fields.f k = some (fieldsL k) := by
 unfold message_fields.f fieldsL
 repeat' split
 all_goals rfl
theorem fields_ok (k : Int) : (fieldsL k).Nodup ∧ (∀ f ∈ fieldsL k, 0 ≤ f ∧ f < 8) ∧ (fieldsL k).length ≤ 4 := by
 unfold fieldsL
 repeat' split
 all_goals decide
def nil0 : Value → Bool
 | .slice _ n _ => decide (n = 0)
 | _ => false
def run (go gn : Bool) : List Int → Mg → Option Mg
 | [], m => some m
 | f :: l, m => if m.ok go gn f.toNat = true then run go gn l (m.strip f.toNat) else none
def kindM (k : Int) : Mg := ⟨k, 0, 0, 0, 0, 0, .slice none 0 0, ⟨#[]⟩, .slice none 0 0⟩
def lastOk (m r : Mg) : Bool := !(fieldsL m.k).isEmpty && Mg.same r (kindM m.k) (nil0 r.o) (nil0 r.n)
def goodM (m : Mg) (go gn : Bool) : Bool := ((run go gn (fieldsL m.k) m).map (lastOk m)).getD false
theorem without_c (m : Mg) (go gn : Bool) (f : Int) (h0 : 0 ≤ f) (h8 : f < 8) (w : World) (ho : ∃ A n c, m.o = .slice A n c) (hn : ∃ A n c, m.n = .slice A n c)
  (HG : f = 5 → ∀ W, Below w.heap.size w W → Calls Try.prog 93 #[m.o] W fun e W' => e = .returned (.bool go) ∧ Below W.heap.size W W')
  (HN : f = 7 → ∀ W, Below w.heap.size w W → Calls Try.prog 94 #[m.n] W fun e W' => e = .returned (.bool gn) ∧ Below W.heap.size W W') :
  Calls Try.prog 67 #[m.val, .int .i64 f] w fun e w' => e = .returned (.tuple #[(m.strip f.toNat).val, .bool (m.ok go gn f.toNat)]) ∧ Below w.heap.size w w' := by
 have h : f = 0 ∨ f = 1 ∨ f = 2 ∨ f = 3 ∨ f = 4 ∨ f = 5 ∨ f = 6 ∨ f = 7 := by omega
 rcases h with rfl | rfl | rfl | rfl | rfl | rfl | rfl | rfl
 ·exact without_0 m go gn w ho hn
 ·exact without_1 m go gn w ho hn
 ·exact without_2 m go gn w ho hn
 ·exact without_3 m go gn w ho hn
 ·exact without_4 m go gn w ho hn
 ·exact without_5 m go gn w ho hn (HG rfl)
 ·exact without_6 m go gn w ho hn
 ·exact without_7 m go gn w ho hn (HN rfl)
theorem strip_k (m : Mg) (f : Nat) : (m.strip f).k = m.k := by
 unfold Mg.strip
 repeat' split
 all_goals rfl
theorem strip_o (m : Mg) (f : Nat) : (m.strip f).o = if f = 5 then .slice none 0 0 else m.o := by
 unfold Mg.strip
 repeat' split
 all_goals first | rfl | omega
theorem strip_n (m : Mg) (f : Nat) (hf : f < 8) : (m.strip f).n = if f = 7 then .slice none 0 0 else m.n := by
 unfold Mg.strip
 repeat' split
 all_goals first | rfl | omega
theorem drop_rd {l : List Int} {j : Nat} (h : j < l.length) : l.drop j = rd l (j : Int) :: l.drop (j + 1) := by
 rw [List.drop_eq_getElem_cons h]
 unfold rd
 rw [Int.toNat_natCast, List.getD_eq_getElem?_getD, List.getElem?_eq_getElem h]; rfl
structure Rs (m : Mg) (go gn : Bool) (l : List Int) (r : Mg) : Prop where
 run_ : run go gn l r = run go gn (fieldsL m.k) m
 k : r.k = m.k
 o : r.o = m.o ∨ (r.o = .slice none 0 0 ∧ 5 ∉ l)
 n : r.n = m.n ∨ (r.n = .slice none 0 0 ∧ 7 ∉ l)
theorem Rs.start (m : Mg) (go gn : Bool) : Rs m go gn (fieldsL m.k) m := ⟨rfl, rfl, .inl rfl, .inl rfl⟩
theorem Rs.step {m r : Mg} {go gn : Bool} {f : Int} {l : List Int} (h : Rs m go gn (f :: l) r) (hok : r.ok go gn f.toNat = true) (hd : (f :: l).Nodup) (h0 : 0 ≤ f) (h8 : f < 8) : Rs m go gn l (r.strip f.toNat) := by
 have hnd := List.nodup_cons.1 hd
 refine ⟨?_, by rw [strip_k]; exact h.k, ?_, ?_⟩
 ·have := h.run_
  simp only [run] at this
  rwa [if_pos hok] at this
 ·rw [strip_o]
  split
  ·next h5 =>
   have e5 : f = 5 := by omega
   exact .inr ⟨rfl, by rw [← e5]; exact hnd.1⟩
  ·rcases h.o with h1 | ⟨h1, h2⟩
   ·exact .inl h1
   ·exact .inr ⟨h1, fun h3 => h2 (List.mem_cons_of_mem _ h3)⟩
 ·rw [strip_n _ _ (by omega)]
  split
  ·next h5 =>
   have e5 : f = 7 := by omega
   exact .inr ⟨rfl, by rw [← e5]; exact hnd.1⟩
  ·rcases h.n with h1 | ⟨h1, h2⟩
   ·exact .inl h1
   ·exact .inr ⟨h1, fun h3 => h2 (List.mem_cons_of_mem _ h3)⟩
theorem Rs.bad {m r : Mg} {go gn : Bool} {f : Int} {l : List Int} (h : Rs m go gn (f :: l) r) (hok : r.ok go gn f.toNat = false) : goodM m go gn = false := by
 have := h.run_
 simp only [run, hok] at this
 unfold goodM
 rw [← this]; rfl
theorem Rs.last {m r : Mg} {go gn : Bool} (h : Rs m go gn [] r) : goodM m go gn = lastOk m r := by
 have := h.run_
 simp only [run] at this
 unfold goodM
 rw [← this]; rfl
theorem set9_far {B k : Nat} (h : k ≠ B) (w : World) (y0 y1 y2 y3 y4 y5 y6 y7 y8 : Value) : (((((((((w.setCell ⟨B, 0, none⟩ y0).setCell ⟨B, 1, none⟩ y1).setCell ⟨B, 2, none⟩ y2).setCell ⟨B, 3, none⟩ y3).setCell ⟨B, 4, none⟩ y4).setCell ⟨B, 5, none⟩ y5).setCell ⟨B, 6, none⟩ y6).setCell ⟨B, 7, none⟩ y7).setCell ⟨B, 8, none⟩ y8).heap[k]? = w.heap[k]? := by
 rw [Below.heap_setCell _ _ _ k h, Below.heap_setCell _ _ _ k h, Below.heap_setCell _ _ _ k h, Below.heap_setCell _ _ _ k h, Below.heap_setCell _ _ _ k h, Below.heap_setCell _ _ _ k h, Below.heap_setCell _ _ _ k h, Below.heap_setCell _ _ _ k h, Below.heap_setCell _ _ _ k h]
set_option maxHeartbeats 8000000 in
set_option maxRecDepth 100000 in
theorem good_c (m : Mg) (go gn : Bool) (w : World) (ho : ∃ A n c, m.o = .slice A n c ∧ n ≤ 4611686018427387904) (hn : ∃ A n c, m.n = .slice A n c ∧ n ≤ 4611686018427387904)
  (HG : ∀ W, Below w.heap.size w W → Calls Try.prog 93 #[m.o] W fun e W' => e = .returned (.bool go) ∧ Below W.heap.size W W')
  (HN : ∀ W, Below w.heap.size w W → Calls Try.prog 94 #[m.n] W fun e W' => e = .returned (.bool gn) ∧ Below W.heap.size W W') :
  Calls Try.prog 23 #[m.val] w fun e w' => e = .returned (.bool (goodM m go gn)) ∧ Below w.heap.size w w' := by
 have HRS := Aside0.mk (Rs.start m go gn)
 obtain ⟨Ao, no, co, ho, hno⟩ := ho
 obtain ⟨An, nn, cn, hn, hnn⟩ := hn
 have HGG := Aside0.mk HG
 have HNN := Aside0.mk HN
 have HNO := Aside0.mk hno
 have HNB := Aside0.mk hnn
 obtain ⟨M, hM⟩ : ∃ M, M = m := ⟨_, rfl⟩
 have HMM := Aside0.mk hM
 obtain ⟨k, c, e, r, s, d, o, t, n⟩ := m
 obtain rfl : o = .slice Ao no co := ho
 obtain rfl : n = .slice An nn cn := hn
 have HOF := Aside0.mk (show M.o = .slice Ao no co by rw [hM])
 have HNF := Aside0.mk (show M.n = .slice An nn cn by rw [hM])
 have HKF := Aside0.mk (show M.k = k by rw [hM])
 rw [← hM] at HRS
 clear HG HN hno hnn hM
 obtain ⟨B, hB⟩ : ∃ B, B = w.heap.size := ⟨_, rfl⟩
 obtain ⟨w2, hw2⟩ : ∃ w2, w2 = (w.alloc (.cells #[.int .i64 k, .int .i64 c, .int .i64 e, .int .i64 r, .int .i64 s, .int .i64 d, .slice Ao no co, .string t, .slice An nn cn] 44)).alloc (.cells #[.int .i64 0, .int .i64 0, .int .i64 0, .int .i64 0, .int .i64 0, .int .i64 0, .slice none 0 0, .string ⟨#[]⟩, .slice none 0 0] 44) := ⟨_, rfl⟩
 have HBB := Aside0.mk (show Blk B ⟨k, c, e, r, s, d, .slice Ao no co, t, .slice An nn cn⟩ w2 by unfold Blk; rw [hw2, hB, Own.heap_old _ _ _ (by simp)]; exact Own.heap_new _ _)
 have HZZ := Aside0.mk (show Blk (B + 1) ⟨0, 0, 0, 0, 0, 0, .slice none 0 0, ⟨#[]⟩, .slice none 0 0⟩ w2 by unfold Blk; rw [hw2, hB]; have := Own.heap_new (w.alloc (.cells #[.int .i64 k, .int .i64 c, .int .i64 e, .int .i64 r, .int .i64 s, .int .i64 d, .slice Ao no co, .string t, .slice An nn cn] 44)) (.cells #[.int .i64 0, .int .i64 0, .int .i64 0, .int .i64 0, .int .i64 0, .int .i64 0, .slice none 0 0, .string ⟨#[]⟩, .slice none 0 0] 44); rw [World.size_alloc] at this; exact this)
 have HLO := Aside0.mk (show Below w.heap.size w w2 by rw [hw2]; exact below_alloc (below_alloc (Below.refl _ _) _) _)
 have HW2 := Aside0.mk hw2
 have HBE := Aside0.mk hB
 clear hw2 hB
 obtain ⟨⟨x0, x1, x2, x3, x4, x5⟩, x6, x7, x8⟩ := HBB.out.cells
 obtain ⟨⟨z0, z1, z2, z3, z4, z5⟩, z6, z7, z8⟩ := HZZ.out.cells
 have g0 := HZZ.out.fz 0
 have g1 := HZZ.out.fz 1
 have g2 := HZZ.out.fz 2
 have g3 := HZZ.out.fz 3
 have g4 := HZZ.out.fz 4
 have g5 := HZZ.out.fz 5
 have g6 := HZZ.out.fz 6
 have g7 := HZZ.out.fz 7
 have g8 := HZZ.out.fz 8
 go_enter Try.func23, Try.ntmps23
 unfold Mg.val Mg.cs
 go_wp2_with (first | rw [← HBE.out, ← HW2.out])
 have HZ2 := Aside0.mk (HZZ.out.set k c e r s d (.slice Ao no co) t (.slice An nn cn))
 have HL2 := Aside0.mk (below_set9 HLO.out (B := B + 1) (by have := HBE.out; omega) (.int .i64 k) (.int .i64 c) (.int .i64 e) (.int .i64 r) (.int .i64 s) (.int .i64 d) (.slice Ao no co) (.string t) (.slice An nn cn))
 have HB2 := Aside0.mk (((below_set9 (Below.refl (B + 1) w2) (B := B + 1) (Nat.le_refl _) (.int .i64 k) (.int .i64 c) (.int .i64 e) (.int .i64 r) (.int .i64 s) (.int .i64 d) (.slice Ao no co) (.string t) (.slice An nn cn)).block B (by omega)).trans HBB.out)
 refine (message_fields.calls k _ _ (fields_f k)).mono ?_
 rintro e1 w3 ⟨v, rfl, hr, hb⟩
 have HZ3 := Aside0.mk (HZ2.out.below hb)
 have HB3 := Aside0.mk (Blk.below HB2.out hb)
 have HL3 := Aside0.mk (below_step HL2.out hb)
 have hr' := Kd.R_mono (ok' := fun k => B + 1 < k) (Kd.R_bound hr) (fun k hk => by
  have h1 := (HZ2.out.lt)
  have h2 := hk.2.1
  omega)
 obtain ⟨F, cF, rfl⟩ := Kd.R_slice hr'
 obtain ⟨bs, hbs⟩ : ∃ bs, bs = (((((((((w2.setCell ⟨B + 1, 0, none⟩ (.int .i64 k)).setCell ⟨B + 1, 1, none⟩ (.int .i64 c)).setCell ⟨B + 1, 2, none⟩ (.int .i64 e)).setCell ⟨B + 1, 3, none⟩ (.int .i64 r)).setCell ⟨B + 1, 4, none⟩ (.int .i64 s)).setCell ⟨B + 1, 5, none⟩ (.int .i64 d)).setCell ⟨B + 1, 6, none⟩ (.slice Ao no co)).setCell ⟨B + 1, 7, none⟩ (.string t)).setCell ⟨B + 1, 8, none⟩ (.slice An nn cn)).heap.size := ⟨_, rfl⟩
 rw [← hbs] at hr'
 have HCF := Aside0.mk hr'
 have HFO := Aside0.mk (fields_ok k)
 obtain ⟨fs, hfs⟩ : ∃ fs, fs = fieldsL k := ⟨_, rfl⟩
 rw [← hfs] at HCF HFO ⊢
 have HFS := Aside0.mk hfs
 rw [HKF.out, ← hfs] at HRS
 clear hb hr hr' hbs hfs x0 x1 x2 x3 x4 x5 x6 x7 x8 z0 z1 z2 z3 z4 z5 z6 z7 z8 g0 g1 g2 g3 g4 g5 g6 g7 g8 HBB HZZ HZ2 HL2 HB2 HLO HW2
 go_wp2_with fail
 go_loopw [12] (fun iv wr => ∃ (j : Nat) (rr : Mg), j ≤ fs.length ∧ iv = .int .i64 (j : Int) ∧ Rs M go gn (fs.drop j) rr ∧ Blk B ⟨k, c, e, r, s, d, .slice Ao no co, t, .slice An nn cn⟩ wr ∧ Blk (B + 1) rr wr ∧ Below w.heap.size w wr ∧ Kd.R (Kd.int .i64) 92 wr bs (fun k => B + 1 < k) (.slice F fs.length cF) fs) (fun iv _ => fs.length - (intOf iv).toNat)
 case atStart => exact ⟨0, _, Nat.zero_le _, rfl, HRS.out, HB3.out, by rw [HMM.out]; exact HZ3.out, HL3.out, HCF.out⟩
 case round =>
  obtain ⟨j, rr, hj, rfl, hrs, hB, hZ, hL, hC⟩ := hrel
  have HBj := Aside0.mk hB
  have HZj := Aside0.mk hZ
  have HLj := Aside0.mk hL
  have HCj := Aside0.mk hC
  have HRj := Aside0.mk hrs
  clear hB hZ hL hC hrs
  by_cases hlt : j < fs.length
  ·obtain ⟨f, hf⟩ : ∃ f, f = rd fs (j : Int) := ⟨_, rfl⟩
   have h4 : j < 4 := by have := HFO.out.2.2; omega
   have hdr := drop_rd hlt
   rw [← hf] at hdr
   have hmem : f ∈ fs := List.mem_of_mem_drop (i := j) (by rw [hdr]; exact List.mem_cons_self)
   have hnd : (f :: fs.drop (j + 1)).Nodup := by rw [← hdr]; exact HFO.out.1.sublist (List.drop_sublist _ _)
   have h08 := HFO.out.2.1 f hmem
   rw [hdr] at HRj
   obtain ⟨ad, rfl, y⟩ := Kd.at_int (Kd.R_reads' HCj.out).2.2 (j : Int) (by omega) (by omega)
   rw [Int.toNat_natCast, ← hf] at y
   have HWO := Aside0.mk (without_c rr go gn f h08.1 h08.2 wr (by
     rcases HRj.out.o with h | h
     ·exact ⟨_, _, _, h.trans HOF.out⟩
     ·exact ⟨_, _, _, h.1⟩) (by
     rcases HRj.out.n with h | h
     ·exact ⟨_, _, _, h.trans HNF.out⟩
     ·exact ⟨_, _, _, h.1⟩)
    (fun h5 W hW => by
     rcases HRj.out.o with h | h
     ·rw [h, HOF.out]; exact HGG.out W (HLj.out.trans (hW.mono HLj.out.size))
     ·exact absurd (show (5 : Int) ∈ f :: fs.drop (j + 1) by rw [h5]; exact List.mem_cons_self) h.2)
    (fun h5 W hW => by
     rcases HRj.out.n with h | h
     ·rw [h, HNF.out]; exact HNN.out W (HLj.out.trans (hW.mono HLj.out.size))
     ·exact absurd (show (7 : Int) ∈ f :: fs.drop (j + 1) by rw [h5]; exact List.mem_cons_self) h.2))
   have HST := Aside0.mk (fun hok => HRj.out.step hok hnd h08.1 h08.2)
   have HBA := Aside0.mk (fun hok => HRj.out.bad hok)
   have HFF := Aside0.mk (show (∃ A n c, (rr.strip f.toNat).o = .slice A n c) ∧ (∃ A n c, (rr.strip f.toNat).n = .slice A n c) from ⟨by
     rw [strip_o]
     split
     ·exact ⟨_, _, _, rfl⟩
     ·rcases HRj.out.o with h | h
      ·exact ⟨_, _, _, h.trans HOF.out⟩
      ·exact ⟨_, _, _, h.1⟩, by
     rw [strip_n _ _ (by omega)]
     split
     ·exact ⟨_, _, _, rfl⟩
     ·rcases HRj.out.n with h | h
      ·exact ⟨_, _, _, h.trans HNF.out⟩
      ·exact ⟨_, _, _, h.1⟩⟩)
   obtain ⟨r2, hr2⟩ : ∃ r2, r2 = rr.strip f.toNat := ⟨_, rfl⟩
   obtain ⟨ok, hok⟩ : ∃ ok, ok = rr.ok go gn f.toNat := ⟨_, rfl⟩
   rw [← hr2] at HWO HFF HST
   rw [← hok] at HWO HBA HST
   obtain ⟨⟨x0, x1, x2, x3, x4, x5⟩, x6, x7, x8⟩ := HZj.out.cells
   have hlt' : (j : Int) < (fs.length : Int) := by omega
   clear hr2 hok hnd h08 hmem hdr hf HRj HGG HNN
   obtain ⟨k2, c2, e2, q2, s2, d2, o2, t2, n2⟩ := r2
   obtain ⟨⟨Ao2, no2, co2, ho2⟩, An2, nn2, cn2, hn2⟩ := HFF.out
   obtain rfl : o2 = .slice Ao2 no2 co2 := ho2
   obtain rfl : n2 = .slice An2 nn2 cn2 := hn2
   go_wp2_with fail
   refine HWO.out.mono ?_
   unfold Mg.val Mg.cs
   rintro e9 w4 ⟨rfl, hb⟩
   have HB4 := Aside0.mk (HBj.out.below hb)
   have HZ4 := Aside0.mk (HZj.out.below hb)
   have HL4 := Aside0.mk (below_step HLj.out hb)
   have HC4 := Aside0.mk (Kd.R_below HCj.out hb)
   clear hb x0 x1 x2 x3 x4 x5 x6 x7 x8 y HWO HBj HZj HLj HCj HFF
   have HZ5 := Aside0.mk (HZ4.out.set k2 c2 e2 q2 s2 d2 (.slice Ao2 no2 co2) t2 (.slice An2 nn2 cn2))
   have HX := Aside0.mk (below_set9 (Below.refl (B + 1) w4) (B := B + 1) (Nat.le_refl _) (.int .i64 k2) (.int .i64 c2) (.int .i64 e2) (.int .i64 q2) (.int .i64 s2) (.int .i64 d2) (.slice Ao2 no2 co2) (.string t2) (.slice An2 nn2 cn2))
   have HL5 := Aside0.mk (below_set9 HL4.out (B := B + 1) (by have := HBE.out; omega) (.int .i64 k2) (.int .i64 c2) (.int .i64 e2) (.int .i64 q2) (.int .i64 s2) (.int .i64 d2) (.slice Ao2 no2 co2) (.string t2) (.slice An2 nn2 cn2))
   have HC5 := Aside0.mk (Kd.R_step HC4.out (fun K hK _ => set9_far (B := B + 1) (by omega) w4 (.int .i64 k2) (.int .i64 c2) (.int .i64 e2) (.int .i64 q2) (.int .i64 s2) (.int .i64 d2) (.slice Ao2 no2 co2) (.string t2) (.slice An2 nn2 cn2)))
   have HB5 := Aside0.mk ((HX.out.block B (by omega)).trans HB4.out)
   obtain ⟨⟨x0, x1, x2, x3, x4, x5⟩, x6, x7, x8⟩ := HZ4.out.cells
   have g0 := HZ4.out.fz 0
   have g1 := HZ4.out.fz 1
   have g2 := HZ4.out.fz 2
   have g3 := HZ4.out.fz 3
   have g4 := HZ4.out.fz 4
   have g5 := HZ4.out.fz 5
   have g6 := HZ4.out.fz 6
   have g7 := HZ4.out.fz 7
   have g8 := HZ4.out.fz 8
   cases ok with
   | false =>
    have HQ := Aside0.mk (HBA.out rfl)
    have HQ2 := Aside0.mk (show goodM ⟨k, c, e, r, s, d, .slice Ao no co, t, .slice An nn cn⟩ go gn = false by rw [← HMM.out]; exact HQ.out)
    go_wp2_with fail
    go_ret
    exact ⟨by rw [HQ2.out]; rfl, HL5.out⟩
   | true =>
    have HRS2 := Aside0.mk (HST.out rfl)
    go_wp2_with fail
    go_roundw
    case rel => exact ⟨j + 1, _, by omega, by go_num, HRS2.out, HB5.out, HZ5.out, HL5.out, HC5.out⟩
    case measure => simp [intOf]; omega
  ·obtain rfl : j = fs.length := by omega
   rw [List.drop_eq_nil_of_le (Nat.le_refl _)] at HRj
   have hlt' : ¬ ((fs.length : Int) < (fs.length : Int)) := by omega
   have HFF := Aside0.mk (show (∃ A n c, rr.o = .slice A n c ∧ n ≤ 4611686018427387904) ∧ (∃ A n c, rr.n = .slice A n c ∧ n ≤ 4611686018427387904) from ⟨by
     rcases HRj.out.o with h | h
     ·exact ⟨_, _, _, h.trans HOF.out, HNO.out⟩
     ·exact ⟨_, _, _, h.1, by decide⟩, by
     rcases HRj.out.n with h | h
     ·exact ⟨_, _, _, h.trans HNF.out, HNB.out⟩
     ·exact ⟨_, _, _, h.1, by decide⟩⟩)
   obtain ⟨⟨x0, x1, x2, x3, x4, x5⟩, x6, x7, x8⟩ := HBj.out.cells
   obtain ⟨⟨z0, z1, z2, z3, z4, z5⟩, z6, z7, z8⟩ := HZj.out.cells
   clear HGG HNN HRS HCj
   go_wp2_with fail
   refine (message_fields.calls k _ _ (fields_f k)).mono ?_
   rintro e9 w4 ⟨v, rfl, hr, hb⟩
   have HZ4 := Aside0.mk (HZj.out.below hb)
   have HB4 := Aside0.mk (HBj.out.below hb)
   have HL4 := Aside0.mk (below_step HLj.out hb)
   rw [← HFS.out] at hr
   obtain ⟨F2, cF2, rfl⟩ := Kd.R_slice hr
   have HGL := Aside0.mk (show goodM ⟨k, c, e, r, s, d, .slice Ao no co, t, .slice An nn cn⟩ go gn = (!fs.isEmpty && Mg.same rr (kindM k) (nil0 rr.o) (nil0 rr.n)) by
    rw [← HMM.out, HRj.out.last]; unfold lastOk; rw [HKF.out, HFS.out])
   clear hb hr x0 x1 x2 x3 x4 x5 x6 x7 x8 z0 z1 z2 z3 z4 z5 z6 z7 z8 HCF
   obtain ⟨⟨x0, x1, x2, x3, x4, x5⟩, x6, x7, x8⟩ := HB4.out.cells
   obtain ⟨⟨z0, z1, z2, z3, z4, z5⟩, z6, z7, z8⟩ := HZ4.out.cells
   by_cases hp : 0 < fs.length
   ·have hp' : (0 : Int) < (fs.length : Int) := by omega
    obtain ⟨⟨A1, n1, c1, e1, b1⟩, A2, n2, c2, e2, b2⟩ := HFF.out
    have HSS := Aside0.mk (same_c rr (kindM k) (nil0 rr.o) (nil0 rr.n) w4 ⟨_, _, _, e1⟩ ⟨_, _, _, e2⟩ ⟨_, _, _, rfl⟩ ⟨_, _, _, rfl⟩ (fun W _ => by rw [e1]; exact eqrun_nil A1 n1 c1 b1 W) (fun W _ => by rw [e2]; exact eqnote_nil A2 n2 c2 b2 W))
    have HEM := Aside0.mk (show fs.isEmpty = false by cases fs with
     | nil => exact absurd hp (by simp)
     | cons => rfl)
    clear e1 e2 b1 b2 hp
    go_wp2_with fail
    refine HSS.out.mono ?_
    rintro e9 w5 ⟨rfl, hb⟩
    have HL5 := Aside0.mk (below_step HL4.out hb)
    clear hb x0 x1 x2 x3 x4 x5 x6 x7 x8 z0 z1 z2 z3 z4 z5 z6 z7 z8
    go_wp2_with fail
    go_ret
    exact ⟨by rw [HGL.out, HEM.out]; rfl, HL5.out⟩
   ·have hp' : ¬ (0 : Int) < (fs.length : Int) := by omega
    have HEM := Aside0.mk (show fs.isEmpty = true by cases fs with
     | nil => rfl
     | cons => exact absurd (by simp) hp)
    clear hp
    go_wp2_with fail
    go_ret
    exact ⟨by rw [HGL.out, HEM.out]; rfl, HL4.out⟩
end Go.Proofs.Ytedfcjcnhgomoaa.MsgD
end
-- MERGED YtedfcjcnhgomoaaMsgF
section
namespace Go.Proofs.Ytedfcjcnhgomoaa.MsgF
open Go.RowKit Go.Proofs.Ytedfcjcnhgomoaa.P Go.Proofs.YtedfcjcnhgomoaaW.PrintWords Go.Proofs.YtedfcjcnhgomoaaW.PrintLast Go.Proofs.YtedfcjcnhgomoaaW.PrintMore Go.Proofs.Ytedfcjcnhgomoaa.EditK Go.Proofs.Ytedfcjcnhgomoaa.Own Go.Proofs.Ytedfcjcnhgomoaa.NoteN
set_option linter.unusedSimpArgs false
set_option linter.unusedVariables false
theorem less_f (a b : Nt) : message_less.f a.f0.f0 a.f0.f1 a.f1 b.f0.f0 b.f0.f1 b.f1 = some (lessN a b) := by
 unfold message_less.f lessN
 repeat' split
 all_goals rfl
theorem fine_l (l : List Nt) (hl : l.length ≤ 1000000) : ∀ (n : Nat) (k j : Nat), j + n = l.length → 2 * n < k → message_fine.l0 k l l (l.length : Int) (j : Int) = some (fineR (prevO l j) (l.drop j) && decide (l.length ≤ 4096)) := by
 intro n
 induction n with
 | zero =>
  intro k j hj hk
  obtain ⟨k, rfl⟩ : ∃ m, k = m + 1 := ⟨k - 1, by omega⟩
  simp only [message_fine.l0]
  rw [if_neg (by omega), List.drop_eq_nil_of_le (by omega)]
  show some _ = some (true && _)
  rw [Bool.true_and]
  by_cases h : l.length ≤ 4096
  ·rw [decide_eq_true h, decide_eq_true (by omega)]
  ·rw [decide_eq_false h, decide_eq_false (by omega)]
 | succ n ih =>
  intro k j hj hk
  obtain ⟨k, rfl⟩ : ∃ m, k = m + 2 := ⟨k - 2, by omega⟩
  have next := ih k (j + 1) (by omega) (by omega)
  have hx : rd_T104 l (j : Int) = l.getD j z104 := by unfold rd_T104; rw [Int.toNat_natCast]
  rw [fine_step (show j < l.length by omega)]
  simp only [message_fine.l0, message_fine.j1]
  rw [if_pos (by omega), if_pos (by omega), if_pos (by omega), hx]
  obtain ⟨x, hx2⟩ : ∃ x, x = l.getD j z104 := ⟨_, rfl⟩
  rw [← hx2]
  by_cases hs : 0 ≤ x.f0.f0 ∧ x.f0.f0 ≤ x.f0.f1 ∧ x.f0.f1 ≤ 16777216
  ·rw [if_neg (by omega), if_neg (by omega), decide_eq_false (by omega), if_neg Bool.false_ne_true]
   by_cases hc : 0 ≤ x.f1 ∧ x.f1 ≤ 65536
   ·rw [if_neg (by omega), if_neg (by omega), okX_yes hs hc]
    by_cases hj0 : j = 0
    ·subst hj0
     rw [if_neg (by omega), w64 (x := ((0 : Nat) : Int) + 1) (by omega) (by omega)]
     exact next
    ·rw [if_pos (by omega), w64 (x := (j : Int) - 1) (by omega) (by omega), if_pos (by omega), if_pos (by omega)]
     have hp : rd_T104 l ((j : Int) - 1) = l.getD (j - 1) z104 := by unfold rd_T104; rw [show ((j : Int) - 1).toNat = j - 1 by omega]
     rw [hp, less_f, Option.bind_some, prevO_pos (by omega : 0 < j), w64 (x := (j : Int) + 1) (by omega) (by omega)]
     show (if lessN (l.getD (j - 1) z104) x = true then _ else _) = some (((true && lessN (l.getD (j - 1) z104) x) && _) && _)
     cases lessN (l.getD (j - 1) z104) x with
     | true => rw [if_pos rfl]; exact next
     | false => rw [if_neg Bool.false_ne_true]; rfl
   ·rw [okX_code hc]
    by_cases h1 : x.f1 < 0
    ·rw [if_pos h1]; rfl
    ·rw [if_neg h1, if_pos (by omega)]; rfl
  ·rw [okX_spot hs]
   by_cases h1 : x.f0.f0 < 0
   ·rw [if_pos h1, if_pos trivial]; rfl
   ·rw [if_neg h1]
    by_cases h2 : x.f0.f0 > x.f0.f1
    ·rw [if_pos h2, if_pos trivial]; rfl
    ·rw [if_neg h2, decide_eq_true (by omega), if_pos rfl]; rfl
theorem fine_c (A : Option Addr) (c : Nat) (l : List Nt) (w : World) (hC : NC w A l) (hc : l.length ≤ c) (hl : l.length ≤ 1000000) :
  Calls Try.prog 94 #[.slice A l.length c] w fun e w' => e = .returned (.bool (fineL l)) ∧ Below w.heap.size w w' := by
 refine message_fine.calls (2 * l.length + 1) A c l (fineL l) w hC hc ?_
 unfold message_fine.f
 exact fine_l l hl l.length _ 0 (by omega) (by omega)
end Go.Proofs.Ytedfcjcnhgomoaa.MsgF
end
-- MERGED YtedfcjcnhgomoaaPPart2
section
namespace Go.Proofs.Ytedfcjcnhgomoaa.P
open Go.RowKit Go.Proofs.YtedfcjcnhgomoaaW.PrintWords Go.Proofs.YtedfcjcnhgomoaaW.PrintLast Go.Proofs.YtedfcjcnhgomoaaW.PrintMore
attribute [local go_sem] max2_int min2_int max_two min_two max_three min_three max_four min_four   -- for this text's walks alone
set_option linter.unusedVariables false
set_option linter.unusedSimpArgs false
theorem eqA85 (d : Nat) (w : World) (x0 y0 : Int) (x1 y1 : ByteArray) (x2 y2 : Int) :
  (Op.equalIn (d + 2) 85 (.agg #[.int .i64 x0, .string x1, .int .i64 x2]) (.agg #[.int .i64 y0, .string y1, .int .i64 y2])).run Try.prog w = .ok (x0 == y0 && (x1.toList == y1.toList && (x2 == y2))) w := by
 refine eqA_of Try.underlying85 (by kernel_rfl) ?_
 refine eqf_cons (by rfl) (by go_simp; rfl) (by go_simp; rfl) (by go_simp) ?_
 refine eqf_cons (by rfl) (by go_simp; rfl) (by go_simp; rfl) (by go_simp) ?_
 exact eqf_last (by rfl) (by go_simp; rfl) (by go_simp; rfl) (by go_simp)
end Go.Proofs.Ytedfcjcnhgomoaa.P
end
-- MERGED YtedfcjcnhgomoaaPeditkind
section
namespace Go.Proofs.Ytedfcjcnhgomoaa.P
open Go.RowKit Go.Proofs.YtedfcjcnhgomoaaW.PrintWords Go.Proofs.YtedfcjcnhgomoaaW.PrintLast Go.Proofs.YtedfcjcnhgomoaaW.PrintMore
attribute [local go_sem] max2_int min2_int max_two min_two max_three min_three max_four min_four   -- for this text's walks alone
set_option linter.unusedVariables false
set_option linter.unusedSimpArgs false
def edit_kind.f (a0_0 : Int) (a0_1 : ByteArray) (a0_2 : Int) : Option (Int) := some (EditL.knd ⟨a0_0, a0_1, a0_2⟩)
attribute [local go_sem high] eqA85
theorem edit_kind.lnil (s : ByteArray) (h : s.size ≠ 0) : (s.toList == ([] : List UInt8)) = false := by
 rw [beq_eq_false_iff_ne, ByteArray.toList_eq]
 intro e
 apply h
 show s.data.size = 0
 rw [← Array.length_toList, e]; rfl
set_option maxHeartbeats 8000000 in
set_option maxRecDepth 100000 in
theorem edit_kind.calls (a0_0 : Int) (a0_1 : ByteArray) (a0_2 : Int) (r : Int) (w : World) (h : edit_kind.f a0_0 a0_1 a0_2 = some r) :
  Calls Try.prog 114 #[.agg #[.int .i64 a0_0, .string a0_1, .int .i64 a0_2]] w fun e w' => e = .returned (.int .i64 r) ∧ Below w.heap.size w w' := by
 obtain rfl := Option.some.inj h
 clear h
 have HB := Aside0.mk (below_alloc (Below.refl w.heap.size w) (.cells #[.int .i64 a0_0, .string a0_1, .int .i64 a0_2] 85))
 obtain ⟨n, hn⟩ : ∃ n, n = a0_1.size := ⟨_, rfl⟩
 have HK := Aside0.mk (show ∀ x y : Int, x = a0_0 → y = a0_2 → EditL.knd ⟨a0_0, a0_1, a0_2⟩ = if 0 < x ∧ n = 0 ∧ y = 0 then 1 else if x = 0 ∧ n ≠ 0 ∧ y = 0 then 2 else if x = 0 ∧ n = 0 ∧ 0 < y then 3 else 0 from fun x y hx hy => by rw [hx, hy, hn]; rfl)
 have HN := Aside0.mk hn
 obtain ⟨K, hK⟩ : ∃ K, K = EditL.knd ⟨a0_0, a0_1, a0_2⟩ := ⟨_, rfl⟩
 rw [← hK] at HK ⊢
 clear hK hn
 have h0 : a0_0 < 0 ∨ a0_0 = 0 ∨ 0 < a0_0 := by omega
 have h2 : a0_2 < 0 ∨ a0_2 = 0 ∨ 0 < a0_2 := by omega
 by_cases h1 : a0_1.size = 0
 ·have e1 : a0_1 = ⟨#[]⟩ := EditL.eq_E h1
  subst e1
  have HZ := Aside0.mk (HN.out.trans h1)
  clear h1 HN
  rcases h0 with h0 | rfl | h0
  all_goals rcases h2 with h2 | rfl | h2
  all_goals try have g0 : (a0_0 == 0) = false := by simp; omega
  all_goals try have g2 : (a0_2 == 0) = false := by simp; omega
  all_goals try have g0' : ¬ 0 < a0_0 := by omega
  all_goals try have g2' : ¬ 0 < a0_2 := by omega
  all_goals
   go_enter Try.func114, Try.ntmps114
   go_wp2_with fail
   go_ret
   refine ⟨?_, HB.out⟩
   refine congrArg (fun x : Int => Ending.returned (Value.int IntKind.i64 x)) ?_
   rw [HK.out _ _ rfl rfl]
   have := HZ.out
   clear HK HZ HB
   (repeat' split) <;> omega
 ·have g1 := edit_kind.lnil a0_1 h1
  have HZ := Aside0.mk (show n ≠ 0 by rw [HN.out]; exact h1)
  clear h1 HN
  rcases h0 with h0 | rfl | h0
  all_goals rcases h2 with h2 | rfl | h2
  all_goals try have g0 : (a0_0 == 0) = false := by simp; omega
  all_goals try have g2 : (a0_2 == 0) = false := by simp; omega
  all_goals try have g0' : ¬ 0 < a0_0 := by omega
  all_goals try have g2' : ¬ 0 < a0_2 := by omega
  all_goals
   go_enter Try.func114, Try.ntmps114
   go_wp2_with fail
   go_ret
   refine ⟨?_, HB.out⟩
   refine congrArg (fun x : Int => Ending.returned (Value.int IntKind.i64 x)) ?_
   rw [HK.out _ _ rfl rfl]
   have := HZ.out
   clear HK HZ HB
   (repeat' split) <;> omega
end Go.Proofs.Ytedfcjcnhgomoaa.P
end
-- MERGED YtedfcjcnhgomoaaPeditright
section
namespace Go.Proofs.Ytedfcjcnhgomoaa.P
open Go.RowKit Go.Proofs.YtedfcjcnhgomoaaW.PrintWords Go.Proofs.YtedfcjcnhgomoaaW.PrintLast Go.Proofs.YtedfcjcnhgomoaaW.PrintMore
attribute [local go_sem] max2_int min2_int max_two min_two max_three min_three max_four min_four   -- for this text's walks alone
set_option linter.unusedVariables false
set_option linter.unusedSimpArgs false
def edit_right.l0 : Nat → List (S85) → Int → List (S85) → Int → Int → Option (Bool)
 | 0, _, _, _, _, _ => none
 | k + 1, x0, x3, x7, x8, x9 => if x9 < x8 then (if 0 ≤ x9 then (if x9 < (x7.length : Int) then ((edit_kind.f ((rd_T85 x7 x9).f0) ((rd_T85 x7 x9).f1) ((rd_T85 x7 x9).f2)).bind fun t250 => (if t250 = 0 then (some false) else (if t250 = x3 then (some false) else (if x3 = 3 then (if t250 = 2 then (some false) else (edit_right.l0 k x0 t250 x7 x8 (wrap64 (x9 + 1)))) else (edit_right.l0 k x0 t250 x7 x8 (wrap64 (x9 + 1))))))) else (none)) else (none)) else (some (decide ((x0.length : Int) ≤ 65536)))
def edit_right.f (k : Nat) (l0 : List (S85)) : Option (Bool) := edit_right.l0 k l0 0 l0 (l0.length : Int) 0
set_option maxHeartbeats 8000000 in
set_option maxRecDepth 100000 in
theorem edit_right.calls (k : Nat) (A0 : Option Addr) (c0 : Nat) (l0 : List (S85)) (r : Bool) (w : World) (hr0 : Kd.C k85 w A0 l0.length l0) (hc0 : l0.length ≤ c0) (h : edit_right.f k l0 = some r) :
  Calls Try.prog 109 #[.slice A0 l0.length c0] w fun e w' => e = .returned (.bool r) ∧ Below w.heap.size w w' := by
 have hu85 := Try.underlying85
 have HR0 := Aside0.mk hr0
 have HC0 := Aside0.mk hc0
 clear hr0 hc0
 have HB := Aside0.mk (Below.refl w.heap.size w)
 have H : (edit_right.l0 k l0 0 l0 (l0.length : Int) 0) = some r := h
 clear h
 have H' := Aside0.mk H
 clear H
 go_enter Try.func109, Try.ntmps109
 go_wp2
 go_loopg [3, 9] k (fun kq v3 v9 w' => ∃ (x3_1 : Int) (x9_1 : Int), v3 = .int .i64 x3_1 ∧ v9 = .int .i64 x9_1 ∧ Aside0 (edit_right.l0 kq l0 x3_1 l0 (l0.length : Int) x9_1 = some r) ∧ Aside0 (kq ≤ k) ∧ Aside0 (Below w.heap.size w w'))
 case atStart => exact ⟨(0), (0), (by (rfl)), (by (rfl)), H', ⟨Nat.le_refl _⟩, ⟨by repeat ((with_reducible (exact HB.out)))⟩⟩
 case round =>
  clear H'
  try clear c1
  obtain ⟨x3_1, x9_1, rfl, rfl, HA, HK1, HB⟩ := hrel
  cases gk with
  | zero => exact absurd HA.out (by simp [edit_right.l0])
  | succ k1 =>
   have H := HA.out
   clear HA
   simp only [edit_right.l0] at H
   by_cases c2 : x9_1 < (l0.length : Int)
   ·rw [if_pos c2] at H
    have c2b0 : decide (x9_1 < (l0.length : Int)) = true := decide_eq_true c2
    clear c2
    by_cases c3 : 0 ≤ x9_1
    ·rw [if_pos c3] at H
     have c3b0 : decide (0 ≤ x9_1) = true := decide_eq_true c3
     clear c3
     by_cases c4 : x9_1 < (l0.length : Int)
     ·rw [if_pos c4] at H
      have c4b0 : decide (x9_1 < (l0.length : Int)) = true := decide_eq_true c4
      clear c4
      replace H := Option.bind_eq_some_iff.mp H
      obtain ⟨t250, A50, H⟩ := H
      replace H : (if t250 = 0 then (some false) else (if t250 = x3_1 then (some false) else (if x3_1 = 3 then (if t250 = 2 then (some false) else (edit_right.l0 k1 l0 t250 l0 (l0.length : Int) (wrap64 (x9_1 + 1)))) else (edit_right.l0 k1 l0 t250 l0 (l0.length : Int) (wrap64 (x9_1 + 1)))))) = some r := H
      have A5 := Aside0.mk A50
      clear A50
      by_cases c6 : t250 = 0
      ·rw [if_pos c6] at H
       have c6b0 : (t250 == 0) = true := beq_iff_eq.mpr c6
       have c6b1 : (t250 != 0) = false := bne_eq_false_iff_eq.mpr c6
       clear c6
       obtain rfl := Option.some.inj H
       have p248 : 0 ≤ (x9_1 : Int) := of_decide_eq_true (by (with_reducible assumption))
       have q248 : x9_1 < (l0.length : Int) := of_decide_eq_true (by (with_reducible assumption))
       obtain ⟨ad248, e248, hx248_0, hx248_1, hx248_2⟩ := at_T85 HR0.out x9_1 p248 q248
       cases e248
       replace hx248_0 := (HB.out.cell (World.block_lt_of_cell? w _ hx248_0)).trans hx248_0
       replace hx248_1 := (HB.out.cell (World.block_lt_of_cell? w _ hx248_1)).trans hx248_1
       replace hx248_2 := (HB.out.cell (World.block_lt_of_cell? w _ hx248_2)).trans hx248_2
       replace p248 := eq_true p248
       replace q248 := eq_true q248
       go_wp2_with (first | ((with_reducible refine gate_dst (N := 5) rfl ?_); refine box_event ?hg (N := 5) ?hd (cs := #[.int .i64 0, .string (⟨#[]⟩ : ByteArray), .int .i64 0]) (t := 85) ?hr ?_; (case hd => rfl); (case hg => rfl); (case hr => (go_simp; done)); intro gb249 hg w7 hbox hb; have n0_ := Aside0.mk (below_step (by repeat ((with_reducible (exact HB.out)))) hb); have n1_ := Aside0.mk (hbox); have n2_ := Aside0.mk ((by rw [hg]; exact (below_size (by repeat ((with_reducible (exact HB.out))))) : w.heap.size ≤ gb249)); have n3_ := Aside0.mk ((by rw [hg]; exact (below_size (by repeat ((with_reducible (exact HB.out))))) : w.heap.size ≤ gb249)); clear HB; have HB := n0_; have BK249 := n1_; have GW249 := n2_; have GE249 := n3_; clear n0_ n1_ n2_ n3_; clear hb hbox hg; have hcz8_0 : w7.cell? ⟨gb249, 0, none⟩ = some (.int .i64 0) := (blk_cell BK249.out 0).trans rfl; have hcz8_1 : w7.cell? ⟨gb249, 1, none⟩ = some (.string (⟨#[]⟩ : ByteArray)) := (blk_cell BK249.out 1).trans rfl; have hcz8_2 : w7.cell? ⟨gb249, 2, none⟩ = some (.int .i64 0) := (blk_cell BK249.out 2).trans rfl; have hfz8_0 := blk_frozen BK249.out 0; have hfz8_1 := blk_frozen BK249.out 1; have hfz8_2 := blk_frozen BK249.out 2) | ((with_reducible refine gate_callee (f := 114) rfl ?_); refine goesL_ (some 14) rfl rfl Try.func114 (by kernel_rfl) rfl #[.agg #[.int .i64 ((rd_T85 l0 x9_1).f0), .string ((rd_T85 l0 x9_1).f1), .int .i64 ((rd_T85 l0 x9_1).f2)]] rfl (by (try simp only [List.map_toArray, List.map_cons, List.map_nil]); (rfl)) ?_; (with_reducible refine (edit_kind.calls ((rd_T85 l0 x9_1).f0) ((rd_T85 l0 x9_1).f1) ((rd_T85 l0 x9_1).f2) t250 _ A5.out).mono ?_); rintro e w9 ⟨rfl, hb⟩; refine ⟨_, rfl, ?_⟩; have n0_ := Aside0.mk (blk_below (g := gb249) (o := .cells #[.int .i64 ((rd_T85 l0 x9_1).f0), .string ((rd_T85 l0 x9_1).f1), .int .i64 ((rd_T85 l0 x9_1).f2)] 85 (0, 0)) (by (with_reducible repeat ((refine blk_drew ?_))); refine blk_put (cs := #[.int .i64 ((rd_T85 l0 x9_1).f0), .string ((rd_T85 l0 x9_1).f1), .int .i64 0]) ?_ 2 _ rfl; (with_reducible repeat ((refine blk_drew ?_))); refine blk_put (cs := #[.int .i64 ((rd_T85 l0 x9_1).f0), .string (⟨#[]⟩ : ByteArray), .int .i64 0]) ?_ 1 _ rfl; (with_reducible repeat ((refine blk_drew ?_))); refine blk_put (cs := #[.int .i64 0, .string (⟨#[]⟩ : ByteArray), .int .i64 0]) ?_ 0 _ rfl; (with_reducible repeat ((refine blk_drew ?_))); exact BK249.out) hb); have n1_ := Aside0.mk (below_step (by repeat ((with_reducible first | exact HB.out | refine below_set ?_ GE249.out))) hb); clear BK249; clear HB; have BK249 := n0_; have HB := n1_; clear n0_ n1_; (try clear hb); (try clear hb2); (try clear hk); (try clear hi)))
       go_ret
       exact ⟨by (rfl), by repeat ((with_reducible (exact HB.out)))⟩
      ·rw [if_neg c6] at H
       have c6b0 : (t250 == 0) = false := beq_eq_false_iff_ne.mpr c6
       have c6b1 : (t250 != 0) = true := bne_iff_ne.mpr c6
       by_cases c10 : t250 = x3_1
       ·rw [if_pos c10] at H
        have c10b0 : (t250 == x3_1) = true := beq_iff_eq.mpr c10
        have c10b1 : (t250 != x3_1) = false := bne_eq_false_iff_eq.mpr c10
        clear c10
        obtain rfl := Option.some.inj H
        have p248 : 0 ≤ (x9_1 : Int) := of_decide_eq_true (by (with_reducible assumption))
        have q248 : x9_1 < (l0.length : Int) := of_decide_eq_true (by (with_reducible assumption))
        obtain ⟨ad248, e248, hx248_0, hx248_1, hx248_2⟩ := at_T85 HR0.out x9_1 p248 q248
        cases e248
        replace hx248_0 := (HB.out.cell (World.block_lt_of_cell? w _ hx248_0)).trans hx248_0
        replace hx248_1 := (HB.out.cell (World.block_lt_of_cell? w _ hx248_1)).trans hx248_1
        replace hx248_2 := (HB.out.cell (World.block_lt_of_cell? w _ hx248_2)).trans hx248_2
        replace p248 := eq_true p248
        replace q248 := eq_true q248
        go_wp2_with (first | ((with_reducible refine gate_dst (N := 5) rfl ?_); refine box_event ?hg (N := 5) ?hd (cs := #[.int .i64 0, .string (⟨#[]⟩ : ByteArray), .int .i64 0]) (t := 85) ?hr ?_; (case hd => rfl); (case hg => rfl); (case hr => (go_simp; done)); intro gb249 hg w11 hbox hb; have n0_ := Aside0.mk (below_step (by repeat ((with_reducible (exact HB.out)))) hb); have n1_ := Aside0.mk (hbox); have n2_ := Aside0.mk ((by rw [hg]; exact (below_size (by repeat ((with_reducible (exact HB.out))))) : w.heap.size ≤ gb249)); have n3_ := Aside0.mk ((by rw [hg]; exact (below_size (by repeat ((with_reducible (exact HB.out))))) : w.heap.size ≤ gb249)); clear HB; have HB := n0_; have BK249 := n1_; have GW249 := n2_; have GE249 := n3_; clear n0_ n1_ n2_ n3_; clear hb hbox hg; have hcz12_0 : w11.cell? ⟨gb249, 0, none⟩ = some (.int .i64 0) := (blk_cell BK249.out 0).trans rfl; have hcz12_1 : w11.cell? ⟨gb249, 1, none⟩ = some (.string (⟨#[]⟩ : ByteArray)) := (blk_cell BK249.out 1).trans rfl; have hcz12_2 : w11.cell? ⟨gb249, 2, none⟩ = some (.int .i64 0) := (blk_cell BK249.out 2).trans rfl; have hfz12_0 := blk_frozen BK249.out 0; have hfz12_1 := blk_frozen BK249.out 1; have hfz12_2 := blk_frozen BK249.out 2) | ((with_reducible refine gate_callee (f := 114) rfl ?_); refine goesL_ (some 14) rfl rfl Try.func114 (by kernel_rfl) rfl #[.agg #[.int .i64 ((rd_T85 l0 x9_1).f0), .string ((rd_T85 l0 x9_1).f1), .int .i64 ((rd_T85 l0 x9_1).f2)]] rfl (by (try simp only [List.map_toArray, List.map_cons, List.map_nil]); (rfl)) ?_; (with_reducible refine (edit_kind.calls ((rd_T85 l0 x9_1).f0) ((rd_T85 l0 x9_1).f1) ((rd_T85 l0 x9_1).f2) t250 _ A5.out).mono ?_); rintro e w13 ⟨rfl, hb⟩; refine ⟨_, rfl, ?_⟩; have n0_ := Aside0.mk (blk_below (g := gb249) (o := .cells #[.int .i64 ((rd_T85 l0 x9_1).f0), .string ((rd_T85 l0 x9_1).f1), .int .i64 ((rd_T85 l0 x9_1).f2)] 85 (0, 0)) (by (with_reducible repeat ((refine blk_drew ?_))); refine blk_put (cs := #[.int .i64 ((rd_T85 l0 x9_1).f0), .string ((rd_T85 l0 x9_1).f1), .int .i64 0]) ?_ 2 _ rfl; (with_reducible repeat ((refine blk_drew ?_))); refine blk_put (cs := #[.int .i64 ((rd_T85 l0 x9_1).f0), .string (⟨#[]⟩ : ByteArray), .int .i64 0]) ?_ 1 _ rfl; (with_reducible repeat ((refine blk_drew ?_))); refine blk_put (cs := #[.int .i64 0, .string (⟨#[]⟩ : ByteArray), .int .i64 0]) ?_ 0 _ rfl; (with_reducible repeat ((refine blk_drew ?_))); exact BK249.out) hb); have n1_ := Aside0.mk (below_step (by repeat ((with_reducible first | exact HB.out | refine below_set ?_ GE249.out))) hb); clear BK249; clear HB; have BK249 := n0_; have HB := n1_; clear n0_ n1_; (try clear hb); (try clear hb2); (try clear hk); (try clear hi)))
        go_ret
        exact ⟨by (rfl), by repeat ((with_reducible (exact HB.out)))⟩
       ·rw [if_neg c10] at H
        have c10b0 : (t250 == x3_1) = false := beq_eq_false_iff_ne.mpr c10
        have c10b1 : (t250 != x3_1) = true := bne_iff_ne.mpr c10
        by_cases c14 : x3_1 = 3
        ·rw [if_pos c14] at H
         have c14b0 : (x3_1 == 3) = true := beq_iff_eq.mpr c14
         have c14b1 : (x3_1 != 3) = false := bne_eq_false_iff_eq.mpr c14
         clear c14
         by_cases c15 : t250 = 2
         ·rw [if_pos c15] at H
          have c15b0 : (t250 == 2) = true := beq_iff_eq.mpr c15
          have c15b1 : (t250 != 2) = false := bne_eq_false_iff_eq.mpr c15
          clear c15
          obtain rfl := Option.some.inj H
          have p248 : 0 ≤ (x9_1 : Int) := of_decide_eq_true (by (with_reducible assumption))
          have q248 : x9_1 < (l0.length : Int) := of_decide_eq_true (by (with_reducible assumption))
          obtain ⟨ad248, e248, hx248_0, hx248_1, hx248_2⟩ := at_T85 HR0.out x9_1 p248 q248
          cases e248
          replace hx248_0 := (HB.out.cell (World.block_lt_of_cell? w _ hx248_0)).trans hx248_0
          replace hx248_1 := (HB.out.cell (World.block_lt_of_cell? w _ hx248_1)).trans hx248_1
          replace hx248_2 := (HB.out.cell (World.block_lt_of_cell? w _ hx248_2)).trans hx248_2
          replace p248 := eq_true p248
          replace q248 := eq_true q248
          go_wp2_with (first | ((with_reducible refine gate_dst (N := 5) rfl ?_); refine box_event ?hg (N := 5) ?hd (cs := #[.int .i64 0, .string (⟨#[]⟩ : ByteArray), .int .i64 0]) (t := 85) ?hr ?_; (case hd => rfl); (case hg => rfl); (case hr => (go_simp; done)); intro gb249 hg w16 hbox hb; have n0_ := Aside0.mk (below_step (by repeat ((with_reducible (exact HB.out)))) hb); have n1_ := Aside0.mk (hbox); have n2_ := Aside0.mk ((by rw [hg]; exact (below_size (by repeat ((with_reducible (exact HB.out))))) : w.heap.size ≤ gb249)); have n3_ := Aside0.mk ((by rw [hg]; exact (below_size (by repeat ((with_reducible (exact HB.out))))) : w.heap.size ≤ gb249)); clear HB; have HB := n0_; have BK249 := n1_; have GW249 := n2_; have GE249 := n3_; clear n0_ n1_ n2_ n3_; clear hb hbox hg; have hcz17_0 : w16.cell? ⟨gb249, 0, none⟩ = some (.int .i64 0) := (blk_cell BK249.out 0).trans rfl; have hcz17_1 : w16.cell? ⟨gb249, 1, none⟩ = some (.string (⟨#[]⟩ : ByteArray)) := (blk_cell BK249.out 1).trans rfl; have hcz17_2 : w16.cell? ⟨gb249, 2, none⟩ = some (.int .i64 0) := (blk_cell BK249.out 2).trans rfl; have hfz17_0 := blk_frozen BK249.out 0; have hfz17_1 := blk_frozen BK249.out 1; have hfz17_2 := blk_frozen BK249.out 2) | ((with_reducible refine gate_callee (f := 114) rfl ?_); refine goesL_ (some 14) rfl rfl Try.func114 (by kernel_rfl) rfl #[.agg #[.int .i64 ((rd_T85 l0 x9_1).f0), .string ((rd_T85 l0 x9_1).f1), .int .i64 ((rd_T85 l0 x9_1).f2)]] rfl (by (try simp only [List.map_toArray, List.map_cons, List.map_nil]); (rfl)) ?_; (with_reducible refine (edit_kind.calls ((rd_T85 l0 x9_1).f0) ((rd_T85 l0 x9_1).f1) ((rd_T85 l0 x9_1).f2) t250 _ A5.out).mono ?_); rintro e w18 ⟨rfl, hb⟩; refine ⟨_, rfl, ?_⟩; have n0_ := Aside0.mk (blk_below (g := gb249) (o := .cells #[.int .i64 ((rd_T85 l0 x9_1).f0), .string ((rd_T85 l0 x9_1).f1), .int .i64 ((rd_T85 l0 x9_1).f2)] 85 (0, 0)) (by (with_reducible repeat ((refine blk_drew ?_))); refine blk_put (cs := #[.int .i64 ((rd_T85 l0 x9_1).f0), .string ((rd_T85 l0 x9_1).f1), .int .i64 0]) ?_ 2 _ rfl; (with_reducible repeat ((refine blk_drew ?_))); refine blk_put (cs := #[.int .i64 ((rd_T85 l0 x9_1).f0), .string (⟨#[]⟩ : ByteArray), .int .i64 0]) ?_ 1 _ rfl; (with_reducible repeat ((refine blk_drew ?_))); refine blk_put (cs := #[.int .i64 0, .string (⟨#[]⟩ : ByteArray), .int .i64 0]) ?_ 0 _ rfl; (with_reducible repeat ((refine blk_drew ?_))); exact BK249.out) hb); have n1_ := Aside0.mk (below_step (by repeat ((with_reducible first | exact HB.out | refine below_set ?_ GE249.out))) hb); clear BK249; clear HB; have BK249 := n0_; have HB := n1_; clear n0_ n1_; (try clear hb); (try clear hb2); (try clear hk); (try clear hi)))
          go_ret
          exact ⟨by (rfl), by repeat ((with_reducible (exact HB.out)))⟩
         ·rw [if_neg c15] at H
          have c15b0 : (t250 == 2) = false := beq_eq_false_iff_ne.mpr c15
          have c15b1 : (t250 != 2) = true := bne_iff_ne.mpr c15
          have H' := Aside0.mk H
          clear H
          have p248 : 0 ≤ (x9_1 : Int) := of_decide_eq_true (by (with_reducible assumption))
          have q248 : x9_1 < (l0.length : Int) := of_decide_eq_true (by (with_reducible assumption))
          obtain ⟨ad248, e248, hx248_0, hx248_1, hx248_2⟩ := at_T85 HR0.out x9_1 p248 q248
          cases e248
          replace hx248_0 := (HB.out.cell (World.block_lt_of_cell? w _ hx248_0)).trans hx248_0
          replace hx248_1 := (HB.out.cell (World.block_lt_of_cell? w _ hx248_1)).trans hx248_1
          replace hx248_2 := (HB.out.cell (World.block_lt_of_cell? w _ hx248_2)).trans hx248_2
          replace p248 := eq_true p248
          replace q248 := eq_true q248
          go_wp2_with (first | ((with_reducible refine gate_dst (N := 5) rfl ?_); refine box_event ?hg (N := 5) ?hd (cs := #[.int .i64 0, .string (⟨#[]⟩ : ByteArray), .int .i64 0]) (t := 85) ?hr ?_; (case hd => rfl); (case hg => rfl); (case hr => (go_simp; done)); intro gb249 hg w19 hbox hb; have n0_ := Aside0.mk (below_step (by repeat ((with_reducible (exact HB.out)))) hb); have n1_ := Aside0.mk (hbox); have n2_ := Aside0.mk ((by rw [hg]; exact (below_size (by repeat ((with_reducible (exact HB.out))))) : w.heap.size ≤ gb249)); have n3_ := Aside0.mk ((by rw [hg]; exact (below_size (by repeat ((with_reducible (exact HB.out))))) : w.heap.size ≤ gb249)); clear HB; have HB := n0_; have BK249 := n1_; have GW249 := n2_; have GE249 := n3_; clear n0_ n1_ n2_ n3_; clear hb hbox hg; have hcz20_0 : w19.cell? ⟨gb249, 0, none⟩ = some (.int .i64 0) := (blk_cell BK249.out 0).trans rfl; have hcz20_1 : w19.cell? ⟨gb249, 1, none⟩ = some (.string (⟨#[]⟩ : ByteArray)) := (blk_cell BK249.out 1).trans rfl; have hcz20_2 : w19.cell? ⟨gb249, 2, none⟩ = some (.int .i64 0) := (blk_cell BK249.out 2).trans rfl; have hfz20_0 := blk_frozen BK249.out 0; have hfz20_1 := blk_frozen BK249.out 1; have hfz20_2 := blk_frozen BK249.out 2) | ((with_reducible refine gate_callee (f := 114) rfl ?_); refine goesL_ (some 14) rfl rfl Try.func114 (by kernel_rfl) rfl #[.agg #[.int .i64 ((rd_T85 l0 x9_1).f0), .string ((rd_T85 l0 x9_1).f1), .int .i64 ((rd_T85 l0 x9_1).f2)]] rfl (by (try simp only [List.map_toArray, List.map_cons, List.map_nil]); (rfl)) ?_; (with_reducible refine (edit_kind.calls ((rd_T85 l0 x9_1).f0) ((rd_T85 l0 x9_1).f1) ((rd_T85 l0 x9_1).f2) t250 _ A5.out).mono ?_); rintro e w21 ⟨rfl, hb⟩; refine ⟨_, rfl, ?_⟩; have n0_ := Aside0.mk (blk_below (g := gb249) (o := .cells #[.int .i64 ((rd_T85 l0 x9_1).f0), .string ((rd_T85 l0 x9_1).f1), .int .i64 ((rd_T85 l0 x9_1).f2)] 85 (0, 0)) (by (with_reducible repeat ((refine blk_drew ?_))); refine blk_put (cs := #[.int .i64 ((rd_T85 l0 x9_1).f0), .string ((rd_T85 l0 x9_1).f1), .int .i64 0]) ?_ 2 _ rfl; (with_reducible repeat ((refine blk_drew ?_))); refine blk_put (cs := #[.int .i64 ((rd_T85 l0 x9_1).f0), .string (⟨#[]⟩ : ByteArray), .int .i64 0]) ?_ 1 _ rfl; (with_reducible repeat ((refine blk_drew ?_))); refine blk_put (cs := #[.int .i64 0, .string (⟨#[]⟩ : ByteArray), .int .i64 0]) ?_ 0 _ rfl; (with_reducible repeat ((refine blk_drew ?_))); exact BK249.out) hb); have n1_ := Aside0.mk (below_step (by repeat ((with_reducible first | exact HB.out | refine below_set ?_ GE249.out))) hb); clear BK249; clear HB; have BK249 := n0_; have HB := n1_; clear n0_ n1_; (try clear hb); (try clear hb2); (try clear hk); (try clear hi)))
          go_roundg k1
          case measure => have := HK1.out; omega
          case rel => exact ⟨(t250), (wrap64 (x9_1 + 1)), (by (rfl)), (by (rfl)), H', ⟨by have := HK1.out; omega⟩, ⟨by repeat ((with_reducible (exact HB.out)))⟩⟩
        ·rw [if_neg c14] at H
         have c14b0 : (x3_1 == 3) = false := beq_eq_false_iff_ne.mpr c14
         have c14b1 : (x3_1 != 3) = true := bne_iff_ne.mpr c14
         have H' := Aside0.mk H
         clear H
         have p248 : 0 ≤ (x9_1 : Int) := of_decide_eq_true (by (with_reducible assumption))
         have q248 : x9_1 < (l0.length : Int) := of_decide_eq_true (by (with_reducible assumption))
         obtain ⟨ad248, e248, hx248_0, hx248_1, hx248_2⟩ := at_T85 HR0.out x9_1 p248 q248
         cases e248
         replace hx248_0 := (HB.out.cell (World.block_lt_of_cell? w _ hx248_0)).trans hx248_0
         replace hx248_1 := (HB.out.cell (World.block_lt_of_cell? w _ hx248_1)).trans hx248_1
         replace hx248_2 := (HB.out.cell (World.block_lt_of_cell? w _ hx248_2)).trans hx248_2
         replace p248 := eq_true p248
         replace q248 := eq_true q248
         go_wp2_with (first | ((with_reducible refine gate_dst (N := 5) rfl ?_); refine box_event ?hg (N := 5) ?hd (cs := #[.int .i64 0, .string (⟨#[]⟩ : ByteArray), .int .i64 0]) (t := 85) ?hr ?_; (case hd => rfl); (case hg => rfl); (case hr => (go_simp; done)); intro gb249 hg w22 hbox hb; have n0_ := Aside0.mk (below_step (by repeat ((with_reducible (exact HB.out)))) hb); have n1_ := Aside0.mk (hbox); have n2_ := Aside0.mk ((by rw [hg]; exact (below_size (by repeat ((with_reducible (exact HB.out))))) : w.heap.size ≤ gb249)); have n3_ := Aside0.mk ((by rw [hg]; exact (below_size (by repeat ((with_reducible (exact HB.out))))) : w.heap.size ≤ gb249)); clear HB; have HB := n0_; have BK249 := n1_; have GW249 := n2_; have GE249 := n3_; clear n0_ n1_ n2_ n3_; clear hb hbox hg; have hcz23_0 : w22.cell? ⟨gb249, 0, none⟩ = some (.int .i64 0) := (blk_cell BK249.out 0).trans rfl; have hcz23_1 : w22.cell? ⟨gb249, 1, none⟩ = some (.string (⟨#[]⟩ : ByteArray)) := (blk_cell BK249.out 1).trans rfl; have hcz23_2 : w22.cell? ⟨gb249, 2, none⟩ = some (.int .i64 0) := (blk_cell BK249.out 2).trans rfl; have hfz23_0 := blk_frozen BK249.out 0; have hfz23_1 := blk_frozen BK249.out 1; have hfz23_2 := blk_frozen BK249.out 2) | ((with_reducible refine gate_callee (f := 114) rfl ?_); refine goesL_ (some 14) rfl rfl Try.func114 (by kernel_rfl) rfl #[.agg #[.int .i64 ((rd_T85 l0 x9_1).f0), .string ((rd_T85 l0 x9_1).f1), .int .i64 ((rd_T85 l0 x9_1).f2)]] rfl (by (try simp only [List.map_toArray, List.map_cons, List.map_nil]); (rfl)) ?_; (with_reducible refine (edit_kind.calls ((rd_T85 l0 x9_1).f0) ((rd_T85 l0 x9_1).f1) ((rd_T85 l0 x9_1).f2) t250 _ A5.out).mono ?_); rintro e w24 ⟨rfl, hb⟩; refine ⟨_, rfl, ?_⟩; have n0_ := Aside0.mk (blk_below (g := gb249) (o := .cells #[.int .i64 ((rd_T85 l0 x9_1).f0), .string ((rd_T85 l0 x9_1).f1), .int .i64 ((rd_T85 l0 x9_1).f2)] 85 (0, 0)) (by (with_reducible repeat ((refine blk_drew ?_))); refine blk_put (cs := #[.int .i64 ((rd_T85 l0 x9_1).f0), .string ((rd_T85 l0 x9_1).f1), .int .i64 0]) ?_ 2 _ rfl; (with_reducible repeat ((refine blk_drew ?_))); refine blk_put (cs := #[.int .i64 ((rd_T85 l0 x9_1).f0), .string (⟨#[]⟩ : ByteArray), .int .i64 0]) ?_ 1 _ rfl; (with_reducible repeat ((refine blk_drew ?_))); refine blk_put (cs := #[.int .i64 0, .string (⟨#[]⟩ : ByteArray), .int .i64 0]) ?_ 0 _ rfl; (with_reducible repeat ((refine blk_drew ?_))); exact BK249.out) hb); have n1_ := Aside0.mk (below_step (by repeat ((with_reducible first | exact HB.out | refine below_set ?_ GE249.out))) hb); clear BK249; clear HB; have BK249 := n0_; have HB := n1_; clear n0_ n1_; (try clear hb); (try clear hb2); (try clear hk); (try clear hi)))
         go_roundg k1
         case measure => have := HK1.out; omega
         case rel => exact ⟨(t250), (wrap64 (x9_1 + 1)), (by (rfl)), (by (rfl)), H', ⟨by have := HK1.out; omega⟩, ⟨by repeat ((with_reducible (exact HB.out)))⟩⟩
     ·rw [if_neg c4] at H
      exact absurd H (by simp)
    ·rw [if_neg c3] at H
     exact absurd H (by simp)
   ·rw [if_neg c2] at H
    have c2b0 : decide (x9_1 < (l0.length : Int)) = false := decide_eq_false c2
    clear c2
    obtain rfl := Option.some.inj H
    go_wp2
    go_ret
    exact ⟨by (rfl), by repeat ((with_reducible (exact HB.out)))⟩
end Go.Proofs.Ytedfcjcnhgomoaa.P
end
-- MERGED YtedfcjcnhgomoaaPeditsums
section
namespace Go.Proofs.Ytedfcjcnhgomoaa.P
open Go.RowKit Go.Proofs.YtedfcjcnhgomoaaW.PrintWords Go.Proofs.YtedfcjcnhgomoaaW.PrintLast Go.Proofs.YtedfcjcnhgomoaaW.PrintMore
attribute [local go_sem] max2_int min2_int max_two min_two max_three min_three max_four min_four   -- for this text's walks alone
set_option linter.unusedVariables false
set_option linter.unusedSimpArgs false
def edit_sums.l0 : Nat → Int → Int → List (S85) → Int → Int → Option (Int × Int × Bool)
 | 0, _, _, _, _, _ => none
 | k + 1, x2, x3, x7, x8, x9 => if x9 < x8 then (if 0 ≤ x9 then (if x9 < (x7.length : Int) then (if (mx ((rd_T85 x7 x9).f0) ((rd_T85 x7 x9).f2)) > (wrap64 (16777216 - x2)) then (some (0, 0, false)) else (if (mx ((rd_T85 x7 x9).f0) (((rd_T85 x7 x9).f1).size : Int)) > (wrap64 (16777216 - x3)) then (some (0, 0, false)) else (edit_sums.l0 k (wrap64 (x2 + (wrap64 (((rd_T85 x7 x9).f0) + ((rd_T85 x7 x9).f2))))) (wrap64 (x3 + (wrap64 (((rd_T85 x7 x9).f0) + (((rd_T85 x7 x9).f1).size : Int))))) x7 x8 (wrap64 (x9 + 1))))) else (none)) else (none)) else (some (x2, x3, true))
def edit_sums.f (k : Nat) (l0 : List (S85)) : Option (Int × Int × Bool) := edit_sums.l0 k 0 0 l0 (l0.length : Int) 0
set_option maxHeartbeats 8000000 in
set_option maxRecDepth 100000 in
theorem edit_sums.calls (k : Nat) (A0 : Option Addr) (c0 : Nat) (l0 : List (S85)) (r1 : Int) (r2 : Int) (r3 : Bool) (w : World) (hr0 : Kd.C k85 w A0 l0.length l0) (hc0 : l0.length ≤ c0) (h : edit_sums.f k l0 = some (r1, r2, r3)) :
  Calls Try.prog 110 #[.slice A0 l0.length c0] w fun e w' => e = .returned (.tuple #[.int .i64 r1, .int .i64 r2, .bool r3]) ∧ Below w.heap.size w w' := by
 have hu85 := Try.underlying85
 have HR0 := Aside0.mk hr0
 have HC0 := Aside0.mk hc0
 clear hr0 hc0
 have HB := Aside0.mk (Below.refl w.heap.size w)
 have H : (edit_sums.l0 k 0 0 l0 (l0.length : Int) 0) = some (r1, r2, r3) := h
 clear h
 have H' := Aside0.mk H
 clear H
 go_enter Try.func110, Try.ntmps110
 go_wp2
 go_loopg [2, 3, 9] k (fun kq v2 v3 v9 w' => ∃ (x2_1 : Int) (x3_1 : Int) (x9_1 : Int), v2 = .int .i64 x2_1 ∧ v3 = .int .i64 x3_1 ∧ v9 = .int .i64 x9_1 ∧ Aside0 (edit_sums.l0 kq x2_1 x3_1 l0 (l0.length : Int) x9_1 = some (r1, r2, r3)) ∧ Aside0 (kq ≤ k) ∧ Aside0 (Below w.heap.size w w'))
 case atStart => exact ⟨(0), (0), (0), (by (rfl)), (by (rfl)), (by (rfl)), H', ⟨Nat.le_refl _⟩, ⟨by repeat ((with_reducible (exact HB.out)))⟩⟩
 case round =>
  clear H'
  try clear c1
  obtain ⟨x2_1, x3_1, x9_1, rfl, rfl, rfl, HA, HK1, HB⟩ := hrel
  cases gk with
  | zero => exact absurd HA.out (by simp [edit_sums.l0])
  | succ k1 =>
   have H := HA.out
   clear HA
   simp only [edit_sums.l0] at H
   by_cases c2 : x9_1 < (l0.length : Int)
   ·rw [if_pos c2] at H
    have c2b0 : decide (x9_1 < (l0.length : Int)) = true := decide_eq_true c2
    clear c2
    by_cases c3 : 0 ≤ x9_1
    ·rw [if_pos c3] at H
     have c3b0 : decide (0 ≤ x9_1) = true := decide_eq_true c3
     clear c3
     by_cases c4 : x9_1 < (l0.length : Int)
     ·rw [if_pos c4] at H
      have c4b0 : decide (x9_1 < (l0.length : Int)) = true := decide_eq_true c4
      clear c4
      obtain ⟨ji5, hji5⟩ : ∃ j_ : Int, (mx ((rd_T85 l0 x9_1).f0) ((rd_T85 l0 x9_1).f2)) = j_ := ⟨_, rfl⟩
      replace H : (if (ji5) > (wrap64 (16777216 - x2_1)) then (some (0, 0, false)) else (if (mx ((rd_T85 l0 x9_1).f0) (((rd_T85 l0 x9_1).f1).size : Int)) > (wrap64 (16777216 - x3_1)) then (some (0, 0, false)) else (edit_sums.l0 k1 (wrap64 (x2_1 + (wrap64 (((rd_T85 l0 x9_1).f0) + ((rd_T85 l0 x9_1).f2))))) (wrap64 (x3_1 + (wrap64 (((rd_T85 l0 x9_1).f0) + (((rd_T85 l0 x9_1).f1).size : Int))))) l0 (l0.length : Int) (wrap64 (x9_1 + 1))))) = some (r1, r2, r3) := by (rw [hji5] at H; exact H)
      have hji5_ : (if ((rd_T85 l0 x9_1).f0) < ((rd_T85 l0 x9_1).f2) then ((rd_T85 l0 x9_1).f2) else ((rd_T85 l0 x9_1).f0)) = ji5 := hji5
      (try simp only [Int.ofNat_lt] at hji5_)
      by_cases c6 : (ji5) > (wrap64 (16777216 - x2_1))
      ·rw [if_pos c6] at H
       have c6b0 : decide ((wrap64 (16777216 - x2_1)) < (ji5)) = true := decide_eq_true c6
       clear c6
       simp only [Option.some.injEq, Prod.mk.injEq] at H
       obtain ⟨rfl, rfl, rfl⟩ := H
       have p251 : 0 ≤ (x9_1 : Int) := of_decide_eq_true (by (with_reducible assumption))
       have q251 : x9_1 < (l0.length : Int) := of_decide_eq_true (by (with_reducible assumption))
       obtain ⟨ad251, e251, hx251_0, hx251_1, hx251_2⟩ := at_T85 HR0.out x9_1 p251 q251
       cases e251
       replace hx251_0 := (HB.out.cell (World.block_lt_of_cell? w _ hx251_0)).trans hx251_0
       replace hx251_1 := (HB.out.cell (World.block_lt_of_cell? w _ hx251_1)).trans hx251_1
       replace hx251_2 := (HB.out.cell (World.block_lt_of_cell? w _ hx251_2)).trans hx251_2
       replace p251 := eq_true p251
       replace q251 := eq_true q251
       go_wp2_with (first | ((with_reducible refine gate_dst (N := 6) rfl ?_); (try (refine gate_guard (by rfl) ?_; dsimp only)); refine box_event ?hg (N := 6) ?hd (cs := #[.int .i64 0, .string (⟨#[]⟩ : ByteArray), .int .i64 0]) (t := 85) ?hr ?_; (case hd => rfl); (case hg => rfl); (case hr => (go_simp; done)); intro gb252 hg w7 hbox hb; have n0_ := Aside0.mk (below_step (by repeat ((with_reducible (exact HB.out)))) hb); have n1_ := Aside0.mk (hbox); have n2_ := Aside0.mk ((by rw [hg]; exact (below_size (by repeat ((with_reducible (exact HB.out))))) : w.heap.size ≤ gb252)); have n3_ := Aside0.mk ((by rw [hg]; exact (below_size (by repeat ((with_reducible (exact HB.out))))) : w.heap.size ≤ gb252)); clear HB; have HB := n0_; have BK252 := n1_; have GW252 := n2_; have GE252 := n3_; clear n0_ n1_ n2_ n3_; clear hb hbox hg; have hcz8_0 : w7.cell? ⟨gb252, 0, none⟩ = some (.int .i64 0) := (blk_cell BK252.out 0).trans rfl; have hcz8_1 : w7.cell? ⟨gb252, 1, none⟩ = some (.string (⟨#[]⟩ : ByteArray)) := (blk_cell BK252.out 1).trans rfl; have hcz8_2 : w7.cell? ⟨gb252, 2, none⟩ = some (.int .i64 0) := (blk_cell BK252.out 2).trans rfl; have hfz8_0 := blk_frozen BK252.out 0; have hfz8_1 := blk_frozen BK252.out 1; have hfz8_2 := blk_frozen BK252.out 2))
       go_ret3
       exact ⟨by (rfl), by repeat ((with_reducible first | exact HB.out | refine below_set ?_ GE252.out))⟩
      ·rw [if_neg c6] at H
       have c6b0 : decide ((wrap64 (16777216 - x2_1)) < (ji5)) = false := decide_eq_false c6
       clear c6
       obtain ⟨ji9, hji9⟩ : ∃ j_ : Int, (mx ((rd_T85 l0 x9_1).f0) (((rd_T85 l0 x9_1).f1).size : Int)) = j_ := ⟨_, rfl⟩
       replace H : (if (ji9) > (wrap64 (16777216 - x3_1)) then (some (0, 0, false)) else (edit_sums.l0 k1 (wrap64 (x2_1 + (wrap64 (((rd_T85 l0 x9_1).f0) + ((rd_T85 l0 x9_1).f2))))) (wrap64 (x3_1 + (wrap64 (((rd_T85 l0 x9_1).f0) + (((rd_T85 l0 x9_1).f1).size : Int))))) l0 (l0.length : Int) (wrap64 (x9_1 + 1)))) = some (r1, r2, r3) := by (rw [hji9] at H; exact H)
       have hji9_ : (if ((rd_T85 l0 x9_1).f0) < (((rd_T85 l0 x9_1).f1).size : Int) then (((rd_T85 l0 x9_1).f1).size : Int) else ((rd_T85 l0 x9_1).f0)) = ji9 := hji9
       (try simp only [Int.ofNat_lt] at hji9_)
       by_cases c10 : (ji9) > (wrap64 (16777216 - x3_1))
       ·rw [if_pos c10] at H
        have c10b0 : decide ((wrap64 (16777216 - x3_1)) < (ji9)) = true := decide_eq_true c10
        clear c10
        simp only [Option.some.injEq, Prod.mk.injEq] at H
        obtain ⟨rfl, rfl, rfl⟩ := H
        have p251 : 0 ≤ (x9_1 : Int) := of_decide_eq_true (by (with_reducible assumption))
        have q251 : x9_1 < (l0.length : Int) := of_decide_eq_true (by (with_reducible assumption))
        obtain ⟨ad251, e251, hx251_0, hx251_1, hx251_2⟩ := at_T85 HR0.out x9_1 p251 q251
        cases e251
        replace hx251_0 := (HB.out.cell (World.block_lt_of_cell? w _ hx251_0)).trans hx251_0
        replace hx251_1 := (HB.out.cell (World.block_lt_of_cell? w _ hx251_1)).trans hx251_1
        replace hx251_2 := (HB.out.cell (World.block_lt_of_cell? w _ hx251_2)).trans hx251_2
        replace p251 := eq_true p251
        replace q251 := eq_true q251
        go_wp2_with (first | ((with_reducible refine gate_dst (N := 6) rfl ?_); (try (refine gate_guard (by rfl) ?_; dsimp only)); refine box_event ?hg (N := 6) ?hd (cs := #[.int .i64 0, .string (⟨#[]⟩ : ByteArray), .int .i64 0]) (t := 85) ?hr ?_; (case hd => rfl); (case hg => rfl); (case hr => (go_simp; done)); intro gb252 hg w11 hbox hb; have n0_ := Aside0.mk (below_step (by repeat ((with_reducible (exact HB.out)))) hb); have n1_ := Aside0.mk (hbox); have n2_ := Aside0.mk ((by rw [hg]; exact (below_size (by repeat ((with_reducible (exact HB.out))))) : w.heap.size ≤ gb252)); have n3_ := Aside0.mk ((by rw [hg]; exact (below_size (by repeat ((with_reducible (exact HB.out))))) : w.heap.size ≤ gb252)); clear HB; have HB := n0_; have BK252 := n1_; have GW252 := n2_; have GE252 := n3_; clear n0_ n1_ n2_ n3_; clear hb hbox hg; have hcz12_0 : w11.cell? ⟨gb252, 0, none⟩ = some (.int .i64 0) := (blk_cell BK252.out 0).trans rfl; have hcz12_1 : w11.cell? ⟨gb252, 1, none⟩ = some (.string (⟨#[]⟩ : ByteArray)) := (blk_cell BK252.out 1).trans rfl; have hcz12_2 : w11.cell? ⟨gb252, 2, none⟩ = some (.int .i64 0) := (blk_cell BK252.out 2).trans rfl; have hfz12_0 := blk_frozen BK252.out 0; have hfz12_1 := blk_frozen BK252.out 1; have hfz12_2 := blk_frozen BK252.out 2))
        go_ret3
        exact ⟨by (rfl), by repeat ((with_reducible first | exact HB.out | refine below_set ?_ GE252.out))⟩
       ·rw [if_neg c10] at H
        have c10b0 : decide ((wrap64 (16777216 - x3_1)) < (ji9)) = false := decide_eq_false c10
        clear c10
        have H' := Aside0.mk H
        clear H
        have p251 : 0 ≤ (x9_1 : Int) := of_decide_eq_true (by (with_reducible assumption))
        have q251 : x9_1 < (l0.length : Int) := of_decide_eq_true (by (with_reducible assumption))
        obtain ⟨ad251, e251, hx251_0, hx251_1, hx251_2⟩ := at_T85 HR0.out x9_1 p251 q251
        cases e251
        replace hx251_0 := (HB.out.cell (World.block_lt_of_cell? w _ hx251_0)).trans hx251_0
        replace hx251_1 := (HB.out.cell (World.block_lt_of_cell? w _ hx251_1)).trans hx251_1
        replace hx251_2 := (HB.out.cell (World.block_lt_of_cell? w _ hx251_2)).trans hx251_2
        replace p251 := eq_true p251
        replace q251 := eq_true q251
        go_wp2_with (first | ((with_reducible refine gate_dst (N := 6) rfl ?_); (try (refine gate_guard (by rfl) ?_; dsimp only)); refine box_event ?hg (N := 6) ?hd (cs := #[.int .i64 0, .string (⟨#[]⟩ : ByteArray), .int .i64 0]) (t := 85) ?hr ?_; (case hd => rfl); (case hg => rfl); (case hr => (go_simp; done)); intro gb252 hg w13 hbox hb; have n0_ := Aside0.mk (below_step (by repeat ((with_reducible (exact HB.out)))) hb); have n1_ := Aside0.mk (hbox); have n2_ := Aside0.mk ((by rw [hg]; exact (below_size (by repeat ((with_reducible (exact HB.out))))) : w.heap.size ≤ gb252)); have n3_ := Aside0.mk ((by rw [hg]; exact (below_size (by repeat ((with_reducible (exact HB.out))))) : w.heap.size ≤ gb252)); clear HB; have HB := n0_; have BK252 := n1_; have GW252 := n2_; have GE252 := n3_; clear n0_ n1_ n2_ n3_; clear hb hbox hg; have hcz14_0 : w13.cell? ⟨gb252, 0, none⟩ = some (.int .i64 0) := (blk_cell BK252.out 0).trans rfl; have hcz14_1 : w13.cell? ⟨gb252, 1, none⟩ = some (.string (⟨#[]⟩ : ByteArray)) := (blk_cell BK252.out 1).trans rfl; have hcz14_2 : w13.cell? ⟨gb252, 2, none⟩ = some (.int .i64 0) := (blk_cell BK252.out 2).trans rfl; have hfz14_0 := blk_frozen BK252.out 0; have hfz14_1 := blk_frozen BK252.out 1; have hfz14_2 := blk_frozen BK252.out 2))
        go_roundg k1
        case measure => have := HK1.out; omega
        case rel => exact ⟨(wrap64 (x2_1 + (wrap64 (((rd_T85 l0 x9_1).f0) + ((rd_T85 l0 x9_1).f2))))), (wrap64 (x3_1 + (wrap64 (((rd_T85 l0 x9_1).f0) + (((rd_T85 l0 x9_1).f1).size : Int))))), (wrap64 (x9_1 + 1)), (by (rfl)), (by (rfl)), (by (rfl)), H', ⟨by have := HK1.out; omega⟩, ⟨by repeat ((with_reducible first | exact HB.out | refine below_set ?_ GE252.out))⟩⟩
     ·rw [if_neg c4] at H
      exact absurd H (by simp)
    ·rw [if_neg c3] at H
     exact absurd H (by simp)
   ·rw [if_neg c2] at H
    have c2b0 : decide (x9_1 < (l0.length : Int)) = false := decide_eq_false c2
    clear c2
    simp only [Option.some.injEq, Prod.mk.injEq] at H
    obtain ⟨rfl, rfl, rfl⟩ := H
    go_wp2
    go_ret3
    exact ⟨by (rfl), by repeat ((with_reducible (exact HB.out)))⟩
end Go.Proofs.Ytedfcjcnhgomoaa.P
end
-- MERGED YtedfcjcnhgomoaaPeditGood
section
namespace Go.Proofs.Ytedfcjcnhgomoaa.P
open Go.RowKit Go.Proofs.YtedfcjcnhgomoaaW.PrintWords Go.Proofs.YtedfcjcnhgomoaaW.PrintLast Go.Proofs.YtedfcjcnhgomoaaW.PrintMore
attribute [local go_sem] max2_int min2_int max_two min_two max_three min_three max_four min_four   -- for this text's walks alone
set_option linter.unusedVariables false
set_option linter.unusedSimpArgs false
def edit_Good.f (k : Nat) (l0 : List (S85)) : Option (Bool) := (edit_right.f k l0).bind fun t253 => (if t253 = true then ((edit_sums.f k l0).bind fun bt254 => (some bt254.2.2)) else (some false))
set_option maxHeartbeats 8000000 in
set_option maxRecDepth 100000 in
theorem edit_Good.calls (k : Nat) (A0 : Option Addr) (c0 : Nat) (l0 : List (S85)) (r : Bool) (w : World) (hr0 : Kd.C k85 w A0 l0.length l0) (hc0 : l0.length ≤ c0) (h : edit_Good.f k l0 = some r) :
  Calls Try.prog 93 #[.slice A0 l0.length c0] w fun e w' => e = .returned (.bool r) ∧ Below w.heap.size w w' := by
 have HR0 := Aside0.mk hr0
 have HC0 := Aside0.mk hc0
 clear hr0 hc0
 have HB := Aside0.mk (Below.refl w.heap.size w)
 have H : ((edit_right.f k l0).bind fun t253 => (if t253 = true then ((edit_sums.f k l0).bind fun bt254 => (some bt254.2.2)) else (some false))) = some r := h
 clear h
 replace H := Option.bind_eq_some_iff.mp H
 obtain ⟨t253, A20, H⟩ := H
 replace H : (if t253 = true then ((edit_sums.f k l0).bind fun bt254 => (some bt254.2.2)) else (some false)) = some r := H
 have A2 := Aside0.mk A20
 clear A20
 by_cases c3 : t253 = true
 ·subst c3
  have H1 : ((edit_sums.f k l0).bind fun bt254 => (some bt254.2.2)) = some r := by rw [if_pos rfl] at H; exact H
  clear H
  have H := H1
  clear H1
  replace H := Option.bind_eq_some_iff.mp H
  obtain ⟨⟨t254, t255, t256⟩, A40, H⟩ := H
  replace H : (some t256) = some r := H
  have A4 := Aside0.mk A40
  clear A40
  obtain rfl := Option.some.inj H
  go_enter Try.func93, Try.ntmps93
  go_wp2_with (first | ((with_reducible refine gate_callee (f := 109) rfl ?_); refine goesL_ (some 7) rfl rfl Try.func109 (by kernel_rfl) rfl #[.slice A0 l0.length c0] rfl (by (try simp only [List.map_toArray, List.map_cons, List.map_nil]); first | done | rfl | (simp only [List.length_drop, List.length_take]; rfl)) ?_; (with_reducible refine (edit_right.calls k _ _ l0 true _ ?side1 ?side2 A2.out).mono ?_); (case side1 => repeat (first | exact HR0.out | (with_reducible refine Kd.C_alloc ?_ _) | (with_reducible refine Kd.C_drewN ?_ _) | (with_reducible refine Kd.C_drew ?_))); (case side2 => exact HC0.out); rintro e w5 ⟨rfl, hb⟩; refine ⟨_, rfl, ?_⟩; have n0_ := Aside0.mk (below_step (by repeat (first | (with_reducible first | exact HB.out | apply below_alloc | apply pw_below_drewN | apply below_drew1) | exact HB.out)) hb); clear HB; have HB := n0_; clear n0_; (try clear hb); (try clear hb2); (try clear hk); (try clear hi)) | ((with_reducible refine gate_callee (f := 110) rfl ?_); refine goesL_ (some 11) rfl rfl Try.func110 (by kernel_rfl) rfl #[.slice A0 l0.length c0] rfl (by (try simp only [List.map_toArray, List.map_cons, List.map_nil]); first | done | rfl | (simp only [List.length_drop, List.length_take]; rfl)) ?_; (with_reducible refine (edit_sums.calls k _ _ l0 t254 t255 t256 _ ?side1 ?side2 A4.out).mono ?_); (case side1 => repeat (first | exact (Kd.C_below HR0.out HB.out) | (with_reducible refine Kd.C_alloc ?_ _) | (with_reducible refine Kd.C_drewN ?_ _) | (with_reducible refine Kd.C_drew ?_))); (case side2 => exact HC0.out); rintro e w6 ⟨rfl, hb⟩; refine ⟨_, rfl, ?_⟩; have n0_ := Aside0.mk (below_step (by repeat (first | (with_reducible first | exact HB.out | apply below_alloc | apply pw_below_drewN | apply below_drew1) | exact HB.out)) hb); clear HB; have HB := n0_; clear n0_; (try clear hb); (try clear hb2); (try clear hk); (try clear hi)))
  go_ret
  exact ⟨by first | rfl | (simp [errW_none, errW_some] <;> rfl) | (simp [*, errW_none, errW_some] <;> rfl), by repeat (first | (with_reducible first | exact HB.out | apply below_alloc | apply pw_below_drewN | apply below_drew1) | exact HB.out)⟩
 ·replace c3 := Bool.eq_false_iff.mpr c3
  subst c3
  have H1 : (some false) = some r := by rw [if_neg (show ¬ (false = true) by decide)] at H; exact H
  clear H
  have H := H1
  clear H1
  obtain rfl := Option.some.inj H
  go_enter Try.func93, Try.ntmps93
  go_wp2_with (first | ((with_reducible refine gate_callee (f := 109) rfl ?_); refine goesL_ (some 7) rfl rfl Try.func109 (by kernel_rfl) rfl #[.slice A0 l0.length c0] rfl (by (try simp only [List.map_toArray, List.map_cons, List.map_nil]); first | done | rfl | (simp only [List.length_drop, List.length_take]; rfl)) ?_; (with_reducible refine (edit_right.calls k _ _ l0 false _ ?side1 ?side2 A2.out).mono ?_); (case side1 => repeat (first | exact HR0.out | (with_reducible refine Kd.C_alloc ?_ _) | (with_reducible refine Kd.C_drewN ?_ _) | (with_reducible refine Kd.C_drew ?_))); (case side2 => exact HC0.out); rintro e w7 ⟨rfl, hb⟩; refine ⟨_, rfl, ?_⟩; have n0_ := Aside0.mk (below_step (by repeat (first | (with_reducible first | exact HB.out | apply below_alloc | apply pw_below_drewN | apply below_drew1) | exact HB.out)) hb); clear HB; have HB := n0_; clear n0_; (try clear hb); (try clear hb2); (try clear hk); (try clear hi)))
  go_ret
  exact ⟨by first | rfl | (simp [errW_none, errW_some] <;> rfl) | (simp [*, errW_none, errW_some] <;> rfl), by repeat (first | (with_reducible first | exact HB.out | apply below_alloc | apply pw_below_drewN | apply below_drew1) | exact HB.out)⟩
end Go.Proofs.Ytedfcjcnhgomoaa.P
end
-- MERGED YtedfcjcnhgomoaaPvariorumref06Good
section
namespace Go.Proofs.Ytedfcjcnhgomoaa.P
open Go.RowKit Go.Proofs.YtedfcjcnhgomoaaW.PrintWords Go.Proofs.YtedfcjcnhgomoaaW.PrintLast Go.Proofs.YtedfcjcnhgomoaaW.PrintMore
attribute [local go_sem] max2_int min2_int max_two min_two max_three min_three max_four min_four   -- for this text's walks alone
set_option linter.unusedVariables false
set_option linter.unusedSimpArgs false
def variorumref06_Good.f (l0 : List (S85)) : Option (Bool) := if l0.length ≤ 140737488351232 then some (EditL.good l0) else none
theorem variorumref06_Good.calls (A0 : Option Addr) (c0 : Nat) (l0 : List (S85)) (r : Bool) (w : World) (hr0 : Kd.C k85 w A0 l0.length l0) (hc0 : l0.length ≤ c0) (h : variorumref06_Good.f l0 = some r) :
  Calls Try.prog 69 #[.slice A0 l0.length c0] w fun e w' => e = .returned (.bool r) ∧ Below w.heap.size w w' := by
 unfold variorumref06_Good.f at h
 by_cases hl : l0.length ≤ 140737488351232
 ·rw [if_pos hl] at h
  obtain rfl := Option.some.inj h
  exact EditK.good_c A0 c0 l0 w hr0 hc0 hl
 ·rw [if_neg hl] at h; cases h
end Go.Proofs.Ytedfcjcnhgomoaa.P
end
-- MERGED YtedfcjcnhgomoaaPvariorumref06Same
section
namespace Go.Proofs.Ytedfcjcnhgomoaa.P
open Go.RowKit Go.Proofs.YtedfcjcnhgomoaaW.PrintWords Go.Proofs.YtedfcjcnhgomoaaW.PrintLast Go.Proofs.YtedfcjcnhgomoaaW.PrintMore
attribute [local go_sem] max2_int min2_int max_two min_two max_three min_three max_four min_four   -- for this text's walks alone
set_option linter.unusedVariables false
set_option linter.unusedSimpArgs false
attribute [local go_sem high] eqA85
def variorumref06_Same.l0 : Nat → List (S85) → List (S85) → Int → Option (Bool)
 | 0, _, _, _ => none
 | k + 1, x0, x1, x5 => if x5 < (x0.length : Int) then (if 0 ≤ x5 then (if x5 < (x1.length : Int) then (if (!(((rd_T85 x0 x5).f0) == ((rd_T85 x1 x5).f0)) || (!((((rd_T85 x0 x5).f1).toList) == (((rd_T85 x1 x5).f1).toList)) || (!(((rd_T85 x0 x5).f2) == ((rd_T85 x1 x5).f2))))) = true then (some false) else (variorumref06_Same.l0 k x0 x1 (wrap64 (x5 + 1)))) else (none)) else (none)) else (some true)
def variorumref06_Same.f (k : Nat) (l0 : List (S85)) (l1 : List (S85)) : Option (Bool) := if (l0.length : Int) = (l1.length : Int) then (variorumref06_Same.l0 k l0 l1 0) else (some false)
set_option maxHeartbeats 8000000 in
set_option maxRecDepth 100000 in
theorem variorumref06_Same.calls (k : Nat) (A0 : Option Addr) (c0 : Nat) (l0 : List (S85)) (A1 : Option Addr) (c1 : Nat) (l1 : List (S85)) (r : Bool) (w : World) (hr0 : Kd.C k85 w A0 l0.length l0) (hc0 : l0.length ≤ c0) (hr1 : Kd.C k85 w A1 l1.length l1) (hc1 : l1.length ≤ c1) (h : variorumref06_Same.f k l0 l1 = some r) :
  Calls Try.prog 73 #[.slice A0 l0.length c0, .slice A1 l1.length c1] w fun e w' => e = .returned (.bool r) ∧ Drawn0 w w' := by
 have hu85 := Try.underlying85
 have HR0 := Aside0.mk hr0
 have HC0 := Aside0.mk hc0
 clear hr0 hc0
 have HR1 := Aside0.mk hr1
 have HC1 := Aside0.mk hc1
 clear hr1 hc1
 have H : (if (l0.length : Int) = (l1.length : Int) then (variorumref06_Same.l0 k l0 l1 0) else (some false)) = some r := h
 clear h
 by_cases c3 : (l0.length : Int) = (l1.length : Int)
 ·rw [if_pos c3] at H
  have c3b0 : ((l0.length : Int) == (l1.length : Int)) = true := beq_iff_eq.mpr c3
  have c3b1 : ((l0.length : Int) != (l1.length : Int)) = false := bne_eq_false_iff_eq.mpr c3
  have c3b2 : (l0.length == l1.length) = true := by (simp at c3 ⊢; omega)
  clear c3
  have H' := Aside0.mk H
  clear H
  go_enter Try.func73, Try.ntmps73
  go_wp2
  repeat (go_quiet (fail); try go_wp2)
  go_loopg [5] k (fun kq v5 w' => ∃ (x5_1 : Int), v5 = .int .i64 x5_1 ∧ Aside0 (variorumref06_Same.l0 kq l0 l1 x5_1 = some r) ∧ Aside0 (kq ≤ k) ∧ Drawn0 w w')
  case atStart => exact ⟨(0), (by (rfl)), H', ⟨Nat.le_refl _⟩, by repeat ((exact Drawn0.refl _))⟩
  case round =>
   clear H'
   try clear c1
   try clear p2
   try clear c3
   try clear c3b0
   try clear c3b1
   try clear c3b2
   obtain ⟨x5_1, rfl, HA, HK1, ⟨m1, rfl⟩⟩ := hrel
   cases gk with
   | zero => exact absurd HA.out (by simp [variorumref06_Same.l0])
   | succ k1 =>
    have H := HA.out
    clear HA
    simp only [variorumref06_Same.l0] at H
    by_cases c4 : x5_1 < (l0.length : Int)
    ·rw [if_pos c4] at H
     have c4b0 : decide (x5_1 < (l0.length : Int)) = true := decide_eq_true c4
     clear c4
     by_cases c5 : 0 ≤ x5_1
     ·rw [if_pos c5] at H
      have c5b0 : decide (0 ≤ x5_1) = true := decide_eq_true c5
      clear c5
      by_cases c6 : x5_1 < (l1.length : Int)
      ·rw [if_pos c6] at H
       have c6b0 : decide (x5_1 < (l1.length : Int)) = true := decide_eq_true c6
       clear c6
       by_cases c7 : (!(((rd_T85 l0 x5_1).f0) == ((rd_T85 l1 x5_1).f0)) || (!((((rd_T85 l0 x5_1).f1).toList) == (((rd_T85 l1 x5_1).f1).toList)) || (!(((rd_T85 l0 x5_1).f2) == ((rd_T85 l1 x5_1).f2))))) = true
       ·rw [if_pos c7] at H
        have c7b0 : (!(((rd_T85 l0 x5_1).f0) == ((rd_T85 l1 x5_1).f0)) || (!((((rd_T85 l0 x5_1).f1).toList) == (((rd_T85 l1 x5_1).f1).toList)) || (!(((rd_T85 l0 x5_1).f2) == ((rd_T85 l1 x5_1).f2))))) = true := c7
        clear c7
        obtain rfl := Option.some.inj H
        have p349 : 0 ≤ (x5_1 : Int) := of_decide_eq_true (by (with_reducible assumption))
        have q349 : x5_1 < (l0.length : Int) := of_decide_eq_true (by (with_reducible assumption))
        obtain ⟨ad349, e349, hx349_0, hx349_1, hx349_2⟩ := at_T85 HR0.out x5_1 p349 q349
        cases e349
        replace p349 := eq_true p349
        replace q349 := eq_true q349
        have p350 : 0 ≤ (x5_1 : Int) := of_decide_eq_true (by (with_reducible assumption))
        have q350 : x5_1 < (l1.length : Int) := of_decide_eq_true (by (with_reducible assumption))
        obtain ⟨ad350, e350, hx350_0, hx350_1, hx350_2⟩ := at_T85 HR1.out x5_1 p350 q350
        cases e350
        replace p350 := eq_true p350
        replace q350 := eq_true q350
        go_wp2
        repeat (go_quiet (fail); try go_wp2)
        go_ret
        exact ⟨by (rfl), by repeat (first | exact Drawn0.refl _ | apply Drawn0.step)⟩
       ·rw [if_neg c7] at H
        have c7b0 : (!(((rd_T85 l0 x5_1).f0) == ((rd_T85 l1 x5_1).f0)) || (!((((rd_T85 l0 x5_1).f1).toList) == (((rd_T85 l1 x5_1).f1).toList)) || (!(((rd_T85 l0 x5_1).f2) == ((rd_T85 l1 x5_1).f2))))) = false := by simpa using c7
        clear c7
        have H' := Aside0.mk H
        clear H
        have p349 : 0 ≤ (x5_1 : Int) := of_decide_eq_true (by (with_reducible assumption))
        have q349 : x5_1 < (l0.length : Int) := of_decide_eq_true (by (with_reducible assumption))
        obtain ⟨ad349, e349, hx349_0, hx349_1, hx349_2⟩ := at_T85 HR0.out x5_1 p349 q349
        cases e349
        replace p349 := eq_true p349
        replace q349 := eq_true q349
        have p350 : 0 ≤ (x5_1 : Int) := of_decide_eq_true (by (with_reducible assumption))
        have q350 : x5_1 < (l1.length : Int) := of_decide_eq_true (by (with_reducible assumption))
        obtain ⟨ad350, e350, hx350_0, hx350_1, hx350_2⟩ := at_T85 HR1.out x5_1 p350 q350
        cases e350
        replace p350 := eq_true p350
        replace q350 := eq_true q350
        go_wp2
        repeat (go_quiet (fail); try go_wp2)
        go_roundg k1
        case measure => have := HK1.out; omega
        case rel => exact ⟨(wrap64 (x5_1 + 1)), (by (rfl)), H', ⟨by have := HK1.out; omega⟩, by repeat (first | exact Drawn0.refl _ | apply Drawn0.step)⟩
      ·rw [if_neg c6] at H
       exact absurd H (by simp)
     ·rw [if_neg c5] at H
      exact absurd H (by simp)
    ·rw [if_neg c4] at H
     have c4b0 : decide (x5_1 < (l0.length : Int)) = false := decide_eq_false c4
     clear c4
     obtain rfl := Option.some.inj H
     go_wp2
     repeat (go_quiet (fail); try go_wp2)
     go_ret
     exact ⟨by (rfl), by repeat (first | exact Drawn0.refl _ | apply Drawn0.step)⟩
 ·rw [if_neg c3] at H
  have c3b0 : ((l0.length : Int) == (l1.length : Int)) = false := beq_eq_false_iff_ne.mpr c3
  have c3b1 : ((l0.length : Int) != (l1.length : Int)) = true := bne_iff_ne.mpr c3
  have c3b2 : (l0.length == l1.length) = false := by (simp at c3 ⊢; omega)
  obtain rfl := Option.some.inj H
  go_enter Try.func73, Try.ntmps73
  go_wp2
  repeat (go_quiet (fail); try go_wp2)
  go_ret
  exact ⟨by (rfl), by repeat ((exact Drawn0.refl _))⟩
end Go.Proofs.Ytedfcjcnhgomoaa.P
end
-- MERGED YtedfcjcnhgomoaaEditF
section
namespace Go.Proofs.Ytedfcjcnhgomoaa.EditF
open Go.RowKit Go.Proofs.Ytedfcjcnhgomoaa.P Go.Proofs.YtedfcjcnhgomoaaW.PrintWords Go.Proofs.YtedfcjcnhgomoaaW.PrintLast Go.Proofs.YtedfcjcnhgomoaaW.PrintMore Go.Proofs.Ytedfcjcnhgomoaa.EditL Go.Proofs.Ytedfcjcnhgomoaa.EditK
theorem kind_f (r : Rn) : edit_kind.f r.f0 r.f1 r.f2 = some (knd r) := rfl
theorem sums_l (l0 : List Rn) (hb : l0.length ≤ 140737488351232) : ∀ (suf pre : List Rn) (k : Nat) (i o : Int), l0 = pre ++ suf → suf.length < k → (∀ r ∈ suf, knd r ≠ 0) → 0 ≤ i → i ≤ 16777216 → 0 ≤ o → o ≤ 16777216 →
  edit_sums.l0 k i o l0 (l0.length : Int) (pre.length : Int) = some (cond (fits suf i o) (i + inL suf, o + outL suf, true) (0, 0, false)) := by
 intro suf
 induction suf with
 | nil =>
  intro pre k i o hl hk _ _ _ _ _
  obtain ⟨k, rfl⟩ : ∃ m, k = m + 1 := ⟨k - 1, by simp at hk; omega⟩
  have : l0.length = pre.length := by rw [hl]; simp
  simp only [edit_sums.l0]
  rw [if_neg (by omega)]
  simp [fits, inL, outL]
 | cons r suf ih =>
  intro pre k i o hl hk hok hi0 hi ho0 ho
  obtain ⟨k, rfl⟩ : ∃ m, k = m + 1 := ⟨k - 1, by simp at hk; omega⟩
  obtain ⟨hl2, hn, hlt⟩ := snoc hl
  have hr := knd_cases r
  have h0 := hok r List.mem_cons_self
  simp only [edit_sums.l0]
  rw [if_pos hlt, if_pos (by omega), if_pos hlt, rd_at hl, w64 (x := 16777216 - i) (by omega) (by omega), w64 (x := 16777216 - o) (by omega) (by omega)]
  by_cases c1 : mx r.f0 r.f2 > 16777216 - i
  ·rw [if_pos c1]
   have : ¬ (r.f0 ≤ 16777216 - i ∧ r.f2 ≤ 16777216 - i) := by
    unfold mx at c1
    split at c1 <;> omega
   have hf : fits (r :: suf) i o = false := by
    rw [Bool.eq_false_iff]
    simp only [fits, ne_eq, Bool.and_eq_true, decide_eq_true_eq]
    rintro ⟨⟨⟨⟨a1, a2⟩, _⟩, _⟩, _⟩
    exact this ⟨a1, a2⟩
   rw [hf]; rfl
  ·rw [if_neg c1]
   have e1 : r.f0 ≤ 16777216 - i ∧ r.f2 ≤ 16777216 - i := by
    unfold mx at c1
    split at c1 <;> omega
   by_cases c2 : mx r.f0 (r.f1.size : Int) > 16777216 - o
   ·rw [if_pos c2]
    have : ¬ (r.f0 ≤ 16777216 - o ∧ (r.f1.size : Int) ≤ 16777216 - o) := by
     unfold mx at c2
     split at c2 <;> omega
    have hf : fits (r :: suf) i o = false := by
     rw [Bool.eq_false_iff]
     simp only [fits, ne_eq, Bool.and_eq_true, decide_eq_true_eq]
     rintro ⟨⟨⟨_, a1⟩, a2⟩, _⟩
     exact this ⟨a1, a2⟩
    rw [hf]; rfl
   ·rw [if_neg c2]
    have e2 : r.f0 ≤ 16777216 - o ∧ (r.f1.size : Int) ≤ 16777216 - o := by
     unfold mx at c2
     split at c2 <;> omega
    have hp := knd_pos h0
    simp only [fits, inL, outL]
    rw [decide_eq_true e1.1, decide_eq_true e1.2, decide_eq_true e2.1, decide_eq_true e2.2, Bool.true_and, Bool.true_and, Bool.true_and, Bool.true_and,
     w64 (x := r.f0 + r.f2) (by omega) (by omega), w64 (x := i + (r.f0 + r.f2)) (by omega) (by omega), w64 (x := r.f0 + (r.f1.size : Int)) (by omega) (by omega), w64 (x := o + (r.f0 + (r.f1.size : Int))) (by omega) (by omega), w64 (x := (pre.length : Int) + 1) (by omega) (by omega), ← hn]
    rw [ih (pre ++ [r]) k _ _ hl2 (by simp at hk; omega) (fun x hx => hok x (List.mem_cons_of_mem _ hx)) (by omega) (by rcases hr with h | h | h | h <;> omega) (by omega) (by rcases hr with h | h | h | h <;> omega)]
    cases fits suf (i + (r.f0 + r.f2)) (o + (r.f0 + (r.f1.size : Int))) with
    | false => rfl
    | true => simp only [cond_true, Option.some.injEq, Prod.mk.injEq, and_true]; omega
theorem sums_f {l : List Rn} (hb : l.length ≤ 140737488351232) (hok : ∀ r ∈ l, knd r ≠ 0) (k : Nat) (hk : l.length < k) : edit_sums.f k l = some (cond (fits l 0 0) (inL l, outL l, true) (0, 0, false)) := by
 unfold edit_sums.f
 have := sums_l l hb l [] k 0 0 rfl hk hok (by omega) (by omega) (by omega) (by omega)
 simp only [Int.zero_add] at this
 exact this
theorem right_l (l0 : List Rn) (hb : l0.length ≤ 140737488351232) : ∀ (suf pre : List Rn) (k : Nat) (last : Int), l0 = pre ++ suf → suf.length < k →
  edit_right.l0 k l0 last l0 (l0.length : Int) (pre.length : Int) = some (ord suf last && decide (l0.length ≤ 65536)) := by
 intro suf
 induction suf with
 | nil =>
  intro pre k last hl hk
  obtain ⟨k, rfl⟩ : ∃ m, k = m + 1 := ⟨k - 1, by simp at hk; omega⟩
  have : l0.length = pre.length := by rw [hl]; simp
  simp only [edit_right.l0]
  rw [if_neg (by omega)]
  simp only [ord, Bool.true_and, Option.some.injEq]
  by_cases h : l0.length ≤ 65536
  ·rw [decide_eq_true h, decide_eq_true (by omega)]
  ·rw [decide_eq_false h, decide_eq_false (by omega)]
 | cons r suf ih =>
  intro pre k last hl hk
  obtain ⟨k, rfl⟩ : ∃ m, k = m + 1 := ⟨k - 1, by simp at hk; omega⟩
  obtain ⟨hl2, hn, hlt⟩ := snoc hl
  have next := ih (pre ++ [r]) k (knd r) hl2 (by simp at hk; omega)
  rw [hn] at next
  simp only [edit_right.l0]
  rw [if_pos hlt, if_pos (by omega), if_pos hlt, rd_at hl, kind_f, Option.bind_some, w64 (x := (pre.length : Int) + 1) (by omega) (by omega), next]
  simp only [ord]
  by_cases c1 : knd r = 0
  ·rw [if_pos c1, decide_eq_false (by omega)]; rfl
  ·rw [if_neg c1, decide_eq_true c1]
   by_cases c2 : knd r = last
   ·rw [if_pos c2, decide_eq_false (by omega)]; rfl
   ·rw [if_neg c2, decide_eq_true c2]
    by_cases c3 : last = 3
    ·rw [if_pos c3]
     by_cases c4 : knd r = 2
     ·rw [if_pos c4, decide_eq_false (show ¬ ¬ (last = 3 ∧ knd r = 2) by omega)]; rfl
     ·rw [if_neg c4, decide_eq_true (show ¬ (last = 3 ∧ knd r = 2) by omega)]; rfl
    ·rw [if_neg c3, decide_eq_true (show ¬ (last = 3 ∧ knd r = 2) by omega)]; rfl
theorem good_f {l : List Rn} (hb : l.length ≤ 140737488351232) (k : Nat) (hk : l.length < k) : edit_Good.f k l = some (good l) := by
 unfold edit_Good.f edit_right.f good
 have := right_l l hb l [] k 0 rfl hk
 simp only [List.length_nil] at this
 rw [show ((0 : Nat) : Int) = 0 from rfl] at this
 rw [this, Option.bind_some]
 cases h : ord l 0 with
 | false => simp
 | true =>
  rw [sums_f hb (ord_ok h) k hk, Option.bind_some]
  by_cases h2 : l.length ≤ 65536
  ·rw [decide_eq_true h2]
   cases fits l 0 0 <;> rfl
  ·rw [decide_eq_false h2]; rfl
end Go.Proofs.Ytedfcjcnhgomoaa.EditF
end
-- MERGED YtedfcjcnhgomoaaMsgE
section
namespace Go.Proofs.Ytedfcjcnhgomoaa.MsgE
open Go.RowKit Go.Proofs.Ytedfcjcnhgomoaa.P Go.Proofs.YtedfcjcnhgomoaaW.PrintWords Go.Proofs.YtedfcjcnhgomoaaW.PrintLast Go.Proofs.YtedfcjcnhgomoaaW.PrintMore Go.Proofs.Ytedfcjcnhgomoaa.Own Go.Proofs.Ytedfcjcnhgomoaa.Vy Go.Proofs.Ytedfcjcnhgomoaa.VaryR Go.Proofs.Ytedfcjcnhgomoaa.NoteN Go.Proofs.Ytedfcjcnhgomoaa.MsgA Go.Proofs.Ytedfcjcnhgomoaa.MsgD Go.Proofs.Ytedfcjcnhgomoaa.MsgW
set_option linter.unusedSimpArgs false
set_option linter.unusedVariables false
structure Ms where
 k : Int
 c : Int
 e : Int
 r : Int
 s : Int
 d : Int
 o : List EditL.Rn
 t : ByteArray
 n : List Nt
def Ms.get (m : Ms) (f : Int) : Int := if f = 0 then m.c else if f = 1 then m.e else if f = 2 then m.r else if f = 3 then m.s else m.d
def Ms.fieldB (m : Ms) (f : Int) (b : List Int) : List Int := if f = 5 then opR m.o (putL b (m.o.length : Int)) else if f = 6 then putTL b (numsOf m.t) else if f = 7 then noteR m.n 0 (putL b (m.n.length : Int)) else putL b (m.get f)
def Ms.encR (m : Ms) : List Int → List Int → List Int
 | [], b => b
 | f :: l, b => m.encR l (m.fieldB f b)
def Ms.encL (m : Ms) : List Int := m.encR (fieldsL m.k) (putL [] m.k)
structure Lies (m : Ms) (A6 : Option Addr) (c6 : Nat) (A8 : Option Addr) (c8 : Nat) (w : World) : Prop where
 o : RC w A6 m.o
 oc : m.o.length ≤ c6
 n : NC w A8 m.n
 nc : m.n.length ≤ c8
theorem Lies.below {m : Ms} {A6 A8 : Option Addr} {c6 c8 : Nat} {w w' : World} (h : Lies m A6 c6 A8 c8 w) (hb : Below w.heap.size w w') : Lies m A6 c6 A8 c8 w' := ⟨Kd.C_below h.o hb, h.oc, Kd.C_below h.n hb, h.nc⟩
structure Small (m : Ms) : Prop where
 o : m.o.length ≤ 1000000
 w : wgt m.o ≤ 1000000000000
 t : m.t.size ≤ 1000000000
 n : m.n.length ≤ 1000000
theorem opR_len : ∀ (l : List EditL.Rn) (b : List Int), (opR l b).length ≤ b.length + wgt l := by
 intro l
 induction l with
 | nil => intro b; exact Nat.le_refl _
 | cons r l ih =>
  intro b
  have h1 := ih (opStep b r)
  have h2 := opStep_len b r
  simp only [opR, wgt]
  omega
theorem noteR_len : ∀ (l : List Nt) (q : Int) (b : List Int), (noteR l q b).length ≤ b.length + 27 * l.length := by
 intro l
 induction l with
 | nil => intro q b; exact Nat.le_refl _
 | cons x l ih =>
  intro q b
  have h1 := ih x.f0.f0 (noteStep b q x)
  have h2 := noteStep_len b q x
  simp only [noteR, List.length_cons]
  omega
theorem field_len {m : Ms} (h : Small m) (f : Int) (b : List Int) : (m.fieldB f b).length ≤ b.length + 2000000000000 := by
 have h1 := h.w
 have h2 := h.t
 have h3 := h.n
 unfold Ms.fieldB
 repeat' split
 ·have := opR_len m.o (putL b (m.o.length : Int)); have := putL_len b (m.o.length : Int); omega
 ·have := putTL_len b (numsOf m.t); rw [numsOf_length] at this; omega
 ·have := noteR_len m.n 0 (putL b (m.n.length : Int)); have := putL_len b (m.n.length : Int); omega
 ·have := putL_len b (m.get f); omega
def Ms.mg (m : Ms) (A6 : Option Addr) (c6 : Nat) (A8 : Option Addr) (c8 : Nat) : Mg := ⟨m.k, m.c, m.e, m.r, m.s, m.d, .slice A6 m.o.length c6, m.t, .slice A8 m.n.length c8⟩
def Ms.good (m : Ms) : Bool := goodM (m.mg none 0 none 0) (EditL.good m.o) (fineL m.n)
structure Like (a b : Mg) : Prop where
 k : a.k = b.k
 c : a.c = b.c
 e : a.e = b.e
 r : a.r = b.r
 s : a.s = b.s
 d : a.d = b.d
 t : a.t = b.t
 o : nil0 a.o = nil0 b.o
 n : nil0 a.n = nil0 b.n
theorem Like.strip {a b : Mg} (h : Like a b) (f : Nat) : Like (a.strip f) (b.strip f) := by
 obtain ⟨h1, h2, h3, h4, h5, h6, h7, h8, h9⟩ := h
 unfold Mg.strip
 repeat' split
 all_goals first | exact ⟨h1, rfl, h3, h4, h5, h6, h7, h8, h9⟩ | exact ⟨h1, h2, rfl, h4, h5, h6, h7, h8, h9⟩ | exact ⟨h1, h2, h3, rfl, h5, h6, h7, h8, h9⟩ | exact ⟨h1, h2, h3, h4, rfl, h6, h7, h8, h9⟩ | exact ⟨h1, h2, h3, h4, h5, rfl, h7, h8, h9⟩ | exact ⟨h1, h2, h3, h4, h5, h6, h7, rfl, h9⟩ | exact ⟨h1, h2, h3, h4, h5, h6, rfl, h8, h9⟩ | exact ⟨h1, h2, h3, h4, h5, h6, h7, h8, rfl⟩
theorem Like.ok {a b : Mg} (h : Like a b) (go gn : Bool) (f : Nat) : a.ok go gn f = b.ok go gn f := by
 unfold Mg.ok Mg.get
 rw [h.c, h.e, h.r, h.s, h.d, h.t]
theorem Like.last {a b x y : Mg} (h : Like a b) (hx : Like x y) : lastOk x a = lastOk y b := by
 unfold lastOk MsgC.Mg.same MsgC.Mg.nums
 rw [hx.k, h.k, h.c, h.e, h.r, h.s, h.d, h.t, h.o, h.n]
theorem Like.run {x y : Mg} (hx : Like x y) (go gn : Bool) : ∀ (l : List Int) (a b : Mg), Like a b → ((MsgD.run go gn l a).map (lastOk x)).getD false = ((MsgD.run go gn l b).map (lastOk y)).getD false := by
 intro l
 induction l with
 | nil => intro a b h; exact h.last hx
 | cons f l ih =>
  intro a b h
  simp only [MsgD.run]
  rw [h.ok]
  split
  ·exact ih _ _ (h.strip _)
  ·rfl
theorem Like.good {a b : Mg} (h : Like a b) (go gn : Bool) : goodM a go gn = goodM b go gn := by
 unfold goodM
 rw [h.k]
 exact h.run go gn _ a b h
theorem good_m (m : Ms) (A6 : Option Addr) (c6 : Nat) (A8 : Option Addr) (c8 : Nat) (w : World) (h : Lies m A6 c6 A8 c8 w) (hs : Small m) : Calls Try.prog 23 #[(m.mg A6 c6 A8 c8).val] w fun e w' => e = .returned (.bool m.good) ∧ Below w.heap.size w w' := by
 have ho := hs.o
 have hn := hs.n
 have := MsgD.good_c (m.mg A6 c6 A8 c8) (EditL.good m.o) (fineL m.n) w ⟨_, _, _, rfl, by omega⟩ ⟨_, _, _, rfl, by omega⟩
  (fun W hb => edit_Good.calls (m.o.length + 1) A6 c6 m.o (EditL.good m.o) W (Kd.C_below h.o hb) h.oc (EditF.good_f (by omega) _ (by omega)))
  (fun W hb => MsgF.fine_c A8 c8 m.n W (NC.below h.n hb) h.nc hn)
 rw [show goodM (m.mg A6 c6 A8 c8) (EditL.good m.o) (fineL m.n) = m.good from Like.good (a := m.mg A6 c6 A8 c8) (b := m.mg none 0 none 0) ⟨rfl, rfl, rfl, rfl, rfl, rfl, rfl, rfl, rfl⟩ _ _] at this
 exact this
def R14.T14 : Bool × List (List Nat × List Nat) := (true, [([], []), ([], []), ([1], [1]), ([2], [2]), ([3], [3]), ([], []), ([5], [5]), ([4, 6], [4, 6]), ([0, 0, 1, 2, 3, 4, 5, 6, 7], [0]), ([8, 0, 1, 2, 3, 4, 5, 6, 7], [8]), ([9, 7, 7, 0, 1, 2, 3, 4, 5, 6, 7], [7, 9])])
def R14.B14 : List Nat := [0, 0, 2, 6, 14, 0, 32, 126, 255, 511, 1023]
theorem R14.tab14 : rtab .any (opsOf Try.f21 14) = R14.T14 := by kernel_rfl
theorem R14.bits14 : waitsOk R14.T14.2 R14.B14 = true := by kernel_rfl
def EncPost (m : Ms) (w : World) (e : Ending) (w' : World) : Prop := ∃ v, e = .returned (.tuple #[v, .int .i64 (if m.good then 0 else 2)]) ∧ Sl w' v (if m.good then m.encL else []) ∧ Below w.heap.size w w'
set_option maxHeartbeats 16000000 in
set_option maxRecDepth 100000 in
theorem encode_c (m : Ms) (A6 : Option Addr) (c6 : Nat) (A8 : Option Addr) (c8 : Nat) (w : World) (h : Lies m A6 c6 A8 c8 w) (hs : Small m) : Calls Try.prog 21 #[(m.mg A6 c6 A8 c8).val] w (EncPost m w) := by
 obtain ⟨B, hB⟩ : ∃ B, B = w.heap.size := ⟨_, rfl⟩
 obtain ⟨w1, hw1⟩ : ∃ w1, w1 = w.alloc (.cells (m.mg A6 c6 A8 c8).cs 44) := ⟨_, rfl⟩
 have HBB := Aside0.mk (show Blk B (m.mg A6 c6 A8 c8) w1 by unfold Blk; rw [hw1, hB]; exact Own.heap_new _ _)
 have HLO := Aside0.mk (show Below w.heap.size w w1 by rw [hw1]; exact below_alloc (Below.refl _ _) _)
 have HGD := Aside0.mk (good_m m A6 c6 A8 c8 w1 (h.below (by rw [hw1]; exact below_alloc (Below.refl _ _) _)) hs)
 have HLI := Aside0.mk h
 have HSM := Aside0.mk hs
 have HW1 := Aside0.mk hw1
 have HBE := Aside0.mk hB
 clear h hs hw1 hB
 obtain ⟨⟨x0, x1, x2, x3, x4, x5⟩, x6, x7, x8⟩ := HBB.out.cells
 go_enter Try.func21, Try.ntmps21
 unfold Ms.mg Mg.val Mg.cs
 unfold Ms.mg at x0 x1 x2 x3 x4 x5 x6 x7 x8
 unfold Ms.mg Mg.cs at HW1
 go_wp2_with (first | rw [← HBE.out, ← HW1.out])
 refine HGD.out.mono ?_
 rintro e w2 ⟨rfl, hb⟩
 have HB2 := Aside0.mk (HBB.out.below hb)
 have HL2 := Aside0.mk (below_step HLO.out hb)
 clear hb x0 x1 x2 x3 x4 x5 x6 x7 x8 HGD HW1
 cases hgd : m.good with
 | false =>
  go_wp2_with fail
  go_ret2
  exact ⟨_, by rw [hgd]; rfl, by rw [hgd]; exact Sl.nil _, HL2.out⟩
 | true =>
  obtain ⟨S, hS⟩ : ∃ S, S = w2.heap.size := ⟨_, rfl⟩
  obtain ⟨w3, hw3⟩ : ∃ w3, w3 = w2.alloc (.cells #[.slice none 0 0] 88) := ⟨_, rfl⟩
  have hwt : Wt S [] (.slice none ([] : List Int).length 0) w3 := ⟨by rw [hw3, hS]; exact Own.heap_new _ _, Sl.nil _⟩
  have HNW := Aside0.mk (num_w S [] none 0 m.k w3 hwt (by simp))
  have HB3 := Aside0.mk (show Blk B (m.mg A6 c6 A8 c8) w3 from HB2.out.below (by rw [hw3]; exact below_alloc (Below.refl _ _) _))
  have HL3 := Aside0.mk (show Below w.heap.size w w3 by rw [hw3]; exact below_alloc HL2.out _)
  have HSB := Aside0.mk (show B < S by rw [hS]; exact HB2.out.lt)
  have HSW := Aside0.mk (show w.heap.size ≤ S by rw [hS]; exact HL2.out.size)
  have HS3 := Aside0.mk (show S < w3.heap.size by rw [hw3, hS]; simp)
  have HW3 := Aside0.mk hw3
  have HSE := Aside0.mk hS
  clear hw3 hS hwt HB2 HL2 HBB HLO
  obtain ⟨⟨x0, x1, x2, x3, x4, x5⟩, x6, x7, x8⟩ := HB3.out.cells
  unfold Ms.mg at x0 x1 x2 x3 x4 x5 x6 x7 x8
  go_wp2_with (first | rw [← HSE.out, ← HW3.out])
  refine HNW.out.mono ?_
  rintro e w4 ⟨⟨u, rfl⟩, hb4, A4, c4, hw4⟩
  have HBU4 := Aside0.mk hb4
  have HW4 := Aside0.mk hw4
  have HB4 := Aside0.mk (show Blk B (m.mg A6 c6 A8 c8) w4 from (hb4.block B HB3.out.lt (fun e => by have := HSB.out; have := Option.some.inj e; omega)).trans HB3.out)
  clear hb4 hw4 x0 x1 x2 x3 x4 x5 x6 x7 x8 HNW HW3
  obtain ⟨⟨x0, x1, x2, x3, x4, x5⟩, x6, x7, x8⟩ := HB4.out.cells
  unfold Ms.mg at x0 x1 x2 x3 x4 x5 x6 x7 x8
  go_wp2_with fail
  refine (message_fields.calls m.k _ _ (fields_f m.k)).mono ?_
  rintro e w5 ⟨v, rfl, hr, hb5⟩
  have hr' := Kd.R_mono (ok' := fun K => S < K) (Kd.R_bound hr) (fun K hK => by
   have h1 := HW4.out.lt
   have h2 := hK.2.1
   omega)
  obtain ⟨F, cF, rfl⟩ := Kd.R_slice hr'
  obtain ⟨fs, hfs⟩ : ∃ fs, fs = fieldsL m.k := ⟨_, rfl⟩
  have HFO := Aside0.mk (fields_ok m.k)
  rw [← hfs] at hr' HFO ⊢
  have HFS := Aside0.mk hfs
  have HRF := Aside0.mk hr'
  have HW5 := Aside0.mk (HW4.out.below hb5)
  have HBU5 := Aside0.mk (HBU4.out.trans (grown_of_below hb5 (some S)))
  clear hr hr' hb5 hfs x0 x1 x2 x3 x4 x5 x6 x7 x8
  obtain ⟨bs, hbs⟩ : ∃ bs, bs = w4.heap.size := ⟨_, rfl⟩
  rw [← hbs] at HRF
  clear hbs
  go_wp2_with fail
  go_loopw [22] (fun iv wr => ∃ (j : Nat) (ys : List Int), j ≤ fs.length ∧ iv = .int .i64 (j : Int) ∧ m.encR (fs.drop j) ys = m.encL ∧ ys.length ≤ 9 + j * 2000000000000 ∧ Wz S ys w3 wr ∧ Kd.R (Kd.int .i64) 92 wr bs (fun K => S < K) (.slice F fs.length cF) fs) (fun iv _ => fs.length - (intOf iv).toNat)
  case atStart => exact ⟨0, _, Nat.zero_le _, rfl, by unfold Ms.encL; rw [← HFS.out]; rfl, by have := putL_len [] m.k; simp at this; omega, ⟨HBU5.out, _, _, HW5.out⟩, HRF.out⟩
  case round =>
   obtain ⟨j, ys, hj, rfl, ho, hlen, ⟨hbut, A5, c5, hwt⟩, hrow⟩ := hrel
   have HBJ := Aside0.mk hbut
   have HWJ := Aside0.mk hwt
   have HO := Aside0.mk ho
   have HLE := Aside0.mk hlen
   have HRJ := Aside0.mk hrow
   have HBLK := Aside0.mk (show Blk B (m.mg A6 c6 A8 c8) wr from (hbut.block B HB3.out.lt (fun e => by have := HSB.out; have := Option.some.inj e; omega)).trans HB3.out)
   have HLW := Aside0.mk (show Below w.heap.size w wr from HL3.out.grown hbut HL3.out.size (fun K e => by cases e; exact HSW.out))
   clear hbut hwt ho hlen hrow
   by_cases hlt : j < fs.length
   ·obtain ⟨f, hf⟩ : ∃ f, f = rd fs (j : Int) := ⟨_, rfl⟩
    have h4 : j < 4 := by have := HFO.out.2.2; omega
    have hdr := drop_rd hlt
    rw [← hf] at hdr
    have hmem : f ∈ fs := List.mem_of_mem_drop (i := j) (by rw [hdr]; exact List.mem_cons_self)
    have h08 := HFO.out.2.1 f hmem
    obtain ⟨ad, rfl, y⟩ := Kd.at_int (Kd.R_reads' HRJ.out).2.2 (j : Int) (by omega) (by omega)
    rw [Int.toNat_natCast, ← hf] at y
    have HO2 := Aside0.mk (show m.encR (fs.drop (j + 1)) (m.fieldB f ys) = m.encL by rw [← HO.out, hdr]; rfl)
    have HLE2 := Aside0.mk (show (m.fieldB f ys).length ≤ 9 + (j + 1) * 2000000000000 by have h1 := field_len HSM.out f ys; have h2 := HLE.out; omega)
    have HLT := Aside0.mk hlt
    have hlt' : (j : Int) < (fs.length : Int) := by omega
    have HNE6 := Aside0.mk (fun (ad : Addr) (e : A6 = some ad) (hp : 0 < m.o.length) => (show ad.block ≠ S by have h1 := RC.lt HLI.out.o ad e hp; have h2 := HSW.out; omega))
    have HNE8 := Aside0.mk (fun (ad : Addr) (e : A8 = some ad) (hp : 0 < m.n.length) => (show ad.block ≠ S by have h1 := MsgW.NC.lt HLI.out.n ad e hp; have h2 := HSW.out; omega))
    have HLJ := Aside0.mk (HLI.out.below HLW.out)
    have HYB := Aside0.mk (show ys.length ≤ 50000000000000 by have := HLE.out; omega)
    obtain ⟨⟨x0, x1, x2, x3, x4, x5⟩, x6, x7, x8⟩ := HBLK.out.cells
    unfold Ms.mg at x0 x1 x2 x3 x4 x5 x6 x7 x8
    clear hf hdr hmem hlt
    have hq : f = 0 ∨ f = 1 ∨ f = 2 ∨ f = 3 ∨ f = 4 ∨ f = 5 ∨ f = 6 ∨ f = 7 := by omega
    clear h08
    rcases hq with rfl | rfl | rfl | rfl | rfl | rfl | rfl | rfl
    ·have HN1 := Aside0.mk (num_w S ys A5 c5 m.c wr HWJ.out (by have := HYB.out; omega))
     clear x6 x7 x8
     go_wp2_with fail
     refine (num_c B 0 (by decide) wr).mono ?_
     rintro e w6 ⟨rfl, rfl⟩
     go_wp2_with fail
     refine HN1.out.mono ?_
     rintro e w7 ⟨⟨u7, rfl⟩, hb7, A7, c7, hw7⟩
     have HZ7 := Aside0.mk (show Wz S (m.fieldB 0 ys) w3 w7 from ⟨HBJ.out.trans hb7, A7, c7, hw7⟩)
     have HR7 := Aside0.mk (Kd.R_grown HRJ.out hb7 (fun K hK e => by have := Option.some.inj e; omega))
     clear hb7 hw7 x0 x1 x2 x3 x4 x5 y
     go_wp2_with fail
     go_roundw
     case rel => exact ⟨j + 1, _, HLT.out, by go_num, HO2.out, HLE2.out, HZ7.out, HR7.out⟩
     case measure => simp [intOf]; have := HLT.out; omega
    ·have HN1 := Aside0.mk (num_w S ys A5 c5 m.e wr HWJ.out (by have := HYB.out; omega))
     clear x6 x7 x8
     go_wp2_with fail
     refine (num_c B 1 (by decide) wr).mono ?_
     rintro e w6 ⟨rfl, rfl⟩
     go_wp2_with fail
     refine HN1.out.mono ?_
     rintro e w7 ⟨⟨u7, rfl⟩, hb7, A7, c7, hw7⟩
     have HZ7 := Aside0.mk (show Wz S (m.fieldB 1 ys) w3 w7 from ⟨HBJ.out.trans hb7, A7, c7, hw7⟩)
     have HR7 := Aside0.mk (Kd.R_grown HRJ.out hb7 (fun K hK e => by have := Option.some.inj e; omega))
     clear hb7 hw7 x0 x1 x2 x3 x4 x5 y
     go_wp2_with fail
     go_roundw
     case rel => exact ⟨j + 1, _, HLT.out, by go_num, HO2.out, HLE2.out, HZ7.out, HR7.out⟩
     case measure => simp [intOf]; have := HLT.out; omega
    ·have HN1 := Aside0.mk (num_w S ys A5 c5 m.r wr HWJ.out (by have := HYB.out; omega))
     clear x6 x7 x8
     go_wp2_with fail
     refine (num_c B 2 (by decide) wr).mono ?_
     rintro e w6 ⟨rfl, rfl⟩
     go_wp2_with fail
     refine HN1.out.mono ?_
     rintro e w7 ⟨⟨u7, rfl⟩, hb7, A7, c7, hw7⟩
     have HZ7 := Aside0.mk (show Wz S (m.fieldB 2 ys) w3 w7 from ⟨HBJ.out.trans hb7, A7, c7, hw7⟩)
     have HR7 := Aside0.mk (Kd.R_grown HRJ.out hb7 (fun K hK e => by have := Option.some.inj e; omega))
     clear hb7 hw7 x0 x1 x2 x3 x4 x5 y
     go_wp2_with fail
     go_roundw
     case rel => exact ⟨j + 1, _, HLT.out, by go_num, HO2.out, HLE2.out, HZ7.out, HR7.out⟩
     case measure => simp [intOf]; have := HLT.out; omega
    ·have HN1 := Aside0.mk (num_w S ys A5 c5 m.s wr HWJ.out (by have := HYB.out; omega))
     clear x6 x7 x8
     go_wp2_with fail
     refine (num_c B 3 (by decide) wr).mono ?_
     rintro e w6 ⟨rfl, rfl⟩
     go_wp2_with fail
     refine HN1.out.mono ?_
     rintro e w7 ⟨⟨u7, rfl⟩, hb7, A7, c7, hw7⟩
     have HZ7 := Aside0.mk (show Wz S (m.fieldB 3 ys) w3 w7 from ⟨HBJ.out.trans hb7, A7, c7, hw7⟩)
     have HR7 := Aside0.mk (Kd.R_grown HRJ.out hb7 (fun K hK e => by have := Option.some.inj e; omega))
     clear hb7 hw7 x0 x1 x2 x3 x4 x5 y
     go_wp2_with fail
     go_roundw
     case rel => exact ⟨j + 1, _, HLT.out, by go_num, HO2.out, HLE2.out, HZ7.out, HR7.out⟩
     case measure => simp [intOf]; have := HLT.out; omega
    ·have HN1 := Aside0.mk (num_w S ys A5 c5 m.d wr HWJ.out (by have := HYB.out; omega))
     clear x6 x7 x8
     go_wp2_with fail
     refine (num_c B 4 (by decide) wr).mono ?_
     rintro e w6 ⟨rfl, rfl⟩
     go_wp2_with fail
     refine HN1.out.mono ?_
     rintro e w7 ⟨⟨u7, rfl⟩, hb7, A7, c7, hw7⟩
     have HZ7 := Aside0.mk (show Wz S (m.fieldB 4 ys) w3 w7 from ⟨HBJ.out.trans hb7, A7, c7, hw7⟩)
     have HR7 := Aside0.mk (Kd.R_grown HRJ.out hb7 (fun K hK e => by have := Option.some.inj e; omega))
     clear hb7 hw7 x0 x1 x2 x3 x4 x5 y
     go_wp2_with fail
     go_roundw
     case rel => exact ⟨j + 1, _, HLT.out, by go_num, HO2.out, HLE2.out, HZ7.out, HR7.out⟩
     case measure => simp [intOf]; have := HLT.out; omega
    ·have HN1 := Aside0.mk (op_w S ys A5 c5 A6 c6 m.o wr HWJ.out HLJ.out.o HLJ.out.oc HNE6.out (by have h1 := HYB.out; have h2 := HSM.out.w; omega) HSM.out.o)
     go_wp2_with fail
     refine HN1.out.mono ?_
     rintro e w7 ⟨⟨u7, rfl⟩, hb7, A7, c7, hw7⟩
     have HZ7 := Aside0.mk (show Wz S (m.fieldB 5 ys) w3 w7 from ⟨HBJ.out.trans hb7, A7, c7, hw7⟩)
     have HR7 := Aside0.mk (Kd.R_grown HRJ.out hb7 (fun K hK e => by have := Option.some.inj e; omega))
     clear hb7 hw7 x0 x1 x2 x3 x4 x5 y
     go_wp2_with fail
     go_roundw
     case rel => exact ⟨j + 1, _, HLT.out, by go_num, HO2.out, HLE2.out, HZ7.out, HR7.out⟩
     case measure => simp [intOf]; have := HLT.out; omega
    ·have HPT := Aside0.mk (fun (W : World) (hW : Below wr.heap.size wr W) => VaryP.nPutText _ ys m.t W (HWJ.out.below hW).sl (by have h1 := HYB.out; have h2 := HSM.out.t; omega))
     have HAL6 := Aside0.mk (fun (W : World) (hW : Below wr.heap.size wr W) => (show W.cell? ⟨B, 7, none⟩ = some (.string m.t) ∧ Wt S ys (.slice A5 ys.length c5) W from ⟨(HBLK.out.below hW).cells.2.2.1, HWJ.out.below hW⟩))
     have HB6 := Aside0.mk (Below.refl wr.heap.size wr)
     clear x0 x1 x2 x3 x4 x5 x6 x7 x8
     go_wp2_with fail
     clear y
     refine start_ (n := 11) (S := fun w' => True) (ds := []) #[false, false, false, false, false, false, false, false, false, false, false] (by kernel_rfl) rfl rfl trivial (fun hHeld => ?_); refine with_tabW R14.tab14 R14.bits14 (fun HT_ HW_ => ?_)
     refine inv_at [0, 1, 2, 3, 4, 5, 6, 7, 8, 9, 10] (fun a0_ b a w' => ∃ (v7 : Value), a = putSel a0_ b [(0, 45, (.pointer (some ⟨S, 0, none⟩))), (1, 46, (.pointer (some ⟨S, 0, none⟩))), (2, 47, (.pointer (some ⟨S, 0, none⟩))), (3, 48, (.pointer (some ⟨S, 0, none⟩))), (4, 49, (.slice A5 ys.length c5)), (5, 50, (.pointer (some ⟨B, 7, none⟩))), (6, 51, (.string m.t)), (7, 52, v7), (8, 53, (.pointer (some ⟨S, 0, none⟩))), (9, 54, (.pointer (some ⟨S, 0, none⟩)))] ∧ (b 10 = false → Below wr.heap.size wr w') ∧ (b 7 = true → Sl w' v7 (putTL ys (numsOf m.t))) ∧ (b 10 = true → Wz S (putTL ys (numsOf m.t)) wr w')) HT_.out HW_.out (by kernel_rfl) (by kernel_rfl) ?_ ?_ ?_
     ·exact ⟨.bool false, by simp only [putSel, Bool.false_eq_true, if_false], fun _ => below_drew1 HB6.out, fun h_ => absurd h_ (by decide), fun h_ => absurd h_ (by decide)⟩
     ·skip
      clear HB6
      refine steps_cons ?_ ?_
      ·rintro b a w' ⟨v7, ha, Q_HB6, Q_G7, Q_HZ6⟩ hb_ hon hoff
       refine ⟨_, rfl, fun K hK => ?_⟩
       have e4 : a.tmps[4]? = some ((.pointer (some ⟨S, 0, none⟩))) := by rw [ha]; exact (putSel_off rfl).trans rfl
       replace ha := Aside0.mk ha
       have HB6 := Aside0.mk (Q_HB6 (hoff 10 (by kernel_rfl)))
       refine value_ (w1 := w') (v := (.pointer (some ⟨S, 0, none⟩))) (by rfl) rfl ?_ ?_
       ·go_simp
        (try simp only [i64_w])
        try (first | rfl | assumption)
       refine hK.out _ _ ⟨v7, (by rw [ha.out]; exact putSel_upk 0 hb_ rfl rfl rfl), Q_HB6, Q_G7, fun h0_ => absurd ((hoff 10 (by kernel_rfl)).symm.trans h0_) (by decide)⟩
      refine steps_cons ?_ ?_
      ·rintro b a w' ⟨v7, ha, Q_HB6, Q_G7, Q_HZ6⟩ hb_ hon hoff
       refine ⟨_, rfl, fun K hK => ?_⟩
       have e4 : a.tmps[4]? = some ((.pointer (some ⟨S, 0, none⟩))) := by rw [ha]; exact (putSel_off rfl).trans rfl
       replace ha := Aside0.mk ha
       have HB6 := Aside0.mk (Q_HB6 (hoff 10 (by kernel_rfl)))
       refine value_ (w1 := w') (v := (.pointer (some ⟨S, 0, none⟩))) (by rfl) rfl ?_ ?_
       ·go_simp
        (try simp only [i64_w])
        try (first | rfl | assumption)
       refine hK.out _ _ ⟨v7, (by rw [ha.out]; exact putSel_upk 1 hb_ rfl rfl rfl), Q_HB6, fun h0_ => absurd ((hoff 7 (by kernel_rfl)).symm.trans h0_) (by decide), fun h0_ => absurd ((hoff 10 (by kernel_rfl)).symm.trans h0_) (by decide)⟩
      refine steps_cons ?_ ?_
      ·rintro b a w' ⟨v7, ha, Q_HB6, Q_G7, Q_HZ6⟩ hb_ hon hoff
       refine ⟨_, rfl, fun K hK => ?_⟩
       have e46 : a.tmps[46]? = some ((.pointer (some ⟨S, 0, none⟩))) := by rw [ha]; exact putSel_on (e := (1, 46, (.pointer (some ⟨S, 0, none⟩)))) 1 rfl rfl (hon 1 (by kernel_rfl)) rfl
       replace ha := Aside0.mk ha
       have HB6 := Aside0.mk (Q_HB6 (hoff 10 (by kernel_rfl)))
       refine value_ (w1 := w') (v := (.pointer (some ⟨S, 0, none⟩))) (by rfl) rfl ?_ ?_
       ·go_simp
        (try simp only [i64_w])
        try (first | rfl | assumption)
       refine hK.out _ _ ⟨v7, (by rw [ha.out]; exact putSel_upk 2 hb_ rfl rfl rfl), Q_HB6, fun h0_ => absurd ((hoff 7 (by kernel_rfl)).symm.trans h0_) (by decide), fun h0_ => absurd ((hoff 10 (by kernel_rfl)).symm.trans h0_) (by decide)⟩
      refine steps_cons ?_ ?_
      ·rintro b a w' ⟨v7, ha, Q_HB6, Q_G7, Q_HZ6⟩ hb_ hon hoff
       refine ⟨_, rfl, fun K hK => ?_⟩
       have e47 : a.tmps[47]? = some ((.pointer (some ⟨S, 0, none⟩))) := by rw [ha]; exact putSel_on (e := (2, 47, (.pointer (some ⟨S, 0, none⟩)))) 2 rfl rfl (hon 2 (by kernel_rfl)) rfl
       replace ha := Aside0.mk ha
       have HB6 := Aside0.mk (Q_HB6 (hoff 10 (by kernel_rfl)))
       refine value_ (w1 := w') (v := (.pointer (some ⟨S, 0, none⟩))) (by rfl) rfl ?_ ?_
       ·go_simp
        (try simp only [i64_w])
        try (first | rfl | assumption)
       refine hK.out _ _ ⟨v7, (by rw [ha.out]; exact putSel_upk 3 hb_ rfl rfl rfl), Q_HB6, fun h0_ => absurd ((hoff 7 (by kernel_rfl)).symm.trans h0_) (by decide), fun h0_ => absurd ((hoff 10 (by kernel_rfl)).symm.trans h0_) (by decide)⟩
      refine steps_cons ?_ ?_
      ·rintro b a w' ⟨v7, ha, Q_HB6, Q_G7, Q_HZ6⟩ hb_ hon hoff
       refine ⟨_, rfl, fun K hK => ?_⟩
       have e48 : a.tmps[48]? = some ((.pointer (some ⟨S, 0, none⟩))) := by rw [ha]; exact putSel_on (e := (3, 48, (.pointer (some ⟨S, 0, none⟩)))) 3 rfl rfl (hon 3 (by kernel_rfl)) rfl
       replace ha := Aside0.mk ha
       have HB6 := Aside0.mk (Q_HB6 (hoff 10 (by kernel_rfl)))
       obtain ⟨x1_, q_⟩ := HAL6.out _ HB6.out; have x3_ := q_.cell.1
       refine value_ (w1 := w') (v := (.slice A5 ys.length c5)) (by rfl) rfl ?_ ?_
       ·go_simp
        (try simp only [i64_w])
        try (first | rfl | assumption)
       refine hK.out _ _ ⟨v7, (by rw [ha.out]; exact putSel_upk 4 hb_ rfl rfl rfl), Q_HB6, fun h0_ => absurd ((hoff 7 (by kernel_rfl)).symm.trans h0_) (by decide), fun h0_ => absurd ((hoff 10 (by kernel_rfl)).symm.trans h0_) (by decide)⟩
      refine steps_cons ?_ ?_
      ·rintro b a w' ⟨v7, ha, Q_HB6, Q_G7, Q_HZ6⟩ hb_ hon hoff
       refine ⟨_, rfl, fun K hK => ?_⟩
       have e1 : a.tmps[1]? = some ((.pointer (some ⟨B, 0, none⟩))) := by rw [ha]; exact (putSel_off rfl).trans rfl
       replace ha := Aside0.mk ha
       have HB6 := Aside0.mk (Q_HB6 (hoff 10 (by kernel_rfl)))
       refine value_ (w1 := w') (v := (.pointer (some ⟨B, 7, none⟩))) (by rfl) rfl ?_ ?_
       ·go_simp
        (try simp only [i64_w])
        try (first | rfl | assumption)
       refine hK.out _ _ ⟨v7, (by rw [ha.out]; exact putSel_upk 5 hb_ rfl rfl rfl), Q_HB6, fun h0_ => absurd ((hoff 7 (by kernel_rfl)).symm.trans h0_) (by decide), fun h0_ => absurd ((hoff 10 (by kernel_rfl)).symm.trans h0_) (by decide)⟩
      refine steps_cons ?_ ?_
      ·rintro b a w' ⟨v7, ha, Q_HB6, Q_G7, Q_HZ6⟩ hb_ hon hoff
       refine ⟨_, rfl, fun K hK => ?_⟩
       have e50 : a.tmps[50]? = some ((.pointer (some ⟨B, 7, none⟩))) := by rw [ha]; exact putSel_on (e := (5, 50, (.pointer (some ⟨B, 7, none⟩)))) 5 rfl rfl (hon 5 (by kernel_rfl)) rfl
       replace ha := Aside0.mk ha
       have HB6 := Aside0.mk (Q_HB6 (hoff 10 (by kernel_rfl)))
       obtain ⟨x1_, q_⟩ := HAL6.out _ HB6.out
       refine value_ (w1 := w') (v := (.string m.t)) (by rfl) rfl ?_ ?_
       ·go_simp
        (try simp only [i64_w])
        try (first | rfl | assumption)
       refine hK.out _ _ ⟨v7, (by rw [ha.out]; exact putSel_upk 6 hb_ rfl rfl rfl), Q_HB6, fun h0_ => absurd ((hoff 7 (by kernel_rfl)).symm.trans h0_) (by decide), fun h0_ => absurd ((hoff 10 (by kernel_rfl)).symm.trans h0_) (by decide)⟩
      refine steps_cons ?_ ?_
      ·rintro b a w' ⟨v7, ha, Q_HB6, Q_G7, Q_HZ6⟩ hb_ hon hoff
       refine ⟨_, rfl, fun K hK => ?_⟩
       have e49 : a.tmps[49]? = some ((.slice A5 ys.length c5)) := by rw [ha]; exact putSel_on (e := (4, 49, (.slice A5 ys.length c5))) 4 rfl rfl (hon 4 (by kernel_rfl)) rfl
       have e51 : a.tmps[51]? = some ((.string m.t)) := by rw [ha]; exact putSel_on (e := (6, 51, (.string m.t))) 6 rfl rfl (hon 6 (by kernel_rfl)) rfl
       replace ha := Aside0.mk ha
       have HB6 := Aside0.mk (Q_HB6 (hoff 10 (by kernel_rfl)))
       refine goes_ Try.func60 (by kernel_rfl) rfl #[.slice A5 ys.length c5, .string m.t] (by rfl) rfl rfl (by first | (simp only [List.map_toArray, List.map_cons, List.map_nil, Act.eval, Array.getD_eq_getD_getElem?, Option.getD_some, e49, e51]; done) | (simp only [List.map_toArray, List.map_cons, List.map_nil, Act.eval, Array.getD_eq_getD_getElem?, Option.getD_some, e49, e51]; rfl)) ?_
       refine (HPT.out _ HB6.out).mono ?_
       rintro e w1_ ⟨v7, rfl, hg, hb⟩
       refine ⟨_, rfl, ?_⟩
       refine hK.out _ _ ⟨v7, (by rw [ha.out]; exact putSel_upk 7 hb_ rfl rfl rfl), fun _ => below_step HB6.out hb, fun _ => hg.sl, fun h0_ => absurd ((hoff 10 (by kernel_rfl)).symm.trans h0_) (by decide)⟩
      refine steps_cons ?_ ?_
      ·rintro b a w' ⟨v7, ha, Q_HB6, Q_G7, Q_HZ6⟩ hb_ hon hoff
       refine ⟨_, rfl, fun K hK => ?_⟩
       have e45 : a.tmps[45]? = some ((.pointer (some ⟨S, 0, none⟩))) := by rw [ha]; exact putSel_on (e := (0, 45, (.pointer (some ⟨S, 0, none⟩)))) 0 rfl rfl (hon 0 (by kernel_rfl)) rfl
       replace ha := Aside0.mk ha
       have HB6 := Aside0.mk (Q_HB6 (hoff 10 (by kernel_rfl)))
       have G7 := Aside0.mk (Q_G7 (hon 7 (by kernel_rfl)))
       refine value_ (w1 := w') (v := (.pointer (some ⟨S, 0, none⟩))) (by rfl) rfl ?_ ?_
       ·go_simp
        (try simp only [i64_w])
        try (first | rfl | assumption)
       refine hK.out _ _ ⟨v7, (by rw [ha.out]; exact putSel_upk 8 hb_ rfl rfl rfl), Q_HB6, Q_G7, fun h0_ => absurd ((hoff 10 (by kernel_rfl)).symm.trans h0_) (by decide)⟩
      refine steps_cons ?_ ?_
      ·rintro b a w' ⟨v7, ha, Q_HB6, Q_G7, Q_HZ6⟩ hb_ hon hoff
       refine ⟨_, rfl, fun K hK => ?_⟩
       have e53 : a.tmps[53]? = some ((.pointer (some ⟨S, 0, none⟩))) := by rw [ha]; exact putSel_on (e := (8, 53, (.pointer (some ⟨S, 0, none⟩)))) 8 rfl rfl (hon 8 (by kernel_rfl)) rfl
       replace ha := Aside0.mk ha
       have HB6 := Aside0.mk (Q_HB6 (hoff 10 (by kernel_rfl)))
       have G7 := Aside0.mk (Q_G7 (hon 7 (by kernel_rfl)))
       refine value_ (w1 := w') (v := (.pointer (some ⟨S, 0, none⟩))) (by rfl) rfl ?_ ?_
       ·go_simp
        (try simp only [i64_w])
        try (first | rfl | assumption)
       refine hK.out _ _ ⟨v7, (by rw [ha.out]; exact putSel_upk 9 hb_ rfl rfl rfl), Q_HB6, Q_G7, fun h0_ => absurd ((hoff 10 (by kernel_rfl)).symm.trans h0_) (by decide)⟩
      refine steps_cons ?_ ?_
      ·rintro b a w' ⟨v7, ha, Q_HB6, Q_G7, Q_HZ6⟩ hb_ hon hoff
       refine ⟨_, rfl, fun K hK => ?_⟩
       have e54 : a.tmps[54]? = some ((.pointer (some ⟨S, 0, none⟩))) := by rw [ha]; exact putSel_on (e := (9, 54, (.pointer (some ⟨S, 0, none⟩)))) 9 rfl rfl (hon 9 (by kernel_rfl)) rfl
       have e52 : a.tmps[52]? = some (v7) := by rw [ha]; exact putSel_on (e := (7, 52, v7)) 7 rfl rfl (hon 7 (by kernel_rfl)) rfl
       replace ha := Aside0.mk ha
       have HB6 := Aside0.mk (Q_HB6 hb_)
       have G7 := Aside0.mk (Q_G7 (hon 7 (by kernel_rfl)))
       obtain ⟨A_, c_, hv_, _, _⟩ := G7.out
       have hq_ := (HAL6.out _ HB6.out).2
       obtain ⟨w1_, hw1_⟩ : ∃ w1_, w1_ = w'.setCell ⟨S, 0, none⟩ (.slice A_ (putTL ys (numsOf m.t)).length c_) := ⟨_, rfl⟩
       rw [hv_] at e52
       refine skip_ (w1 := w1_) (by rfl) rfl (by rw [hw1_]; obtain ⟨q0, f0⟩ := hq_.cell; go_simp) ?_
       refine hK.out _ _ ⟨v7, (by rw [ha.out]; exact putSel_none (v := undef) rfl), fun h0_ => absurd ((up_self b 10).symm.trans h0_) (by decide), fun _ => (by rw [hw1_]; exact Sl.but G7.out (But.setCell S 0 _ _) hq_.noByte), fun _ => ⟨by rw [hw1_]; exact (grown_of_below HB6.out (some S)).trans (But.setCell S 0 _ _), A_, c_, by rw [hw1_]; exact hq_.set (hv_ ▸ G7.out)⟩⟩
      exact steps_nil
     rintro b a wf hall ⟨v7, ha, Q_HB6, Q_G7, Q_HZ6⟩
     clear HB6
     have hb0_ := hall 0 (by kernel_rfl)
     have hb1_ := hall 1 (by kernel_rfl)
     have hb2_ := hall 2 (by kernel_rfl)
     have hb3_ := hall 3 (by kernel_rfl)
     have hb4_ := hall 4 (by kernel_rfl)
     have hb5_ := hall 5 (by kernel_rfl)
     have hb6_ := hall 6 (by kernel_rfl)
     have hb7_ := hall 7 (by kernel_rfl)
     have hb8_ := hall 8 (by kernel_rfl)
     have hb9_ := hall 9 (by kernel_rfl)
     have hb10_ := hall 10 (by kernel_rfl)
     subst ha
     simp only [putSel, hb0_, hb1_, hb2_, hb3_, hb4_, hb5_, hb6_, hb7_, hb8_, hb9_, hb10_, if_true, Act.put, List.setIfInBounds_toArray, List.set_cons_zero, List.set_cons_succ]
     clear Q_HB6
     have G7 := Aside0.mk (Q_G7 hb7_)
     clear Q_G7
     have HZ6 := Aside0.mk (Q_HZ6 hb10_)
     clear Q_HZ6
     clear hall hb0_ hb1_ hb2_ hb3_ hb4_ hb5_ hb6_ hb7_ hb8_ hb9_ hb10_
     have HZ7 := Aside0.mk (show Wz S (m.fieldB 6 ys) w3 wf from ⟨HBJ.out.trans HZ6.out.1, HZ6.out.2⟩)
     have HR7 := Aside0.mk (Kd.R_grown HRJ.out HZ6.out.1 (fun K hK e => by have := Option.some.inj e; omega))
     clear HZ6 G7 HPT HAL6
     go_wp2_with fail
     go_roundw
     case rel => exact ⟨j + 1, _, HLT.out, by go_num, HO2.out, HLE2.out, HZ7.out, HR7.out⟩
     case measure => simp [intOf]; have := HLT.out; omega
    ·have HN1 := Aside0.mk (notes_w S ys A5 c5 A8 c8 m.n wr HWJ.out HLJ.out.n HLJ.out.nc HNE8.out (by have h1 := HYB.out; omega) HSM.out.n)
     go_wp2_with fail
     refine HN1.out.mono ?_
     rintro e w7 ⟨⟨u7, rfl⟩, hb7, A7, c7, hw7⟩
     have HZ7 := Aside0.mk (show Wz S (m.fieldB 7 ys) w3 w7 from ⟨HBJ.out.trans hb7, A7, c7, hw7⟩)
     have HR7 := Aside0.mk (Kd.R_grown HRJ.out hb7 (fun K hK e => by have := Option.some.inj e; omega))
     clear hb7 hw7 x0 x1 x2 x3 x4 x5 y
     go_wp2_with fail
     go_roundw
     case rel => exact ⟨j + 1, _, HLT.out, by go_num, HO2.out, HLE2.out, HZ7.out, HR7.out⟩
     case measure => simp [intOf]; have := HLT.out; omega
   ·obtain rfl : j = fs.length := by omega
    have hlt' : ¬ ((fs.length : Int) < (fs.length : Int)) := by omega
    have HE := Aside0.mk (show ys = m.encL by have h := HO.out; rwa [List.drop_eq_nil_of_le (Nat.le_refl _)] at h)
    have x9 := HWJ.out.cell.1
    go_wp2_with fail
    go_ret2
    exact ⟨_, by rw [hgd]; rfl, by rw [hgd]; show Sl wr _ m.encL; rw [← HE.out]; exact HWJ.out.sl, HLW.out⟩
end Go.Proofs.Ytedfcjcnhgomoaa.MsgE
end
-- MERGED YtedfcjcnhgomoaaPvariorumref11Less
section
namespace Go.Proofs.Ytedfcjcnhgomoaa.P
open Go.RowKit Go.Proofs.YtedfcjcnhgomoaaW.PrintWords Go.Proofs.YtedfcjcnhgomoaaW.PrintLast Go.Proofs.YtedfcjcnhgomoaaW.PrintMore
attribute [local go_sem] max2_int min2_int max_two min_two max_three min_three max_four min_four   -- for this text's walks alone
set_option linter.unusedVariables false
set_option linter.unusedSimpArgs false
def variorumref11_Less.f (a0_0 : Int) (a0_1 : Int) (a0_2 : Int) (a1_0 : Int) (a1_1 : Int) (a1_2 : Int) : Option (Bool) := if a0_0 = a1_0 then (if a0_1 = a1_1 then (some (decide (a0_2 < a1_2))) else (some (decide (a0_1 < a1_1)))) else (some (decide (a0_0 < a1_0)))
set_option maxHeartbeats 8000000 in
set_option maxRecDepth 100000 in
theorem variorumref11_Less.calls (a0_0 : Int) (a0_1 : Int) (a0_2 : Int) (a1_0 : Int) (a1_1 : Int) (a1_2 : Int) (r : Bool) (w : World) (h : variorumref11_Less.f a0_0 a0_1 a0_2 a1_0 a1_1 a1_2 = some r) :
  Calls Try.prog 97 #[.agg #[.int .i64 a0_0, .int .i64 a0_1, .int .i64 a0_2], .agg #[.int .i64 a1_0, .int .i64 a1_1, .int .i64 a1_2]] w fun e w' => e = .returned (.bool r) ∧ Below w.heap.size w w' := by
 have hu104 := Try.underlying104
 have HB := Aside0.mk (Below.refl w.heap.size w)
 have H : (if a0_0 = a1_0 then (if a0_1 = a1_1 then (some (decide (a0_2 < a1_2))) else (some (decide (a0_1 < a1_1)))) else (some (decide (a0_0 < a1_0)))) = some r := h
 clear h
 by_cases c3 : a0_0 = a1_0
 ·rw [if_pos c3] at H
  have c3b0 : (a0_0 == a1_0) = true := beq_iff_eq.mpr c3
  have c3b1 : (a0_0 != a1_0) = false := bne_eq_false_iff_eq.mpr c3
  clear c3
  by_cases c4 : a0_1 = a1_1
  ·rw [if_pos c4] at H
   have c4b0 : (a0_1 == a1_1) = true := beq_iff_eq.mpr c4
   have c4b1 : (a0_1 != a1_1) = false := bne_eq_false_iff_eq.mpr c4
   clear c4
   obtain rfl := Option.some.inj H
   go_enter Try.func97, Try.ntmps97
   go_wp2_with (first | ((with_reducible refine gate_dst (N := 2) rfl ?_); refine box_event ?hg (N := 2) ?hd (cs := #[.int .i64 a0_0, .int .i64 a0_1, .int .i64 a0_2]) (t := 104) ?hr ?_; (case hd => rfl); (case hg => rfl); (case hr => (go_simp; done)); intro gb278 hg w5 hbox hb; have n0_ := Aside0.mk (below_step (by repeat ((with_reducible (exact HB.out)))) hb); have n1_ := Aside0.mk (hbox); have n2_ := Aside0.mk ((by rw [hg]; exact (below_size (by repeat ((with_reducible (exact HB.out))))) : w.heap.size ≤ gb278)); have n3_ := Aside0.mk ((by rw [hg]; exact (below_size (by repeat ((with_reducible (exact HB.out))))) : w.heap.size ≤ gb278)); clear HB; have HB := n0_; have BK278 := n1_; have GW278 := n2_; have GE278 := n3_; clear n0_ n1_ n2_ n3_; clear hb hbox hg) | ((with_reducible refine gate_dst (N := 3) rfl ?_); refine box_event ?hg (N := 3) ?hd (cs := #[.int .i64 a1_0, .int .i64 a1_1, .int .i64 a1_2]) (t := 104) ?hr ?_; (case hd => rfl); (case hg => rfl); (case hr => (go_simp; done)); intro gb279 hg w6 hbox hb; have n0_ := Aside0.mk (blk_below (g := gb278) (o := .cells #[.int .i64 a0_0, .int .i64 a0_1, .int .i64 a0_2] 104 (0, 0)) (by (with_reducible repeat ((refine blk_drew ?_))); exact BK278.out) hb); have n1_ := Aside0.mk (below_step (by repeat ((with_reducible (exact HB.out)))) hb); have n2_ := Aside0.mk (hbox); have n3_ := Aside0.mk ((by rw [hg]; exact (below_size (by repeat ((with_reducible (exact HB.out))))) : w.heap.size ≤ gb279)); have n4_ := Aside0.mk ((by rw [hg]; exact (below_size (by repeat ((with_reducible (exact HB.out))))) : w.heap.size ≤ gb279)); have n5_ := Aside0.mk ((by rw [hg]; exact Nat.ne_of_lt (blk_lt (g := gb278) (o := .cells #[.int .i64 a0_0, .int .i64 a0_1, .int .i64 a0_2] 104 (0, 0)) (by (with_reducible repeat ((refine blk_drew ?_))); exact BK278.out)) : gb278 ≠ gb279)); have n6_ := Aside0.mk ((by rw [hg]; exact Nat.ne_of_gt (blk_lt (g := gb278) (o := .cells #[.int .i64 a0_0, .int .i64 a0_1, .int .i64 a0_2] 104 (0, 0)) (by (with_reducible repeat ((refine blk_drew ?_))); exact BK278.out)) : gb279 ≠ gb278)); clear BK278; clear HB; have BK278 := n0_; have HB := n1_; have BK279 := n2_; have GW279 := n3_; have GE279 := n4_; have NB278_279 := n5_; have NB279_278 := n6_; clear n0_ n1_ n2_ n3_ n4_ n5_ n6_; clear hb hbox hg; have hnb7 := NB278_279.out; have hnc7 := NB279_278.out; have hcz8_0 : w6.cell? ⟨gb278, 0, none⟩ = some (.int .i64 a0_0) := (blk_cell BK278.out 0).trans rfl; have hcz8_1 : w6.cell? ⟨gb278, 1, none⟩ = some (.int .i64 a0_1) := (blk_cell BK278.out 1).trans rfl; have hcz8_2 : w6.cell? ⟨gb278, 2, none⟩ = some (.int .i64 a0_2) := (blk_cell BK278.out 2).trans rfl; have hfz8_0 := blk_frozen BK278.out 0; have hfz8_1 := blk_frozen BK278.out 1; have hfz8_2 := blk_frozen BK278.out 2; have hcz9_0 : w6.cell? ⟨gb279, 0, none⟩ = some (.int .i64 a1_0) := (blk_cell BK279.out 0).trans rfl; have hcz9_1 : w6.cell? ⟨gb279, 1, none⟩ = some (.int .i64 a1_1) := (blk_cell BK279.out 1).trans rfl; have hcz9_2 : w6.cell? ⟨gb279, 2, none⟩ = some (.int .i64 a1_2) := (blk_cell BK279.out 2).trans rfl; have hfz9_0 := blk_frozen BK279.out 0; have hfz9_1 := blk_frozen BK279.out 1; have hfz9_2 := blk_frozen BK279.out 2))
   go_ret
   exact ⟨by (rfl), by repeat ((with_reducible (exact HB.out)))⟩
  ·rw [if_neg c4] at H
   have c4b0 : (a0_1 == a1_1) = false := beq_eq_false_iff_ne.mpr c4
   have c4b1 : (a0_1 != a1_1) = true := bne_iff_ne.mpr c4
   obtain rfl := Option.some.inj H
   go_enter Try.func97, Try.ntmps97
   go_wp2_with (first | ((with_reducible refine gate_dst (N := 2) rfl ?_); refine box_event ?hg (N := 2) ?hd (cs := #[.int .i64 a0_0, .int .i64 a0_1, .int .i64 a0_2]) (t := 104) ?hr ?_; (case hd => rfl); (case hg => rfl); (case hr => (go_simp; done)); intro gb278 hg w10 hbox hb; have n0_ := Aside0.mk (below_step (by repeat ((with_reducible (exact HB.out)))) hb); have n1_ := Aside0.mk (hbox); have n2_ := Aside0.mk ((by rw [hg]; exact (below_size (by repeat ((with_reducible (exact HB.out))))) : w.heap.size ≤ gb278)); have n3_ := Aside0.mk ((by rw [hg]; exact (below_size (by repeat ((with_reducible (exact HB.out))))) : w.heap.size ≤ gb278)); clear HB; have HB := n0_; have BK278 := n1_; have GW278 := n2_; have GE278 := n3_; clear n0_ n1_ n2_ n3_; clear hb hbox hg) | ((with_reducible refine gate_dst (N := 3) rfl ?_); refine box_event ?hg (N := 3) ?hd (cs := #[.int .i64 a1_0, .int .i64 a1_1, .int .i64 a1_2]) (t := 104) ?hr ?_; (case hd => rfl); (case hg => rfl); (case hr => (go_simp; done)); intro gb279 hg w11 hbox hb; have n0_ := Aside0.mk (blk_below (g := gb278) (o := .cells #[.int .i64 a0_0, .int .i64 a0_1, .int .i64 a0_2] 104 (0, 0)) (by (with_reducible repeat ((refine blk_drew ?_))); exact BK278.out) hb); have n1_ := Aside0.mk (below_step (by repeat ((with_reducible (exact HB.out)))) hb); have n2_ := Aside0.mk (hbox); have n3_ := Aside0.mk ((by rw [hg]; exact (below_size (by repeat ((with_reducible (exact HB.out))))) : w.heap.size ≤ gb279)); have n4_ := Aside0.mk ((by rw [hg]; exact (below_size (by repeat ((with_reducible (exact HB.out))))) : w.heap.size ≤ gb279)); have n5_ := Aside0.mk ((by rw [hg]; exact Nat.ne_of_lt (blk_lt (g := gb278) (o := .cells #[.int .i64 a0_0, .int .i64 a0_1, .int .i64 a0_2] 104 (0, 0)) (by (with_reducible repeat ((refine blk_drew ?_))); exact BK278.out)) : gb278 ≠ gb279)); have n6_ := Aside0.mk ((by rw [hg]; exact Nat.ne_of_gt (blk_lt (g := gb278) (o := .cells #[.int .i64 a0_0, .int .i64 a0_1, .int .i64 a0_2] 104 (0, 0)) (by (with_reducible repeat ((refine blk_drew ?_))); exact BK278.out)) : gb279 ≠ gb278)); clear BK278; clear HB; have BK278 := n0_; have HB := n1_; have BK279 := n2_; have GW279 := n3_; have GE279 := n4_; have NB278_279 := n5_; have NB279_278 := n6_; clear n0_ n1_ n2_ n3_ n4_ n5_ n6_; clear hb hbox hg; have hnb12 := NB278_279.out; have hnc12 := NB279_278.out; have hcz13_0 : w11.cell? ⟨gb278, 0, none⟩ = some (.int .i64 a0_0) := (blk_cell BK278.out 0).trans rfl; have hcz13_1 : w11.cell? ⟨gb278, 1, none⟩ = some (.int .i64 a0_1) := (blk_cell BK278.out 1).trans rfl; have hcz13_2 : w11.cell? ⟨gb278, 2, none⟩ = some (.int .i64 a0_2) := (blk_cell BK278.out 2).trans rfl; have hfz13_0 := blk_frozen BK278.out 0; have hfz13_1 := blk_frozen BK278.out 1; have hfz13_2 := blk_frozen BK278.out 2; have hcz14_0 : w11.cell? ⟨gb279, 0, none⟩ = some (.int .i64 a1_0) := (blk_cell BK279.out 0).trans rfl; have hcz14_1 : w11.cell? ⟨gb279, 1, none⟩ = some (.int .i64 a1_1) := (blk_cell BK279.out 1).trans rfl; have hcz14_2 : w11.cell? ⟨gb279, 2, none⟩ = some (.int .i64 a1_2) := (blk_cell BK279.out 2).trans rfl; have hfz14_0 := blk_frozen BK279.out 0; have hfz14_1 := blk_frozen BK279.out 1; have hfz14_2 := blk_frozen BK279.out 2))
   go_ret
   exact ⟨by (rfl), by repeat ((with_reducible (exact HB.out)))⟩
 ·rw [if_neg c3] at H
  have c3b0 : (a0_0 == a1_0) = false := beq_eq_false_iff_ne.mpr c3
  have c3b1 : (a0_0 != a1_0) = true := bne_iff_ne.mpr c3
  obtain rfl := Option.some.inj H
  go_enter Try.func97, Try.ntmps97
  go_wp2_with (first | ((with_reducible refine gate_dst (N := 2) rfl ?_); refine box_event ?hg (N := 2) ?hd (cs := #[.int .i64 a0_0, .int .i64 a0_1, .int .i64 a0_2]) (t := 104) ?hr ?_; (case hd => rfl); (case hg => rfl); (case hr => (go_simp; done)); intro gb278 hg w15 hbox hb; have n0_ := Aside0.mk (below_step (by repeat ((with_reducible (exact HB.out)))) hb); have n1_ := Aside0.mk (hbox); have n2_ := Aside0.mk ((by rw [hg]; exact (below_size (by repeat ((with_reducible (exact HB.out))))) : w.heap.size ≤ gb278)); have n3_ := Aside0.mk ((by rw [hg]; exact (below_size (by repeat ((with_reducible (exact HB.out))))) : w.heap.size ≤ gb278)); clear HB; have HB := n0_; have BK278 := n1_; have GW278 := n2_; have GE278 := n3_; clear n0_ n1_ n2_ n3_; clear hb hbox hg) | ((with_reducible refine gate_dst (N := 3) rfl ?_); refine box_event ?hg (N := 3) ?hd (cs := #[.int .i64 a1_0, .int .i64 a1_1, .int .i64 a1_2]) (t := 104) ?hr ?_; (case hd => rfl); (case hg => rfl); (case hr => (go_simp; done)); intro gb279 hg w16 hbox hb; have n0_ := Aside0.mk (blk_below (g := gb278) (o := .cells #[.int .i64 a0_0, .int .i64 a0_1, .int .i64 a0_2] 104 (0, 0)) (by (with_reducible repeat ((refine blk_drew ?_))); exact BK278.out) hb); have n1_ := Aside0.mk (below_step (by repeat ((with_reducible (exact HB.out)))) hb); have n2_ := Aside0.mk (hbox); have n3_ := Aside0.mk ((by rw [hg]; exact (below_size (by repeat ((with_reducible (exact HB.out))))) : w.heap.size ≤ gb279)); have n4_ := Aside0.mk ((by rw [hg]; exact (below_size (by repeat ((with_reducible (exact HB.out))))) : w.heap.size ≤ gb279)); have n5_ := Aside0.mk ((by rw [hg]; exact Nat.ne_of_lt (blk_lt (g := gb278) (o := .cells #[.int .i64 a0_0, .int .i64 a0_1, .int .i64 a0_2] 104 (0, 0)) (by (with_reducible repeat ((refine blk_drew ?_))); exact BK278.out)) : gb278 ≠ gb279)); have n6_ := Aside0.mk ((by rw [hg]; exact Nat.ne_of_gt (blk_lt (g := gb278) (o := .cells #[.int .i64 a0_0, .int .i64 a0_1, .int .i64 a0_2] 104 (0, 0)) (by (with_reducible repeat ((refine blk_drew ?_))); exact BK278.out)) : gb279 ≠ gb278)); clear BK278; clear HB; have BK278 := n0_; have HB := n1_; have BK279 := n2_; have GW279 := n3_; have GE279 := n4_; have NB278_279 := n5_; have NB279_278 := n6_; clear n0_ n1_ n2_ n3_ n4_ n5_ n6_; clear hb hbox hg; have hnb17 := NB278_279.out; have hnc17 := NB279_278.out; have hcz18_0 : w16.cell? ⟨gb278, 0, none⟩ = some (.int .i64 a0_0) := (blk_cell BK278.out 0).trans rfl; have hcz18_1 : w16.cell? ⟨gb278, 1, none⟩ = some (.int .i64 a0_1) := (blk_cell BK278.out 1).trans rfl; have hcz18_2 : w16.cell? ⟨gb278, 2, none⟩ = some (.int .i64 a0_2) := (blk_cell BK278.out 2).trans rfl; have hfz18_0 := blk_frozen BK278.out 0; have hfz18_1 := blk_frozen BK278.out 1; have hfz18_2 := blk_frozen BK278.out 2; have hcz19_0 : w16.cell? ⟨gb279, 0, none⟩ = some (.int .i64 a1_0) := (blk_cell BK279.out 0).trans rfl; have hcz19_1 : w16.cell? ⟨gb279, 1, none⟩ = some (.int .i64 a1_1) := (blk_cell BK279.out 1).trans rfl; have hcz19_2 : w16.cell? ⟨gb279, 2, none⟩ = some (.int .i64 a1_2) := (blk_cell BK279.out 2).trans rfl; have hfz19_0 := blk_frozen BK279.out 0; have hfz19_1 := blk_frozen BK279.out 1; have hfz19_2 := blk_frozen BK279.out 2))
  go_ret
  exact ⟨by (rfl), by repeat ((with_reducible (exact HB.out)))⟩
end Go.Proofs.Ytedfcjcnhgomoaa.P
end
-- MERGED YtedfcjcnhgomoaaPvariorumref11Notes
section
namespace Go.Proofs.Ytedfcjcnhgomoaa.P
open Go.RowKit Go.Proofs.YtedfcjcnhgomoaaW.PrintWords Go.Proofs.YtedfcjcnhgomoaaW.PrintLast Go.Proofs.YtedfcjcnhgomoaaW.PrintMore
attribute [local go_sem] max2_int min2_int max_two min_two max_three min_three max_four min_four   -- for this text's walks alone
open Go.Proofs.Ytedfcjcnhgomoaa.Press
set_option linter.unusedVariables false
set_option linter.unusedSimpArgs false
abbrev otesB0 : Array Bool := #[true, false, false, false, false, false, false, false, false, false, false, false, false, false, false, false, false, false, false, false, false, false, false, false, false, false, false, false, false, false, false, false, false, false, false, false, false, false, false, false, false, false, false]
abbrev otesB1 : Array Bool := #[true, true, false, false, false, false, false, false, false, false, false, false, false, false, false, false, false, false, false, false, false, false, false, false, false, false, false, false, false, false, false, false, false, false, false, false, false, false, false, false, false, false, false]
abbrev otesB2 : Array Bool := #[true, true, true, true, false, false, false, false, false, false, false, false, false, false, false, false, false, false, false, false, false, false, false, false, false, false, false, false, false, false, false, false, false, false, false, false, false, false, false, false, false, false, false]
abbrev otesB3 : Array Bool := #[true, true, true, true, true, false, false, false, false, false, false, false, false, false, false, false, false, false, false, false, false, false, false, false, false, false, false, false, false, false, false, false, false, false, false, false, false, false, false, false, false, false, false]
abbrev otesB4 : Array Bool := #[true, true, true, true, true, true, true, true, true, true, true, true, true, false, false, false, false, false, false, false, false, false, false, false, false, false, false, false, false, false, false, false, false, false, false, false, false, false, false, false, false, false, false]
abbrev otesB5 : Array Bool := #[true, true, true, true, true, true, true, true, true, true, true, true, true, true, false, false, false, false, false, false, false, false, false, false, false, false, false, false, false, false, false, false, false, false, false, false, false, false, false, false, false, false, false]
abbrev otesB6 : Array Bool := #[true, true, true, true, true, true, true, true, true, true, true, true, true, true, true, true, true, true, true, false, false, false, false, false, false, false, false, false, false, false, false, false, false, false, false, false, false, false, false, false, false, false, false]
abbrev otesB7 : Array Bool := #[true, true, true, true, true, true, true, true, true, true, true, true, true, true, true, true, true, true, true, true, false, false, false, false, false, false, false, false, false, false, false, false, false, false, false, false, false, false, false, false, false, false, false]
abbrev otesB8 : Array Bool := #[true, true, true, true, true, true, true, true, true, true, true, true, true, true, true, true, true, true, true, true, true, true, true, true, false, false, false, false, false, false, false, false, false, false, false, false, false, false, false, false, false, false, false]
abbrev otesB9 : Array Bool := #[true, true, true, true, true, true, true, true, true, true, true, true, true, true, true, true, true, true, true, true, true, true, true, true, true, false, false, false, false, false, false, false, false, false, false, false, false, false, false, false, false, false, false]
abbrev otesB10 : Array Bool := #[true, true, true, true, true, true, true, true, true, true, true, true, true, true, true, true, true, true, true, true, true, true, true, true, true, true, true, true, true, false, false, false, false, false, false, false, false, false, false, false, false, false, false]
abbrev otesB11 : Array Bool := #[true, true, true, true, true, true, true, true, true, true, true, true, true, true, true, true, true, true, true, true, true, true, true, true, true, true, true, true, true, true, false, false, false, false, false, false, false, false, false, false, false, false, false]
abbrev otesB12 : Array Bool := #[true, true, true, true, true, true, true, true, true, true, true, true, true, true, true, true, true, true, true, true, true, true, true, true, true, true, true, true, true, true, true, true, true, true, true, true, true, true, true, true, true, true, true]
abbrev otesB13 : Array Bool := #[true, true, true, true, true, true, false, false, false, false, false, false, false, false, false, false, false, false, false, false, false, false, false, false, false, false, false, false, false, false, false, false, false, false, false, false, false, false, false, false, false, false, false]
abbrev otesB14 : Array Bool := #[true, true, true, true, true, true, true, false, false, false, false, false, false, false, false, false, false, false, false, false, false, false, false, false, false, false, false, false, false, false, false, false, false, false, false, false, false, false, false, false, false, false, false]
abbrev otesB15 : Array Bool := #[true, true, true, true, true, true, true, false, true, false, false, false, false, false, false, false, false, false, false, false, false, false, false, false, false, false, false, false, false, false, false, false, false, false, false, false, false, false, false, false, false, false, false]
abbrev otesB16 : Array Bool := #[true, true, true, true, true, true, true, false, true, true, false, false, false, false, false, false, false, false, false, false, false, false, false, false, false, false, false, false, false, false, false, false, false, false, false, false, false, false, false, false, false, false, false]
abbrev otesB17 : Array Bool := #[true, true, true, true, true, true, true, true, true, true, true, true, false, false, false, false, false, false, false, false, false, false, false, false, false, false, false, false, false, false, false, false, false, false, false, false, false, false, false, false, false, false, false]
abbrev otesB18 : Array Bool := #[true, true, true, true, true, true, true, true, true, true, true, true, true, true, true, false, false, false, false, false, false, false, false, false, false, false, false, false, false, false, false, false, false, false, false, false, false, false, false, false, false, false, false]
abbrev otesB19 : Array Bool := #[true, true, true, true, true, true, true, true, true, true, true, true, true, true, true, true, false, false, false, false, false, false, false, false, false, false, false, false, false, false, false, false, false, false, false, false, false, false, false, false, false, false, false]
abbrev otesB20 : Array Bool := #[true, true, true, true, true, true, true, true, true, true, true, true, true, true, true, true, true, true, false, false, false, false, false, false, false, false, false, false, false, false, false, false, false, false, false, false, false, false, false, false, false, false, false]
abbrev otesB21 : Array Bool := #[true, true, true, true, true, true, true, true, true, true, true, true, true, true, true, true, true, true, true, true, true, false, false, false, false, false, false, false, false, false, false, false, false, false, false, false, false, false, false, false, false, false, false]
abbrev otesB22 : Array Bool := #[true, true, true, true, true, true, true, true, true, true, true, true, true, true, true, true, true, true, true, true, true, true, true, false, false, false, false, false, false, false, false, false, false, false, false, false, false, false, false, false, false, false, false]
abbrev otesB23 : Array Bool := #[true, true, true, true, true, true, true, true, true, true, true, true, true, true, true, true, true, true, true, true, true, true, true, true, true, true, false, false, false, false, false, false, false, false, false, false, false, false, false, false, false, false, false]
abbrev otesB24 : Array Bool := #[true, true, true, true, true, true, true, true, true, true, true, true, true, true, true, true, true, true, true, true, true, true, true, true, true, true, true, true, false, false, false, false, false, false, false, false, false, false, false, false, false, false, false]
abbrev otesB25 : Array Bool := #[true, true, true, true, true, true, true, true, true, true, true, true, true, true, true, true, true, true, true, true, true, true, true, true, true, true, true, true, true, true, true, false, false, false, false, false, false, false, false, false, false, false, false]
abbrev otesB26 : Array Bool := #[true, true, true, true, true, true, true, true, true, true, true, true, true, true, true, true, true, true, true, true, true, true, true, true, true, true, true, true, true, true, true, true, false, false, false, false, false, false, false, false, false, false, false]
abbrev otesB27 : Array Bool := #[true, true, true, true, true, true, true, true, true, true, true, true, true, true, true, true, true, true, true, true, true, true, true, true, true, true, true, true, true, true, true, true, true, false, false, false, false, false, false, false, false, false, false]
abbrev otesB28 : Array Bool := #[true, true, true, true, true, true, true, true, true, true, true, true, true, true, true, true, true, true, true, true, true, true, true, true, true, true, true, true, true, true, true, true, true, true, false, false, false, false, false, false, false, false, false]
abbrev otesB29 : Array Bool := #[true, true, true, true, true, true, true, true, true, true, true, true, true, true, true, true, true, true, true, true, true, true, true, true, true, true, true, true, true, true, true, true, true, true, true, false, false, false, false, false, false, false, false]
abbrev otesB30 : Array Bool := #[true, true, true, true, true, true, true, true, true, true, true, true, true, true, true, true, true, true, true, true, true, true, true, true, true, true, true, true, true, true, true, true, true, true, true, true, false, false, false, false, false, false, false]
abbrev otesB31 : Array Bool := #[true, true, true, true, true, true, true, true, true, true, true, true, true, true, true, true, true, true, true, true, true, true, true, true, true, true, true, true, true, true, true, true, true, true, true, true, true, false, false, false, false, false, false]
abbrev otesB32 : Array Bool := #[true, true, true, true, true, true, true, true, true, true, true, true, true, true, true, true, true, true, true, true, true, true, true, true, true, true, true, true, true, true, true, true, true, true, true, true, true, true, true, true, true, false, false]
abbrev otesB33 : Array Bool := #[true, true, true, true, true, true, true, true, true, true, true, true, true, true, true, true, true, true, true, true, true, true, true, true, true, true, true, true, true, true, true, true, true, true, true, true, true, true, true, true, true, true, false]
abbrev otesB34 : Array Bool := #[true, true, true, true, true, true, true, true, false, false, false, false, false, false, false, false, false, false, false, false, false, false, false, false, false, false, false, false, false, false, false, false, false, false, false, false, false, false, false, false, false, false, false]
abbrev otesB35 : Array Bool := #[true, true, true, true, true, true, true, true, true, false, false, false, false, false, false, false, false, false, false, false, false, false, false, false, false, false, false, false, false, false, false, false, false, false, false, false, false, false, false, false, false, false, false]
abbrev otesB36 : Array Bool := #[true, true, true, true, true, true, true, true, true, true, false, false, false, false, false, false, false, false, false, false, false, false, false, false, false, false, false, false, false, false, false, false, false, false, false, false, false, false, false, false, false, false, false]
abbrev otesB37 : Array Bool := #[true, true, true, true, true, true, true, true, true, true, true, false, false, false, false, false, false, false, false, false, false, false, false, false, false, false, false, false, false, false, false, false, false, false, false, false, false, false, false, false, false, false, false]
abbrev otesB38 : Array Bool := #[true, true, true, true, true, true, true, true, true, true, true, true, true, true, true, true, true, false, false, false, false, false, false, false, false, false, false, false, false, false, false, false, false, false, false, false, false, false, false, false, false, false, false]
abbrev otesB39 : Array Bool := #[true, true, true, true, true, true, true, true, true, true, true, true, true, true, true, true, true, true, true, true, true, true, false, false, false, false, false, false, false, false, false, false, false, false, false, false, false, false, false, false, false, false, false]
abbrev otesB40 : Array Bool := #[true, true, true, true, true, true, true, true, true, true, true, true, true, true, true, true, true, true, true, true, true, true, true, true, true, true, true, false, false, false, false, false, false, false, false, false, false, false, false, false, false, false, false]
abbrev otesB41 : Array Bool := #[true, true, true, true, true, true, true, true, true, true, true, true, true, true, true, true, true, true, true, true, true, true, true, true, true, true, true, true, true, true, true, true, true, true, true, true, true, true, false, false, false, false, false]
abbrev otesB42 : Array Bool := #[true, true, true, true, true, true, true, true, true, true, true, true, true, true, true, true, true, true, true, true, true, true, true, true, true, true, true, true, true, true, true, true, true, true, true, true, true, true, true, false, false, false, false]
abbrev otesB43 : Array Bool := #[true, true, true, true, true, true, true, true, true, true, true, true, true, true, true, true, true, true, true, true, true, true, true, true, true, true, true, true, true, true, true, true, true, true, true, true, true, true, true, true, false, false, false]
abbrev otesB44 : Array Bool := #[true, true, true, false, false, false, false, false, false, false, false, false, false, false, false, false, false, false, false, false, false, false, false, false, false, false, false, false, false, false, false, false, false, false, false, false, false, false, false, false, false, false, false]
abbrev otesB45 : Array Bool := #[false, false, false, false, false, false, false, false, false, false, false, false, false, false, false, false, false, false, false, false, false, false, false, false, false, false, false, false, false, false, false, false, false, false, false, false, false, false, false, false, false, false, false]
def variorumref11_Notes.l0 : Nat → List (S104) → Int → Option (Bool)
 | 0, _, _ => none
 | k + 1, x0, x3 => if x3 < (x0.length : Int) then (if 0 ≤ x3 then (if ((rd_T104 x0 x3).f0.f0) < 0 then (some false) else (if ((rd_T104 x0 x3).f0.f0) > ((rd_T104 x0 x3).f0.f1) then (some false) else (if ((rd_T104 x0 x3).f0.f1) > 16777216 then (some false) else (if ((rd_T104 x0 x3).f1) < 0 then (some false) else (if ((rd_T104 x0 x3).f1) > 65536 then (some false) else (if x3 > 0 then (if 0 ≤ (wrap64 (x3 - 1)) then (if (wrap64 (x3 - 1)) < (x0.length : Int) then ((variorumref11_Less.f ((rd_T104 x0 (wrap64 (x3 - 1))).f0.f0) ((rd_T104 x0 (wrap64 (x3 - 1))).f0.f1) ((rd_T104 x0 (wrap64 (x3 - 1))).f1) ((rd_T104 x0 x3).f0.f0) ((rd_T104 x0 x3).f0.f1) ((rd_T104 x0 x3).f1)).bind fun t283 => (if t283 = true then (variorumref11_Notes.l0 k x0 (wrap64 (x3 + 1))) else (some false))) else (none)) else (none)) else (variorumref11_Notes.l0 k x0 (wrap64 (x3 + 1))))))))) else (none)) else (some true)
def variorumref11_Notes.f (k : Nat) (l0 : List (S104)) : Option (Bool) := if (l0.length : Int) > 4096 then (some false) else (variorumref11_Notes.l0 k l0 0)
def variorumref11_Notes.T7 : Bool × List (List Nat × List Nat) := (true, [([], []), ([0], [0]), ([1], [1]), ([2], [2]), ([3], [3]), ([4], [4]), ([5, 4], [4, 5]), ([6, 4], [4, 6]), ([4], [4]), ([8, 4], [4, 8]), ([9, 4], [4, 9]), ([7, 10, 4], [4, 7, 10]), ([4, 11], [4, 11]), ([12, 4], [12]), ([13], [13]), ([14, 13], [13, 14]), ([15, 13], [13, 15]), ([16, 13], [13, 16]), ([13, 17], [13, 17]), ([18, 13], [18]), ([19], [19]), ([20, 19], [19, 20]), ([21, 19], [19, 21]), ([19, 22], [19, 22]), ([23, 19], [23]), ([24], [24]), ([25, 24], [24, 25]), ([26, 24], [24, 26]), ([24, 27], [24, 27]), ([28, 24], [28]), ([29], [29]), ([30, 29], [29, 30]), ([31, 29, 29], [29, 31]), ([32], [32]), ([32], [32]), ([34, 32], [32, 34]), ([33, 35, 32], [32, 33, 35]), ([36, 32], [32, 36]), ([32], [32]), ([37, 38, 32, 32], [32, 37, 38]), ([39, 32], [32, 39]), ([32, 40, 29], [29, 32, 40]), ([29, 41], [29, 41])])
def variorumref11_Notes.B7 : List Nat := [0, 1, 3, 7, 15, 31, 63, 127, 31, 287, 799, 2047, 4095, 8191, 16383, 32767, 65535, 131071, 262143, 524287, 1048575, 2097151, 4194303, 8388607, 16777215, 33554431, 67108863, 134217727, 268435455, 536870911, 1073741823, 2147483647, 4294967295, 8589934591, 8589934591, 25769803775, 68719476735, 137438953471, 8589934591, 549755813887, 1099511627775, 2199023255551, 4398046511103]
theorem variorumref11_Notes.tab7 : rtab .any (opsOf Try.f70 7) = variorumref11_Notes.T7 := by kernel_rfl
theorem variorumref11_Notes.bits7 : waitsOk variorumref11_Notes.T7.2 variorumref11_Notes.B7 = true := by kernel_rfl
set_option maxHeartbeats 8000000 in
set_option maxRecDepth 100000 in
theorem variorumref11_Notes.calls (k : Nat) (A0 : Option Addr) (c0 : Nat) (l0 : List (S104)) (r : Bool) (w : World) (hr0 : Kd.C k104 w A0 l0.length l0) (hc0 : l0.length ≤ c0) (h : variorumref11_Notes.f k l0 = some r) :
  Calls Try.prog 70 #[.slice A0 l0.length c0] w fun e w' => e = .returned (.bool r) ∧ Below w.heap.size w w' := by
 have hu104 := Try.underlying104
 have HR0 := Aside0.mk hr0
 have HC0 := Aside0.mk hc0
 clear hr0 hc0
 have HB := Aside0.mk (Below.refl w.heap.size w)
 have H : (if (l0.length : Int) > 4096 then (some false) else (variorumref11_Notes.l0 k l0 0)) = some r := h
 clear h
 by_cases c2 : (l0.length : Int) > 4096
 ·rw [if_pos c2] at H
  have c2b0 : decide (4096 < (l0.length : Int)) = true := decide_eq_true c2
  have c2b1 : decide (4096 < l0.length) = true := decide_eq_true (by omega)
  clear c2
  obtain rfl := Option.some.inj H
  go_enter Try.func70, Try.ntmps70
  go_wp2
  go_ret
  exact ⟨by (rfl), by repeat ((with_reducible (exact HB.out)))⟩
 ·rw [if_neg c2] at H
  have c2b0 : decide (4096 < (l0.length : Int)) = false := decide_eq_false c2
  have c2b1 : decide (4096 < l0.length) = false := decide_eq_false (by omega)
  clear c2
  have H' := Aside0.mk H
  clear H
  go_enter Try.func70, Try.ntmps70
  go_wp2
  go_loopg [3] k (fun kq v3 w' => ∃ (x3_1 : Int), v3 = .int .i64 x3_1 ∧ Aside0 (variorumref11_Notes.l0 kq l0 x3_1 = some r) ∧ Aside0 (kq ≤ k) ∧ Aside0 (Below w.heap.size w w'))
  case atStart => exact ⟨(0), (by (rfl)), H', ⟨Nat.le_refl _⟩, ⟨by repeat ((with_reducible (exact HB.out)))⟩⟩
  case round =>
   clear H'
   try clear c2
   try clear c2b0
   try clear c2b1
   try clear p2
   obtain ⟨x3_1, rfl, HA, HK1, HB⟩ := hrel
   cases gk with
   | zero => exact absurd HA.out (by simp [variorumref11_Notes.l0])
   | succ k1 =>
    have H := HA.out
    clear HA
    simp only [variorumref11_Notes.l0] at H
    by_cases c3 : x3_1 < (l0.length : Int)
    ·rw [if_pos c3] at H
     have c3b0 : decide (x3_1 < (l0.length : Int)) = true := decide_eq_true c3
     clear c3
     by_cases c4 : 0 ≤ x3_1
     ·rw [if_pos c4] at H
      have c4b0 : decide (0 ≤ x3_1) = true := decide_eq_true c4
      clear c4
      by_cases c5 : ((rd_T104 l0 x3_1).f0.f0) < 0
      ·rw [if_pos c5] at H
       have c5b0 : decide (((rd_T104 l0 x3_1).f0.f0) < 0) = true := decide_eq_true c5
       clear c5
       obtain rfl := Option.some.inj H
       have p280 : 0 ≤ (x3_1 : Int) := of_decide_eq_true (by (with_reducible assumption))
       have q280 : x3_1 < (l0.length : Int) := of_decide_eq_true (by (with_reducible assumption))
       obtain ⟨ad280, e280, hx280_0, hx280_1, hx280_2⟩ := at_T104 HR0.out x3_1 p280 q280
       cases e280
       replace hx280_0 := (HB.out.cell (World.block_lt_of_cell? w _ hx280_0)).trans hx280_0
       replace hx280_1 := (HB.out.cell (World.block_lt_of_cell? w _ hx280_1)).trans hx280_1
       replace hx280_2 := (HB.out.cell (World.block_lt_of_cell? w _ hx280_2)).trans hx280_2
       replace p280 := eq_true p280
       replace q280 := eq_true q280
       try go_wp2_with (first | ((with_reducible refine gate_dst (N := 4) rfl ?_); refine box_event ?hg (N := 4) ?hd (cs := #[.int .i64 0, .int .i64 0, .int .i64 0]) (t := 104) ?hr ?_; (case hd => rfl); (case hg => rfl); (case hr => (go_simp; done)); intro gb281 hg w6 hbox hb; have n0_ := Aside0.mk (below_step (by repeat ((with_reducible (exact HB.out)))) hb); have n1_ := Aside0.mk (hbox); have n2_ := Aside0.mk ((by rw [hg]; exact (below_size (by repeat ((with_reducible (exact HB.out))))) : w.heap.size ≤ gb281)); have n3_ := Aside0.mk ((by rw [hg]; exact (below_size (by repeat ((with_reducible (exact HB.out))))) : w.heap.size ≤ gb281)); clear HB; have HB := n0_; have BK281 := n1_; have GW281 := n2_; have GE281 := n3_; clear n0_ n1_ n2_ n3_; clear hb hbox hg; have hcz7_0 : w6.cell? ⟨gb281, 0, none⟩ = some (.int .i64 0) := (blk_cell BK281.out 0).trans rfl; have hcz7_1 : w6.cell? ⟨gb281, 1, none⟩ = some (.int .i64 0) := (blk_cell BK281.out 1).trans rfl; have hcz7_2 : w6.cell? ⟨gb281, 2, none⟩ = some (.int .i64 0) := (blk_cell BK281.out 2).trans rfl; have hfz7_0 := blk_frozen BK281.out 0; have hfz7_1 := blk_frozen BK281.out 1; have hfz7_2 := blk_frozen BK281.out 2))
       have n0_ : Aside0 ((((w6.setCell ⟨gb281, 0, none⟩ (.int .i64 ((rd_T104 l0 x3_1).f0.f0))).setCell ⟨gb281, 1, none⟩ (.int .i64 ((rd_T104 l0 x3_1).f0.f1))).setCell ⟨gb281, 2, none⟩ (.int .i64 ((rd_T104 l0 x3_1).f1))).heap[gb281]? = some (.cells #[.int .i64 ((rd_T104 l0 x3_1).f0.f0), .int .i64 ((rd_T104 l0 x3_1).f0.f1), .int .i64 ((rd_T104 l0 x3_1).f1)] 104 (0, 0))) := ⟨by (with_reducible repeat ((refine blk_drew ?_))); refine blk_put (cs := #[.int .i64 ((rd_T104 l0 x3_1).f0.f0), .int .i64 ((rd_T104 l0 x3_1).f0.f1), .int .i64 0]) ?_ 2 _ rfl; (with_reducible repeat ((refine blk_drew ?_))); refine blk_put (cs := #[.int .i64 ((rd_T104 l0 x3_1).f0.f0), .int .i64 0, .int .i64 0]) ?_ 1 _ rfl; (with_reducible repeat ((refine blk_drew ?_))); refine blk_put (cs := #[.int .i64 0, .int .i64 0, .int .i64 0]) ?_ 0 _ rfl; (with_reducible repeat ((refine blk_drew ?_))); exact BK281.out⟩
       have n1_ : Aside0 (Below w.heap.size w (((w6.setCell ⟨gb281, 0, none⟩ (.int .i64 ((rd_T104 l0 x3_1).f0.f0))).setCell ⟨gb281, 1, none⟩ (.int .i64 ((rd_T104 l0 x3_1).f0.f1))).setCell ⟨gb281, 2, none⟩ (.int .i64 ((rd_T104 l0 x3_1).f1)))) := ⟨by repeat ((with_reducible first | exact HB.out | refine below_set ?_ GE281.out))⟩
       (try clear BK281)
       (try clear HB)
       generalize (((w6.setCell ⟨gb281, 0, none⟩ (.int .i64 ((rd_T104 l0 x3_1).f0.f0))).setCell ⟨gb281, 1, none⟩ (.int .i64 ((rd_T104 l0 x3_1).f0.f1))).setCell ⟨gb281, 2, none⟩ (.int .i64 ((rd_T104 l0 x3_1).f1))) = w8 at n0_ n1_ ⊢
       have BK281 := n0_
       have HB := n1_
       clear n0_ n1_
       have n0_ := Aside0.mk (blk_drew BK281.out)
       have n1_ := Aside0.mk (below_drew1 HB.out)
       clear BK281
       clear HB
       have BK281 := n0_
       have HB := n1_
       clear n0_ n1_
       refine start_ (n := 43) (S := fun w' => w'.cell? ⟨gb281, 0, none⟩ = some (.int .i64 ((rd_T104 l0 x3_1).f0.f0)) ∧ w'.cell? ⟨gb281, 1, none⟩ = some (.int .i64 ((rd_T104 l0 x3_1).f0.f1)) ∧ w'.cell? ⟨gb281, 2, none⟩ = some (.int .i64 ((rd_T104 l0 x3_1).f1))) (ds := []) otesB45 (by kernel_rfl) rfl rfl ⟨(blk_cell BK281.out 0).trans rfl, (blk_cell BK281.out 1).trans rfl, (blk_cell BK281.out 2).trans rfl⟩ (fun hHeld => ?_); refine with_tabW variorumref11_Notes.tab7 variorumref11_Notes.bits7 (fun HT_ HW_ => ?_)
       generalize w8.drew = w9 at BK281 HB hHeld ⊢
       refine pu_ 0 18 otesB0 HT_ ?_
       refine pu_ 1 19 otesB1 HT_ ?_
       refine pt_ 2 20 otesB44 HT_ HW_ rfl hHeld (by rintro w' ⟨s0, s1, s2⟩; go_simp; with_reducible rfl) ?_
       refine pu_ 3 21 otesB2 HT_ ?_
       refine pu_ 4 22 otesB3 HT_ ?_
       refine pn_ 5 23 otesB13 HT_ ?_
       refine pn_ 6 24 otesB14 HT_ ?_
       refine pn_ 7 25 otesB34 HT_ ?_
       refine pn_ 8 26 otesB35 HT_ ?_
       refine pn_ 9 27 otesB36 HT_ ?_
       refine pn_ 10 28 otesB37 HT_ ?_
       refine pn_ 11 29 otesB17 HT_ ?_
       refine pu_ 12 30 otesB4 HT_ ?_
       refine pu_ 13 31 otesB5 HT_ ?_
       refine pn_ 14 32 otesB18 HT_ ?_
       refine pn_ 15 33 otesB19 HT_ ?_
       refine pn_ 16 34 otesB38 HT_ ?_
       refine pn_ 17 35 otesB20 HT_ ?_
       refine pu_ 18 36 otesB6 HT_ ?_
       refine pu_ 19 37 otesB7 HT_ ?_
       refine pn_ 20 38 otesB21 HT_ ?_
       refine pn_ 21 39 otesB39 HT_ ?_
       refine pn_ 22 40 otesB22 HT_ ?_
       refine pu_ 23 41 otesB8 HT_ ?_
       refine pu_ 24 42 otesB9 HT_ ?_
       refine pn_ 25 43 otesB23 HT_ ?_
       refine pn_ 26 44 otesB40 HT_ ?_
       refine pn_ 27 45 otesB24 HT_ ?_
       refine pu_ 28 46 otesB10 HT_ ?_
       refine pu_ 29 47 otesB11 HT_ ?_
       refine pn_ 30 48 otesB25 HT_ ?_
       refine pn_ 31 49 otesB26 HT_ ?_
       refine pn_ 32 50 otesB27 HT_ ?_
       refine pn_ 33 51 otesB28 HT_ ?_
       refine pn_ 34 52 otesB29 HT_ ?_
       refine pn_ 35 53 otesB30 HT_ ?_
       refine pn_ 36 54 otesB31 HT_ ?_
       refine pn_ 37 55 otesB41 HT_ ?_
       refine pn_ 38 56 otesB42 HT_ ?_
       refine pn_ 39 57 otesB43 HT_ ?_
       refine pn_ 40 58 otesB32 HT_ ?_
       refine pn_ 41 59 otesB33 HT_ ?_
       refine pu_ 42 60 otesB12 HT_ ?_
       refine done_ (done_of HT_.out (by kernel_rfl)) ?_
       try go_wp2
       go_ret
       exact ⟨by (rfl), by repeat ((with_reducible (exact HB.out)))⟩
      ·rw [if_neg c5] at H
       have c5b0 : decide (((rd_T104 l0 x3_1).f0.f0) < 0) = false := decide_eq_false c5
       clear c5
       by_cases c10 : ((rd_T104 l0 x3_1).f0.f0) > ((rd_T104 l0 x3_1).f0.f1)
       ·rw [if_pos c10] at H
        have c10b0 : decide (((rd_T104 l0 x3_1).f0.f1) < ((rd_T104 l0 x3_1).f0.f0)) = true := decide_eq_true c10
        clear c10
        obtain rfl := Option.some.inj H
        have p280 : 0 ≤ (x3_1 : Int) := of_decide_eq_true (by (with_reducible assumption))
        have q280 : x3_1 < (l0.length : Int) := of_decide_eq_true (by (with_reducible assumption))
        obtain ⟨ad280, e280, hx280_0, hx280_1, hx280_2⟩ := at_T104 HR0.out x3_1 p280 q280
        cases e280
        replace hx280_0 := (HB.out.cell (World.block_lt_of_cell? w _ hx280_0)).trans hx280_0
        replace hx280_1 := (HB.out.cell (World.block_lt_of_cell? w _ hx280_1)).trans hx280_1
        replace hx280_2 := (HB.out.cell (World.block_lt_of_cell? w _ hx280_2)).trans hx280_2
        replace p280 := eq_true p280
        replace q280 := eq_true q280
        try go_wp2_with (first | ((with_reducible refine gate_dst (N := 4) rfl ?_); refine box_event ?hg (N := 4) ?hd (cs := #[.int .i64 0, .int .i64 0, .int .i64 0]) (t := 104) ?hr ?_; (case hd => rfl); (case hg => rfl); (case hr => (go_simp; done)); intro gb281 hg w11 hbox hb; have n0_ := Aside0.mk (below_step (by repeat ((with_reducible (exact HB.out)))) hb); have n1_ := Aside0.mk (hbox); have n2_ := Aside0.mk ((by rw [hg]; exact (below_size (by repeat ((with_reducible (exact HB.out))))) : w.heap.size ≤ gb281)); have n3_ := Aside0.mk ((by rw [hg]; exact (below_size (by repeat ((with_reducible (exact HB.out))))) : w.heap.size ≤ gb281)); clear HB; have HB := n0_; have BK281 := n1_; have GW281 := n2_; have GE281 := n3_; clear n0_ n1_ n2_ n3_; clear hb hbox hg; have hcz12_0 : w11.cell? ⟨gb281, 0, none⟩ = some (.int .i64 0) := (blk_cell BK281.out 0).trans rfl; have hcz12_1 : w11.cell? ⟨gb281, 1, none⟩ = some (.int .i64 0) := (blk_cell BK281.out 1).trans rfl; have hcz12_2 : w11.cell? ⟨gb281, 2, none⟩ = some (.int .i64 0) := (blk_cell BK281.out 2).trans rfl; have hfz12_0 := blk_frozen BK281.out 0; have hfz12_1 := blk_frozen BK281.out 1; have hfz12_2 := blk_frozen BK281.out 2))
        have n0_ : Aside0 ((((w11.setCell ⟨gb281, 0, none⟩ (.int .i64 ((rd_T104 l0 x3_1).f0.f0))).setCell ⟨gb281, 1, none⟩ (.int .i64 ((rd_T104 l0 x3_1).f0.f1))).setCell ⟨gb281, 2, none⟩ (.int .i64 ((rd_T104 l0 x3_1).f1))).heap[gb281]? = some (.cells #[.int .i64 ((rd_T104 l0 x3_1).f0.f0), .int .i64 ((rd_T104 l0 x3_1).f0.f1), .int .i64 ((rd_T104 l0 x3_1).f1)] 104 (0, 0))) := ⟨by (with_reducible repeat ((refine blk_drew ?_))); refine blk_put (cs := #[.int .i64 ((rd_T104 l0 x3_1).f0.f0), .int .i64 ((rd_T104 l0 x3_1).f0.f1), .int .i64 0]) ?_ 2 _ rfl; (with_reducible repeat ((refine blk_drew ?_))); refine blk_put (cs := #[.int .i64 ((rd_T104 l0 x3_1).f0.f0), .int .i64 0, .int .i64 0]) ?_ 1 _ rfl; (with_reducible repeat ((refine blk_drew ?_))); refine blk_put (cs := #[.int .i64 0, .int .i64 0, .int .i64 0]) ?_ 0 _ rfl; (with_reducible repeat ((refine blk_drew ?_))); exact BK281.out⟩
        have n1_ : Aside0 (Below w.heap.size w (((w11.setCell ⟨gb281, 0, none⟩ (.int .i64 ((rd_T104 l0 x3_1).f0.f0))).setCell ⟨gb281, 1, none⟩ (.int .i64 ((rd_T104 l0 x3_1).f0.f1))).setCell ⟨gb281, 2, none⟩ (.int .i64 ((rd_T104 l0 x3_1).f1)))) := ⟨by repeat ((with_reducible first | exact HB.out | refine below_set ?_ GE281.out))⟩
        (try clear BK281)
        (try clear HB)
        generalize (((w11.setCell ⟨gb281, 0, none⟩ (.int .i64 ((rd_T104 l0 x3_1).f0.f0))).setCell ⟨gb281, 1, none⟩ (.int .i64 ((rd_T104 l0 x3_1).f0.f1))).setCell ⟨gb281, 2, none⟩ (.int .i64 ((rd_T104 l0 x3_1).f1))) = w13 at n0_ n1_ ⊢
        have BK281 := n0_
        have HB := n1_
        clear n0_ n1_
        have n0_ := Aside0.mk (blk_drew BK281.out)
        have n1_ := Aside0.mk (below_drew1 HB.out)
        clear BK281
        clear HB
        have BK281 := n0_
        have HB := n1_
        clear n0_ n1_
        refine start_ (n := 43) (S := fun w' => w'.cell? ⟨gb281, 0, none⟩ = some (.int .i64 ((rd_T104 l0 x3_1).f0.f0)) ∧ w'.cell? ⟨gb281, 1, none⟩ = some (.int .i64 ((rd_T104 l0 x3_1).f0.f1)) ∧ w'.cell? ⟨gb281, 2, none⟩ = some (.int .i64 ((rd_T104 l0 x3_1).f1))) (ds := []) otesB45 (by kernel_rfl) rfl rfl ⟨(blk_cell BK281.out 0).trans rfl, (blk_cell BK281.out 1).trans rfl, (blk_cell BK281.out 2).trans rfl⟩ (fun hHeld => ?_); refine with_tabW variorumref11_Notes.tab7 variorumref11_Notes.bits7 (fun HT_ HW_ => ?_)
        generalize w13.drew = w14 at BK281 HB hHeld ⊢
        refine pu_ 0 18 otesB0 HT_ ?_
        refine pu_ 1 19 otesB1 HT_ ?_
        refine pt_ 2 20 otesB44 HT_ HW_ rfl hHeld (by rintro w' ⟨s0, s1, s2⟩; go_simp; with_reducible rfl) ?_
        refine pu_ 3 21 otesB2 HT_ ?_
        refine pu_ 4 22 otesB3 HT_ ?_
        refine pu_ 5 23 otesB13 HT_ ?_
        refine pu_ 6 24 otesB14 HT_ ?_
        refine pu_ 8 26 otesB15 HT_ ?_
        refine pu_ 9 27 otesB16 HT_ ?_
        refine pt_ 7 25 otesB36 HT_ HW_ rfl hHeld (by rintro w' ⟨s0, s1, s2⟩; go_simp; with_reducible rfl) ?_
        refine pt_ 10 28 otesB37 HT_ HW_ rfl hHeld (by rintro w' ⟨s0, s1, s2⟩; go_simp; with_reducible rfl) ?_
        refine pu_ 11 29 otesB17 HT_ ?_
        refine pu_ 12 30 otesB4 HT_ ?_
        refine pu_ 13 31 otesB5 HT_ ?_
        refine pn_ 14 32 otesB18 HT_ ?_
        refine pn_ 15 33 otesB19 HT_ ?_
        refine pn_ 16 34 otesB38 HT_ ?_
        refine pn_ 17 35 otesB20 HT_ ?_
        refine pu_ 18 36 otesB6 HT_ ?_
        refine pu_ 19 37 otesB7 HT_ ?_
        refine pn_ 20 38 otesB21 HT_ ?_
        refine pn_ 21 39 otesB39 HT_ ?_
        refine pn_ 22 40 otesB22 HT_ ?_
        refine pu_ 23 41 otesB8 HT_ ?_
        refine pu_ 24 42 otesB9 HT_ ?_
        refine pn_ 25 43 otesB23 HT_ ?_
        refine pn_ 26 44 otesB40 HT_ ?_
        refine pn_ 27 45 otesB24 HT_ ?_
        refine pu_ 28 46 otesB10 HT_ ?_
        refine pu_ 29 47 otesB11 HT_ ?_
        refine pn_ 30 48 otesB25 HT_ ?_
        refine pn_ 31 49 otesB26 HT_ ?_
        refine pn_ 32 50 otesB27 HT_ ?_
        refine pn_ 33 51 otesB28 HT_ ?_
        refine pn_ 34 52 otesB29 HT_ ?_
        refine pn_ 35 53 otesB30 HT_ ?_
        refine pn_ 36 54 otesB31 HT_ ?_
        refine pn_ 37 55 otesB41 HT_ ?_
        refine pn_ 38 56 otesB42 HT_ ?_
        refine pn_ 39 57 otesB43 HT_ ?_
        refine pn_ 40 58 otesB32 HT_ ?_
        refine pn_ 41 59 otesB33 HT_ ?_
        refine pu_ 42 60 otesB12 HT_ ?_
        refine done_ (done_of HT_.out (by kernel_rfl)) ?_
        try go_wp2
        go_ret
        exact ⟨by (rfl), by repeat ((with_reducible (exact HB.out)))⟩
       ·rw [if_neg c10] at H
        have c10b0 : decide (((rd_T104 l0 x3_1).f0.f1) < ((rd_T104 l0 x3_1).f0.f0)) = false := decide_eq_false c10
        clear c10
        by_cases c15 : ((rd_T104 l0 x3_1).f0.f1) > 16777216
        ·rw [if_pos c15] at H
         have c15b0 : decide (16777216 < ((rd_T104 l0 x3_1).f0.f1)) = true := decide_eq_true c15
         clear c15
         obtain rfl := Option.some.inj H
         have p280 : 0 ≤ (x3_1 : Int) := of_decide_eq_true (by (with_reducible assumption))
         have q280 : x3_1 < (l0.length : Int) := of_decide_eq_true (by (with_reducible assumption))
         obtain ⟨ad280, e280, hx280_0, hx280_1, hx280_2⟩ := at_T104 HR0.out x3_1 p280 q280
         cases e280
         replace hx280_0 := (HB.out.cell (World.block_lt_of_cell? w _ hx280_0)).trans hx280_0
         replace hx280_1 := (HB.out.cell (World.block_lt_of_cell? w _ hx280_1)).trans hx280_1
         replace hx280_2 := (HB.out.cell (World.block_lt_of_cell? w _ hx280_2)).trans hx280_2
         replace p280 := eq_true p280
         replace q280 := eq_true q280
         try go_wp2_with (first | ((with_reducible refine gate_dst (N := 4) rfl ?_); refine box_event ?hg (N := 4) ?hd (cs := #[.int .i64 0, .int .i64 0, .int .i64 0]) (t := 104) ?hr ?_; (case hd => rfl); (case hg => rfl); (case hr => (go_simp; done)); intro gb281 hg w16 hbox hb; have n0_ := Aside0.mk (below_step (by repeat ((with_reducible (exact HB.out)))) hb); have n1_ := Aside0.mk (hbox); have n2_ := Aside0.mk ((by rw [hg]; exact (below_size (by repeat ((with_reducible (exact HB.out))))) : w.heap.size ≤ gb281)); have n3_ := Aside0.mk ((by rw [hg]; exact (below_size (by repeat ((with_reducible (exact HB.out))))) : w.heap.size ≤ gb281)); clear HB; have HB := n0_; have BK281 := n1_; have GW281 := n2_; have GE281 := n3_; clear n0_ n1_ n2_ n3_; clear hb hbox hg; have hcz17_0 : w16.cell? ⟨gb281, 0, none⟩ = some (.int .i64 0) := (blk_cell BK281.out 0).trans rfl; have hcz17_1 : w16.cell? ⟨gb281, 1, none⟩ = some (.int .i64 0) := (blk_cell BK281.out 1).trans rfl; have hcz17_2 : w16.cell? ⟨gb281, 2, none⟩ = some (.int .i64 0) := (blk_cell BK281.out 2).trans rfl; have hfz17_0 := blk_frozen BK281.out 0; have hfz17_1 := blk_frozen BK281.out 1; have hfz17_2 := blk_frozen BK281.out 2))
         have n0_ : Aside0 ((((w16.setCell ⟨gb281, 0, none⟩ (.int .i64 ((rd_T104 l0 x3_1).f0.f0))).setCell ⟨gb281, 1, none⟩ (.int .i64 ((rd_T104 l0 x3_1).f0.f1))).setCell ⟨gb281, 2, none⟩ (.int .i64 ((rd_T104 l0 x3_1).f1))).heap[gb281]? = some (.cells #[.int .i64 ((rd_T104 l0 x3_1).f0.f0), .int .i64 ((rd_T104 l0 x3_1).f0.f1), .int .i64 ((rd_T104 l0 x3_1).f1)] 104 (0, 0))) := ⟨by (with_reducible repeat ((refine blk_drew ?_))); refine blk_put (cs := #[.int .i64 ((rd_T104 l0 x3_1).f0.f0), .int .i64 ((rd_T104 l0 x3_1).f0.f1), .int .i64 0]) ?_ 2 _ rfl; (with_reducible repeat ((refine blk_drew ?_))); refine blk_put (cs := #[.int .i64 ((rd_T104 l0 x3_1).f0.f0), .int .i64 0, .int .i64 0]) ?_ 1 _ rfl; (with_reducible repeat ((refine blk_drew ?_))); refine blk_put (cs := #[.int .i64 0, .int .i64 0, .int .i64 0]) ?_ 0 _ rfl; (with_reducible repeat ((refine blk_drew ?_))); exact BK281.out⟩
         have n1_ : Aside0 (Below w.heap.size w (((w16.setCell ⟨gb281, 0, none⟩ (.int .i64 ((rd_T104 l0 x3_1).f0.f0))).setCell ⟨gb281, 1, none⟩ (.int .i64 ((rd_T104 l0 x3_1).f0.f1))).setCell ⟨gb281, 2, none⟩ (.int .i64 ((rd_T104 l0 x3_1).f1)))) := ⟨by repeat ((with_reducible first | exact HB.out | refine below_set ?_ GE281.out))⟩
         (try clear BK281)
         (try clear HB)
         generalize (((w16.setCell ⟨gb281, 0, none⟩ (.int .i64 ((rd_T104 l0 x3_1).f0.f0))).setCell ⟨gb281, 1, none⟩ (.int .i64 ((rd_T104 l0 x3_1).f0.f1))).setCell ⟨gb281, 2, none⟩ (.int .i64 ((rd_T104 l0 x3_1).f1))) = w18 at n0_ n1_ ⊢
         have BK281 := n0_
         have HB := n1_
         clear n0_ n1_
         have n0_ := Aside0.mk (blk_drew BK281.out)
         have n1_ := Aside0.mk (below_drew1 HB.out)
         clear BK281
         clear HB
         have BK281 := n0_
         have HB := n1_
         clear n0_ n1_
         refine start_ (n := 43) (S := fun w' => w'.cell? ⟨gb281, 0, none⟩ = some (.int .i64 ((rd_T104 l0 x3_1).f0.f0)) ∧ w'.cell? ⟨gb281, 1, none⟩ = some (.int .i64 ((rd_T104 l0 x3_1).f0.f1)) ∧ w'.cell? ⟨gb281, 2, none⟩ = some (.int .i64 ((rd_T104 l0 x3_1).f1))) (ds := []) otesB45 (by kernel_rfl) rfl rfl ⟨(blk_cell BK281.out 0).trans rfl, (blk_cell BK281.out 1).trans rfl, (blk_cell BK281.out 2).trans rfl⟩ (fun hHeld => ?_); refine with_tabW variorumref11_Notes.tab7 variorumref11_Notes.bits7 (fun HT_ HW_ => ?_)
         generalize w18.drew = w19 at BK281 HB hHeld ⊢
         refine pu_ 0 18 otesB0 HT_ ?_
         refine pu_ 1 19 otesB1 HT_ ?_
         refine pt_ 2 20 otesB44 HT_ HW_ rfl hHeld (by rintro w' ⟨s0, s1, s2⟩; go_simp; with_reducible rfl) ?_
         refine pu_ 3 21 otesB2 HT_ ?_
         refine pu_ 4 22 otesB3 HT_ ?_
         refine pu_ 5 23 otesB13 HT_ ?_
         refine pu_ 6 24 otesB14 HT_ ?_
         refine pu_ 8 26 otesB15 HT_ ?_
         refine pu_ 9 27 otesB16 HT_ ?_
         refine pt_ 7 25 otesB36 HT_ HW_ rfl hHeld (by rintro w' ⟨s0, s1, s2⟩; go_simp; with_reducible rfl) ?_
         refine pt_ 10 28 otesB37 HT_ HW_ rfl hHeld (by rintro w' ⟨s0, s1, s2⟩; go_simp; with_reducible rfl) ?_
         refine pu_ 11 29 otesB17 HT_ ?_
         refine pu_ 12 30 otesB4 HT_ ?_
         refine pu_ 13 31 otesB5 HT_ ?_
         refine pu_ 14 32 otesB18 HT_ ?_
         refine pu_ 15 33 otesB19 HT_ ?_
         refine pt_ 16 34 otesB38 HT_ HW_ rfl hHeld (by rintro w' ⟨s0, s1, s2⟩; go_simp; with_reducible rfl) ?_
         refine pu_ 17 35 otesB20 HT_ ?_
         refine pu_ 18 36 otesB6 HT_ ?_
         refine pu_ 19 37 otesB7 HT_ ?_
         refine pn_ 20 38 otesB21 HT_ ?_
         refine pn_ 21 39 otesB39 HT_ ?_
         refine pn_ 22 40 otesB22 HT_ ?_
         refine pu_ 23 41 otesB8 HT_ ?_
         refine pu_ 24 42 otesB9 HT_ ?_
         refine pn_ 25 43 otesB23 HT_ ?_
         refine pn_ 26 44 otesB40 HT_ ?_
         refine pn_ 27 45 otesB24 HT_ ?_
         refine pu_ 28 46 otesB10 HT_ ?_
         refine pu_ 29 47 otesB11 HT_ ?_
         refine pn_ 30 48 otesB25 HT_ ?_
         refine pn_ 31 49 otesB26 HT_ ?_
         refine pn_ 32 50 otesB27 HT_ ?_
         refine pn_ 33 51 otesB28 HT_ ?_
         refine pn_ 34 52 otesB29 HT_ ?_
         refine pn_ 35 53 otesB30 HT_ ?_
         refine pn_ 36 54 otesB31 HT_ ?_
         refine pn_ 37 55 otesB41 HT_ ?_
         refine pn_ 38 56 otesB42 HT_ ?_
         refine pn_ 39 57 otesB43 HT_ ?_
         refine pn_ 40 58 otesB32 HT_ ?_
         refine pn_ 41 59 otesB33 HT_ ?_
         refine pu_ 42 60 otesB12 HT_ ?_
         refine done_ (done_of HT_.out (by kernel_rfl)) ?_
         try go_wp2
         go_ret
         exact ⟨by (rfl), by repeat ((with_reducible (exact HB.out)))⟩
        ·rw [if_neg c15] at H
         have c15b0 : decide (16777216 < ((rd_T104 l0 x3_1).f0.f1)) = false := decide_eq_false c15
         clear c15
         by_cases c20 : ((rd_T104 l0 x3_1).f1) < 0
         ·rw [if_pos c20] at H
          have c20b0 : decide (((rd_T104 l0 x3_1).f1) < 0) = true := decide_eq_true c20
          clear c20
          obtain rfl := Option.some.inj H
          have p280 : 0 ≤ (x3_1 : Int) := of_decide_eq_true (by (with_reducible assumption))
          have q280 : x3_1 < (l0.length : Int) := of_decide_eq_true (by (with_reducible assumption))
          obtain ⟨ad280, e280, hx280_0, hx280_1, hx280_2⟩ := at_T104 HR0.out x3_1 p280 q280
          cases e280
          replace hx280_0 := (HB.out.cell (World.block_lt_of_cell? w _ hx280_0)).trans hx280_0
          replace hx280_1 := (HB.out.cell (World.block_lt_of_cell? w _ hx280_1)).trans hx280_1
          replace hx280_2 := (HB.out.cell (World.block_lt_of_cell? w _ hx280_2)).trans hx280_2
          replace p280 := eq_true p280
          replace q280 := eq_true q280
          try go_wp2_with (first | ((with_reducible refine gate_dst (N := 4) rfl ?_); refine box_event ?hg (N := 4) ?hd (cs := #[.int .i64 0, .int .i64 0, .int .i64 0]) (t := 104) ?hr ?_; (case hd => rfl); (case hg => rfl); (case hr => (go_simp; done)); intro gb281 hg w21 hbox hb; have n0_ := Aside0.mk (below_step (by repeat ((with_reducible (exact HB.out)))) hb); have n1_ := Aside0.mk (hbox); have n2_ := Aside0.mk ((by rw [hg]; exact (below_size (by repeat ((with_reducible (exact HB.out))))) : w.heap.size ≤ gb281)); have n3_ := Aside0.mk ((by rw [hg]; exact (below_size (by repeat ((with_reducible (exact HB.out))))) : w.heap.size ≤ gb281)); clear HB; have HB := n0_; have BK281 := n1_; have GW281 := n2_; have GE281 := n3_; clear n0_ n1_ n2_ n3_; clear hb hbox hg; have hcz22_0 : w21.cell? ⟨gb281, 0, none⟩ = some (.int .i64 0) := (blk_cell BK281.out 0).trans rfl; have hcz22_1 : w21.cell? ⟨gb281, 1, none⟩ = some (.int .i64 0) := (blk_cell BK281.out 1).trans rfl; have hcz22_2 : w21.cell? ⟨gb281, 2, none⟩ = some (.int .i64 0) := (blk_cell BK281.out 2).trans rfl; have hfz22_0 := blk_frozen BK281.out 0; have hfz22_1 := blk_frozen BK281.out 1; have hfz22_2 := blk_frozen BK281.out 2))
          have n0_ : Aside0 ((((w21.setCell ⟨gb281, 0, none⟩ (.int .i64 ((rd_T104 l0 x3_1).f0.f0))).setCell ⟨gb281, 1, none⟩ (.int .i64 ((rd_T104 l0 x3_1).f0.f1))).setCell ⟨gb281, 2, none⟩ (.int .i64 ((rd_T104 l0 x3_1).f1))).heap[gb281]? = some (.cells #[.int .i64 ((rd_T104 l0 x3_1).f0.f0), .int .i64 ((rd_T104 l0 x3_1).f0.f1), .int .i64 ((rd_T104 l0 x3_1).f1)] 104 (0, 0))) := ⟨by (with_reducible repeat ((refine blk_drew ?_))); refine blk_put (cs := #[.int .i64 ((rd_T104 l0 x3_1).f0.f0), .int .i64 ((rd_T104 l0 x3_1).f0.f1), .int .i64 0]) ?_ 2 _ rfl; (with_reducible repeat ((refine blk_drew ?_))); refine blk_put (cs := #[.int .i64 ((rd_T104 l0 x3_1).f0.f0), .int .i64 0, .int .i64 0]) ?_ 1 _ rfl; (with_reducible repeat ((refine blk_drew ?_))); refine blk_put (cs := #[.int .i64 0, .int .i64 0, .int .i64 0]) ?_ 0 _ rfl; (with_reducible repeat ((refine blk_drew ?_))); exact BK281.out⟩
          have n1_ : Aside0 (Below w.heap.size w (((w21.setCell ⟨gb281, 0, none⟩ (.int .i64 ((rd_T104 l0 x3_1).f0.f0))).setCell ⟨gb281, 1, none⟩ (.int .i64 ((rd_T104 l0 x3_1).f0.f1))).setCell ⟨gb281, 2, none⟩ (.int .i64 ((rd_T104 l0 x3_1).f1)))) := ⟨by repeat ((with_reducible first | exact HB.out | refine below_set ?_ GE281.out))⟩
          (try clear BK281)
          (try clear HB)
          generalize (((w21.setCell ⟨gb281, 0, none⟩ (.int .i64 ((rd_T104 l0 x3_1).f0.f0))).setCell ⟨gb281, 1, none⟩ (.int .i64 ((rd_T104 l0 x3_1).f0.f1))).setCell ⟨gb281, 2, none⟩ (.int .i64 ((rd_T104 l0 x3_1).f1))) = w23 at n0_ n1_ ⊢
          have BK281 := n0_
          have HB := n1_
          clear n0_ n1_
          have n0_ := Aside0.mk (blk_drew BK281.out)
          have n1_ := Aside0.mk (below_drew1 HB.out)
          clear BK281
          clear HB
          have BK281 := n0_
          have HB := n1_
          clear n0_ n1_
          refine start_ (n := 43) (S := fun w' => w'.cell? ⟨gb281, 0, none⟩ = some (.int .i64 ((rd_T104 l0 x3_1).f0.f0)) ∧ w'.cell? ⟨gb281, 1, none⟩ = some (.int .i64 ((rd_T104 l0 x3_1).f0.f1)) ∧ w'.cell? ⟨gb281, 2, none⟩ = some (.int .i64 ((rd_T104 l0 x3_1).f1))) (ds := []) otesB45 (by kernel_rfl) rfl rfl ⟨(blk_cell BK281.out 0).trans rfl, (blk_cell BK281.out 1).trans rfl, (blk_cell BK281.out 2).trans rfl⟩ (fun hHeld => ?_); refine with_tabW variorumref11_Notes.tab7 variorumref11_Notes.bits7 (fun HT_ HW_ => ?_)
          generalize w23.drew = w24 at BK281 HB hHeld ⊢
          refine pu_ 0 18 otesB0 HT_ ?_
          refine pu_ 1 19 otesB1 HT_ ?_
          refine pt_ 2 20 otesB44 HT_ HW_ rfl hHeld (by rintro w' ⟨s0, s1, s2⟩; go_simp; with_reducible rfl) ?_
          refine pu_ 3 21 otesB2 HT_ ?_
          refine pu_ 4 22 otesB3 HT_ ?_
          refine pu_ 5 23 otesB13 HT_ ?_
          refine pu_ 6 24 otesB14 HT_ ?_
          refine pu_ 8 26 otesB15 HT_ ?_
          refine pu_ 9 27 otesB16 HT_ ?_
          refine pt_ 7 25 otesB36 HT_ HW_ rfl hHeld (by rintro w' ⟨s0, s1, s2⟩; go_simp; with_reducible rfl) ?_
          refine pt_ 10 28 otesB37 HT_ HW_ rfl hHeld (by rintro w' ⟨s0, s1, s2⟩; go_simp; with_reducible rfl) ?_
          refine pu_ 11 29 otesB17 HT_ ?_
          refine pu_ 12 30 otesB4 HT_ ?_
          refine pu_ 13 31 otesB5 HT_ ?_
          refine pu_ 14 32 otesB18 HT_ ?_
          refine pu_ 15 33 otesB19 HT_ ?_
          refine pt_ 16 34 otesB38 HT_ HW_ rfl hHeld (by rintro w' ⟨s0, s1, s2⟩; go_simp; with_reducible rfl) ?_
          refine pu_ 17 35 otesB20 HT_ ?_
          refine pu_ 18 36 otesB6 HT_ ?_
          refine pu_ 19 37 otesB7 HT_ ?_
          refine pu_ 20 38 otesB21 HT_ ?_
          refine pt_ 21 39 otesB39 HT_ HW_ rfl hHeld (by rintro w' ⟨s0, s1, s2⟩; go_simp; with_reducible rfl) ?_
          refine pu_ 22 40 otesB22 HT_ ?_
          refine pu_ 23 41 otesB8 HT_ ?_
          refine pu_ 24 42 otesB9 HT_ ?_
          refine pn_ 25 43 otesB23 HT_ ?_
          refine pn_ 26 44 otesB40 HT_ ?_
          refine pn_ 27 45 otesB24 HT_ ?_
          refine pu_ 28 46 otesB10 HT_ ?_
          refine pu_ 29 47 otesB11 HT_ ?_
          refine pn_ 30 48 otesB25 HT_ ?_
          refine pn_ 31 49 otesB26 HT_ ?_
          refine pn_ 32 50 otesB27 HT_ ?_
          refine pn_ 33 51 otesB28 HT_ ?_
          refine pn_ 34 52 otesB29 HT_ ?_
          refine pn_ 35 53 otesB30 HT_ ?_
          refine pn_ 36 54 otesB31 HT_ ?_
          refine pn_ 37 55 otesB41 HT_ ?_
          refine pn_ 38 56 otesB42 HT_ ?_
          refine pn_ 39 57 otesB43 HT_ ?_
          refine pn_ 40 58 otesB32 HT_ ?_
          refine pn_ 41 59 otesB33 HT_ ?_
          refine pu_ 42 60 otesB12 HT_ ?_
          refine done_ (done_of HT_.out (by kernel_rfl)) ?_
          try go_wp2
          go_ret
          exact ⟨by (rfl), by repeat ((with_reducible (exact HB.out)))⟩
         ·rw [if_neg c20] at H
          have c20b0 : decide (((rd_T104 l0 x3_1).f1) < 0) = false := decide_eq_false c20
          clear c20
          by_cases c25 : ((rd_T104 l0 x3_1).f1) > 65536
          ·rw [if_pos c25] at H
           have c25b0 : decide (65536 < ((rd_T104 l0 x3_1).f1)) = true := decide_eq_true c25
           clear c25
           obtain rfl := Option.some.inj H
           have p280 : 0 ≤ (x3_1 : Int) := of_decide_eq_true (by (with_reducible assumption))
           have q280 : x3_1 < (l0.length : Int) := of_decide_eq_true (by (with_reducible assumption))
           obtain ⟨ad280, e280, hx280_0, hx280_1, hx280_2⟩ := at_T104 HR0.out x3_1 p280 q280
           cases e280
           replace hx280_0 := (HB.out.cell (World.block_lt_of_cell? w _ hx280_0)).trans hx280_0
           replace hx280_1 := (HB.out.cell (World.block_lt_of_cell? w _ hx280_1)).trans hx280_1
           replace hx280_2 := (HB.out.cell (World.block_lt_of_cell? w _ hx280_2)).trans hx280_2
           replace p280 := eq_true p280
           replace q280 := eq_true q280
           try go_wp2_with (first | ((with_reducible refine gate_dst (N := 4) rfl ?_); refine box_event ?hg (N := 4) ?hd (cs := #[.int .i64 0, .int .i64 0, .int .i64 0]) (t := 104) ?hr ?_; (case hd => rfl); (case hg => rfl); (case hr => (go_simp; done)); intro gb281 hg w26 hbox hb; have n0_ := Aside0.mk (below_step (by repeat ((with_reducible (exact HB.out)))) hb); have n1_ := Aside0.mk (hbox); have n2_ := Aside0.mk ((by rw [hg]; exact (below_size (by repeat ((with_reducible (exact HB.out))))) : w.heap.size ≤ gb281)); have n3_ := Aside0.mk ((by rw [hg]; exact (below_size (by repeat ((with_reducible (exact HB.out))))) : w.heap.size ≤ gb281)); clear HB; have HB := n0_; have BK281 := n1_; have GW281 := n2_; have GE281 := n3_; clear n0_ n1_ n2_ n3_; clear hb hbox hg; have hcz27_0 : w26.cell? ⟨gb281, 0, none⟩ = some (.int .i64 0) := (blk_cell BK281.out 0).trans rfl; have hcz27_1 : w26.cell? ⟨gb281, 1, none⟩ = some (.int .i64 0) := (blk_cell BK281.out 1).trans rfl; have hcz27_2 : w26.cell? ⟨gb281, 2, none⟩ = some (.int .i64 0) := (blk_cell BK281.out 2).trans rfl; have hfz27_0 := blk_frozen BK281.out 0; have hfz27_1 := blk_frozen BK281.out 1; have hfz27_2 := blk_frozen BK281.out 2))
           have n0_ : Aside0 ((((w26.setCell ⟨gb281, 0, none⟩ (.int .i64 ((rd_T104 l0 x3_1).f0.f0))).setCell ⟨gb281, 1, none⟩ (.int .i64 ((rd_T104 l0 x3_1).f0.f1))).setCell ⟨gb281, 2, none⟩ (.int .i64 ((rd_T104 l0 x3_1).f1))).heap[gb281]? = some (.cells #[.int .i64 ((rd_T104 l0 x3_1).f0.f0), .int .i64 ((rd_T104 l0 x3_1).f0.f1), .int .i64 ((rd_T104 l0 x3_1).f1)] 104 (0, 0))) := ⟨by (with_reducible repeat ((refine blk_drew ?_))); refine blk_put (cs := #[.int .i64 ((rd_T104 l0 x3_1).f0.f0), .int .i64 ((rd_T104 l0 x3_1).f0.f1), .int .i64 0]) ?_ 2 _ rfl; (with_reducible repeat ((refine blk_drew ?_))); refine blk_put (cs := #[.int .i64 ((rd_T104 l0 x3_1).f0.f0), .int .i64 0, .int .i64 0]) ?_ 1 _ rfl; (with_reducible repeat ((refine blk_drew ?_))); refine blk_put (cs := #[.int .i64 0, .int .i64 0, .int .i64 0]) ?_ 0 _ rfl; (with_reducible repeat ((refine blk_drew ?_))); exact BK281.out⟩
           have n1_ : Aside0 (Below w.heap.size w (((w26.setCell ⟨gb281, 0, none⟩ (.int .i64 ((rd_T104 l0 x3_1).f0.f0))).setCell ⟨gb281, 1, none⟩ (.int .i64 ((rd_T104 l0 x3_1).f0.f1))).setCell ⟨gb281, 2, none⟩ (.int .i64 ((rd_T104 l0 x3_1).f1)))) := ⟨by repeat ((with_reducible first | exact HB.out | refine below_set ?_ GE281.out))⟩
           (try clear BK281)
           (try clear HB)
           generalize (((w26.setCell ⟨gb281, 0, none⟩ (.int .i64 ((rd_T104 l0 x3_1).f0.f0))).setCell ⟨gb281, 1, none⟩ (.int .i64 ((rd_T104 l0 x3_1).f0.f1))).setCell ⟨gb281, 2, none⟩ (.int .i64 ((rd_T104 l0 x3_1).f1))) = w28 at n0_ n1_ ⊢
           have BK281 := n0_
           have HB := n1_
           clear n0_ n1_
           have n0_ := Aside0.mk (blk_drew BK281.out)
           have n1_ := Aside0.mk (below_drew1 HB.out)
           clear BK281
           clear HB
           have BK281 := n0_
           have HB := n1_
           clear n0_ n1_
           refine start_ (n := 43) (S := fun w' => w'.cell? ⟨gb281, 0, none⟩ = some (.int .i64 ((rd_T104 l0 x3_1).f0.f0)) ∧ w'.cell? ⟨gb281, 1, none⟩ = some (.int .i64 ((rd_T104 l0 x3_1).f0.f1)) ∧ w'.cell? ⟨gb281, 2, none⟩ = some (.int .i64 ((rd_T104 l0 x3_1).f1))) (ds := []) otesB45 (by kernel_rfl) rfl rfl ⟨(blk_cell BK281.out 0).trans rfl, (blk_cell BK281.out 1).trans rfl, (blk_cell BK281.out 2).trans rfl⟩ (fun hHeld => ?_); refine with_tabW variorumref11_Notes.tab7 variorumref11_Notes.bits7 (fun HT_ HW_ => ?_)
           generalize w28.drew = w29 at BK281 HB hHeld ⊢
           refine pu_ 0 18 otesB0 HT_ ?_
           refine pu_ 1 19 otesB1 HT_ ?_
           refine pt_ 2 20 otesB44 HT_ HW_ rfl hHeld (by rintro w' ⟨s0, s1, s2⟩; go_simp; with_reducible rfl) ?_
           refine pu_ 3 21 otesB2 HT_ ?_
           refine pu_ 4 22 otesB3 HT_ ?_
           refine pu_ 5 23 otesB13 HT_ ?_
           refine pu_ 6 24 otesB14 HT_ ?_
           refine pu_ 8 26 otesB15 HT_ ?_
           refine pu_ 9 27 otesB16 HT_ ?_
           refine pt_ 7 25 otesB36 HT_ HW_ rfl hHeld (by rintro w' ⟨s0, s1, s2⟩; go_simp; with_reducible rfl) ?_
           refine pt_ 10 28 otesB37 HT_ HW_ rfl hHeld (by rintro w' ⟨s0, s1, s2⟩; go_simp; with_reducible rfl) ?_
           refine pu_ 11 29 otesB17 HT_ ?_
           refine pu_ 12 30 otesB4 HT_ ?_
           refine pu_ 13 31 otesB5 HT_ ?_
           refine pu_ 14 32 otesB18 HT_ ?_
           refine pu_ 15 33 otesB19 HT_ ?_
           refine pt_ 16 34 otesB38 HT_ HW_ rfl hHeld (by rintro w' ⟨s0, s1, s2⟩; go_simp; with_reducible rfl) ?_
           refine pu_ 17 35 otesB20 HT_ ?_
           refine pu_ 18 36 otesB6 HT_ ?_
           refine pu_ 19 37 otesB7 HT_ ?_
           refine pu_ 20 38 otesB21 HT_ ?_
           refine pt_ 21 39 otesB39 HT_ HW_ rfl hHeld (by rintro w' ⟨s0, s1, s2⟩; go_simp; with_reducible rfl) ?_
           refine pu_ 22 40 otesB22 HT_ ?_
           refine pu_ 23 41 otesB8 HT_ ?_
           refine pu_ 24 42 otesB9 HT_ ?_
           refine pu_ 25 43 otesB23 HT_ ?_
           refine pt_ 26 44 otesB40 HT_ HW_ rfl hHeld (by rintro w' ⟨s0, s1, s2⟩; go_simp; with_reducible rfl) ?_
           refine pu_ 27 45 otesB24 HT_ ?_
           refine pu_ 28 46 otesB10 HT_ ?_
           refine pu_ 29 47 otesB11 HT_ ?_
           refine pn_ 30 48 otesB25 HT_ ?_
           refine pn_ 31 49 otesB26 HT_ ?_
           refine pn_ 32 50 otesB27 HT_ ?_
           refine pn_ 33 51 otesB28 HT_ ?_
           refine pn_ 34 52 otesB29 HT_ ?_
           refine pn_ 35 53 otesB30 HT_ ?_
           refine pn_ 36 54 otesB31 HT_ ?_
           refine pn_ 37 55 otesB41 HT_ ?_
           refine pn_ 38 56 otesB42 HT_ ?_
           refine pn_ 39 57 otesB43 HT_ ?_
           refine pn_ 40 58 otesB32 HT_ ?_
           refine pn_ 41 59 otesB33 HT_ ?_
           refine pu_ 42 60 otesB12 HT_ ?_
           refine done_ (done_of HT_.out (by kernel_rfl)) ?_
           try go_wp2
           go_ret
           exact ⟨by (rfl), by repeat ((with_reducible (exact HB.out)))⟩
          ·rw [if_neg c25] at H
           have c25b0 : decide (65536 < ((rd_T104 l0 x3_1).f1)) = false := decide_eq_false c25
           clear c25
           by_cases c30 : x3_1 > 0
           ·rw [if_pos c30] at H
            have c30b0 : decide (0 < x3_1) = true := decide_eq_true c30
            clear c30
            obtain ⟨ji31, hji31⟩ : ∃ j_ : Int, (wrap64 (x3_1 - 1)) = j_ := ⟨_, rfl⟩
            replace H : (if 0 ≤ (ji31) then (if (ji31) < (l0.length : Int) then ((variorumref11_Less.f ((rd_T104 l0 (ji31)).f0.f0) ((rd_T104 l0 (ji31)).f0.f1) ((rd_T104 l0 (ji31)).f1) ((rd_T104 l0 x3_1).f0.f0) ((rd_T104 l0 x3_1).f0.f1) ((rd_T104 l0 x3_1).f1)).bind fun t283 => (if t283 = true then (variorumref11_Notes.l0 k1 l0 (wrap64 (x3_1 + 1))) else (some false))) else (none)) else (none)) = some r := by (rw [hji31] at H; exact H)
            have hji31w : (IntKind.i64.wrap (x3_1 - 1)) = ji31 := (i64_w _).trans hji31
            by_cases c32 : 0 ≤ (ji31)
            ·rw [if_pos c32] at H
             have c32b0 : decide (0 ≤ (ji31)) = true := decide_eq_true c32
             clear c32
             by_cases c33 : (ji31) < (l0.length : Int)
             ·rw [if_pos c33] at H
              have c33b0 : decide ((ji31) < (l0.length : Int)) = true := decide_eq_true c33
              clear c33
              replace H := Option.bind_eq_some_iff.mp H
              obtain ⟨t283, A340, H⟩ := H
              replace H : (if t283 = true then (variorumref11_Notes.l0 k1 l0 (wrap64 (x3_1 + 1))) else (some false)) = some r := H
              have A34 := Aside0.mk A340
              clear A340
              by_cases c35 : t283 = true
              ·subst c35
               have H1 : (variorumref11_Notes.l0 k1 l0 (wrap64 (x3_1 + 1))) = some r := by rw [if_pos rfl] at H; exact H
               clear H
               have H := H1
               clear H1
               have H' := Aside0.mk H
               clear H
               have p280 : 0 ≤ (x3_1 : Int) := of_decide_eq_true (by (with_reducible assumption))
               have q280 : x3_1 < (l0.length : Int) := of_decide_eq_true (by (with_reducible assumption))
               obtain ⟨ad280, e280, hx280_0, hx280_1, hx280_2⟩ := at_T104 HR0.out x3_1 p280 q280
               cases e280
               replace hx280_0 := (HB.out.cell (World.block_lt_of_cell? w _ hx280_0)).trans hx280_0
               replace hx280_1 := (HB.out.cell (World.block_lt_of_cell? w _ hx280_1)).trans hx280_1
               replace hx280_2 := (HB.out.cell (World.block_lt_of_cell? w _ hx280_2)).trans hx280_2
               replace p280 := eq_true p280
               replace q280 := eq_true q280
               try go_wp2_with (first | ((with_reducible refine gate_dst (N := 4) rfl ?_); refine box_event ?hg (N := 4) ?hd (cs := #[.int .i64 0, .int .i64 0, .int .i64 0]) (t := 104) ?hr ?_; (case hd => rfl); (case hg => rfl); (case hr => (go_simp; done)); intro gb281 hg w36 hbox hb; have n0_ := Aside0.mk (below_step (by repeat ((with_reducible (exact HB.out)))) hb); have n1_ := Aside0.mk (hbox); have n2_ := Aside0.mk ((by rw [hg]; exact (below_size (by repeat ((with_reducible (exact HB.out))))) : w.heap.size ≤ gb281)); have n3_ := Aside0.mk ((by rw [hg]; exact (below_size (by repeat ((with_reducible (exact HB.out))))) : w.heap.size ≤ gb281)); clear HB; have HB := n0_; have BK281 := n1_; have GW281 := n2_; have GE281 := n3_; clear n0_ n1_ n2_ n3_; clear hb hbox hg; have hcz37_0 : w36.cell? ⟨gb281, 0, none⟩ = some (.int .i64 0) := (blk_cell BK281.out 0).trans rfl; have hcz37_1 : w36.cell? ⟨gb281, 1, none⟩ = some (.int .i64 0) := (blk_cell BK281.out 1).trans rfl; have hcz37_2 : w36.cell? ⟨gb281, 2, none⟩ = some (.int .i64 0) := (blk_cell BK281.out 2).trans rfl; have hfz37_0 := blk_frozen BK281.out 0; have hfz37_1 := blk_frozen BK281.out 1; have hfz37_2 := blk_frozen BK281.out 2))
               have n0_ : Aside0 ((((w36.setCell ⟨gb281, 0, none⟩ (.int .i64 ((rd_T104 l0 x3_1).f0.f0))).setCell ⟨gb281, 1, none⟩ (.int .i64 ((rd_T104 l0 x3_1).f0.f1))).setCell ⟨gb281, 2, none⟩ (.int .i64 ((rd_T104 l0 x3_1).f1))).heap[gb281]? = some (.cells #[.int .i64 ((rd_T104 l0 x3_1).f0.f0), .int .i64 ((rd_T104 l0 x3_1).f0.f1), .int .i64 ((rd_T104 l0 x3_1).f1)] 104 (0, 0))) := ⟨by (with_reducible repeat ((refine blk_drew ?_))); refine blk_put (cs := #[.int .i64 ((rd_T104 l0 x3_1).f0.f0), .int .i64 ((rd_T104 l0 x3_1).f0.f1), .int .i64 0]) ?_ 2 _ rfl; (with_reducible repeat ((refine blk_drew ?_))); refine blk_put (cs := #[.int .i64 ((rd_T104 l0 x3_1).f0.f0), .int .i64 0, .int .i64 0]) ?_ 1 _ rfl; (with_reducible repeat ((refine blk_drew ?_))); refine blk_put (cs := #[.int .i64 0, .int .i64 0, .int .i64 0]) ?_ 0 _ rfl; (with_reducible repeat ((refine blk_drew ?_))); exact BK281.out⟩
               have n1_ : Aside0 (Below w.heap.size w (((w36.setCell ⟨gb281, 0, none⟩ (.int .i64 ((rd_T104 l0 x3_1).f0.f0))).setCell ⟨gb281, 1, none⟩ (.int .i64 ((rd_T104 l0 x3_1).f0.f1))).setCell ⟨gb281, 2, none⟩ (.int .i64 ((rd_T104 l0 x3_1).f1)))) := ⟨by repeat ((with_reducible first | exact HB.out | refine below_set ?_ GE281.out))⟩
               (try clear BK281)
               (try clear HB)
               generalize (((w36.setCell ⟨gb281, 0, none⟩ (.int .i64 ((rd_T104 l0 x3_1).f0.f0))).setCell ⟨gb281, 1, none⟩ (.int .i64 ((rd_T104 l0 x3_1).f0.f1))).setCell ⟨gb281, 2, none⟩ (.int .i64 ((rd_T104 l0 x3_1).f1))) = w38 at n0_ n1_ ⊢
               have BK281 := n0_
               have HB := n1_
               clear n0_ n1_
               have n0_ := Aside0.mk (blk_drew BK281.out)
               have n1_ := Aside0.mk (below_drew1 HB.out)
               clear BK281
               clear HB
               have BK281 := n0_
               have HB := n1_
               clear n0_ n1_
               have p282 : 0 ≤ ((ji31) : Int) := of_decide_eq_true (by (with_reducible assumption))
               have q282 : (ji31) < (l0.length : Int) := of_decide_eq_true (by (with_reducible assumption))
               obtain ⟨ad282, e282, hx282_0, hx282_1, hx282_2⟩ := at_T104 HR0.out (ji31) p282 q282
               have hw282_2 := hx282_2
               have hw282_1 := hx282_1
               have hw282_0 := hx282_0
               obtain rfl : ad280 = ad282 := (by injection e282)
               replace hx282_0 := (HB.out.cell (World.block_lt_of_cell? w _ hx282_0)).trans hx282_0
               replace hx282_1 := (HB.out.cell (World.block_lt_of_cell? w _ hx282_1)).trans hx282_1
               replace hx282_2 := (HB.out.cell (World.block_lt_of_cell? w _ hx282_2)).trans hx282_2
               replace p282 := eq_true p282
               replace q282 := eq_true q282
               refine start_ (n := 43) (S := fun w' => w'.cell? ⟨gb281, 0, none⟩ = some (.int .i64 ((rd_T104 l0 x3_1).f0.f0)) ∧ w'.cell? ⟨gb281, 1, none⟩ = some (.int .i64 ((rd_T104 l0 x3_1).f0.f1)) ∧ w'.cell? ⟨gb281, 2, none⟩ = some (.int .i64 ((rd_T104 l0 x3_1).f1)) ∧ w'.cell? (ad280.add (((ji31)).toNat * 3)) = some (.int .i64 ((rd_T104 l0 (ji31)).f0.f0)) ∧ w'.cell? ⟨(ad280.add (((ji31)).toNat * 3)).block, (ad280.add (((ji31)).toNat * 3)).off + 1, none⟩ = some (.int .i64 ((rd_T104 l0 (ji31)).f0.f1)) ∧ w'.cell? ⟨(ad280.add (((ji31)).toNat * 3)).block, (ad280.add (((ji31)).toNat * 3)).off + 2, none⟩ = some (.int .i64 ((rd_T104 l0 (ji31)).f1))) (ds := []) otesB45 (by kernel_rfl) rfl rfl ⟨(blk_cell BK281.out 0).trans rfl, (blk_cell BK281.out 1).trans rfl, (blk_cell BK281.out 2).trans rfl, ((HB.out.cell (World.block_lt_of_cell? w _ hw282_0)).trans hw282_0), ((HB.out.cell (World.block_lt_of_cell? w _ hw282_1)).trans hw282_1), ((HB.out.cell (World.block_lt_of_cell? w _ hw282_2)).trans hw282_2)⟩ (fun hHeld => ?_); refine with_tabW variorumref11_Notes.tab7 variorumref11_Notes.bits7 (fun HT_ HW_ => ?_)
               generalize w38.drew = w39 at BK281 HB hx282_0 hx282_1 hx282_2 hHeld ⊢
               refine pu_ 0 18 otesB0 HT_ ?_
               refine pu_ 1 19 otesB1 HT_ ?_
               refine pt_ 2 20 otesB44 HT_ HW_ rfl hHeld (by rintro w' ⟨s0, s1, s2, s3, s4, s5⟩; go_simp; with_reducible rfl) ?_
               refine pu_ 3 21 otesB2 HT_ ?_
               refine pu_ 4 22 otesB3 HT_ ?_
               refine pu_ 5 23 otesB13 HT_ ?_
               refine pu_ 6 24 otesB14 HT_ ?_
               refine pu_ 8 26 otesB15 HT_ ?_
               refine pu_ 9 27 otesB16 HT_ ?_
               refine pt_ 7 25 otesB36 HT_ HW_ rfl hHeld (by rintro w' ⟨s0, s1, s2, s3, s4, s5⟩; go_simp; with_reducible rfl) ?_
               refine pt_ 10 28 otesB37 HT_ HW_ rfl hHeld (by rintro w' ⟨s0, s1, s2, s3, s4, s5⟩; go_simp; with_reducible rfl) ?_
               refine pu_ 11 29 otesB17 HT_ ?_
               refine pu_ 12 30 otesB4 HT_ ?_
               refine pu_ 13 31 otesB5 HT_ ?_
               refine pu_ 14 32 otesB18 HT_ ?_
               refine pu_ 15 33 otesB19 HT_ ?_
               refine pt_ 16 34 otesB38 HT_ HW_ rfl hHeld (by rintro w' ⟨s0, s1, s2, s3, s4, s5⟩; go_simp; with_reducible rfl) ?_
               refine pu_ 17 35 otesB20 HT_ ?_
               refine pu_ 18 36 otesB6 HT_ ?_
               refine pu_ 19 37 otesB7 HT_ ?_
               refine pu_ 20 38 otesB21 HT_ ?_
               refine pt_ 21 39 otesB39 HT_ HW_ rfl hHeld (by rintro w' ⟨s0, s1, s2, s3, s4, s5⟩; go_simp; with_reducible rfl) ?_
               refine pu_ 22 40 otesB22 HT_ ?_
               refine pu_ 23 41 otesB8 HT_ ?_
               refine pu_ 24 42 otesB9 HT_ ?_
               refine pu_ 25 43 otesB23 HT_ ?_
               refine pt_ 26 44 otesB40 HT_ HW_ rfl hHeld (by rintro w' ⟨s0, s1, s2, s3, s4, s5⟩; go_simp; with_reducible rfl) ?_
               refine pu_ 27 45 otesB24 HT_ ?_
               refine pu_ 28 46 otesB10 HT_ ?_
               refine pu_ 29 47 otesB11 HT_ ?_
               refine pu_ 30 48 otesB25 HT_ ?_
               refine pu_ 31 49 otesB26 HT_ ?_
               refine pu_ 32 50 otesB27 HT_ ?_
               refine pu_ 33 51 otesB28 HT_ ?_
               refine pu_ 34 52 otesB29 HT_ ?_
               refine pu_ 35 53 otesB30 HT_ ?_
               refine pu_ 36 54 otesB31 HT_ ?_
               refine pt_ 37 55 otesB41 HT_ HW_ rfl hHeld (by rintro w' ⟨s0, s1, s2, s3, s4, s5⟩; go_simp; with_reducible rfl) ?_
               refine pt_ 38 56 otesB42 HT_ HW_ rfl hHeld (by rintro w' ⟨s0, s1, s2, s3, s4, s5⟩; go_simp; with_reducible rfl) ?_
               refine one_ (i := 39) (N := some 57) otesB43 rfl rfl (one_of HT_.out (by kernel_rfl)) (by decide) (fun K hK => ?_)
               refine goes_ Try.func97 (by kernel_rfl) rfl #[.agg #[.int .i64 ((rd_T104 l0 (ji31)).f0.f0), .int .i64 ((rd_T104 l0 (ji31)).f0.f1), .int .i64 ((rd_T104 l0 (ji31)).f1)], .agg #[.int .i64 ((rd_T104 l0 x3_1).f0.f0), .int .i64 ((rd_T104 l0 x3_1).f0.f1), .int .i64 ((rd_T104 l0 x3_1).f1)]] (by rfl) rfl rfl (by (try simp only [List.map_toArray, List.map_cons, List.map_nil]); (rfl)) ?_
               with_reducible refine (variorumref11_Less.calls ((rd_T104 l0 (ji31)).f0.f0) ((rd_T104 l0 (ji31)).f0.f1) ((rd_T104 l0 (ji31)).f1) ((rd_T104 l0 x3_1).f0.f0) ((rd_T104 l0 x3_1).f0.f1) ((rd_T104 l0 x3_1).f1) true _ A34.out).mono ?_
               rintro e w40 ⟨rfl, hb⟩
               refine ⟨_, rfl, ?_⟩
               have n0_ := Aside0.mk (blk_below (g := gb281) (o := .cells #[.int .i64 ((rd_T104 l0 x3_1).f0.f0), .int .i64 ((rd_T104 l0 x3_1).f0.f1), .int .i64 ((rd_T104 l0 x3_1).f1)] 104 (0, 0)) (by (with_reducible repeat ((refine blk_drew ?_))); exact BK281.out) hb)
               have n1_ := Aside0.mk (below_step (by repeat ((with_reducible (exact HB.out)))) hb)
               clear BK281
               clear HB
               have BK281 := n0_
               have HB := n1_
               clear n0_ n1_
               (try clear hb)
               (try clear hb2)
               (try clear hk)
               (try clear hi)
               refine hK.out _ _ ⟨(blk_cell BK281.out 0).trans rfl, (blk_cell BK281.out 1).trans rfl, (blk_cell BK281.out 2).trans rfl, ((HB.out.cell (World.block_lt_of_cell? w _ hw282_0)).trans hw282_0), ((HB.out.cell (World.block_lt_of_cell? w _ hw282_1)).trans hw282_1), ((HB.out.cell (World.block_lt_of_cell? w _ hw282_2)).trans hw282_2)⟩ (fun hHeld => ?_)
               clear hK K
               refine norm_ (a' := ?_) ?_ ?_
               rotate_left
               ·show Act.put _ (some 57) _ = _
                simp only [Act.put, List.setIfInBounds_toArray, List.set_cons_zero, List.set_cons_succ, i64_w, i32_w]
                rfl
               refine pu_ 40 58 otesB32 HT_ ?_
               refine pu_ 41 59 otesB33 HT_ ?_
               refine pu_ 42 60 otesB12 HT_ ?_
               refine done_ (done_of HT_.out (by kernel_rfl)) ?_
               try go_wp2
               go_roundg k1
               case measure => have := HK1.out; omega
               case rel => exact ⟨(wrap64 (x3_1 + 1)), (by (rfl)), H', ⟨by have := HK1.out; omega⟩, ⟨by repeat ((with_reducible (exact HB.out)))⟩⟩
              ·replace c35 := Bool.eq_false_iff.mpr c35
               subst c35
               have H1 : (some false) = some r := by rw [if_neg (show ¬ (false = true) by decide)] at H; exact H
               clear H
               have H := H1
               clear H1
               obtain rfl := Option.some.inj H
               have p280 : 0 ≤ (x3_1 : Int) := of_decide_eq_true (by (with_reducible assumption))
               have q280 : x3_1 < (l0.length : Int) := of_decide_eq_true (by (with_reducible assumption))
               obtain ⟨ad280, e280, hx280_0, hx280_1, hx280_2⟩ := at_T104 HR0.out x3_1 p280 q280
               cases e280
               replace hx280_0 := (HB.out.cell (World.block_lt_of_cell? w _ hx280_0)).trans hx280_0
               replace hx280_1 := (HB.out.cell (World.block_lt_of_cell? w _ hx280_1)).trans hx280_1
               replace hx280_2 := (HB.out.cell (World.block_lt_of_cell? w _ hx280_2)).trans hx280_2
               replace p280 := eq_true p280
               replace q280 := eq_true q280
               try go_wp2_with (first | ((with_reducible refine gate_dst (N := 4) rfl ?_); refine box_event ?hg (N := 4) ?hd (cs := #[.int .i64 0, .int .i64 0, .int .i64 0]) (t := 104) ?hr ?_; (case hd => rfl); (case hg => rfl); (case hr => (go_simp; done)); intro gb281 hg w41 hbox hb; have n0_ := Aside0.mk (below_step (by repeat ((with_reducible (exact HB.out)))) hb); have n1_ := Aside0.mk (hbox); have n2_ := Aside0.mk ((by rw [hg]; exact (below_size (by repeat ((with_reducible (exact HB.out))))) : w.heap.size ≤ gb281)); have n3_ := Aside0.mk ((by rw [hg]; exact (below_size (by repeat ((with_reducible (exact HB.out))))) : w.heap.size ≤ gb281)); clear HB; have HB := n0_; have BK281 := n1_; have GW281 := n2_; have GE281 := n3_; clear n0_ n1_ n2_ n3_; clear hb hbox hg; have hcz42_0 : w41.cell? ⟨gb281, 0, none⟩ = some (.int .i64 0) := (blk_cell BK281.out 0).trans rfl; have hcz42_1 : w41.cell? ⟨gb281, 1, none⟩ = some (.int .i64 0) := (blk_cell BK281.out 1).trans rfl; have hcz42_2 : w41.cell? ⟨gb281, 2, none⟩ = some (.int .i64 0) := (blk_cell BK281.out 2).trans rfl; have hfz42_0 := blk_frozen BK281.out 0; have hfz42_1 := blk_frozen BK281.out 1; have hfz42_2 := blk_frozen BK281.out 2))
               have n0_ : Aside0 ((((w41.setCell ⟨gb281, 0, none⟩ (.int .i64 ((rd_T104 l0 x3_1).f0.f0))).setCell ⟨gb281, 1, none⟩ (.int .i64 ((rd_T104 l0 x3_1).f0.f1))).setCell ⟨gb281, 2, none⟩ (.int .i64 ((rd_T104 l0 x3_1).f1))).heap[gb281]? = some (.cells #[.int .i64 ((rd_T104 l0 x3_1).f0.f0), .int .i64 ((rd_T104 l0 x3_1).f0.f1), .int .i64 ((rd_T104 l0 x3_1).f1)] 104 (0, 0))) := ⟨by (with_reducible repeat ((refine blk_drew ?_))); refine blk_put (cs := #[.int .i64 ((rd_T104 l0 x3_1).f0.f0), .int .i64 ((rd_T104 l0 x3_1).f0.f1), .int .i64 0]) ?_ 2 _ rfl; (with_reducible repeat ((refine blk_drew ?_))); refine blk_put (cs := #[.int .i64 ((rd_T104 l0 x3_1).f0.f0), .int .i64 0, .int .i64 0]) ?_ 1 _ rfl; (with_reducible repeat ((refine blk_drew ?_))); refine blk_put (cs := #[.int .i64 0, .int .i64 0, .int .i64 0]) ?_ 0 _ rfl; (with_reducible repeat ((refine blk_drew ?_))); exact BK281.out⟩
               have n1_ : Aside0 (Below w.heap.size w (((w41.setCell ⟨gb281, 0, none⟩ (.int .i64 ((rd_T104 l0 x3_1).f0.f0))).setCell ⟨gb281, 1, none⟩ (.int .i64 ((rd_T104 l0 x3_1).f0.f1))).setCell ⟨gb281, 2, none⟩ (.int .i64 ((rd_T104 l0 x3_1).f1)))) := ⟨by repeat ((with_reducible first | exact HB.out | refine below_set ?_ GE281.out))⟩
               (try clear BK281)
               (try clear HB)
               generalize (((w41.setCell ⟨gb281, 0, none⟩ (.int .i64 ((rd_T104 l0 x3_1).f0.f0))).setCell ⟨gb281, 1, none⟩ (.int .i64 ((rd_T104 l0 x3_1).f0.f1))).setCell ⟨gb281, 2, none⟩ (.int .i64 ((rd_T104 l0 x3_1).f1))) = w43 at n0_ n1_ ⊢
               have BK281 := n0_
               have HB := n1_
               clear n0_ n1_
               have n0_ := Aside0.mk (blk_drew BK281.out)
               have n1_ := Aside0.mk (below_drew1 HB.out)
               clear BK281
               clear HB
               have BK281 := n0_
               have HB := n1_
               clear n0_ n1_
               have p282 : 0 ≤ ((ji31) : Int) := of_decide_eq_true (by (with_reducible assumption))
               have q282 : (ji31) < (l0.length : Int) := of_decide_eq_true (by (with_reducible assumption))
               obtain ⟨ad282, e282, hx282_0, hx282_1, hx282_2⟩ := at_T104 HR0.out (ji31) p282 q282
               have hw282_2 := hx282_2
               have hw282_1 := hx282_1
               have hw282_0 := hx282_0
               obtain rfl : ad280 = ad282 := (by injection e282)
               replace hx282_0 := (HB.out.cell (World.block_lt_of_cell? w _ hx282_0)).trans hx282_0
               replace hx282_1 := (HB.out.cell (World.block_lt_of_cell? w _ hx282_1)).trans hx282_1
               replace hx282_2 := (HB.out.cell (World.block_lt_of_cell? w _ hx282_2)).trans hx282_2
               replace p282 := eq_true p282
               replace q282 := eq_true q282
               refine start_ (n := 43) (S := fun w' => w'.cell? ⟨gb281, 0, none⟩ = some (.int .i64 ((rd_T104 l0 x3_1).f0.f0)) ∧ w'.cell? ⟨gb281, 1, none⟩ = some (.int .i64 ((rd_T104 l0 x3_1).f0.f1)) ∧ w'.cell? ⟨gb281, 2, none⟩ = some (.int .i64 ((rd_T104 l0 x3_1).f1)) ∧ w'.cell? (ad280.add (((ji31)).toNat * 3)) = some (.int .i64 ((rd_T104 l0 (ji31)).f0.f0)) ∧ w'.cell? ⟨(ad280.add (((ji31)).toNat * 3)).block, (ad280.add (((ji31)).toNat * 3)).off + 1, none⟩ = some (.int .i64 ((rd_T104 l0 (ji31)).f0.f1)) ∧ w'.cell? ⟨(ad280.add (((ji31)).toNat * 3)).block, (ad280.add (((ji31)).toNat * 3)).off + 2, none⟩ = some (.int .i64 ((rd_T104 l0 (ji31)).f1))) (ds := []) otesB45 (by kernel_rfl) rfl rfl ⟨(blk_cell BK281.out 0).trans rfl, (blk_cell BK281.out 1).trans rfl, (blk_cell BK281.out 2).trans rfl, ((HB.out.cell (World.block_lt_of_cell? w _ hw282_0)).trans hw282_0), ((HB.out.cell (World.block_lt_of_cell? w _ hw282_1)).trans hw282_1), ((HB.out.cell (World.block_lt_of_cell? w _ hw282_2)).trans hw282_2)⟩ (fun hHeld => ?_); refine with_tabW variorumref11_Notes.tab7 variorumref11_Notes.bits7 (fun HT_ HW_ => ?_)
               generalize w43.drew = w44 at BK281 HB hx282_0 hx282_1 hx282_2 hHeld ⊢
               refine pu_ 0 18 otesB0 HT_ ?_
               refine pu_ 1 19 otesB1 HT_ ?_
               refine pt_ 2 20 otesB44 HT_ HW_ rfl hHeld (by rintro w' ⟨s0, s1, s2, s3, s4, s5⟩; go_simp; with_reducible rfl) ?_
               refine pu_ 3 21 otesB2 HT_ ?_
               refine pu_ 4 22 otesB3 HT_ ?_
               refine pu_ 5 23 otesB13 HT_ ?_
               refine pu_ 6 24 otesB14 HT_ ?_
               refine pu_ 8 26 otesB15 HT_ ?_
               refine pu_ 9 27 otesB16 HT_ ?_
               refine pt_ 7 25 otesB36 HT_ HW_ rfl hHeld (by rintro w' ⟨s0, s1, s2, s3, s4, s5⟩; go_simp; with_reducible rfl) ?_
               refine pt_ 10 28 otesB37 HT_ HW_ rfl hHeld (by rintro w' ⟨s0, s1, s2, s3, s4, s5⟩; go_simp; with_reducible rfl) ?_
               refine pu_ 11 29 otesB17 HT_ ?_
               refine pu_ 12 30 otesB4 HT_ ?_
               refine pu_ 13 31 otesB5 HT_ ?_
               refine pu_ 14 32 otesB18 HT_ ?_
               refine pu_ 15 33 otesB19 HT_ ?_
               refine pt_ 16 34 otesB38 HT_ HW_ rfl hHeld (by rintro w' ⟨s0, s1, s2, s3, s4, s5⟩; go_simp; with_reducible rfl) ?_
               refine pu_ 17 35 otesB20 HT_ ?_
               refine pu_ 18 36 otesB6 HT_ ?_
               refine pu_ 19 37 otesB7 HT_ ?_
               refine pu_ 20 38 otesB21 HT_ ?_
               refine pt_ 21 39 otesB39 HT_ HW_ rfl hHeld (by rintro w' ⟨s0, s1, s2, s3, s4, s5⟩; go_simp; with_reducible rfl) ?_
               refine pu_ 22 40 otesB22 HT_ ?_
               refine pu_ 23 41 otesB8 HT_ ?_
               refine pu_ 24 42 otesB9 HT_ ?_
               refine pu_ 25 43 otesB23 HT_ ?_
               refine pt_ 26 44 otesB40 HT_ HW_ rfl hHeld (by rintro w' ⟨s0, s1, s2, s3, s4, s5⟩; go_simp; with_reducible rfl) ?_
               refine pu_ 27 45 otesB24 HT_ ?_
               refine pu_ 28 46 otesB10 HT_ ?_
               refine pu_ 29 47 otesB11 HT_ ?_
               refine pu_ 30 48 otesB25 HT_ ?_
               refine pu_ 31 49 otesB26 HT_ ?_
               refine pu_ 32 50 otesB27 HT_ ?_
               refine pu_ 33 51 otesB28 HT_ ?_
               refine pu_ 34 52 otesB29 HT_ ?_
               refine pu_ 35 53 otesB30 HT_ ?_
               refine pu_ 36 54 otesB31 HT_ ?_
               refine pt_ 37 55 otesB41 HT_ HW_ rfl hHeld (by rintro w' ⟨s0, s1, s2, s3, s4, s5⟩; go_simp; with_reducible rfl) ?_
               refine pt_ 38 56 otesB42 HT_ HW_ rfl hHeld (by rintro w' ⟨s0, s1, s2, s3, s4, s5⟩; go_simp; with_reducible rfl) ?_
               refine one_ (i := 39) (N := some 57) otesB43 rfl rfl (one_of HT_.out (by kernel_rfl)) (by decide) (fun K hK => ?_)
               refine goes_ Try.func97 (by kernel_rfl) rfl #[.agg #[.int .i64 ((rd_T104 l0 (ji31)).f0.f0), .int .i64 ((rd_T104 l0 (ji31)).f0.f1), .int .i64 ((rd_T104 l0 (ji31)).f1)], .agg #[.int .i64 ((rd_T104 l0 x3_1).f0.f0), .int .i64 ((rd_T104 l0 x3_1).f0.f1), .int .i64 ((rd_T104 l0 x3_1).f1)]] (by rfl) rfl rfl (by (try simp only [List.map_toArray, List.map_cons, List.map_nil]); (rfl)) ?_
               with_reducible refine (variorumref11_Less.calls ((rd_T104 l0 (ji31)).f0.f0) ((rd_T104 l0 (ji31)).f0.f1) ((rd_T104 l0 (ji31)).f1) ((rd_T104 l0 x3_1).f0.f0) ((rd_T104 l0 x3_1).f0.f1) ((rd_T104 l0 x3_1).f1) false _ A34.out).mono ?_
               rintro e w45 ⟨rfl, hb⟩
               refine ⟨_, rfl, ?_⟩
               have n0_ := Aside0.mk (blk_below (g := gb281) (o := .cells #[.int .i64 ((rd_T104 l0 x3_1).f0.f0), .int .i64 ((rd_T104 l0 x3_1).f0.f1), .int .i64 ((rd_T104 l0 x3_1).f1)] 104 (0, 0)) (by (with_reducible repeat ((refine blk_drew ?_))); exact BK281.out) hb)
               have n1_ := Aside0.mk (below_step (by repeat ((with_reducible (exact HB.out)))) hb)
               clear BK281
               clear HB
               have BK281 := n0_
               have HB := n1_
               clear n0_ n1_
               (try clear hb)
               (try clear hb2)
               (try clear hk)
               (try clear hi)
               refine hK.out _ _ ⟨(blk_cell BK281.out 0).trans rfl, (blk_cell BK281.out 1).trans rfl, (blk_cell BK281.out 2).trans rfl, ((HB.out.cell (World.block_lt_of_cell? w _ hw282_0)).trans hw282_0), ((HB.out.cell (World.block_lt_of_cell? w _ hw282_1)).trans hw282_1), ((HB.out.cell (World.block_lt_of_cell? w _ hw282_2)).trans hw282_2)⟩ (fun hHeld => ?_)
               clear hK K
               refine norm_ (a' := ?_) ?_ ?_
               rotate_left
               ·show Act.put _ (some 57) _ = _
                simp only [Act.put, List.setIfInBounds_toArray, List.set_cons_zero, List.set_cons_succ, i64_w, i32_w]
                rfl
               refine pu_ 40 58 otesB32 HT_ ?_
               refine pu_ 41 59 otesB33 HT_ ?_
               refine pu_ 42 60 otesB12 HT_ ?_
               refine done_ (done_of HT_.out (by kernel_rfl)) ?_
               try go_wp2
               go_ret
               exact ⟨by (rfl), by repeat ((with_reducible (exact HB.out)))⟩
             ·rw [if_neg c33] at H
              exact absurd H (by simp)
            ·rw [if_neg c32] at H
             exact absurd H (by simp)
           ·rw [if_neg c30] at H
            have c30b0 : decide (0 < x3_1) = false := decide_eq_false c30
            clear c30
            have H' := Aside0.mk H
            clear H
            have p280 : 0 ≤ (x3_1 : Int) := of_decide_eq_true (by (with_reducible assumption))
            have q280 : x3_1 < (l0.length : Int) := of_decide_eq_true (by (with_reducible assumption))
            obtain ⟨ad280, e280, hx280_0, hx280_1, hx280_2⟩ := at_T104 HR0.out x3_1 p280 q280
            cases e280
            replace hx280_0 := (HB.out.cell (World.block_lt_of_cell? w _ hx280_0)).trans hx280_0
            replace hx280_1 := (HB.out.cell (World.block_lt_of_cell? w _ hx280_1)).trans hx280_1
            replace hx280_2 := (HB.out.cell (World.block_lt_of_cell? w _ hx280_2)).trans hx280_2
            replace p280 := eq_true p280
            replace q280 := eq_true q280
            try go_wp2_with (first | ((with_reducible refine gate_dst (N := 4) rfl ?_); refine box_event ?hg (N := 4) ?hd (cs := #[.int .i64 0, .int .i64 0, .int .i64 0]) (t := 104) ?hr ?_; (case hd => rfl); (case hg => rfl); (case hr => (go_simp; done)); intro gb281 hg w46 hbox hb; have n0_ := Aside0.mk (below_step (by repeat ((with_reducible (exact HB.out)))) hb); have n1_ := Aside0.mk (hbox); have n2_ := Aside0.mk ((by rw [hg]; exact (below_size (by repeat ((with_reducible (exact HB.out))))) : w.heap.size ≤ gb281)); have n3_ := Aside0.mk ((by rw [hg]; exact (below_size (by repeat ((with_reducible (exact HB.out))))) : w.heap.size ≤ gb281)); clear HB; have HB := n0_; have BK281 := n1_; have GW281 := n2_; have GE281 := n3_; clear n0_ n1_ n2_ n3_; clear hb hbox hg; have hcz47_0 : w46.cell? ⟨gb281, 0, none⟩ = some (.int .i64 0) := (blk_cell BK281.out 0).trans rfl; have hcz47_1 : w46.cell? ⟨gb281, 1, none⟩ = some (.int .i64 0) := (blk_cell BK281.out 1).trans rfl; have hcz47_2 : w46.cell? ⟨gb281, 2, none⟩ = some (.int .i64 0) := (blk_cell BK281.out 2).trans rfl; have hfz47_0 := blk_frozen BK281.out 0; have hfz47_1 := blk_frozen BK281.out 1; have hfz47_2 := blk_frozen BK281.out 2))
            have n0_ : Aside0 ((((w46.setCell ⟨gb281, 0, none⟩ (.int .i64 ((rd_T104 l0 x3_1).f0.f0))).setCell ⟨gb281, 1, none⟩ (.int .i64 ((rd_T104 l0 x3_1).f0.f1))).setCell ⟨gb281, 2, none⟩ (.int .i64 ((rd_T104 l0 x3_1).f1))).heap[gb281]? = some (.cells #[.int .i64 ((rd_T104 l0 x3_1).f0.f0), .int .i64 ((rd_T104 l0 x3_1).f0.f1), .int .i64 ((rd_T104 l0 x3_1).f1)] 104 (0, 0))) := ⟨by (with_reducible repeat ((refine blk_drew ?_))); refine blk_put (cs := #[.int .i64 ((rd_T104 l0 x3_1).f0.f0), .int .i64 ((rd_T104 l0 x3_1).f0.f1), .int .i64 0]) ?_ 2 _ rfl; (with_reducible repeat ((refine blk_drew ?_))); refine blk_put (cs := #[.int .i64 ((rd_T104 l0 x3_1).f0.f0), .int .i64 0, .int .i64 0]) ?_ 1 _ rfl; (with_reducible repeat ((refine blk_drew ?_))); refine blk_put (cs := #[.int .i64 0, .int .i64 0, .int .i64 0]) ?_ 0 _ rfl; (with_reducible repeat ((refine blk_drew ?_))); exact BK281.out⟩
            have n1_ : Aside0 (Below w.heap.size w (((w46.setCell ⟨gb281, 0, none⟩ (.int .i64 ((rd_T104 l0 x3_1).f0.f0))).setCell ⟨gb281, 1, none⟩ (.int .i64 ((rd_T104 l0 x3_1).f0.f1))).setCell ⟨gb281, 2, none⟩ (.int .i64 ((rd_T104 l0 x3_1).f1)))) := ⟨by repeat ((with_reducible first | exact HB.out | refine below_set ?_ GE281.out))⟩
            (try clear BK281)
            (try clear HB)
            generalize (((w46.setCell ⟨gb281, 0, none⟩ (.int .i64 ((rd_T104 l0 x3_1).f0.f0))).setCell ⟨gb281, 1, none⟩ (.int .i64 ((rd_T104 l0 x3_1).f0.f1))).setCell ⟨gb281, 2, none⟩ (.int .i64 ((rd_T104 l0 x3_1).f1))) = w48 at n0_ n1_ ⊢
            have BK281 := n0_
            have HB := n1_
            clear n0_ n1_
            have n0_ := Aside0.mk (blk_drew BK281.out)
            have n1_ := Aside0.mk (below_drew1 HB.out)
            clear BK281
            clear HB
            have BK281 := n0_
            have HB := n1_
            clear n0_ n1_
            refine start_ (n := 43) (S := fun w' => w'.cell? ⟨gb281, 0, none⟩ = some (.int .i64 ((rd_T104 l0 x3_1).f0.f0)) ∧ w'.cell? ⟨gb281, 1, none⟩ = some (.int .i64 ((rd_T104 l0 x3_1).f0.f1)) ∧ w'.cell? ⟨gb281, 2, none⟩ = some (.int .i64 ((rd_T104 l0 x3_1).f1))) (ds := []) otesB45 (by kernel_rfl) rfl rfl ⟨(blk_cell BK281.out 0).trans rfl, (blk_cell BK281.out 1).trans rfl, (blk_cell BK281.out 2).trans rfl⟩ (fun hHeld => ?_); refine with_tabW variorumref11_Notes.tab7 variorumref11_Notes.bits7 (fun HT_ HW_ => ?_)
            generalize w48.drew = w49 at BK281 HB hHeld ⊢
            refine pu_ 0 18 otesB0 HT_ ?_
            refine pu_ 1 19 otesB1 HT_ ?_
            refine pt_ 2 20 otesB44 HT_ HW_ rfl hHeld (by rintro w' ⟨s0, s1, s2⟩; go_simp; with_reducible rfl) ?_
            refine pu_ 3 21 otesB2 HT_ ?_
            refine pu_ 4 22 otesB3 HT_ ?_
            refine pu_ 5 23 otesB13 HT_ ?_
            refine pu_ 6 24 otesB14 HT_ ?_
            refine pu_ 8 26 otesB15 HT_ ?_
            refine pu_ 9 27 otesB16 HT_ ?_
            refine pt_ 7 25 otesB36 HT_ HW_ rfl hHeld (by rintro w' ⟨s0, s1, s2⟩; go_simp; with_reducible rfl) ?_
            refine pt_ 10 28 otesB37 HT_ HW_ rfl hHeld (by rintro w' ⟨s0, s1, s2⟩; go_simp; with_reducible rfl) ?_
            refine pu_ 11 29 otesB17 HT_ ?_
            refine pu_ 12 30 otesB4 HT_ ?_
            refine pu_ 13 31 otesB5 HT_ ?_
            refine pu_ 14 32 otesB18 HT_ ?_
            refine pu_ 15 33 otesB19 HT_ ?_
            refine pt_ 16 34 otesB38 HT_ HW_ rfl hHeld (by rintro w' ⟨s0, s1, s2⟩; go_simp; with_reducible rfl) ?_
            refine pu_ 17 35 otesB20 HT_ ?_
            refine pu_ 18 36 otesB6 HT_ ?_
            refine pu_ 19 37 otesB7 HT_ ?_
            refine pu_ 20 38 otesB21 HT_ ?_
            refine pt_ 21 39 otesB39 HT_ HW_ rfl hHeld (by rintro w' ⟨s0, s1, s2⟩; go_simp; with_reducible rfl) ?_
            refine pu_ 22 40 otesB22 HT_ ?_
            refine pu_ 23 41 otesB8 HT_ ?_
            refine pu_ 24 42 otesB9 HT_ ?_
            refine pu_ 25 43 otesB23 HT_ ?_
            refine pt_ 26 44 otesB40 HT_ HW_ rfl hHeld (by rintro w' ⟨s0, s1, s2⟩; go_simp; with_reducible rfl) ?_
            refine pu_ 27 45 otesB24 HT_ ?_
            refine pu_ 28 46 otesB10 HT_ ?_
            refine pu_ 29 47 otesB11 HT_ ?_
            refine pu_ 30 48 otesB25 HT_ ?_
            refine pu_ 31 49 otesB26 HT_ ?_
            refine pu_ 32 50 otesB27 HT_ ?_
            refine pn_ 33 51 otesB28 HT_ ?_
            refine pn_ 34 52 otesB29 HT_ ?_
            refine pn_ 35 53 otesB30 HT_ ?_
            refine pn_ 36 54 otesB31 HT_ ?_
            refine pn_ 37 55 otesB41 HT_ ?_
            refine pn_ 38 56 otesB42 HT_ ?_
            refine pn_ 39 57 otesB43 HT_ ?_
            refine pn_ 40 58 otesB32 HT_ ?_
            refine pu_ 41 59 otesB33 HT_ ?_
            refine pu_ 42 60 otesB12 HT_ ?_
            refine done_ (done_of HT_.out (by kernel_rfl)) ?_
            try go_wp2
            go_roundg k1
            case measure => have := HK1.out; omega
            case rel => exact ⟨(wrap64 (x3_1 + 1)), (by (rfl)), H', ⟨by have := HK1.out; omega⟩, ⟨by repeat ((with_reducible (exact HB.out)))⟩⟩
     ·rw [if_neg c4] at H
      exact absurd H (by simp)
    ·rw [if_neg c3] at H
     have c3b0 : decide (x3_1 < (l0.length : Int)) = false := decide_eq_false c3
     clear c3
     obtain rfl := Option.some.inj H
     go_wp2
     go_ret
     exact ⟨by (rfl), by repeat ((with_reducible (exact HB.out)))⟩
end Go.Proofs.Ytedfcjcnhgomoaa.P
end
-- MERGED YtedfcjcnhgomoaaCarryRf
section
namespace Go.Proofs.Ytedfcjcnhgomoaa.CarryRf
open Go.RowKit Go.Proofs.Ytedfcjcnhgomoaa.P Go.Proofs.YtedfcjcnhgomoaaW.PrintWords Go.Proofs.YtedfcjcnhgomoaaW.PrintLast Go.Proofs.YtedfcjcnhgomoaaW.PrintMore Go.Proofs.Ytedfcjcnhgomoaa.EditK Go.Proofs.Ytedfcjcnhgomoaa.NoteN
set_option linter.unusedSimpArgs false
set_option linter.unusedVariables false
theorem rless_f (a b : Nt) : variorumref11_Less.f a.f0.f0 a.f0.f1 a.f1 b.f0.f0 b.f0.f1 b.f1 = some (lessN a b) := by
 unfold variorumref11_Less.f lessN
 repeat' split
 all_goals rfl
theorem notes_l (l : List Nt) (hl : l.length ≤ 1000000) : ∀ (n : Nat) (k j : Nat), j + n = l.length → n < k → variorumref11_Notes.l0 k l (j : Int) = some (fineR (prevO l j) (l.drop j)) := by
 intro n
 induction n with
 | zero =>
  intro k j hj hk
  obtain ⟨k, rfl⟩ : ∃ m, k = m + 1 := ⟨k - 1, by omega⟩
  simp only [variorumref11_Notes.l0]
  rw [if_neg (by omega), List.drop_eq_nil_of_le (by omega)]
  rfl
 | succ n ih =>
  intro k j hj hk
  obtain ⟨k, rfl⟩ : ∃ m, k = m + 1 := ⟨k - 1, by omega⟩
  have next := ih k (j + 1) (by omega) (by omega)
  have hx : rd_T104 l (j : Int) = l.getD j z104 := by unfold rd_T104; rw [Int.toNat_natCast]
  rw [fine_step (show j < l.length by omega)]
  simp only [variorumref11_Notes.l0]
  rw [if_pos (by omega), if_pos (by omega), hx]
  obtain ⟨x, hx2⟩ : ∃ x, x = l.getD j z104 := ⟨_, rfl⟩
  rw [← hx2]
  by_cases hs : 0 ≤ x.f0.f0 ∧ x.f0.f0 ≤ x.f0.f1 ∧ x.f0.f1 ≤ 16777216
  ·rw [if_neg (by omega), if_neg (by omega), if_neg (by omega)]
   by_cases hc : 0 ≤ x.f1 ∧ x.f1 ≤ 65536
   ·rw [if_neg (by omega), if_neg (by omega), okX_yes hs hc]
    by_cases hj0 : j = 0
    ·subst hj0
     rw [if_neg (by omega), w64 (x := ((0 : Nat) : Int) + 1) (by omega) (by omega)]
     exact next
    ·rw [if_pos (by omega), w64 (x := (j : Int) - 1) (by omega) (by omega), if_pos (by omega), if_pos (by omega)]
     have hp : rd_T104 l ((j : Int) - 1) = l.getD (j - 1) z104 := by unfold rd_T104; rw [show ((j : Int) - 1).toNat = j - 1 by omega]
     rw [hp, rless_f, Option.bind_some, prevO_pos (by omega : 0 < j), w64 (x := (j : Int) + 1) (by omega) (by omega)]
     show (if lessN (l.getD (j - 1) z104) x = true then _ else _) = some ((true && lessN (l.getD (j - 1) z104) x) && _)
     cases lessN (l.getD (j - 1) z104) x with
     | true => rw [if_pos rfl]; exact next
     | false => rw [if_neg Bool.false_ne_true]; rfl
   ·rw [okX_code hc]
    by_cases h1 : x.f1 < 0
    ·rw [if_pos h1]; rfl
    ·rw [if_neg h1, if_pos (by omega)]; rfl
  ·rw [okX_spot hs]
   by_cases h1 : x.f0.f0 < 0
   ·rw [if_pos h1]; rfl
   ·rw [if_neg h1]
    by_cases h2 : x.f0.f0 > x.f0.f1
    ·rw [if_pos h2]; rfl
    ·rw [if_neg h2, if_pos (by omega)]; rfl
theorem notes_f (l : List Nt) (hl : l.length ≤ 1000000) (k : Nat) (hk : l.length < k) : variorumref11_Notes.f k l = some (fineL l) := by
 unfold variorumref11_Notes.f fineL
 by_cases h : (l.length : Int) > 4096
 ·rw [if_pos h, decide_eq_false (show ¬ l.length ≤ 4096 by omega), Bool.and_false]
 ·rw [if_neg h, decide_eq_true (show l.length ≤ 4096 by omega), Bool.and_true]
  exact notes_l l hl l.length k 0 (by omega) hk
end Go.Proofs.Ytedfcjcnhgomoaa.CarryRf
end
-- MERGED YtedfcjcnhgomoaaPvariorumref11Fields
section
namespace Go.Proofs.Ytedfcjcnhgomoaa.P
open Go.RowKit Go.Proofs.YtedfcjcnhgomoaaW.PrintWords Go.Proofs.YtedfcjcnhgomoaaW.PrintLast Go.Proofs.YtedfcjcnhgomoaaW.PrintMore
attribute [local go_sem] max2_int min2_int max_two min_two max_three min_three max_four min_four   -- for this text's walks alone
set_option linter.unusedVariables false
set_option linter.unusedSimpArgs false
def variorumref11_Fields.f (a0 : Int) : Option (ByteArray) := if a0 = 1 then (some (⟨#[99, 101, 114, 115]⟩ : ByteArray)) else (if a0 = 2 then (some (⟨#[99, 114, 115, 111]⟩ : ByteArray)) else (if a0 = 3 then (some (⟨#[114, 115]⟩ : ByteArray)) else (if a0 = 4 then (some (⟨#[114, 115, 116]⟩ : ByteArray)) else (if a0 = 5 then (some (⟨#[114, 110]⟩ : ByteArray)) else (if a0 = 6 then (some (⟨#[101]⟩ : ByteArray)) else (if a0 = 7 then (some (⟨#[100]⟩ : ByteArray)) else (some (⟨#[]⟩ : ByteArray))))))))
set_option maxHeartbeats 8000000 in
set_option maxRecDepth 100000 in
theorem variorumref11_Fields.calls (a0 : Int) (r : ByteArray) (w : World) (h : variorumref11_Fields.f a0 = some r) :
  Calls Try.prog 63 #[.int .i64 a0] w fun e w' => e = .returned (.string r) ∧ Drawn0 w w' := by
 have H : (if a0 = 1 then (some (⟨#[99, 101, 114, 115]⟩ : ByteArray)) else (if a0 = 2 then (some (⟨#[99, 114, 115, 111]⟩ : ByteArray)) else (if a0 = 3 then (some (⟨#[114, 115]⟩ : ByteArray)) else (if a0 = 4 then (some (⟨#[114, 115, 116]⟩ : ByteArray)) else (if a0 = 5 then (some (⟨#[114, 110]⟩ : ByteArray)) else (if a0 = 6 then (some (⟨#[101]⟩ : ByteArray)) else (if a0 = 7 then (some (⟨#[100]⟩ : ByteArray)) else (some (⟨#[]⟩ : ByteArray))))))))) = some r := h
 clear h
 by_cases c2 : a0 = 1
 ·rw [if_pos c2] at H
  have c2b0 : (a0 == 1) = true := beq_iff_eq.mpr c2
  have c2b1 : (a0 != 1) = false := bne_eq_false_iff_eq.mpr c2
  clear c2
  obtain rfl := Option.some.inj H
  go_enter Try.func63, Try.ntmps63
  go_wp2
  go_ret
  exact ⟨by (rfl), by repeat ((exact Drawn0.refl _))⟩
 ·rw [if_neg c2] at H
  have c2b0 : (a0 == 1) = false := beq_eq_false_iff_ne.mpr c2
  have c2b1 : (a0 != 1) = true := bne_iff_ne.mpr c2
  by_cases c3 : a0 = 2
  ·rw [if_pos c3] at H
   have c3b0 : (a0 == 2) = true := beq_iff_eq.mpr c3
   have c3b1 : (a0 != 2) = false := bne_eq_false_iff_eq.mpr c3
   clear c3
   obtain rfl := Option.some.inj H
   go_enter Try.func63, Try.ntmps63
   go_wp2
   go_ret
   exact ⟨by (rfl), by repeat ((exact Drawn0.refl _))⟩
  ·rw [if_neg c3] at H
   have c3b0 : (a0 == 2) = false := beq_eq_false_iff_ne.mpr c3
   have c3b1 : (a0 != 2) = true := bne_iff_ne.mpr c3
   by_cases c4 : a0 = 3
   ·rw [if_pos c4] at H
    have c4b0 : (a0 == 3) = true := beq_iff_eq.mpr c4
    have c4b1 : (a0 != 3) = false := bne_eq_false_iff_eq.mpr c4
    clear c4
    obtain rfl := Option.some.inj H
    go_enter Try.func63, Try.ntmps63
    go_wp2
    go_ret
    exact ⟨by (rfl), by repeat ((exact Drawn0.refl _))⟩
   ·rw [if_neg c4] at H
    have c4b0 : (a0 == 3) = false := beq_eq_false_iff_ne.mpr c4
    have c4b1 : (a0 != 3) = true := bne_iff_ne.mpr c4
    by_cases c5 : a0 = 4
    ·rw [if_pos c5] at H
     have c5b0 : (a0 == 4) = true := beq_iff_eq.mpr c5
     have c5b1 : (a0 != 4) = false := bne_eq_false_iff_eq.mpr c5
     clear c5
     obtain rfl := Option.some.inj H
     go_enter Try.func63, Try.ntmps63
     go_wp2
     go_ret
     exact ⟨by (rfl), by repeat ((exact Drawn0.refl _))⟩
    ·rw [if_neg c5] at H
     have c5b0 : (a0 == 4) = false := beq_eq_false_iff_ne.mpr c5
     have c5b1 : (a0 != 4) = true := bne_iff_ne.mpr c5
     by_cases c6 : a0 = 5
     ·rw [if_pos c6] at H
      have c6b0 : (a0 == 5) = true := beq_iff_eq.mpr c6
      have c6b1 : (a0 != 5) = false := bne_eq_false_iff_eq.mpr c6
      clear c6
      obtain rfl := Option.some.inj H
      go_enter Try.func63, Try.ntmps63
      go_wp2
      go_ret
      exact ⟨by (rfl), by repeat ((exact Drawn0.refl _))⟩
     ·rw [if_neg c6] at H
      have c6b0 : (a0 == 5) = false := beq_eq_false_iff_ne.mpr c6
      have c6b1 : (a0 != 5) = true := bne_iff_ne.mpr c6
      by_cases c7 : a0 = 6
      ·rw [if_pos c7] at H
       have c7b0 : (a0 == 6) = true := beq_iff_eq.mpr c7
       have c7b1 : (a0 != 6) = false := bne_eq_false_iff_eq.mpr c7
       clear c7
       obtain rfl := Option.some.inj H
       go_enter Try.func63, Try.ntmps63
       go_wp2
       go_ret
       exact ⟨by (rfl), by repeat ((exact Drawn0.refl _))⟩
      ·rw [if_neg c7] at H
       have c7b0 : (a0 == 6) = false := beq_eq_false_iff_ne.mpr c7
       have c7b1 : (a0 != 6) = true := bne_iff_ne.mpr c7
       by_cases c8 : a0 = 7
       ·rw [if_pos c8] at H
        have c8b0 : (a0 == 7) = true := beq_iff_eq.mpr c8
        have c8b1 : (a0 != 7) = false := bne_eq_false_iff_eq.mpr c8
        clear c8
        obtain rfl := Option.some.inj H
        go_enter Try.func63, Try.ntmps63
        go_wp2
        go_ret
        exact ⟨by (rfl), by repeat ((exact Drawn0.refl _))⟩
       ·rw [if_neg c8] at H
        have c8b0 : (a0 == 7) = false := beq_eq_false_iff_ne.mpr c8
        have c8b1 : (a0 != 7) = true := bne_iff_ne.mpr c8
        obtain rfl := Option.some.inj H
        go_enter Try.func63, Try.ntmps63
        go_wp2
        go_ret
        exact ⟨by (rfl), by repeat ((exact Drawn0.refl _))⟩
end Go.Proofs.Ytedfcjcnhgomoaa.P
end

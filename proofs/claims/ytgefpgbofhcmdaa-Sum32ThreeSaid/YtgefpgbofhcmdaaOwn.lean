/- Small words of this session's own, beside the print's: rows that lie in a block that is known whole. -/
import Derived.Test.YtgefpgbofhcmdaaWWords
import Derived.Test.YtgefpgbofhcmdaaWMore
import Derived.Lib.SlBytesConst
import Derived.Lib.SmallJoins
namespace Go.Proofs.Ytgefpgbofhcmdaa.Own
open Go.RowKit Go.Proofs.YtgefpgbofhcmdaaW.PrintWords Go.Proofs.YtgefpgbofhcmdaaW.PrintLast Go.Proofs.YtgefpgbofhcmdaaW.PrintMore

/-- A row whose elements' cells lie in a block that is known. -/
theorem C_of_block {α : Type} (d : Kd α) {W : World} {g : Nat} {C : Array Value} {t : TypeId} {fr : Nat × Nat} {xs : List α} {inner : List Value} (h : W.heap[g]? = some (.cells C t fr))
    (hr : Reps (d.K W) d.sz xs inner) (hC : ∀ (j : Nat) (u : Value), inner[j]? = some u → C[j]? = some u) (hm : xs.length ≤ 9223372036854775807) : Kd.C d W (some ⟨g, 0, none⟩) xs.length xs := by
  refine ⟨rfl, hm, fun _ => ⟨_, rfl, fun j p hj => ?_⟩⟩
  refine ⟨(inner.drop (j * d.sz)).take d.sz, ?_, hr.2 j p hj, fun i u hu => ?_⟩
  · exact d.K_len (hr.2 j p hj)
  · have hl : i < d.sz := by
      have := (List.getElem?_eq_some_iff.1 hu).1
      rw [List.length_take] at this
      omega
    rw [List.getElem?_take_of_lt hl, List.getElem?_drop] at hu
    rw [add_plain, World.cell?, h]
    simp only []
    exact hC _ _ hu

theorem reps_nums (k : IntKind) (W : World) (xs : List Int) : Reps ((Kd.int k).K W) (Kd.int k).sz xs (nums k xs) := by
  refine ⟨by rw [nums_length]; exact (Nat.mul_one _).symm, fun j p hj => ?_⟩
  show ((nums k xs).drop (j * 1)).take 1 = [.int k p]
  rw [Nat.mul_one]
  have h1 : (nums k xs)[j]? = some (.int k p) := by simp [nums, hj]
  obtain ⟨hl, he⟩ := List.getElem?_eq_some_iff.1 h1
  rw [List.drop_eq_getElem_cons hl, he]
  rfl

theorem C_of_nums (k : IntKind) {W : World} {g : Nat} {C : Array Value} {t : TypeId} {fr : Nat × Nat} (xs : List Int) (h : W.heap[g]? = some (.cells C t fr)) (hC : ∀ (j : Nat) (u : Value), (nums k xs)[j]? = some u → C[j]? = some u)
    (hm : xs.length ≤ 9223372036854775807) : Kd.C (Kd.int k) W (some ⟨g, 0, none⟩) xs.length xs := C_of_block (Kd.int k) h (reps_nums k W xs) hC hm

theorem C_of_lit (k : IntKind) {W : World} {g : Nat} {C : Array Value} {t : TypeId} {fr : Nat × Nat} (xs : List Int) (h : W.heap[g]? = some (.cells C t fr)) (hC : C.toList = nums k xs)
    (hm : xs.length ≤ 9223372036854775807) : Kd.C (Kd.int k) W (some ⟨g, 0, none⟩) xs.length xs := C_of_nums k xs h (fun j u hu => by rw [← hC, Array.getElem?_toList] at hu; exact hu) hm

theorem heap_new (W : World) (o : Obj) : (W.alloc o).heap[W.heap.size]? = some o := heap_alloc_new W o
theorem heap_new_drewN (W : World) (n : Nat) (o : Obj) : ((W.drewN n).alloc o).heap[W.heap.size]? = some o := heap_alloc_new (W.drewN n) o

end Go.Proofs.Ytgefpgbofhcmdaa.Own

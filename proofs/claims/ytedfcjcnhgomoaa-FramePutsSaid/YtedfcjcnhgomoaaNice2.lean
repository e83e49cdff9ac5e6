/- The contracts of the check sum's functions, over slices that are read. -/
import Derived.Test.YtedfcjcnhgomoaaPsum32Sum
import Derived.Test.YtedfcjcnhgomoaaPsum32Seal
import Derived.Test.YtedfcjcnhgomoaaPsum32Open
import Derived.Test.YtedfcjcnhgomoaaPvariorumref02Sum
import Derived.Test.YtedfcjcnhgomoaaPvariorumref02Seal
import Derived.Test.YtedfcjcnhgomoaaPvariorumref02Open
import Derived.Test.YtedfcjcnhgomoaaOwn
import Derived.Test.YtedfcjcnhgomoaaSum
import Derived.Test.YtedfcjcnhgomoaaRefSum
import Derived.Test.YtedfcjcnhgomoaaByt
namespace Go.Proofs.Ytedfcjcnhgomoaa.Nice
open Go.RowKit Go.Proofs.Ytedfcjcnhgomoaa.P Go.Proofs.YtedfcjcnhgomoaaW.PrintWords Go.Proofs.YtedfcjcnhgomoaaW.PrintLast Go.Proofs.YtedfcjcnhgomoaaW.PrintMore Go.Proofs.Ytedfcjcnhgomoaa.Own

/-- Are bytes sealed? -/
def sealedP (l : List Int) : Prop := 4 ≤ l.length ∧ (strOfNums (l.take (l.length - 4) ++ Crc.le4 (Crc.sum (l.take (l.length - 4))))).toList = (strOfNums l).toList
instance (l : List Int) : Decidable (sealedP l) := inferInstanceAs (Decidable (_ ∧ _))
def openL (l : List Int) : List Int := if sealedP l then l.take (l.length - 4) else []
def openB (l : List Int) : Bool := decide (sealedP l)
def sealL (l : List Int) : List Int := l ++ Crc.le4 (Crc.sum l)
theorem sealL_length (l : List Int) : (sealL l).length = l.length + 4 := by unfold sealL; rw [List.length_append]; rfl
theorem le4_ok (x : BitVec 32) : Byt.Ok (Crc.le4 x) := by
  intro y hy
  have hlt := x.isLt
  simp only [Crc.le4, List.mem_cons, List.not_mem_nil, or_false] at hy
  omega
theorem sealL_ok {l : List Int} (h : Byt.Ok l) : Byt.Ok (sealL l) := Byt.ok_append h (le4_ok _)
theorem sealed_seal (l : List Int) : sealedP (sealL l) := by
  have e : (sealL l).take ((sealL l).length - 4) = l := by
    rw [sealL_length, Nat.add_sub_cancel]
    unfold sealL
    rw [List.take_left]
  refine ⟨by rw [sealL_length]; omega, ?_⟩
  rw [e]; rfl
theorem openL_seal (l : List Int) : openL (sealL l) = l := by
  unfold openL
  rw [if_pos (sealed_seal l), sealL_length, Nat.add_sub_cancel]
  unfold sealL
  rw [List.take_left]
theorem openB_seal (l : List Int) : openB (sealL l) = true := decide_eq_true (sealed_seal l)
theorem open_f (l : List Int) (h : l.length ≤ 140737488355000) : sum32_Open.f l = some (openL l, openB l) := by
  unfold sum32_Open.f openL openB
  rw [if_pos h]
  by_cases c : sealedP l
  · rw [if_pos c, decide_eq_true c]; exact if_pos c
  · rw [if_neg c, decide_eq_false c]; exact if_neg c
theorem ropen_f (l : List Int) (h : l.length ≤ 140737488355000) : variorumref02_Open.f l = some (openL l, openB l) := open_f l h

theorem nSum (v : Value) (l : List Int) (w : World) (h : Sl w v l) (hl : l.length ≤ 1000000) : Calls Try.prog 83 #[v] w fun e w' => e = .returned (.int .u32 ((Crc.sum l).toNat : Int)) ∧ Below w.heap.size w w' := by
  obtain ⟨A, c, rfl, hc, hC⟩ := h
  obtain ⟨k, hk⟩ := SumF.sum_some l (by omega)
  exact (sum32_Sum.calls k A c l _ w hC hc hk).mono fun e w' ⟨he, hd⟩ => ⟨he, hd.below⟩
theorem nRefSum (v : Value) (l : List Int) (w : World) (h : Sl w v l) (hl : l.length ≤ 1000000) : Calls Try.prog 84 #[v] w fun e w' => e = .returned (.int .u32 ((Crc.sum l).toNat : Int)) ∧ Below w.heap.size w w' := by
  obtain ⟨A, c, rfl, hc, hC⟩ := h
  obtain ⟨k, hk⟩ := RefSum.sum_some l (by omega)
  exact (variorumref02_Sum.calls k A c l _ w hC hc hk).mono fun e w' ⟨he, hd⟩ => ⟨he, hd.below⟩
theorem nSeal (v : Value) (l : List Int) (w : World) (h : Sl w v l) (hl : l.length ≤ 1000000) : Calls Try.prog 39 #[v] w fun e w' => ∃ v', e = .returned v' ∧ Sl w' v' (sealL l) ∧ Below w.heap.size w w' := by
  obtain ⟨A, c, rfl, hc, hC⟩ := h
  have hk : sum32_Seal.f l = some (sealL l) := by unfold sum32_Seal.f; rw [if_pos (by omega)]; rfl
  exact (sum32_Seal.calls A c l _ w hC hc hk).mono fun e w' ⟨v', he, hr, hb⟩ => ⟨v', he, Sl.of_R hr, hb⟩
theorem nRefSeal (v : Value) (l : List Int) (w : World) (h : Sl w v l) (hl : l.length ≤ 1000000) : Calls Try.prog 42 #[v] w fun e w' => ∃ v', e = .returned v' ∧ Sl w' v' (sealL l) ∧ Below w.heap.size w w' := by
  obtain ⟨A, c, rfl, hc, hC⟩ := h
  obtain ⟨k, hk⟩ := RefSum.seal_some l (by omega)
  exact (variorumref02_Seal.calls k A c l _ w hC hc hk).mono fun e w' ⟨v', he, hr, hb⟩ => ⟨v', he, Sl.of_R hr, hb⟩
theorem nOpen (v : Value) (l : List Int) (w : World) (h : Sl w v l) (hl : l.length ≤ 1000000) : Calls Try.prog 50 #[v] w fun e w' => ∃ v', e = .returned (.tuple #[v', .bool (openB l)]) ∧ Sl w' v' (openL l) ∧ Below w.heap.size w w' := by
  have hV := Sl.to_V (e := 5) (base := w.heap.size) h
  obtain ⟨A, c, rfl, hc, hC⟩ := h
  exact (sum32_Open.calls _ A c l _ _ w hV (open_f l (by omega))).mono fun e w' ⟨v', he, hr, hb⟩ => ⟨v', he, Sl.of_V hr, hb⟩
theorem nRefOpen (v : Value) (l : List Int) (w : World) (h : Sl w v l) (hl : l.length ≤ 1000000) : Calls Try.prog 54 #[v] w fun e w' => ∃ v', e = .returned (.tuple #[v', .bool (openB l)]) ∧ Sl w' v' (openL l) ∧ Below w.heap.size w w' := by
  have hV := Sl.to_V (e := 5) (base := w.heap.size) h
  obtain ⟨A, c, rfl, hc, hC⟩ := h
  exact (variorumref02_Open.calls _ A c l _ _ w hV (ropen_f l (by omega))).mono fun e w' ⟨v', he, hr, hb⟩ => ⟨v', he, Sl.of_V hr, hb⟩
theorem nOpenSeal (v : Value) (l : List Int) (w : World) (h : Sl w v (sealL l)) (hl : l.length ≤ 999990) : Calls Try.prog 50 #[v] w fun e w' => ∃ v', e = .returned (.tuple #[v', .bool true]) ∧ Sl w' v' l ∧ Below w.heap.size w w' := by
  have hk := nOpen v (sealL l) w h (by rw [sealL_length]; omega)
  rw [openB_seal, openL_seal] at hk
  exact hk

end Go.Proofs.Ytedfcjcnhgomoaa.Nice

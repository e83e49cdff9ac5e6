/- Lists of bytes as numbers: when two texts made of them are the same; a byte's bits. -/
import Derived.Lib.Bytes
import Derived.Laws.BitsLemmas
import Derived.RowKit
import GoSem.Claim
namespace Go.Proofs.Ytedfcjcnhgomoaa.Byt
open Go.RowKit

/-- Each is a byte's number. -/
def Ok (l : List Int) : Prop := ∀ x ∈ l, 0 ≤ x ∧ x ≤ 255

theorem ok_nil : Ok [] := fun _ h => by cases h
theorem ok_cons {x : Int} {l : List Int} (h : 0 ≤ x ∧ x ≤ 255) (hl : Ok l) : Ok (x :: l) := fun y hy => by
  rcases List.mem_cons.1 hy with rfl | hy
  · exact h
  · exact hl y hy
theorem ok_append {l m : List Int} (hl : Ok l) (hm : Ok m) : Ok (l ++ m) := fun y hy => by
  rcases List.mem_append.1 hy with hy | hy
  · exact hl y hy
  · exact hm y hy
theorem ok_take {l : List Int} (h : Ok l) (n : Nat) : Ok (l.take n) := fun x hx => h x (List.mem_of_mem_take hx)
theorem ok_drop {l : List Int} (h : Ok l) (n : Nat) : Ok (l.drop n) := fun x hx => h x (List.mem_of_mem_drop hx)
theorem ok_set {l : List Int} (h : Ok l) (n : Nat) {x : Int} (hx : 0 ≤ x ∧ x ≤ 255) : Ok (l.set n x) := fun y hy => by
  rcases List.mem_or_eq_of_mem_set hy with hy | rfl
  · exact h y hy
  · exact hx
theorem wf_u8 {x : Int} : (Lit.int .u8 x).wf = true ↔ (0 ≤ x ∧ x ≤ 255) := by
  simp [Lit.wf, IntKind.min, IntKind.max, IntKind.signed, IntKind.bits]
theorem ok_of_wf {l : List Int} (h : ∀ x ∈ l, (Lit.int .u8 x).wf = true) : Ok l := fun x hx => wf_u8.1 (h x hx)
theorem wf_u32 {x : Int} (h : (Lit.int .u32 x).wf = true) : 0 ≤ x ∧ x ≤ 4294967295 := by
  simp [Lit.wf, IntKind.min, IntKind.max, IntKind.signed, IntKind.bits] at h
  omega
theorem wf_i64 {x : Int} (h : (Lit.int .i64 x).wf = true) : -9223372036854775808 ≤ x ∧ x ≤ 9223372036854775807 := by
  simp [Lit.wf, IntKind.min, IntKind.max, IntKind.signed, IntKind.bits] at h
  omega

theorem byte_inj {x y : Int} (hx : 0 ≤ x ∧ x ≤ 255) (hy : 0 ≤ y ∧ y ≤ 255) (h : UInt8.ofNat x.toNat = UInt8.ofNat y.toNat) : x = y := by
  have := congrArg UInt8.toNat h
  simp only [UInt8.toNat_ofNat'] at this
  omega
theorem map_inj : ∀ {l m : List Int}, Ok l → Ok m → l.map (fun n => UInt8.ofNat n.toNat) = m.map (fun n => UInt8.ofNat n.toNat) → l = m
  | [], [], _, _, _ => rfl
  | [], _ :: _, _, _, h => by simp at h
  | _ :: _, [], _, _, h => by simp at h
  | x :: l, y :: m, hl, hm, h => by
    simp only [List.map_cons, List.cons.injEq] at h
    have e := byte_inj (hl x (by simp)) (hm y (by simp)) h.1
    rw [e, map_inj (fun z hz => hl z (List.mem_cons_of_mem _ hz)) (fun z hz => hm z (List.mem_cons_of_mem _ hz)) h.2]
/-- Two texts of bytes are the same just where the bytes are. -/
theorem str_eq {l m : List Int} (hl : Ok l) (hm : Ok m) : (strOfNums l).toList = (strOfNums m).toList ↔ l = m := by
  rw [Lib.strOfNums_toList, Lib.strOfNums_toList]
  exact ⟨map_inj hl hm, fun h => by rw [h]⟩
theorem str_eq' {l m : List Int} (hl : Ok l) (hm : Ok m) (h : l ≠ m) : ¬ (strOfNums l).toList = (strOfNums m).toList := fun e => h ((str_eq hl hm).1 e)

theorem wrap_in (x : Int) (h : -9223372036854775808 ≤ x ∧ x ≤ 9223372036854775807) : wrap64 x = x := by unfold wrap64; omega
theorem rd_at (l : List Int) (i : Nat) (h : i < l.length) : l.getD ((i : Int)).toNat 0 = l[i] := by
  rw [Int.toNat_natCast, List.getD_eq_getElem?_getD, List.getElem?_eq_getElem h]; rfl

end Go.Proofs.Ytedfcjcnhgomoaa.Byt

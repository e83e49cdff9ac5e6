import Derived.Test.YtedfcjcnhgomoaaRows
import Derived.Test.YtedfcjcnhgomoaaZB
import Derived.Test.YtedfcjcnhgomoaaZD
import Derived.Test.YtedfcjcnhgomoaaZA
import Derived.WalkKit
import Derived.ProofKit
import Derived.OpenShut
import Derived.ShutString
import Derived.ChangeOld
import Derived.Below
import Derived.SizedLaws
import Derived.Test.YtedfcjcnhgomoaaWSized
-- MERGED YtedfcjcnhgomoaaFrameBackL
section
/- The plain law of frames that are got back; no program in sight. -/
namespace Go.Proofs.Ytedfcjcnhgomoaa.FrameBackL
open Go.RowKit Go.Proofs.Ytedfcjcnhgomoaa.Own Go.Proofs.Ytedfcjcnhgomoaa.Vy Go.Proofs.Ytedfcjcnhgomoaa.FrameP Go.Proofs.Ytedfcjcnhgomoaa.FrameL Go.Proofs.Ytedfcjcnhgomoaa.FrameR

theorem good_parts {p : Pk} (h : good p = true) : (∃ e s a : Nat, p.e = e ∧ p.s = s ∧ p.a = a ∧ (e : Int) ≤ M ∧ (s : Int) ≤ M ∧ (a : Int) ≤ M) ∧ p.d.size ≤ 65536 := by
  unfold good numB at h
  simp only [Bool.and_eq_true, decide_eq_true_eq] at h
  obtain ⟨⟨⟨⟨h1, h2⟩, h3⟩, h4⟩, h5⟩ := h
  have : M = 4611686018427387904 := rfl
  exact ⟨⟨p.e.toNat, p.s.toNat, p.a.toNat, by omega, by omega, by omega, by omega, by omega, by omega⟩, h4⟩
theorem body_eq {p : Pk} {e s a : Nat} (he : p.e = e) (hs : p.s = s) (ha : p.a = a) (me : (e : Int) ≤ M) (ms : (s : Int) ≤ M) (ma : (a : Int) ≤ M) (hd : (p.d.size : Int) ≤ M) : body p = enc e ++ (enc s ++ (enc a ++ putTL [] (numsOf p.d))) := by
  unfold body putTL
  rw [he, hs, ha, putL_good me, putL_good ms, putL_good ma, putL_good (by rw [numsOf_length]; exact hd), putL_good (by rw [numsOf_length]; exact hd)]
  simp only [List.nil_append, List.append_assoc]
theorem parse_body {p : Pk} (h : good p = true) : parse (body p) = some p := by
  obtain ⟨⟨e, s, a, he, hs, ha, me, ms, ma⟩, hd⟩ := good_parts h
  have hM : M = 4611686018427387904 := rfl
  have hdl : ((numsOf p.d).length : Int) ≤ M := by rw [numsOf_length]; omega
  have hb := body_eq he hs ha me ms ma (by omega)
  have n1 : numL (body p) = ((e : Int), (enc e).length) := by rw [hb]; exact numL_enc e me _
  have j1 : i1 (body p) = (enc e).length := by unfold i1; rw [n1]
  have d1 : (body p).drop (i1 (body p)) = enc s ++ (enc a ++ putTL [] (numsOf p.d)) := by rw [j1, hb, List.drop_left]
  have n2 : numL ((body p).drop (i1 (body p))) = ((s : Int), (enc s).length) := by rw [d1]; exact numL_enc s ms _
  have j2 : i2 (body p) = (enc s).length := by unfold i2; rw [n2]
  have d2 : (body p).drop (i1 (body p) + i2 (body p)) = enc a ++ putTL [] (numsOf p.d) := by rw [← List.drop_drop, d1, j2, List.drop_left]
  have n3 : numL ((body p).drop (i1 (body p) + i2 (body p))) = ((a : Int), (enc a).length) := by rw [d2]; exact numL_enc a ma _
  have j3 : i3 (body p) = (enc a).length := by unfold i3; rw [n3]
  have d3 : (body p).drop (i1 (body p) + i2 (body p) + i3 (body p)) = putTL [] (numsOf p.d) := by rw [← List.drop_drop, d2, j3, List.drop_left]
  have n4 : textL ((body p).drop (i1 (body p) + i2 (body p) + i3 (body p))) = (numsOf p.d, (enc (numsOf p.d).length).length + (numsOf p.d).length) := by
    rw [d3]
    have := textL_put (numsOf p.d) [] hdl
    rwa [List.append_nil] at this
  have j4 : i4 (body p) = (enc (numsOf p.d).length).length + (numsOf p.d).length := by unfold i4; rw [n4]
  have hrp : rp (body p) = p := by
    unfold rp
    rw [n1, n2, n3, n4]
    simp only
    rw [← he, ← hs, ← ha, strOf_numsOf]
  have := parse_yes (ok_body p) (by rw [j1]; have := enc_pos e; omega) (by rw [j2]; have := enc_pos s; omega) (by rw [j3]; have := enc_pos a; omega) (by rw [j4]; have := enc_pos (numsOf p.d).length; omega)
  rw [this, hrp, if_pos ⟨h, rfl⟩]
theorem frame_eq {p : Pk} (h : good p = true) : frame p = enc (body p).length ++ Nice.sealL (body p) := by
  have := body_len p
  have := (good_parts h).2
  have hM : M = 4611686018427387904 := rfl
  unfold frame
  rw [putL_good (by omega), List.nil_append]
theorem get_back {p : Pk} (h : good p = true) (rest : List Int) : FrameL.get (frame p ++ rest) = (p, (frame p).length, 0) := by
  have hbl := body_len p
  have hd := (good_parts h).2
  have hM : M = 4611686018427387904 := rfl
  have hn : numL (frame p ++ rest) = (((body p).length : Int), (enc (body p).length).length) := by rw [frame_eq h, List.append_assoc]; exact numL_enc _ (by omega) _
  have hfl : (frame p).length = (enc (body p).length).length + (body p).length + 4 := by rw [frame_eq h, List.length_append, Nice.sealL_length]; omega
  have hp := enc_pos (body p).length
  rw [get_long (k := (enc (body p).length).length) (m := (body p).length) (by rw [hn]) (by rw [hn]; simp only; omega) (by rw [hn]) (by omega) (by rw [List.length_append, hfl]; omega)]
  have e1 : (frame p ++ rest).take ((enc (body p).length).length + (body p).length + 4) = frame p := by rw [← hfl, List.take_left]
  have e2 : (frame p).drop (enc (body p).length).length = Nice.sealL (body p) := by rw [frame_eq h, List.drop_left]
  rw [e1, e2, tail_some (p := p) (Nice.openB_seal _) (by rw [Nice.openL_seal]; exact parse_body h), hfl]
end Go.Proofs.Ytedfcjcnhgomoaa.FrameBackL
end
-- MERGED YtedfcjcnhgomoaaBursts
section
/- The plain law of bits that are turned, all within 32 side by side; no program in sight. -/
namespace Go.Proofs.Ytedfcjcnhgomoaa.Bursts
open Go.RowKit Go.Proofs.Ytedfcjcnhgomoaa.P Go.Proofs.YtedfcjcnhgomoaaW.PrintWords Go.Proofs.YtedfcjcnhgomoaaW.PrintLast Go.Proofs.YtedfcjcnhgomoaaW.PrintMore Go.Proofs.Ytedfcjcnhgomoaa.Crc

/-- The bits of a turn below place i. -/
def low (t : BitVec 32) : Nat → BitVec 32
  | 0 => 0#32
  | i + 1 => low t i ^^^ (if t.getLsbD i then BitVec.twoPow 32 i else 0#32)
theorem low_get (t : BitVec 32) : ∀ i j, (low t i).getLsbD j = (decide (j < i) && t.getLsbD j) := by
  intro i
  induction i with
  | zero => intro j; simp [low]
  | succ i ih =>
    intro j
    rw [low, BitVec.getLsbD_xor, ih]
    by_cases hij : j = i
    · subst hij
      cases ht : t.getLsbD j with
      | false => simp
      | true =>
        have hj : j < 32 := BitVec.lt_of_getLsbD ht
        simp [hj]
    · have hne : (if t.getLsbD i = true then BitVec.twoPow 32 i else 0#32).getLsbD j = false := by
        split
        · rw [BitVec.getLsbD_twoPow]; simp; omega
        · simp
      rw [hne]
      by_cases h1 : j < i
      · simp [h1, show j < i + 1 by omega]
      · simp [h1, show ¬ j < i + 1 by omega]
theorem low_all (t : BitVec 32) : low t 32 = t := by
  apply BitVec.eq_of_getLsbD_eq
  intro j hj
  rw [low_get]; simp [hj]

theorem shr_bit (t : BitVec 32) (i : Nat) (hi : i < 32) : Go.bits .and .u32 (shr .u32 (t.toNat : Int) (i : Int)) 1 = if t.getLsbD i then 1 else 0 := by
  have e : shr .u32 (t.toNat : Int) (i : Int) = ((t >>> i).toNat : Int) := by
    unfold shr
    rw [Int.toNat_natCast, show IntKind.u32.bits = 32 from rfl, Nat.min_eq_left (by omega), BitVec.toNat_ushiftRight, Nat.shiftRight_eq_div_pow]
    rw [Int.natCast_ediv]; simp
  rw [e, bits_and1, BitVec.getLsbD_ushiftRight]
  simp
theorem shl_one (b : Nat) (hb : b < 8) : shl .u8 1 (b : Int) = (2 ^ b : Nat) := by
  unfold shl
  rw [Int.toNat_natCast, show IntKind.u8.bits = 8 from rfl, Nat.min_eq_left (by omega), IntKind.wrap_u8, Int.one_mul]
  have h1 : 2 ^ b < 2 ^ 8 := Nat.pow_lt_pow_right (by decide) hb
  have h2 : ((2 : Int) ^ b) = ((2 ^ b : Nat) : Int) := by simp
  rw [h2]
  generalize 2 ^ b = m at h1
  omega
theorem xor_byte (c : Int) (hc : 0 ≤ c ∧ c ≤ 255) (b : Nat) (hb : b < 8) : ∃ d : Int, Go.bits .xor .u8 c ((2 ^ b : Nat) : Int) = d ∧ (0 ≤ d ∧ d ≤ 255) ∧ BitVec.ofInt 32 d = BitVec.ofInt 32 c ^^^ BitVec.twoPow 32 b := by
  obtain ⟨n, rfl⟩ := Int.eq_ofNat_of_zero_le hc.1
  have h1 : 2 ^ b < 2 ^ 8 := Nat.pow_lt_pow_right (by decide) hb
  have hn : n < 2 ^ 8 := by have := hc.2; omega
  have hx : n ^^^ 2 ^ b < 2 ^ 8 := Nat.xor_lt_two_pow hn h1
  refine ⟨((n ^^^ 2 ^ b : Nat) : Int), ?_, by omega, ?_⟩
  · simp only [bits]
    show IntKind.u8.wrap (((BitVec.ofInt 8 (n : Int)) ^^^ (BitVec.ofInt 8 ((2 ^ b : Nat) : Int))).toNat : Int) = _
    rw [BitVec.ofInt_natCast, BitVec.ofInt_natCast, BitVec.toNat_xor, BitVec.toNat_ofNat, BitVec.toNat_ofNat, Nat.mod_eq_of_lt hn, Nat.mod_eq_of_lt h1, IntKind.wrap_u8]
    omega
  · rw [ofInt_of_nat, ofInt_of_nat]
    apply BitVec.eq_of_toNat_eq
    rw [BitVec.toNat_xor, BitVec.toNat_ofNat, BitVec.toNat_ofNat, BitVec.toNat_twoPow]
    have h3 : (2 : Nat) ^ 8 ≤ 2 ^ 32 := by decide
    rw [Nat.mod_eq_of_lt (by omega), Nat.mod_eq_of_lt (by omega), Nat.mod_eq_of_lt (by omega)]
/-- Where a bit alone goes. -/
theorem place (n K i j b : Nat) (hij : 8 * j + b = K + i) (hb : b < 8) (hi : i < 32) (hj : j < n) (hK : K + 32 ≤ 8 * n) : dns (8 * (n - j)) (BitVec.twoPow 32 b) = dns (8 * n - K) (BitVec.twoPow 32 i) := by
  have e1 : 8 * (n - j) = b + (8 * n - K - i) := by omega
  have e2 : 8 * n - K = i + (8 * n - K - i) := by omega
  rw [e1, dns_add, dns_bit b (by omega), e2, dns_add, dns_bit i (by omega), ← e2]

theorem w_nat (a : Nat) (h : a ≤ 1000000) : wrap64 (a : Int) = (a : Int) := Byt.wrap_in _ (by omega)


theorem shut {s : List Int} (hs : Byt.Ok s) (h : run ones s ≠ dns 32 ones) : Nice.openB s = false := by
  unfold Nice.openB
  rw [decide_eq_false]
  rintro ⟨h4, he⟩
  have hok : Byt.Ok (s.take (s.length - 4) ++ le4 (sum (s.take (s.length - 4)))) := by
    refine Byt.ok_append (Byt.ok_take hs _) ?_
    intro x hx
    have hlt := (sum (s.take (s.length - 4))).isLt
    simp only [le4, List.mem_cons, List.not_mem_nil, or_false] at hx
    omega
  have e := (Byt.str_eq hok hs).1 he
  apply h
  rw [← e]
  exact run_sealed _
/-- One bit's turn. -/
theorem turn (s : List Int) (hok : Byt.Ok s) (t : BitVec 32) (K i : Nat) (r0 : BitVec 32) (hi : i < 32) (hK : K + 32 ≤ 8 * s.length) (hr : run ones s = r0 ^^^ dns (8 * s.length - K) (low t i)) (hb : t.getLsbD i = true) (c : Int) (hc : Go.bits .xor .u8 (s[(K + i) / 8]'(by omega)) (shl .u8 1 (((K + i) % 8 : Nat) : Int)) = c) :
    Byt.Ok (s.set ((K + i) / 8) c) ∧ run ones (s.set ((K + i) / 8) c) = r0 ^^^ dns (8 * s.length - K) (low t (i + 1)) := by
  have hj : (K + i) / 8 < s.length := by omega
  rw [shl_one _ (by omega)] at hc
  obtain ⟨c', hc', hcr, hcx⟩ := xor_byte s[(K + i) / 8] (hok _ (List.getElem_mem hj)) ((K + i) % 8) (by omega)
  obtain rfl : c' = c := hc'.symm.trans hc
  refine ⟨Byt.ok_set hok _ hcr, ?_⟩
  rw [run_flip s _ hj c' _ hcx, hr, low, hb, place s.length K i ((K + i) / 8) ((K + i) % 8) (by omega) (by omega) (by omega) (by omega) hK]
  simp only [if_true]
  rw [dns_xor, BitVec.xor_assoc]
theorem all_turned {s : List Int} (hok : Byt.Ok s) {t : BitVec 32} {m : Nat} (ht : t ≠ 0#32) (hr : run ones s = dns 32 ones ^^^ dns m (low t 32)) : Nice.openB s = false := by
  refine shut hok ?_
  rw [hr, low_all]
  intro e
  have e2 : dns 32 ones ^^^ dns m t = dns 32 ones ^^^ 0#32 := by rw [e]; simp
  exact ht (dns_inj0 _ _ (xor_cancel e2))
end Go.Proofs.Ytedfcjcnhgomoaa.Bursts
end
-- MERGED YtedfcjcnhgomoaaFrameBurstsL
section
/- The plain law of frames in which bits are turned; no program in sight. -/
namespace Go.Proofs.Ytedfcjcnhgomoaa.FrameBurstsL
open Go.RowKit Go.Proofs.Ytedfcjcnhgomoaa.P Go.Proofs.YtedfcjcnhgomoaaW.PrintWords Go.Proofs.YtedfcjcnhgomoaaW.PrintLast Go.Proofs.YtedfcjcnhgomoaaW.PrintMore Go.Proofs.Ytedfcjcnhgomoaa.Own Go.Proofs.Ytedfcjcnhgomoaa.Vy Go.Proofs.Ytedfcjcnhgomoaa.FrameP Go.Proofs.Ytedfcjcnhgomoaa.FrameL Go.Proofs.Ytedfcjcnhgomoaa.FrameBackL Go.Proofs.Ytedfcjcnhgomoaa.Crc Go.Proofs.Ytedfcjcnhgomoaa.Bursts

/-- A frame whose bits are turned up to place i. -/
structure Tn (p : Pk) (t : BitVec 32) (K i : Nat) (s : List Int) : Prop where
  len : s.length = (frame p).length
  ok : Byt.Ok s
  head : s.take (enc (body p).length).length = enc (body p).length
  run : run ones (s.drop (enc (body p).length).length) = dns 32 ones ^^^ dns (8 * ((body p).length + 4) - K) (low t i)
theorem tn0 {p : Pk} (h : good p = true) (t : BitVec 32) (K : Nat) : Tn p t K 0 (frame p) := by
  refine ⟨rfl, ok_frame p, by rw [frame_eq h, List.take_left], ?_⟩
  rw [frame_eq h, List.drop_left]
  unfold Nice.sealL low
  rw [run_sealed, dns_zero]; simp
theorem flen {p : Pk} (h : good p = true) : (frame p).length = (enc (body p).length).length + (body p).length + 4 := by rw [frame_eq h, List.length_append, Nice.sealL_length]; omega
theorem body_four (p : Pk) (h : good p = true) : 4 ≤ (body p).length := by
  obtain ⟨⟨e, s, a, he, hs, ha, me, ms, ma⟩, hd⟩ := good_parts h
  have hM : M = 4611686018427387904 := rfl
  rw [body_eq he hs ha me ms ma (by omega)]
  unfold putTL
  rw [putL_good (by rw [numsOf_length]; omega)]
  have := enc_pos e; have := enc_pos s; have := enc_pos a; have := enc_pos (numsOf p.d).length
  simp only [List.length_append, List.length_nil]
  omega
theorem tn_stay {p : Pk} {t : BitVec 32} {K i : Nat} {s : List Int} (h : Tn p t K i s) (hb : t.getLsbD i = false) : Tn p t K (i + 1) s := by
  refine ⟨h.len, h.ok, h.head, ?_⟩
  rw [h.run, low, hb]; simp
theorem tn_turn {p : Pk} (hg : good p = true) {t : BitVec 32} {K i : Nat} {s : List Int} (h : Tn p t K i s) (hi : i < 32) (hK : K + 32 ≤ 8 * ((body p).length + 4)) (hb : t.getLsbD i = true) (j b : Nat) (hj : j = (8 * (enc (body p).length).length + K + i) / 8) (hbb : b = (8 * (enc (body p).length).length + K + i) % 8) (hjs : j < s.length) :
    Tn p t K (i + 1) (s.set j (Go.bits .xor .u8 s[j] (shl .u8 1 (b : Int)))) := by
  obtain ⟨q, hq⟩ : ∃ q, q = (enc (body p).length).length := ⟨_, rfl⟩
  have hfl := flen hg
  have hl := h.len
  have hr := h.run
  have hhd := h.head
  rw [← hq] at hfl hr hhd
  rw [← hq] at hj hbb
  have hdl : (s.drop q).length = (body p).length + 4 := by rw [List.length_drop]; omega
  have hjq : q ≤ j := by omega
  have hj2 : j - q = (K + i) / 8 := by omega
  have hb2 : b = (K + i) % 8 := by omega
  rw [← hdl] at hr
  have hsj : (s.drop q)[(K + i) / 8]'(by omega) = s[j] := by
    simp only [List.getElem_drop]
    congr 1; omega
  have ht := turn (s.drop q) (Byt.ok_drop h.ok _) t K i _ hi (by omega) hr hb (Go.bits .xor .u8 s[j] (shl .u8 1 (b : Int))) (by rw [hsj, hb2])
  obtain ⟨hok, hrun⟩ := ht
  have hjs2 : (s.set j (Go.bits .xor .u8 s[j] (shl .u8 1 (b : Int)))).drop q = (s.drop q).set ((K + i) / 8) (Go.bits .xor .u8 s[j] (shl .u8 1 (b : Int))) := by
    rw [List.drop_set, if_neg (by omega), hj2]
  have htk : (s.set j (Go.bits .xor .u8 s[j] (shl .u8 1 (b : Int)))).take q = s.take q := by
    rw [List.take_set_of_le hjq]
  refine ⟨by rw [List.length_set]; exact hl, ?_, by rw [← hq, htk]; exact hhd, by rw [← hq, hjs2, hrun, hdl]⟩
  intro x hx
  rw [← List.take_append_drop q (s.set j _), htk, hjs2] at hx
  rcases List.mem_append.1 hx with hx | hx
  · exact Byt.ok_take h.ok _ x hx
  · exact hok x hx
theorem tn_get {p : Pk} (hg : good p = true) {t : BitVec 32} (ht : t ≠ 0#32) {K : Nat} {s : List Int} (h : Tn p t K 32 s) : FrameL.get s = (zp, (frame p).length, 12) := by
  have hbl := body_len p
  have hd := (good_parts hg).2
  have hM : M = 4611686018427387904 := rfl
  have hfl := flen hg
  have hp := enc_pos (body p).length
  have hl := h.len
  have hs : s = enc (body p).length ++ s.drop (enc (body p).length).length := by
    have := List.take_append_drop (enc (body p).length).length s
    rw [h.head] at this
    exact this.symm
  have hn : numL s = (((body p).length : Int), (enc (body p).length).length) := by rw [hs]; exact numL_enc _ (by omega) _
  rw [get_long (k := (enc (body p).length).length) (m := (body p).length) (by rw [hn]) (by rw [hn]; simp only; omega) (by rw [hn]) (by omega) (by omega)]
  rw [← hfl, ← hl, List.take_length, tail_shut (all_turned (Byt.ok_drop h.ok _) ht h.run)]
end Go.Proofs.Ytedfcjcnhgomoaa.FrameBurstsL
end
-- MERGED YtedfcjcnhgomoaaFrameO
section
/- A frame that is put is its caller's own. -/
namespace Go.Proofs.Ytedfcjcnhgomoaa.FrameO
open Go.RowKit Go.Proofs.Ytedfcjcnhgomoaa.P Go.Proofs.YtedfcjcnhgomoaaW.PrintWords Go.Proofs.YtedfcjcnhgomoaaW.PrintLast Go.Proofs.YtedfcjcnhgomoaaW.PrintMore Go.Proofs.Ytedfcjcnhgomoaa.Own Go.Proofs.Ytedfcjcnhgomoaa.Vy Go.Proofs.Ytedfcjcnhgomoaa.FrameP
set_option linter.unusedSimpArgs false
set_option linter.unusedVariables false

/-- An append to a slice that grows: of a slice's bytes. -/
theorem exec_gro {P : Program} {w : World} {f : Operand → Value} {o : Oper} {s x : Operand} {t e : TypeId} {B : Nat} (hop : o.op = Op.call { callee := Callee.builtin Builtin.append, args := #[s, x], argTypes := #[t, t] })
    (h1 : P.underlying t = some (.slice e)) (hi : (P.info? e).map (fun i => (i.zero, i.size, i.bytes)) = some (some (.int .u8 0), 1, 1)) (hB : B ≤ w.heap.size)
    {vs : Value} {xs : List Int} (hs : f s = vs) (hx : Gr B e w vs xs) {v : Value} {ys : List Int} (he : f x = v) (hy : Sl w v ys)
    (b1 : xs.length + ys.length ≤ 140737488355328) (hp : 0 < ys.length) :
    ∃ v' w', (execOp f o).run P w = .ok (.value v') w' ∧ w'.ownsRow B e 1 v' (xs ++ ys).length (nums .u8 (xs ++ ys)) ∧ Below B w w' := by
  obtain ⟨i0, hi0, hz0, hz1, hz2⟩ := info_parts hi
  obtain ⟨A2, c2, rfl, hc2, hC2⟩ := hy
  have hm : xs.length + ys.length ≤ maxLen := by unfold maxLen; omega
  have e1 : (xs ++ ys).length = xs.length + ys.length := List.length_append
  have e2 : nums .u8 (xs ++ ys) = nums .u8 xs ++ nums .u8 ys := nums_append _ _ _
  obtain ⟨ad, hA2, _⟩ := hC2.2.2 hp
  subst hA2
  have hC : ∀ j u, (nums .u8 ys)[j]? = some u → w.cell? (ad.add j) = some u := fun j u hu => C_cells hC2 ad rfl j u hu
  have one : ∀ u ∈ nums .u8 ys, u.oneCell' = true := fun u hu => by
    rw [nums, List.mem_map] at hu
    obtain ⟨z, _, rfl⟩ := hu
    rfl
  have own : ∀ B', B ≤ B' → B' ≤ w.heap.size → w.ownsRow B' e 1 vs xs.length (nums .u8 xs) → ∃ v' w', (execOp f o).run P w = .ok (.value v') w' ∧ w'.ownsRow B e 1 v' (xs ++ ys).length (nums .u8 (xs ++ ys)) ∧ Below B w w' := by
    intro B' hBB hB' ho
    obtain ⟨v', w', hrun, r1, r2, _⟩ := run_append_own (P := P) w B' t o.type e i0 (.int .u8 0) 1 1 h1 hi0 hz0 hz1 hz2 rfl (by decide) vs xs.length (nums .u8 xs) ho ad ys.length c2 (nums .u8 ys) (by rw [nums_length]; omega) hC one hm (by omega) hB'
    refine ⟨v', w', ?_, ?_, (Below.refl _ w).grown r2 hB (fun k e => Nat.le_trans hBB (ho.lt k e).1)⟩
    · simp [execOp, hop, resolve, invoke, builtin, hs, he, hrun, Result.andThen]
    · rw [e1, e2]; exact r1.mono hBB
  rcases hx with ⟨A, rfl, hx⟩ | ho
  · cases A with
    | some b =>
      obtain ⟨v', w', hrun, r1, r2⟩ := run_append_arg_grows (P := P) w t o.type e i0 (.int .u8 0) 1 1 h1 hi0 hz0 hz1 hz2 rfl (by decide) b xs.length xs.length (nums .u8 xs) (by rw [nums_length]; omega) (fun j u hu => C_cells hx b rfl j u hu) ad ys.length c2 (nums .u8 ys) (by rw [nums_length]; omega) hC (by omega) hm (by omega)
      refine ⟨v', w', ?_, ?_, (Below.refl _ w).grown r2 hB (fun k e => by cases e)⟩
      · simp [execOp, hop, resolve, invoke, builtin, hs, he, hrun, Result.andThen]
      · rw [e1, e2]; exact r1.mono hB
    | none =>
      have h0 : xs.length = 0 := C_none hx rfl
      obtain rfl : xs = [] := List.eq_nil_of_length_eq_zero h0
      exact own w.heap.size hB (Nat.le_refl _) (World.ownsRow_nil w _ e 1)
  · exact own B (Nat.le_refl _) hB ho
theorem wpList_gro {P : Program} {ops : Array Oper} {rest : List Oper} {o : Oper} {a : Act} {w : World} {Q : Exit → Act → World → Prop} {s x : Operand} {t e : TypeId} {B : Nat} (hg : o.guard = none)
    (hop : o.op = Op.call { callee := Callee.builtin Builtin.append, args := #[s, x], argTypes := #[t, t] })
    (h1 : P.underlying t = some (.slice e)) (hi : (P.info? e).map (fun i => (i.zero, i.size, i.bytes)) = some (some (.int .u8 0), 1, 1)) (hB : B ≤ w.heap.size)
    {vs : Value} {xs : List Int} (hs : a.eval s = vs) (hx : Gr B e w vs xs) {v : Value} {ys : List Int} (he : a.eval x = v) (hy : Sl w v ys) (b1 : xs.length + ys.length ≤ 140737488355328) (hp : 0 < ys.length)
    (hK : ∀ v' w', Kd.R (Kd.int .u8) e w' B (fun _ => True) v' (xs ++ ys) → Below B w w' → wpList P ops Q rest (a.put o.dst v') w') : wpList P ops Q (o :: rest) a w := by
  obtain ⟨v', w', hrun, r1, r2⟩ := exec_gro (P := P) (o := o) (f := a.eval) hop h1 hi hB hs hx he hy b1 hp
  exact wpList_ex hg hrun (hK v' w' (Kd.R_of_own r1 (fun _ _ => trivial)) r2)
set_option maxHeartbeats 2000000 in
set_option maxRecDepth 100000 in
theorem put_o (p : Pk) (hgp : good p = true) (w : World) : Calls Try.prog 13 #[p.val] w fun e w' => ∃ v, e = .returned (.tuple #[v, .int .i64 0]) ∧ Kd.R (Kd.int .u8) 5 w' w.heap.size (fun _ => True) v (frame p) ∧ Below w.heap.size w w' := by
  have HL := Aside0.mk (frame_len p)
  have HBL := Aside0.mk (body_len p)
  have HPV := Aside0.mk (show p.val = .agg #[.int .i64 p.e, .int .i64 p.s, .int .i64 p.a, .string p.d] from rfl)
  have HGD := Aside0.mk (show good p = true → p.d.size ≤ 65536 by
    intro h
    unfold good at h
    simp only [Bool.and_eq_true, decide_eq_true_eq] at h
    exact h.1.2)
  have hg := good_c p
  have hbd := body_c p
  rw [HPV.out] at hg hbd ⊢
  have HG := Aside0.mk hg
  have HBD := Aside0.mk hbd
  have HF := Aside0.mk (show frame p = putL [] ((body p).length : Int) ++ Nice.sealL (body p) from rfl)
  clear hg hbd HPV
  rw [hgp] at HG
  have hd := HGD.out hgp
  clear hgp
  have HD := Aside0.mk hd
  have hbl : ((body p).length : Int) ≤ 65572 := by have := HBL.out; omega
  clear hd
  go_enter Try.func13, Try.ntmps13
  go_wp2_with fail
  obtain ⟨w0, hw0⟩ : ∃ w0, w0 = w.alloc (.cells #[.int .i64 p.e, .int .i64 p.s, .int .i64 p.a, .string p.d] 23) := ⟨_, rfl⟩
  have HB0 := Aside0.mk (show Below w.heap.size w w0 by rw [hw0]; exact below_alloc (Below.refl _ _) _)
  have HH0 := Aside0.mk (show w0.heap[w.heap.size]? = some (.cells #[.int .i64 p.e, .int .i64 p.s, .int .i64 p.a, .string p.d] 23 (0, 0)) by rw [hw0]; exact Own.heap_new _ _)
  rw [← hw0]
  clear hw0
  refine (HG.out _).mono ?_
  rintro e w1 ⟨rfl, hb⟩
  have HB1 := Aside0.mk (HB0.out.trans (hb.mono HB0.out.size))
  have hh1 := (hb.block _ (Array.getElem?_eq_some_iff.1 HH0.out).1).trans HH0.out
  have c0 : w1.cell? ⟨w.heap.size, 0, none⟩ = some (.int .i64 p.e) := by rw [cell_of_row w1 _ 0 _ _ _ hh1]; rfl
  have c1 : w1.cell? ⟨w.heap.size, 1, none⟩ = some (.int .i64 p.s) := by rw [cell_of_row w1 _ 1 _ _ _ hh1]; rfl
  have c2 : w1.cell? ⟨w.heap.size, 2, none⟩ = some (.int .i64 p.a) := by rw [cell_of_row w1 _ 2 _ _ _ hh1]; rfl
  have c3 : w1.cell? ⟨w.heap.size, 3, none⟩ = some (.string p.d) := by rw [cell_of_row w1 _ 3 _ _ _ hh1]; rfl
  clear hh1
  clear hb HB0 HH0
  go_wp2_with fail
  refine (HBD.out _ (by have := HD.out; omega)).mono ?_
  rintro e w2 ⟨v2, rfl, hg2, hb2⟩
  have hs2 := hg2.sl
  obtain ⟨A2, cc2, rfl, hc2, hC2⟩ := hs2
  have HS2 := Aside0.mk (Sl.mk hC2 hc2)
  have HB2 := Aside0.mk (HB1.out.trans (hb2.mono HB1.out.size))
  clear hg2 hb2 hC2 HB1 c0 c1 c2 c3
  go_wp2_with fail
  refine (VaryP.nPut _ [] ((body p).length : Int) _ (Sl.nil _) (by decide)).mono ?_
  rintro e w3 ⟨v3, rfl, hg3, hb3⟩
  have HG3 := Aside0.mk (hg3.mono HB2.out.size)
  have HS3 := Aside0.mk (HS2.out.below hb3)
  have HB3 := Aside0.mk (HB2.out.trans (hb3.mono HB2.out.size))
  clear hg3 hb3 HS2 HB2
  go_wp2_with fail
  refine (Nice.nSeal _ (body p) _ HS3.out (by have := HBL.out; have := HD.out; omega)).mono ?_
  rintro e w4 ⟨v4, rfl, hs4, hb4⟩
  have HG4 := Aside0.mk (HG3.out.below hb4)
  have HS4 := Aside0.mk hs4
  have HB4 := Aside0.mk (HB3.out.trans (hb4.mono HB3.out.size))
  clear hs4 hb4 HG3 HS3 HB3
  go_wp2_with (at_builtin; refine wpList_gro rfl rfl Try.underlying25 info5 HB4.out.size rfl HG4.out rfl HS4.out ?b1 ?b2 ?_)
  case b1 => have := HL.out; rw [HF.out, List.length_append] at this; have := HD.out; omega
  case b2 => rw [Nice.sealL_length]; omega
  rw [← HF.out]
  intro v5 w5 hg5 hb5
  have HG5 := Aside0.mk hg5
  have HB5 := Aside0.mk (HB4.out.trans hb5)
  clear hg5 hb5 HG4 HS4 HB4
  go_wp2_with fail
  go_ret2
  exact ⟨_, rfl, HG5.out, HB5.out⟩
end Go.Proofs.Ytedfcjcnhgomoaa.FrameO
end
-- MERGED YtedfcjcnhgomoaaFrameBursts
section
/- The walk of the law of frames in which bits are turned. -/
namespace Go.Proofs.Ytedfcjcnhgomoaa.FrameBursts
open Go.RowKit Go.Proofs.Ytedfcjcnhgomoaa.P Go.Proofs.YtedfcjcnhgomoaaW.PrintWords Go.Proofs.YtedfcjcnhgomoaaW.PrintLast Go.Proofs.YtedfcjcnhgomoaaW.PrintMore Go.Proofs.Ytedfcjcnhgomoaa.Own Go.Proofs.Ytedfcjcnhgomoaa.Vy Go.Proofs.Ytedfcjcnhgomoaa.FrameP Go.Proofs.Ytedfcjcnhgomoaa.FrameG Go.Proofs.Ytedfcjcnhgomoaa.FrameBurstsL
set_option linter.unusedSimpArgs false
set_option linter.unusedVariables false

theorem pk_cells {w : World} {x : Int × Int × Int × ByteArray} {cs : Array Value} (h : (Kd.pair (Kd.int .i64) (Kd.pair (Kd.int .i64) (Kd.pair (Kd.int .i64) Kd.string))).K w x cs.toList) : ∃ p : Pk, .agg cs = p.val := by
  obtain ⟨c0, c1, e, h0, c2, c3, rfl, h1, c4, c5, rfl, h2, h3⟩ := h
  have h0' : c0 = [.int .i64 x.1] := h0
  have h1' : c2 = [.int .i64 x.2.1] := h1
  have h2' : c4 = [.int .i64 x.2.2.1] := h2
  have h3' : c5 = [.string x.2.2.2] := h3
  subst h0' h1' h2' h3'
  refine ⟨⟨x.1, x.2.1, x.2.2.1, x.2.2.2⟩, ?_⟩
  unfold Pk.val
  have : cs = #[.int .i64 x.1, .int .i64 x.2.1, .int .i64 x.2.2.1, .string x.2.2.2] := by
    apply Array.ext'
    rw [e]; rfl
  rw [this]
theorem enc_high : ∀ (n i : Nat) (h : i < (enc n).length), (i + 1 < (enc n).length → 128 ≤ (enc n)[i]) ∧ (i + 1 = (enc n).length → (enc n)[i] < 128) := by
  intro n
  induction n using Nat.strongRecOn with
  | _ n ih =>
    intro i h
    by_cases hn : n < 128
    · simp only [enc_lt hn] at h ⊢
      simp only [List.length_singleton] at h ⊢
      obtain rfl : i = 0 := by omega
      refine ⟨fun h => by omega, fun _ => ?_⟩
      simp only [List.getElem_cons_zero]; omega
    · simp only [enc_ge (show 128 ≤ n by omega)] at h ⊢
      simp only [List.length_cons] at h ⊢
      cases i with
      | zero =>
        have := enc_pos (n / 128)
        refine ⟨fun _ => ?_, fun h => by omega⟩
        simp only [List.getElem_cons_zero]; omega
      | succ i =>
        have := ih (n / 128) (by omega) i (by omega)
        simp only [List.getElem_cons_succ]
        exact ⟨fun h => this.1 (by omega), fun h => this.2 (by omega)⟩
def FrameBursts.T14 : Bool × List (List Nat × List Nat) := (true, [([], []), ([], []), ([], []), ([1, 2], [1, 2]), ([3], [3]), ([0, 4], [0, 4]), ([5], [5]), ([], []), ([], []), ([7, 8], [7, 8]), ([9], [9]), ([10], [10]), ([6, 11], [6, 11]), ([0, 4, 0, 1, 2, 3, 4, 5, 6, 7, 8, 9, 10, 11, 12], [0, 4]), ([13, 12, 0, 1, 2, 3, 4, 5, 6, 7, 8, 9, 10, 11, 12], [12, 13])])
def FrameBursts.B14 : List Nat := [0, 0, 0, 6, 14, 31, 63, 0, 0, 384, 896, 1920, 4095, 8191, 16383]
theorem FrameBursts.tab14 : rtab .any (opsOf Try.f6 14) = FrameBursts.T14 := by kernel_rfl
theorem FrameBursts.bits14 : waitsOk FrameBursts.T14.2 FrameBursts.B14 = true := by kernel_rfl
theorem place_of (k : Int) (F q bl : Nat) (hF : F = q + bl + 4) (hb : F ≤ 3000) : ∃ K : Nat, wrap64 (8 * (q : Int) + wrap64 ((IntKind.u64.wrap k).tmod (8 * ((F : Int) - (q : Int)) - 31))) = ((8 * q + K : Nat) : Int) ∧ K + 32 ≤ 8 * (bl + 4) := by
  have hu : 0 ≤ IntKind.u64.wrap k ∧ IntKind.u64.wrap k ≤ 18446744073709551615 := by rw [IntKind.wrap_u64]; omega
  obtain ⟨u, hu2⟩ := Int.eq_ofNat_of_zero_le hu.1
  have e1 : 8 * ((F : Int) - (q : Int)) - 31 = ((8 * (bl + 4) - 31 : Nat) : Int) := by omega
  have hlt : u % (8 * (bl + 4) - 31) < 8 * (bl + 4) - 31 := Nat.mod_lt _ (by omega)
  refine ⟨u % (8 * (bl + 4) - 31), ?_, by omega⟩
  rw [e1, hu2, Int.tmod_eq_emod_of_nonneg (by omega), show ((u : Int) % ((8 * (bl + 4) - 31 : Nat) : Int)) = ((u % (8 * (bl + 4) - 31) : Nat) : Int) from (Int.natCast_emod _ _).symm, Byt.wrap_in ((u % (8 * (bl + 4) - 31) : Nat) : Int) (by omega), Byt.wrap_in _ (by omega)]
  omega
set_option maxHeartbeats 8000000 in
set_option maxRecDepth 100000 in
theorem main_case (p : Pk) (hgp : good p = true) (hd : (p.d.size : Int) ≤ 2000) (k : Int) (t : BitVec 32) (ht : t ≠ 0#32) (w : World) :
    Calls Try.prog 6 #[p.val, .int .i64 k, .int .u32 (t.toNat : Int)] w fun e w' => e = .returned (.bool true) ∧ Below w.heap.size w w' := by
  have HR := Aside0.mk (nRefGood p)
  have HP := Aside0.mk (FrameO.put_o p hgp)
  have HFL := Aside0.mk (flen hgp)
  have HB4 := Aside0.mk (body_four p hgp)
  have HT0 := Aside0.mk (tn0 hgp t)
  have HTG := Aside0.mk (fun K s => tn_get (p := p) hgp (t := t) ht (K := K) (s := s))
  have HTS := Aside0.mk (fun K i s => tn_stay (p := p) (t := t) (K := K) (i := i) (s := s))
  have HTT := Aside0.mk (fun K i s => tn_turn (p := p) hgp (t := t) (K := K) (i := i) (s := s))
  have HEH := Aside0.mk (fun i h => (show (∀ h2 : i < (frame p).length, (i + 1 < (enc (body p).length).length → 128 ≤ (frame p)[i]) ∧ (i + 1 = (enc (body p).length).length → (frame p)[i] < 128)) from fun h2 => by
    have := enc_high (body p).length i h
    have e : (frame p)[i] = (enc (body p).length)[i] := by
      simp only [FrameBackL.frame_eq hgp]
      rw [List.getElem_append_left h]
    rw [e]; exact this))
  have hq1 := enc_pos (body p).length
  have hfl := frame_len p
  rw [hgp] at HR
  obtain ⟨F, hF⟩ : ∃ F, F = frame p := ⟨_, rfl⟩
  obtain ⟨q, hq⟩ : ∃ q, q = (enc (body p).length).length := ⟨_, rfl⟩
  have HTN := Aside0.mk (fun (K i : Nat) (s : List Int) (h : Tn p t K i s) => h.len)
  have HTO := Aside0.mk (fun (K i : Nat) (s : List Int) (h : Tn p t K i s) => h.ok)
  rw [← hF] at HP HFL HTG HEH hfl HT0 HTN
  rw [← hq] at HFL HEH HTT hq1
  have hFb : (F.length : Int) ≤ 3000 := by omega
  have HQ1 := Aside0.mk hq1
  obtain ⟨Tn', hTn⟩ : ∃ T, T = Tn p t := ⟨_, rfl⟩
  rw [← hTn] at HT0 HTG HTS HTT HTN HTO
  obtain ⟨bl, hbl⟩ : ∃ bl, bl = (body p).length := ⟨_, rfl⟩
  rw [← hbl] at HFL HB4 HTT
  clear hgp hF hq hfl hq1 hbl hTn
  obtain ⟨e, s, a, d⟩ := p
  unfold Pk.val at *
  simp only at *
  have h2 : ¬ (2000 : Int) < (d.size : Int) := by omega
  have ht2 : (((t.toNat : Int)) == 0) = false := by
    have : ¬ ((t.toNat : Int) = 0) := fun h => ht (BitVec.eq_of_toNat_eq (by simp; omega))
    simpa using this
  obtain ⟨tu, htu⟩ : ∃ tu, tu = (t.toNat : Int) := ⟨_, rfl⟩
  rw [← htu] at ht2 ⊢
  have HTU := Aside0.mk htu
  have ht3 : ¬ tu = 0 := by simpa using ht2
  clear hd ht htu
  go_enter Try.func6, Try.ntmps6
  go_wp2_with fail
  obtain ⟨w0, hw0⟩ : ∃ w0, w0 = w.alloc (.cells #[.int .i64 e, .int .i64 s, .int .i64 a, .string d] 23) := ⟨_, rfl⟩
  have HB0 := Aside0.mk (show Below w.heap.size w w0 by rw [hw0]; exact below_alloc (Below.refl _ _) _)
  have HH0 := Aside0.mk (show w0.heap[w.heap.size]? = some (.cells #[.int .i64 e, .int .i64 s, .int .i64 a, .string d] 23 (0, 0)) by rw [hw0]; exact Own.heap_new _ _)
  rw [← hw0]
  clear hw0
  refine (HR.out _).mono ?_
  rintro e1 w1 ⟨rfl, hb⟩
  have HB1 := Aside0.mk (HB0.out.trans (hb.mono HB0.out.size))
  have HH1 := Aside0.mk ((hb.block _ (Array.getElem?_eq_some_iff.1 HH0.out).1).trans HH0.out)
  have c0 : w1.cell? ⟨w.heap.size, 0, none⟩ = some (.int .i64 e) := by rw [cell_of_row w1 _ 0 _ _ _ HH1.out]; rfl
  have c1 : w1.cell? ⟨w.heap.size, 1, none⟩ = some (.int .i64 s) := by rw [cell_of_row w1 _ 1 _ _ _ HH1.out]; rfl
  have c2 : w1.cell? ⟨w.heap.size, 2, none⟩ = some (.int .i64 a) := by rw [cell_of_row w1 _ 2 _ _ _ HH1.out]; rfl
  have c3 : w1.cell? ⟨w.heap.size, 3, none⟩ = some (.string d) := by rw [cell_of_row w1 _ 3 _ _ _ HH1.out]; rfl
  clear hb HB0 HH0
  go_wp2_with fail
  refine (HP.out _).mono ?_
  rintro e1 w2 ⟨v, rfl, hr, hb⟩
  have HB2 := Aside0.mk (HB1.out.trans (hb.mono HB1.out.size))
  obtain ⟨g, cap, rfl, hg1, hg2, hg3⟩ := Kd.R_form hr (by have := HFL.out; omega)
  have HR2 := Aside0.mk (Kd.R_lower hr HB1.out.size)
  have HGE := Aside0.mk (show w.heap.size ≤ g by have := HB1.out.size; omega)
  clear hr hb HB1 HH1 c0 c1 c2 c3 hg1 hg2 hg3
  go_wp2_with fail
  go_loopw [9] (fun hv wr => ∃ h : Nat, 1 ≤ h ∧ h ≤ q ∧ hv = .int .i64 (h : Int) ∧ wr = w2) (fun hv _ => q - (intOf hv).toNat)
  case atStart => exact ⟨1, by omega, HQ1.out, rfl, rfl⟩
  case round =>
    obtain ⟨h, h1, h2, rfl, rfl⟩ := hrel
    obtain ⟨j, rfl⟩ : ∃ j, h = j + 1 := ⟨h - 1, by omega⟩
    have hj : j < F.length := by have := HFL.out; omega
    have hx := (Kd.R_celln (d := (0 : Int)) HR2.out (j : Int) (by omega) (by omega)).1
    rw [Int.toNat_natCast, show rdOf (0 : Int) F (j : Int) = F[j] from Byt.rd_at F j hj] at hx
    have hEH := HEH.out j (by omega) hj
    have hlt : ((j : Int) + 1 < (F.length : Int)) := by have := HFL.out; omega
    obtain ⟨c, hc⟩ : ∃ c, c = F[j] := ⟨_, rfl⟩
    rw [← hc] at hx hEH
    by_cases hjq : j + 1 < q
    · have h5 : (128 : Int) ≤ c := hEH.1 hjq
      have h6 : decide (128 ≤ c) = true := decide_eq_true h5
      have HJ := Aside0.mk hjq
      clear hc hEH hjq hj
      go_wp2_with fail
      go_roundw
      case rel => exact ⟨j + 2, by omega, by have := HJ.out; omega, by first | rfl | (simp; omega), by first | rfl | trivial⟩
      case measure => simp [intOf]; have := HJ.out; omega
    · have h5 : c < (128 : Int) := hEH.2 (by omega)
      have h6 : decide (128 ≤ c) = false := by simp; omega
      have HJ := Aside0.mk (show j + 1 = q by omega)
      have h7 : ¬ ((F.length : Int) < (j : Int) + 1 + 8) := by have := HFL.out; have := HB4.out; omega
      have h8 : decide ((F.length : Int) < (j : Int) + 1 + 8) = false := by simp; omega
      clear hc hEH hjq hj
      go_wp2_with fail
      obtain ⟨K, hK1, hK2⟩ := place_of k F.length q bl HFL.out (by omega)
      rw [show (q : Int) = (j : Int) + 1 by have := HJ.out; omega] at hK1
      obtain ⟨kI, hkI⟩ : ∃ kI, kI = wrap64 (8 * ((j : Int) + 1) + wrap64 ((IntKind.u64.wrap k).tmod (8 * ((F.length : Int) - ((j : Int) + 1)) - 31))) := ⟨_, rfl⟩
      have HKI := Aside0.mk (hkI.trans hK1)
      have HK2 := Aside0.mk hK2
      rw [← hkI]
      clear hkI hK1 hK2 hx h5 h6 h7 h8 hlt
      go_loopw [71] (fun iv wx => ∃ (iI : Int) (i : Nat) (s_ : List Int), i ≤ 32 ∧ iv = .int .i64 iI ∧ iI = (i : Int) ∧ Tn' K i s_ ∧ Kd.R (Kd.int .u8) 5 wx w.heap.size (fun _ => True) (.slice (some ⟨g, 0, none⟩) F.length cap) s_ ∧ Below w.heap.size w wx) (fun iv _ => 32 - (intOf iv).toNat)
      case atStart => exact ⟨0, 0, F, by omega, rfl, rfl, HT0.out K, HR2.out, HB2.out⟩
      case round =>
        obtain ⟨iI, i, s_, hi, rfl, hiI, htn, hr, hb⟩ := hrel
        have HI := Aside0.mk hiI
        have HTNs := Aside0.mk htn
        have HRs := Aside0.mk hr
        have HBs := Aside0.mk hb
        have c15b0 := eq_true (show 0 ≤ iI by omega)
        have hw1 : wrap64 (iI + 1) = iI + 1 := Byt.wrap_in _ (by omega)
        have c15b1 : decide (0 ≤ iI) = true := decide_eq_true (by omega)
        by_cases h32 : i = 32
        · have c1 : decide (iI < 32) = false := decide_eq_false (by omega)
          have hsl : Sl wr (.slice (some ⟨g, 0, none⟩) F.length cap) s_ := Sl.of_R hr
          clear hiI htn hr hb HR2 HB2
          have HGET := Aside0.mk (FrameG.get_c _ s_ _ hsl (HTO.out K i s_ HTNs.out) (by rw [HTN.out K i s_ HTNs.out]; omega))
          rw [HTG.out K s_ (h32 ▸ HTNs.out)] at HGET
          unfold FrameL.zp Pk.val at HGET
          simp only at HGET
          clear h32 hsl
          go_wp2_with fail
          refine HGET.out.mono ?_
          rintro e1 w6 ⟨rfl, hb⟩
          have HB6 := Aside0.mk (HBs.out.trans (hb.mono HBs.out.size))
          clear hb
          go_wp2_with fail
          refine (FrameLives.lives_c _).mono ?_
          rintro e1 w8 ⟨rfl, hb⟩
          have HB8 := Aside0.mk ((below_alloc HB6.out _).trans (hb.mono (below_alloc HB6.out _).size))
          clear hb
          go_wp2_with fail
          go_ret
          exact ⟨rfl, HB8.out⟩
        · have hi32 : i < 32 := by omega
          have c1 : decide (iI < 32) = true := decide_eq_true (by omega)
          obtain ⟨y, hy⟩ : ∃ y : Int, shr .u32 tu iI = y := ⟨_, rfl⟩
          have hy_ : tu / 2 ^ min iI.toNat 32 = y := hy
          have hyz : iI ≤ 32 → tu / 2 ^ iI.toNat = y := shr_small hy
          have hbit : Go.bits .and .u32 y 1 = if t.getLsbD i then 1 else 0 := by
            rw [← hy, HTU.out, HI.out]
            exact Bursts.shr_bit t i hi32
          cases hb2 : t.getLsbD i with
          | false =>
            have c2 : (Go.bits .and .u32 y 1 == 1) = false := by rw [hbit, hb2]; decide
            have HN := Aside0.mk (HTS.out K i s_ HTNs.out hb2)
            clear hiI htn hr hb HR2 HB2 h32 hbit hb2 hy
            go_wp2_with fail
            go_roundw
            case measure => simp [intOf]; have := HI.out; omega
            case rel => exact ⟨iI + 1, i + 1, s_, by omega, by first | rfl | (simp; exact hw1) | (simp [*]; done), by have := HI.out; omega, HN.out, HRs.out, HBs.out⟩
          | true =>
            have c2 : (Go.bits .and .u32 y 1 == 1) = true := by rw [hbit, hb2]; decide
            have hsl := HTN.out K i s_ HTNs.out
            obtain ⟨x, hx⟩ : ∃ x : Int, wrap64 (kI + iI) = x := ⟨_, rfl⟩
            have hxe : x = ((8 * q + K + i : Nat) : Int) := by rw [← hx, HKI.out, HI.out, Byt.wrap_in _ (by have := HK2.out; have := HFL.out; omega)]; omega
            obtain ⟨jj, hjj⟩ : ∃ jj : Int, wrap64 (Int.tdiv x 8) = jj := ⟨_, rfl⟩
            have hjje : jj = (((8 * q + K + i) / 8 : Nat) : Int) := by
              rw [← hjj, hxe, Int.tdiv_eq_ediv_of_nonneg (by omega), Byt.wrap_in _ (by have := HK2.out; have := HFL.out; omega)]; omega
            obtain ⟨bb, hbb⟩ : ∃ bb : Int, Int.tmod x 8 = bb := ⟨_, rfl⟩
            have hbbe : bb = (((8 * q + K + i) % 8 : Nat) : Int) := by rw [← hbb, hxe, Int.tmod_eq_emod_of_nonneg (by omega)]; omega
            have hjl : (8 * q + K + i) / 8 < s_.length := by rw [hsl, HFL.out]; have := HK2.out; omega
            obtain ⟨z, hz⟩ : ∃ z : Int, shl .u8 1 bb = z := ⟨_, rfl⟩
            have hrd : rd s_ jj = s_[(8 * q + K + i) / 8] := by rw [hjje]; exact Byt.rd_at s_ _ hjl
            have htn2 := HTT.out K i s_ HTNs.out hi32 HK2.out hb2 _ _ rfl rfl hjl
            rw [← hbbe, hz, ← hrd] at htn2
            have hset : s_.set ((8 * q + K + i) / 8) (Go.bits .xor .u8 (rd s_ jj) z) = s_.set jj.toNat (Go.bits .xor .u8 (rd s_ jj) z) := by rw [hjje, Int.toNat_natCast]
            rw [hset] at htn2
            have HN := Aside0.mk htn2
            have p135 : 0 ≤ jj := by omega
            have q135 : jj < (F.length : Int) := by omega
            have c22 : 0 ≤ bb := by omega
            have hrr := Kd.R_drew HRs.out
            obtain ⟨hx135_0, hf24_0⟩ := Kd.R_celln (d := (0 : Int)) hrr jj p135 q135
            replace hx135_0 : wr.drew.cell? ⟨g, jj.toNat, none⟩ = some (.int .u8 (rd s_ jj)) := hx135_0
            have HQ26 := Aside0.mk (Kd.R_putn hrr jj (Go.bits .xor .u8 (rd s_ jj) z))
            have HB := Aside0.mk (below_drew1 HBs.out)
            have hz_ : IntKind.u8.wrap (1 * 2 ^ min bb.toNat 8) = z := hz
            have hz2 : bb ≤ 8 → IntKind.u8.wrap (1 * 2 ^ bb.toNat) = z := shl_small hz
            have hz3 : IntKind.u8.wrap (2 ^ min bb.toNat 8) = z := by have h_ := hz_; rw [Int.one_mul] at h_; exact h_
            have hz4 : bb ≤ 8 → IntKind.u8.wrap (2 ^ bb.toNat) = z := fun hle_ => by have h_ := hz2 hle_; rw [Int.one_mul] at h_; exact h_
            have hxw : IntKind.i64.wrap (kI + iI) = x := (i64_w _).trans hx
            have hjjw : IntKind.i64.wrap (Int.tdiv x 8) = jj := (i64_w _).trans hjj
            have c22b1 : decide (0 ≤ bb) = true := decide_eq_true c22
            have c19b0 : decide (0 ≤ jj) = true := decide_eq_true p135
            have c20b0 : decide (jj < (F.length : Int)) = true := decide_eq_true q135
            replace p135 := eq_true p135
            replace q135 := eq_true q135
            replace c22 := eq_true c22
            clear hiI htn hr hb HR2 HB2 h32 hbit hb2 hy hsl hxe hjje hbbe hjl hrd hset htn2 hrr hz
            go_wp2_with fail
            refine start_ (n := 15) (S := fun w' => w'.cell? ⟨g, ((jj)).toNat, none⟩ = some (.int .u8 (rd s_ (jj)))) (ds := [14]) #[false, false, false, false, false, false, false, false, false, false, false, false, false, false, false] (by kernel_rfl) rfl rfl (hx135_0) (fun hHeld => ?_); refine with_tabW FrameBursts.tab14 FrameBursts.bits14 (fun HT_ HW_ => ?_)
            generalize wr.drew = w25 at HQ26 HB hf24_0 hx135_0 hHeld ⊢
            refine pure_ (i := 0) (N := some 79) (v := ?_) (a' := ?_) #[true, false, false, false, false, false, false, false, false, false, false, false, false, false, false] rfl rfl (any_of HT_.out (by kernel_rfl)) (fun _ _ _ h => h) (Or.inl ⟨by rfl, ?_⟩) ?_ ?_
            rotate_left
            · intro w'
              go_simp
              with_reducible rfl
            rotate_left
            · simp only [Act.put, List.setIfInBounds_toArray, List.set_cons_zero, List.set_cons_succ, i64_w, i32_w]
              rfl
            refine pure_ (i := 1) (N := some 80) (v := ?_) (a' := ?_) #[true, true, false, false, false, false, false, false, false, false, false, false, false, false, false] rfl rfl (any_of HT_.out (by kernel_rfl)) (fun _ _ _ h => h) (Or.inl ⟨by rfl, ?_⟩) ?_ ?_
            rotate_left
            · intro w'
              go_simp
              with_reducible rfl
            rotate_left
            · simp only [Act.put, List.setIfInBounds_toArray, List.set_cons_zero, List.set_cons_succ, i64_w, i32_w]
              rfl
            refine pure_ (i := 2) (N := some 81) (v := ?_) (a' := ?_) #[true, true, true, false, false, false, false, false, false, false, false, false, false, false, false] rfl rfl (any_of HT_.out (by kernel_rfl)) (fun _ _ _ h => h) (Or.inl ⟨by rfl, ?_⟩) ?_ ?_
            rotate_left
            · intro w'
              go_simp
              with_reducible rfl
            rotate_left
            · simp only [Act.put, List.setIfInBounds_toArray, List.set_cons_zero, List.set_cons_succ, i64_w, i32_w]
              rfl
            refine pure_ (i := 3) (N := some 82) (v := ?_) (a' := ?_) #[true, true, true, true, false, false, false, false, false, false, false, false, false, false, false] rfl rfl (any_of HT_.out (by kernel_rfl)) (fun _ _ _ h => h) (Or.inl ⟨by rfl, ?_⟩) ?_ ?_
            rotate_left
            · intro w'
              go_simp
              with_reducible rfl
            rotate_left
            · simp only [Act.put, List.setIfInBounds_toArray, List.set_cons_zero, List.set_cons_succ, i64_w, i32_w]
              rfl
            refine pure_ (i := 4) (N := some 83) (v := ?_) (a' := ?_) #[true, true, true, true, true, false, false, false, false, false, false, false, false, false, false] rfl rfl (any_of HT_.out (by kernel_rfl)) (fun _ _ _ h => h) (Or.inl ⟨by rfl, ?_⟩) ?_ ?_
            rotate_left
            · intro w'
              go_simp
              with_reducible rfl
            rotate_left
            · simp only [Act.put, List.setIfInBounds_toArray, List.set_cons_zero, List.set_cons_succ, i64_w, i32_w]
              rfl
            refine pure_ (i := 5) (N := some 84) (v := ?_) (a' := ?_) #[true, true, true, true, true, true, false, false, false, false, false, false, false, false, false] rfl rfl (any_of HT_.out (by kernel_rfl)) (fun _ _ _ h => h) (Or.inl ⟨by rfl, ?_⟩) ?_ ?_
            rotate_left
            · intro w'
              go_simp
              with_reducible rfl
            rotate_left
            · simp only [Act.put, List.setIfInBounds_toArray, List.set_cons_zero, List.set_cons_succ, i64_w, i32_w]
              rfl
            refine pure_ (i := 7) (N := some 86) (v := ?_) (a' := ?_) #[true, true, true, true, true, true, false, true, false, false, false, false, false, false, false] rfl rfl (any_of HT_.out (by kernel_rfl)) (fun _ _ _ h => h) (Or.inl ⟨by rfl, ?_⟩) ?_ ?_
            rotate_left
            · intro w'
              go_simp
              with_reducible rfl
            rotate_left
            · simp only [Act.put, List.setIfInBounds_toArray, List.set_cons_zero, List.set_cons_succ, i64_w, i32_w]
              rfl
            refine pure_ (i := 8) (N := some 87) (v := ?_) (a' := ?_) #[true, true, true, true, true, true, false, true, true, false, false, false, false, false, false] rfl rfl (any_of HT_.out (by kernel_rfl)) (fun _ _ _ h => h) (Or.inl ⟨by rfl, ?_⟩) ?_ ?_
            rotate_left
            · intro w'
              go_simp
              with_reducible rfl
            rotate_left
            · simp only [Act.put, List.setIfInBounds_toArray, List.set_cons_zero, List.set_cons_succ, i64_w, i32_w]
              rfl
            refine pure_ (i := 9) (N := some 88) (v := ?_) (a' := ?_) #[true, true, true, true, true, true, false, true, true, true, false, false, false, false, false] rfl rfl (any_of HT_.out (by kernel_rfl)) (fun _ _ _ h => h) (Or.inl ⟨by rfl, ?_⟩) ?_ ?_
            rotate_left
            · intro w'
              go_simp
              with_reducible rfl
            rotate_left
            · simp only [Act.put, List.setIfInBounds_toArray, List.set_cons_zero, List.set_cons_succ, i64_w, i32_w]
              rfl
            refine pure_ (i := 10) (N := some 89) (v := ?_) (a' := ?_) #[true, true, true, true, true, true, false, true, true, true, true, false, false, false, false] rfl rfl (any_of HT_.out (by kernel_rfl)) (fun _ _ _ h => h) (Or.inl ⟨by rfl, ?_⟩) ?_ ?_
            rotate_left
            · intro w'
              go_simp
              with_reducible rfl
            rotate_left
            · simp only [Act.put, List.setIfInBounds_toArray, List.set_cons_zero, List.set_cons_succ, i64_w, i32_w]
              rfl
            refine pure_ (i := 11) (N := some 90) (v := ?_) (a' := ?_) #[true, true, true, true, true, true, false, true, true, true, true, true, false, false, false] rfl rfl (any_of HT_.out (by kernel_rfl)) (fun _ _ _ h => h) (Or.inl ⟨by rfl, ?_⟩) ?_ ?_
            rotate_left
            · intro w'
              go_simp
              with_reducible rfl
            rotate_left
            · simp only [Act.put, List.setIfInBounds_toArray, List.set_cons_zero, List.set_cons_succ, i64_w, i32_w]
              rfl
            refine take_ (i := 6) (N := some 85) (v := ?_) (a' := ?_) #[true, true, true, true, true, true, true, true, true, true, true, true, false, false, false] rfl rfl (take_ofW HT_.out HW_.out (by kernel_rfl)) (fun _ _ _ h => h) (Or.inl ⟨by rfl, ?_⟩) hHeld ?_ ?_
            rotate_left
            · intro w' s0
              go_simp
              with_reducible rfl
            rotate_left
            · simp only [Act.put, List.setIfInBounds_toArray, List.set_cons_zero, List.set_cons_succ, i64_w, i32_w]
              rfl
            refine pure_ (i := 12) (N := some 91) (v := ?_) (a' := ?_) #[true, true, true, true, true, true, true, true, true, true, true, true, true, false, false] rfl rfl (any_of HT_.out (by kernel_rfl)) (fun _ _ _ h => h) (Or.inl ⟨by rfl, ?_⟩) ?_ ?_
            rotate_left
            · intro w'
              go_simp
              with_reducible rfl
            rotate_left
            · simp only [Act.put, List.setIfInBounds_toArray, List.set_cons_zero, List.set_cons_succ, i64_w, i32_w]
              rfl
            refine pure_ (i := 13) (N := some 92) (v := ?_) (a' := ?_) #[true, true, true, true, true, true, true, true, true, true, true, true, true, true, false] rfl rfl (any_of HT_.out (by kernel_rfl)) (fun _ _ _ h => h) (Or.inl ⟨by rfl, ?_⟩) ?_ ?_
            rotate_left
            · intro w'
              go_simp
              with_reducible rfl
            rotate_left
            · simp only [Act.put, List.setIfInBounds_toArray, List.set_cons_zero, List.set_cons_succ, i64_w, i32_w]
              rfl
            refine last_ (i := 14) (N := none) #[true, true, true, true, true, true, true, true, true, true, true, true, true, true, true] rfl rfl (one_of HT_.out (by kernel_rfl)) (by decide) (fun K hK => ?_)
            refine skip_ (w1 := ?_) (by rfl) rfl ?_ ?_
            rotate_left
            · go_simp
              rfl
            refine hK.out _ _ ?_
            clear hK K
            refine done_ (done_of HT_.out (by kernel_rfl)) ?_
            try go_wp2_with fail
            go_roundw
            case measure => simp [intOf]; have := HI.out; omega
            case rel => exact ⟨iI + 1, i + 1, _, by omega, by first | rfl | (simp; exact hw1) | (simp [*]; done), by have := HI.out; omega, HN.out, HQ26.out, HB.out.setCell (p := ⟨g, jj.toNat, none⟩) HGE.out _⟩
set_option maxHeartbeats 2000000 in
set_option maxRecDepth 100000 in
theorem row (cs : Array Value) (x : Int × Int × Int × ByteArray) (k tu : Int) (w : World) (hK : (Kd.pair (Kd.int .i64) (Kd.pair (Kd.int .i64) (Kd.pair (Kd.int .i64) Kd.string))).K w x cs.toList) (_ : (Lit.int .i64 x.1).wf = true ∧ (Lit.int .i64 x.2.1).wf = true ∧ (Lit.int .i64 x.2.2.1).wf = true ∧ x.2.2.2.size ≤ maxLen)
    (_ : (Lit.int .i64 k).wf = true) (wt : (Lit.int .u32 tu).wf = true) :
    Calls Try.prog 6 #[.agg cs, .int .i64 k, .int .u32 tu] w fun e w' => e = .returned (.bool true) ∧ Below w.heap.size w w' := by
  obtain ⟨p, hp⟩ := pk_cells hK
  rw [hp]
  obtain ⟨t, rfl⟩ : ∃ t : BitVec 32, tu = (t.toNat : Int) := ⟨BitVec.ofInt 32 tu, by have := Byt.wf_u32 wt; rw [BitVec.toNat_ofInt]; omega⟩
  clear hK hp wt
  by_cases h1 : (2000 : Int) < (p.d.size : Int)
  · obtain ⟨e, s, a, d⟩ := p
    unfold Pk.val
    simp only at h1 ⊢
    go_enter Try.func6, Try.ntmps6
    go_wp2_with fail
    refine (FrameLives.lives_c _).mono ?_
    rintro e1 w1 ⟨rfl, hb⟩
    have HB := Aside0.mk ((below_alloc (Below.refl w.heap.size w) _).trans (hb.mono (by simp)))
    clear hb
    go_wp2_with fail
    go_ret
    exact ⟨rfl, HB.out⟩
  have h2 : ¬ (2000 : Int) < (p.d.size : Int) := h1
  have HR := Aside0.mk (nRefGood p)
  cases hg : good p with
  | false =>
    rw [hg] at HR
    clear hg h1
    obtain ⟨e, s, a, d⟩ := p
    unfold Pk.val at *
    simp only at *
    go_enter Try.func6, Try.ntmps6
    go_wp2_with fail
    refine (HR.out _).mono ?_
    rintro e1 w1 ⟨rfl, hb⟩
    have HB := Aside0.mk ((below_alloc (Below.refl w.heap.size w) _).trans (hb.mono (by simp)))
    clear hb
    go_wp2_with fail
    refine (FrameLives.lives_c _).mono ?_
    rintro e1 w2 ⟨rfl, hb⟩
    have HB2 := Aside0.mk (HB.out.trans (hb.mono HB.out.size))
    clear hb
    go_wp2_with fail
    go_ret
    exact ⟨rfl, HB2.out⟩
  | true =>
    by_cases ht : t = 0#32
    · subst ht
      rw [hg] at HR
      clear hg h1
      obtain ⟨e, s, a, d⟩ := p
      unfold Pk.val at *
      simp only at *
      rw [show (((0#32 : BitVec 32).toNat : Nat) : Int) = 0 from rfl]
      go_enter Try.func6, Try.ntmps6
      go_wp2_with fail
      refine (HR.out _).mono ?_
      rintro e1 w1 ⟨rfl, hb⟩
      have HB := Aside0.mk ((below_alloc (Below.refl w.heap.size w) _).trans (hb.mono (by simp)))
      clear hb
      go_wp2_with fail
      refine (FrameLives.lives_c _).mono ?_
      rintro e1 w2 ⟨rfl, hb⟩
      have HB2 := Aside0.mk (HB.out.trans (hb.mono HB.out.size))
      clear hb
      go_wp2_with fail
      go_ret
      exact ⟨rfl, HB2.out⟩
    · exact main_case p hg (by omega) k t ht w
end Go.Proofs.Ytedfcjcnhgomoaa.FrameBursts
end
-- MERGED YtedfcjcnhgomoaaLawFrameBursts
section
/- The law of frames in which bits are turned -/
namespace Go.Proofs.Ytedfcjcnhgomoaa.frameBursts
open Go.ChangeShapes Go.WideShapes Go.ChangeAt Go.RowKit Go.Proofs.YtedfcjcnhgomoaaW.PrintWords
open Go.ChangeMaps (open_string shut_string)
set_option linter.unusedVariables false
theorem own : ownKnob Try.prog.godebug = none := by kernel_rfl
theorem laidOut : laidOutB Try.prog = true := by kernel_rfl
theorem o3 : Opens.Opens Try.prog 3 (Kd.int .i64) (fun n => (Lit.int .i64 n).wf = true) := Opens.int_ (t := 3) Try.underlying3 (by kernel_rfl)
theorem o9 : Opens.Opens Try.prog 9 Kd.string (fun s => s.size ≤ maxLen) := Opens.string_ (t := 9) Try.underlying9 (by kernel_rfl)
theorem o23 : Opens.Opens Try.prog 23 (Kd.pair (Kd.int .i64) (Kd.pair (Kd.int .i64) (Kd.pair (Kd.int .i64) Kd.string))) (fun x => (fun n => (Lit.int .i64 n).wf = true) x.1 ∧ (fun n => (Lit.int .i64 n).wf = true) x.2.1 ∧ (fun n => (Lit.int .i64 n).wf = true) x.2.2.1 ∧ (fun s => s.size ≤ maxLen) x.2.2.2) := Opens.struct4_ (t := 23) Try.underlying23 (by kernel_rfl) o3 o3 o3 o9 rfl rfl rfl rfl
set_option maxRecDepth 100000 in
theorem lifted (os : Os) (started : os.Started) (H : Type) (enc : TypeId × Value → H) :
    ReturnsInHanded {} Try.checked os 6 .any (Rows.frameBurstsSpec.pre6 enc Try.prog Try.f6 Rows.frameBurstsRow.domain false) (Rows.frameBurstsSpec.post enc Try.prog Try.f6 false true false false) := by
  refine returnsInHanded_of_change_sized (C := Try.checked) own started (by kernel_rfl) Try.func6
    (ChangeSpec.witness6 (enc := enc) (C := Try.checked) false ⟨#[], #[(.agg #[(.int .i64 0), (.int .i64 0), (.int .i64 0), (.string ByteArray.empty)]), (.int .i64 0), (.int .u32 0)], []⟩ 8 (by kernel_rfl) (by kernel_rfl) (by kernel_rfl) (by kernel_rfl)) ?_
  intro W base args ds gs before hval0 hW hcnd hsz0 _
  have hsz : (DataW.weightsEach Try.prog (Try.f6.params.toList ++ Rows.frameBurstsSpec.plain.varTypes Try.prog) (ds ++ gs)).all (· ≤ reachBytes) = true := hsz0
  have hval : ∀ (j : Nat) t v, Try.f6.params[j]? = some t → args[j]? = some v → Value.okWide Try.prog W .any base t v := hval0
  have hW' := hW
  obtain ⟨p, q, hA0, hV, rfl, hfz, hnd⟩ := hW
  have hA : DataW.TrodAll enc Try.prog W 0 (fun _ => true) true Try.f6.params.toList args.toList ds p := hA0
  rw [Try.params6] at hA hval hsz
  obtain ⟨v0, vs0, d0, ds0, p0, q0, hargs, rfl, rfl, h0, r0⟩ := trodAll_cons hA
  obtain ⟨v1, vs1, d1, ds1, p1, q1, rfl, rfl, rfl, h1, r1⟩ := trodAll_cons r0
  obtain ⟨v2, vs2, d2, ds2, p2, q2, rfl, rfl, rfl, h2, r2⟩ := trodAll_cons r1
  obtain ⟨rfl, rfl, rfl⟩ := trodAll_nil r2
  obtain rfl : args = #[v0, v1, v2] := by cases args; simp_all
  obtain ⟨rfl, rfl⟩ := trodVars_none hV
  obtain ⟨cs0, rfl, hcs0⟩ := okWide_struct Try.underlying23 (hval 0 23 v0 rfl rfl)
  have k0 := h0
  have lt0 : ∀ x ∈ p0, x.block < W.heap.size := by obtain ⟨m, hm⟩ := k0; exact DataW.trod_lt m _ _ _ hm
  obtain ⟨x0, hK0, ok0⟩ := Opens.arg_ o23 h0
  obtain ⟨a1, rfl, rfl, rfl, w1⟩ := open_int Try.underlying3 (hval 1 3 v1 rfl rfl) h1
  obtain ⟨a2, rfl, rfl, rfl, w2⟩ := open_int Try.underlying38 (hval 2 38 v2 rfl rfl) h2
  clear hA0 hval0 hsz0 hsz
  refine (FrameBursts.row cs0 x0 a1 a2 W hK0 ok0 w1 w2).mono fun e W' ⟨he, bel⟩ => ?_
  subst he
  exact ⟨_, rfl, _, _, _, [], _, [], hW', trodAll_mk1 (shut_bool Try.underlying4 _), (trodAll_cons_mk (Below.trod laidOut (by kernel_rfl) (of_decide_eq_true (by kernel_rfl)) k0 bel lt0) (trodAll_cons_mk (shut_int Try.underlying3 w1) (trodAll_cons_mk (shut_int Try.underlying38 w2) trodAll_mk0))), rfl, bel.frame _, fun h => by cases h⟩
theorem over : Rows.frameBurstsRow.holds Try.pinned (OpenSpec.ofChange Rows.frameBurstsSpec) :=
  OpenClaim.holds_of_wide 6 Try.f6 rfl rfl rfl rfl rfl rfl rfl ⟨rfl, rfl, rfl, rfl, rfl⟩ rfl rfl rfl rfl rfl (by kernel_rfl) Try.func6 (by kernel_rfl)
    (of_decide_eq_true (by kernel_rfl)) (by unfold Func.isWrapper; first | (rw [if_pos (by decide +kernel)]; kernel_rfl) | (rw [if_neg (by decide +kernel)]; exact ⟨rfl, rfl⟩))
    (fun os started H enc _ => lifted os started H enc)
theorem proved : Rows.FrameBurstsSaid := over
#print axioms proved
end Go.Proofs.Ytedfcjcnhgomoaa.frameBursts
namespace Go.Proofs.Ytedfcjcnhgomoaa
/-- The row, under a short name, for the claim. -/
theorem frameBursts_holds : Rows.FrameBurstsSaid := frameBursts.proved
end Go.Proofs.Ytedfcjcnhgomoaa
end

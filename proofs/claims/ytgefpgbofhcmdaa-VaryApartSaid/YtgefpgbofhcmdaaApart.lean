/- The walk of the law that texts are told apart. -/
import Derived.Test.YtgefpgbofhcmdaaApartL
import Derived.Test.YtgefpgbofhcmdaaVaryLives
import Derived.Deep.QuietTactic
import Derived.BigQuiet
namespace Go.Proofs.Ytgefpgbofhcmdaa.Apart
open Go.RowKit Go.Proofs.Ytgefpgbofhcmdaa.P Go.Proofs.YtgefpgbofhcmdaaW.PrintWords Go.Proofs.YtgefpgbofhcmdaaW.PrintLast Go.Proofs.YtgefpgbofhcmdaaW.PrintMore Go.Proofs.Ytgefpgbofhcmdaa.Own Go.Proofs.Ytgefpgbofhcmdaa.Vy Go.Proofs.Ytgefpgbofhcmdaa.ApartL
set_option linter.unusedSimpArgs false
set_option linter.unusedVariables false

/-- A cell of a row of texts that is read. -/
theorem C_str {w : World} {A : Option Addr} {n : Nat} {l : List ByteArray} (h : Kd.C Kd.string w A n l) (j : Nat) (s : ByteArray) (hj : l[j]? = some s) : ∃ ad, A = some ad ∧ w.cell? (ad.add j) = some (.string s) := by
  have hl := (List.getElem?_eq_some_iff.1 hj).1
  obtain ⟨ad, e, hc⟩ := h.2.2 (by rw [← h.1]; omega)
  obtain ⟨c, _, hr, hcell⟩ := hc j s hj
  have hc1 : c = [.string s] := hr
  subst hc1
  have := hcell 0 _ rfl
  exact ⟨ad, e, by rwa [show j * (Kd.string).sz + 0 = j from Nat.mul_one j] at this⟩
def TxtPost (l : List ByteArray) (w : World) (e : Ending) (w' : World) : Prop :=
  ((Few l ∧ e = .returned (.tuple #[.string (strOfNums (all l)), .bool true])) ∨ (¬ Few l ∧ e = .returned (.tuple #[.string ⟨#[]⟩, .bool false]))) ∧ Below w.heap.size w w'
set_option maxHeartbeats 2000000 in
set_option maxRecDepth 100000 in
theorem texts_c (A : Option Addr) (c : Nat) (l : List ByteArray) (w : World) (hC : Kd.C Kd.string w A l.length l) (hl : l.length ≤ maxLen) :
    Calls Try.prog 29 #[.slice A l.length c] w (TxtPost l w) := by
  have HC := Aside0.mk hC
  unfold maxLen at hl
  have hl2 : (l.length : Int) ≤ 9223372036854775807 := by omega
  clear hC hl
  go_enter Try.func29, Try.ntmps29
  go_wp2_with fail
  go_loopw [4, 9] (fun bv iv wr => ∃ (j : Nat), iv = .int .i64 (j : Int) ∧ j ≤ l.length ∧ (0 < j → l.length ≤ 100) ∧ (∀ s ∈ l.take j, s.size ≤ 200) ∧ Sl wr bv (all (l.take j)) ∧ Below w.heap.size w wr) (fun _ iv _ => l.length - (intOf iv).toNat)
  case atStart => exact ⟨0, rfl, Nat.zero_le _, fun h => absurd h (Nat.lt_irrefl _), fun s hs => by simp at hs, by rw [List.take_zero]; exact Sl.nil w, Below.refl _ _⟩
  case round =>
    rename_i bv iv
    obtain ⟨j, rfl, hj, h100, h200, hs, hb⟩ := hrel
    have HS := Aside0.mk hs
    have HB := Aside0.mk hb
    have H100 := Aside0.mk h100
    have H200 := Aside0.mk h200
    clear hs hb h100 h200
    by_cases hlt : j < l.length
    · obtain ⟨s, hx⟩ : ∃ s, l[j]? = some s := ⟨_, List.getElem?_eq_getElem hlt⟩
      obtain ⟨ad, rfl, hcell⟩ := C_str (Kd.C_below HC.out HB.out) j s hx
      have hmem := List.mem_of_getElem? hx
      have htk : l.take (j + 1) = l.take j ++ [s] := by rw [List.take_succ_eq_append_getElem hlt]; rw [List.getElem?_eq_getElem hlt] at hx; rw [Option.some.inj hx]
      have HMEM := Aside0.mk hmem
      have HTK := Aside0.mk htk
      clear hx hmem htk
      by_cases h1 : (100 : Int) < (l.length : Int)
      · go_wp2_with fail
        go_ret2
        exact ⟨.inr ⟨fun h => by have := (h s HMEM.out).1; omega, rfl⟩, HB.out⟩
      · have g1 : decide (100 < l.length) = false := by simp; omega
        by_cases h2 : (200 : Int) < (s.size : Int)
        · go_wp2_with fail
          go_ret2
          exact ⟨.inr ⟨fun h => by have := (h s HMEM.out).2; omega, rfl⟩, HB.out⟩
        · have h3 : ¬ (200 : Int) < (s.size : Int) := h2
          have HLEN := Aside0.mk (all_len (l.take j) H200.out)
          go_wp2_with fail
          refine (VaryP.nPutText _ _ s _ HS.out (by have := HLEN.out; rw [List.length_take] at this; omega)).mono ?_
          rintro e w1 ⟨v1, rfl, hg, hb⟩
          have HS1 := Aside0.mk hg.sl
          rw [put_all _ s (by omega), ← all_append, ← HTK.out] at HS1
          have HB1 := Aside0.mk (HB.out.trans (hb.mono HB.out.size))
          clear hg hb
          go_wp2_with fail
          go_roundw
          case rel => exact ⟨j + 1, by go_num, by omega, fun _ => by omega, fun q hq => by rw [HTK.out] at hq; rcases List.mem_append.1 hq with hq | hq; exact H200.out q hq; (simp at hq; subst hq; omega), HS1.out, HB1.out⟩
          case measure => simp [intOf]; omega
    · obtain rfl : j = l.length := by omega
      have hst := HS.out
      rw [List.take_of_length_le (Nat.le_refl _)] at hst
      have hcv := hst.string (P := Try.prog) Try.underlying22 Try.underlying5 Try.underlying9
      clear hst
      go_wp2_with fail
      go_ret2
      refine ⟨.inl ⟨fun s hs => ⟨H100.out (by rcases l with _ | ⟨_, _⟩; cases hs; simp), H200.out s (by rw [List.take_of_length_le (Nat.le_refl _)]; exact hs)⟩, rfl⟩, HB.out⟩

def VaryApart.T12 : Bool × List (List Nat × List Nat) := (true, [([], []), ([], []), ([0, 1], [0, 1]), ([], []), ([], []), ([3, 4], [3, 4]), ([2, 5], [2, 5]), ([], []), ([6, 7], [6, 7]), ([8], [8]), ([9, 9], [9]), ([9, 10], [9, 10]), ([11, 10, 0, 1, 2, 3, 4, 5, 6, 7, 8, 9, 10, 11], [11])])
def VaryApart.B12 : List Nat := [0, 0, 3, 0, 0, 24, 63, 0, 255, 511, 1023, 2047, 4095]
theorem VaryApart.tab12 : rtab .any (opsOf Try.f8 12) = VaryApart.T12 := by kernel_rfl
theorem VaryApart.bits12 : waitsOk VaryApart.T12.2 VaryApart.B12 = true := by kernel_rfl
/-- The loop: whether all are the same so far. -/
def same (l m : List ByteArray) (j : Nat) : Bool := decide (l.take j = m.take j)
theorem same_next {l m : List ByteArray} {j : Nat} {s q : ByteArray} (hs : l[j]? = some s) (hq : m[j]? = some q) : same l m (j + 1) = (same l m j && decide (s = q)) := by
  have h1 := (List.getElem?_eq_some_iff.1 hs)
  have h2 := (List.getElem?_eq_some_iff.1 hq)
  unfold same
  rw [List.take_succ_eq_append_getElem h1.1, List.take_succ_eq_append_getElem h2.1, h1.2, h2.2]
  rw [Bool.eq_iff_iff]
  simp only [decide_eq_true_eq, Bool.and_eq_true]
  constructor
  · intro h
    have := List.append_inj' h rfl
    exact ⟨this.1, by simpa using this.2⟩
  · rintro ⟨h3, h4⟩; rw [h3, h4]
theorem toList_eq_iff (s q : ByteArray) : (s.toList == q.toList) = decide (s = q) := by
  rw [Bool.eq_iff_iff]
  simp only [beq_iff_eq, decide_eq_true_eq]
  constructor
  · intro h
    rw [ByteArray.toList_eq, ByteArray.toList_eq] at h
    exact ByteArray.ext (Array.toList_inj.1 h)
  · rintro rfl; rfl
theorem extract_nums (l : List Int) (hok : Byt.Ok l) (k : Nat) (hk : k ≤ l.length) : (strOfNums l).extract 0 k = strOfNums (l.take k) := by
  apply ByteArray.ext
  simp only [ByteArray.data_extract]
  unfold strOfNums
  apply Array.ext'
  simp [List.map_take]
set_option maxHeartbeats 8000000 in
set_option maxRecDepth 100000 in
theorem row (A0 : Option Addr) (c0 : Nat) (l0 : List ByteArray) (A1 : Option Addr) (c1 : Nat) (l1 : List ByteArray) (w : World) (hC0 : Kd.C Kd.string w A0 l0.length l0) (_ : l0.length ≤ c0) (ok0 : l0.length ≤ maxLen ∧ ∀ x ∈ l0, x.size ≤ maxLen)
    (hC1 : Kd.C Kd.string w A1 l1.length l1) (_ : l1.length ≤ c1) (ok1 : l1.length ≤ maxLen ∧ ∀ x ∈ l1, x.size ≤ maxLen) :
    Calls Try.prog 8 #[.slice A0 l0.length c0, .slice A1 l1.length c1] w fun e w' => e = .returned (.bool true) ∧ Below w.heap.size w w' := by
  have HC0 := Aside0.mk hC0
  have HC1 := Aside0.mk hC1
  have HM0 := Aside0.mk ok0.1
  have HM1 := Aside0.mk ok1.1
  have hm0 := ok0.1
  have hm1 := ok1.1
  unfold maxLen at hm0 hm1
  have z0 : (l0.length : Int) ≤ 9223372036854775807 := by omega
  have z1 : (l1.length : Int) ≤ 9223372036854775807 := by omega
  clear hC0 hC1 ok0 ok1 hm0 hm1
  go_enter Try.func8, Try.ntmps8
  go_wp2_with fail
  refine (texts_c _ _ l0 _ HC0.out HM0.out).mono ?_
  rintro e w1 ⟨h1, hb1⟩
  have HB1 := Aside0.mk hb1
  have HC1' := Aside0.mk (Kd.C_below HC1.out hb1)
  have HC0' := Aside0.mk (Kd.C_below HC0.out hb1)
  clear hb1 HC1 HC0
  rcases h1 with ⟨f0, rfl⟩ | ⟨f0, rfl⟩
  · have HF0 := Aside0.mk f0
    clear f0
    go_wp2_with fail
    refine (texts_c _ _ l1 _ HC1'.out HM1.out).mono ?_
    rintro e w2 ⟨h1, hb2⟩
    have HB2 := Aside0.mk (HB1.out.trans (hb2.mono HB1.out.size))
    have HC1 := Aside0.mk (Kd.C_below HC1'.out hb2)
    have HC0 := Aside0.mk (Kd.C_below HC0'.out hb2)
    clear hb2 HC1' HC0' HB1
    rcases h1 with ⟨f1, rfl⟩ | ⟨f1, rfl⟩
    · have HF1 := Aside0.mk f1
      clear f1
      by_cases hlen : l0.length = l1.length
      · have HLEN := Aside0.mk hlen
        have hne : ((l0.length : Int) != (l1.length : Int)) = false := by simp [hlen]
        have hne2 : (l0.length : Int) = (l1.length : Int) := by omega
        have HS0 := Aside0.mk (fun s (hs : s ∈ l0) => (HF0.out s hs).2)
        have HS1 := Aside0.mk (fun s (hs : s ∈ l1) => (HF1.out s hs).2)
        have HA0 := Aside0.mk (all_len l0 HS0.out)
        have HA1 := Aside0.mk (all_len l1 HS1.out)
        have h100 : l0.length ≤ 100 := by
          rcases l0 with _ | ⟨s, l⟩
          · simp
          · exact (HF0.out s (by simp)).1
        have a0 : (all l0).length ≤ 20900 := by have := HA0.out; omega
        have a1 : (all l1).length ≤ 20900 := by have := HA1.out; omega
        have z2 : ((strOfNums (all l0)).size : Int) ≤ 20900 := by rw [strOfNums_size]; omega
        have z3 : ((strOfNums (all l1)).size : Int) ≤ 20900 := by rw [strOfNums_size]; omega
        have H100 := Aside0.mk h100
        clear hne hlen h100 a0 a1
        go_wp2_with fail
        go_loopw [9, 38] (fun sv iv wr => ∃ (j d : Nat), sv = .bool (same l0 l1 j) ∧ iv = .int .i64 (j : Int) ∧ j ≤ l1.length ∧ wr = w2.drewN d) (fun _ iv _ => l1.length - (intOf iv).toNat)
        case atStart => exact ⟨0, 0, by simp [same], rfl, Nat.zero_le _, rfl⟩
        case round =>
          obtain ⟨j, d, rfl, rfl, hj, rfl⟩ := hrel
          by_cases hlt : j < l1.length
          · obtain ⟨q, hq⟩ : ∃ q, l1[j]? = some q := ⟨_, List.getElem?_eq_getElem hlt⟩
            obtain ⟨s, hs⟩ : ∃ s, l0[j]? = some s := ⟨_, List.getElem?_eq_getElem (by have := HLEN.out; omega)⟩
            obtain ⟨ad0, rfl, hcell0⟩ := C_str HC0.out j s hs
            obtain ⟨ad1, rfl, hcell1⟩ := C_str HC1.out j q hq
            have HN := Aside0.mk (same_next hs hq)
            have hlt0 : (j : Int) < (l0.length : Int) := by have := HLEN.out; omega
            have hTE := toList_eq_iff s q
            clear hs hq
            cases hsm : same l0 l1 j with
            | true =>
              rw [hsm] at HN
              clear hsm
              by_cases hsq : s = q
              · rw [decide_eq_true hsq] at hTE HN
                have HN2 := Aside0.mk HN.out
                clear HN hsq
                go_wp2_with fail
                go_quiet (fail)
                go_wp2_with fail
                go_roundw
                case rel => exact ⟨j + 1, _, by rw [HN2.out]; rfl, by go_num, by omega, rfl⟩
                case measure => simp [intOf]; omega
              · rw [decide_eq_false hsq] at hTE HN
                have HN2 := Aside0.mk HN.out
                clear HN hsq
                go_wp2_with fail
                go_quiet (fail)
                go_wp2_with fail
                go_roundw
                case rel => exact ⟨j + 1, _, by rw [HN2.out]; rfl, by go_num, by omega, rfl⟩
                case measure => simp [intOf]; omega
            | false =>
              rw [hsm] at HN
              clear hsm hTE
              have HN2 := Aside0.mk HN.out
              clear HN
              go_wp2_with fail
              go_quiet (fail)
              go_wp2_with fail
              go_roundw
              case rel => exact ⟨j + 1, _, by rw [HN2.out]; rfl, by go_num, by omega, rfl⟩
              case measure => simp [intOf]; omega
          · obtain rfl : j = l1.length := by omega
            have hsame : same l0 l1 l1.length = decide (l0 = l1) := by
              unfold same
              rw [List.take_of_length_le (by have := HLEN.out; omega), List.take_of_length_le (Nat.le_refl _)]
            rw [hsame]
            clear hsame hlt
            by_cases hle : ((strOfNums (all l0)).size : Int) ≤ ((strOfNums (all l1)).size : Int)
            · obtain ⟨kk, hkk⟩ : ∃ kk, kk = (strOfNums (all l0)).size := ⟨_, rfl⟩
              have hKm : kk = min (all l0).length (all l1).length := by rw [hkk, strOfNums_size]; simp only [strOfNums_size] at hle; omega
              have hK0 : (kk : Int) ≤ ((strOfNums (all l0)).size : Int) := by rw [strOfNums_size]; omega
              have hK1 : (kk : Int) ≤ ((strOfNums (all l1)).size : Int) := by rw [strOfNums_size]; omega
              have hq : (((strOfNums (all l0)).extract 0 kk).toList == ((strOfNums (all l1)).extract 0 kk).toList) = decide (l0 = l1) := by
                rw [toList_eq_iff, extract_nums _ (ok_all _) kk (by omega), extract_nums _ (ok_all _) kk (by omega)]
                rw [Bool.eq_iff_iff]
                simp only [decide_eq_true_eq]
                constructor
                · intro h
                  have h2 := congrArg ByteArray.toList h
                  exact take_eq l0 l1 HLEN.out HS0.out HS1.out kk hKm ((Byt.str_eq (Byt.ok_take (ok_all _) _) (Byt.ok_take (ok_all _) _)).1 h2)
                · rintro rfl; rfl
              go_wp2_with fail
              rw [← hkk]
              have HB := Aside0.mk (pw_below_drewN HB2.out d)
              obtain ⟨w3, hw3⟩ : ∃ w3, w3 = w2.drewN d := ⟨_, rfl⟩
              rw [← hw3] at HB ⊢
              clear hw3 hkk hle hKm HB2
              refine start_ (n := 13) (S := fun w' => True) (ds := []) #[false, false, false, false, false, false, false, false, false, false, false, false, false] (by kernel_rfl) rfl rfl trivial (fun hHeld => ?_); refine with_tabW VaryApart.tab12 VaryApart.bits12 (fun HT_ HW_ => ?_)
              refine inv_at [0, 1, 2, 3, 4, 5, 6, 7, 8, 9, 10, 11, 12] (fun a0_ b a w' => a = putSel a0_ b [(0, 59, (.string (strOfNums (all l0)))), (1, 60, (.int .i64 (kk : Int))), (2, 61, (.string ((strOfNums (all l0)).extract 0 kk))), (3, 62, (.string (strOfNums (all l1)))), (4, 63, (.int .i64 (kk : Int))), (5, 64, (.string ((strOfNums (all l1)).extract 0 kk))), (6, 65, (.bool (decide (l0 = l1)))), (7, 66, (.bool (decide (l0 = l1)))), (8, 67, (.bool true)), (9, 68, (.bool true)), (10, 69, (.bool true)), (11, 70, (.bool true)), (12, 4, (.bool true))] ∧ (Below w.heap.size w w')) HT_.out HW_.out (by kernel_rfl) (by kernel_rfl) ?_ ?_ ?_
              · exact ⟨by simp only [putSel, Bool.false_eq_true, if_false], below_drew1 HB.out⟩
              · skip
                clear HB
                refine steps_cons ?_ ?_
                · rintro b a w' ⟨ha, Q_HB⟩ hb_ hon hoff
                  refine ⟨_, rfl, fun K hK => ?_⟩
                  have e5 : a.tmps[5]? = some ((.string (strOfNums (all l0)))) := by rw [ha]; exact (putSel_off rfl).trans rfl
                  replace ha := Aside0.mk ha
                  have HB := Aside0.mk Q_HB
                  refine value_ (w1 := w') (v := (.string (strOfNums (all l0)))) (by rfl) rfl ?_ ?_
                  · go_simp
                    (try simp only [i64_w])
                    try rfl
                  refine hK.out _ _ ⟨(by rw [ha.out]; exact putSel_upk 0 hb_ rfl rfl rfl), Q_HB⟩
                refine steps_cons ?_ ?_
                · rintro b a w' ⟨ha, Q_HB⟩ hb_ hon hoff
                  refine ⟨_, rfl, fun K hK => ?_⟩
                  have e11 : a.tmps[11]? = some ((.int .i64 (kk : Int))) := by rw [ha]; exact (putSel_off rfl).trans rfl
                  replace ha := Aside0.mk ha
                  have HB := Aside0.mk Q_HB
                  refine value_ (w1 := w') (v := (.int .i64 (kk : Int))) (by rfl) rfl ?_ ?_
                  · go_simp
                    (try simp only [i64_w])
                    try rfl
                  refine hK.out _ _ ⟨(by rw [ha.out]; exact putSel_upk 1 hb_ rfl rfl rfl), Q_HB⟩
                refine steps_cons ?_ ?_
                · rintro b a w' ⟨ha, Q_HB⟩ hb_ hon hoff
                  refine ⟨_, rfl, fun K hK => ?_⟩
                  have e59 : a.tmps[59]? = some ((.string (strOfNums (all l0)))) := by rw [ha]; exact putSel_on (e := (0, 59, (.string (strOfNums (all l0))))) 0 rfl rfl (hon 0 (by kernel_rfl)) rfl
                  have e60 : a.tmps[60]? = some ((.int .i64 (kk : Int))) := by rw [ha]; exact putSel_on (e := (1, 60, (.int .i64 (kk : Int)))) 1 rfl rfl (hon 1 (by kernel_rfl)) rfl
                  replace ha := Aside0.mk ha
                  have HB := Aside0.mk Q_HB
                  refine value_ (w1 := w') (v := (.string ((strOfNums (all l0)).extract 0 kk))) (by rfl) rfl ?_ ?_
                  · go_simp
                    (try simp only [i64_w])
                    try rfl
                  refine hK.out _ _ ⟨(by rw [ha.out]; exact putSel_upk 2 hb_ rfl rfl rfl), Q_HB⟩
                refine steps_cons ?_ ?_
                · rintro b a w' ⟨ha, Q_HB⟩ hb_ hon hoff
                  refine ⟨_, rfl, fun K hK => ?_⟩
                  have e7 : a.tmps[7]? = some ((.string (strOfNums (all l1)))) := by rw [ha]; exact (putSel_off rfl).trans rfl
                  replace ha := Aside0.mk ha
                  have HB := Aside0.mk Q_HB
                  refine value_ (w1 := w') (v := (.string (strOfNums (all l1)))) (by rfl) rfl ?_ ?_
                  · go_simp
                    (try simp only [i64_w])
                    try rfl
                  refine hK.out _ _ ⟨(by rw [ha.out]; exact putSel_upk 3 hb_ rfl rfl rfl), Q_HB⟩
                refine steps_cons ?_ ?_
                · rintro b a w' ⟨ha, Q_HB⟩ hb_ hon hoff
                  refine ⟨_, rfl, fun K hK => ?_⟩
                  have e11 : a.tmps[11]? = some ((.int .i64 (kk : Int))) := by rw [ha]; exact (putSel_off rfl).trans rfl
                  replace ha := Aside0.mk ha
                  have HB := Aside0.mk Q_HB
                  refine value_ (w1 := w') (v := (.int .i64 (kk : Int))) (by rfl) rfl ?_ ?_
                  · go_simp
                    (try simp only [i64_w])
                    try rfl
                  refine hK.out _ _ ⟨(by rw [ha.out]; exact putSel_upk 4 hb_ rfl rfl rfl), Q_HB⟩
                refine steps_cons ?_ ?_
                · rintro b a w' ⟨ha, Q_HB⟩ hb_ hon hoff
                  refine ⟨_, rfl, fun K hK => ?_⟩
                  have e62 : a.tmps[62]? = some ((.string (strOfNums (all l1)))) := by rw [ha]; exact putSel_on (e := (3, 62, (.string (strOfNums (all l1))))) 3 rfl rfl (hon 3 (by kernel_rfl)) rfl
                  have e63 : a.tmps[63]? = some ((.int .i64 (kk : Int))) := by rw [ha]; exact putSel_on (e := (4, 63, (.int .i64 (kk : Int)))) 4 rfl rfl (hon 4 (by kernel_rfl)) rfl
                  replace ha := Aside0.mk ha
                  have HB := Aside0.mk Q_HB
                  refine value_ (w1 := w') (v := (.string ((strOfNums (all l1)).extract 0 kk))) (by rfl) rfl ?_ ?_
                  · go_simp
                    (try simp only [i64_w])
                    try rfl
                  refine hK.out _ _ ⟨(by rw [ha.out]; exact putSel_upk 5 hb_ rfl rfl rfl), Q_HB⟩
                refine steps_cons ?_ ?_
                · rintro b a w' ⟨ha, Q_HB⟩ hb_ hon hoff
                  refine ⟨_, rfl, fun K hK => ?_⟩
                  have e61 : a.tmps[61]? = some ((.string ((strOfNums (all l0)).extract 0 kk))) := by rw [ha]; exact putSel_on (e := (2, 61, (.string ((strOfNums (all l0)).extract 0 kk)))) 2 rfl rfl (hon 2 (by kernel_rfl)) rfl
                  have e64 : a.tmps[64]? = some ((.string ((strOfNums (all l1)).extract 0 kk))) := by rw [ha]; exact putSel_on (e := (5, 64, (.string ((strOfNums (all l1)).extract 0 kk)))) 5 rfl rfl (hon 5 (by kernel_rfl)) rfl
                  replace ha := Aside0.mk ha
                  have HB := Aside0.mk Q_HB
                  refine value_ (w1 := w') (v := (.bool (decide (l0 = l1)))) (by rfl) rfl ?_ ?_
                  · go_simp
                    (try simp only [i64_w])
                    try rfl
                  refine hK.out _ _ ⟨(by rw [ha.out]; exact putSel_upk 6 hb_ rfl rfl rfl), Q_HB⟩
                refine steps_cons ?_ ?_
                · rintro b a w' ⟨ha, Q_HB⟩ hb_ hon hoff
                  refine ⟨_, rfl, fun K hK => ?_⟩
                  have e9 : a.tmps[9]? = some ((.bool (decide (l0 = l1)))) := by rw [ha]; exact (putSel_off rfl).trans rfl
                  replace ha := Aside0.mk ha
                  have HB := Aside0.mk Q_HB
                  refine value_ (w1 := w') (v := (.bool (decide (l0 = l1)))) (by rfl) rfl ?_ ?_
                  · go_simp
                    (try simp only [i64_w])
                    try rfl
                  refine hK.out _ _ ⟨(by rw [ha.out]; exact putSel_upk 7 hb_ rfl rfl rfl), Q_HB⟩
                refine steps_cons ?_ ?_
                · rintro b a w' ⟨ha, Q_HB⟩ hb_ hon hoff
                  refine ⟨_, rfl, fun K hK => ?_⟩
                  have e65 : a.tmps[65]? = some ((.bool (decide (l0 = l1)))) := by rw [ha]; exact putSel_on (e := (6, 65, (.bool (decide (l0 = l1))))) 6 rfl rfl (hon 6 (by kernel_rfl)) rfl
                  have e66 : a.tmps[66]? = some ((.bool (decide (l0 = l1)))) := by rw [ha]; exact putSel_on (e := (7, 66, (.bool (decide (l0 = l1))))) 7 rfl rfl (hon 7 (by kernel_rfl)) rfl
                  replace ha := Aside0.mk ha
                  have HB := Aside0.mk Q_HB
                  refine value_ (w1 := w') (v := (.bool true)) (by rfl) rfl ?_ ?_
                  · go_simp
                    (try simp only [i64_w])
                    try rfl
                  refine hK.out _ _ ⟨(by rw [ha.out]; exact putSel_upk 8 hb_ rfl rfl rfl), Q_HB⟩
                refine steps_cons ?_ ?_
                · rintro b a w' ⟨ha, Q_HB⟩ hb_ hon hoff
                  refine ⟨_, rfl, fun K hK => ?_⟩
                  have e67 : a.tmps[67]? = some ((.bool true)) := by rw [ha]; exact putSel_on (e := (8, 67, (.bool true))) 8 rfl rfl (hon 8 (by kernel_rfl)) rfl
                  replace ha := Aside0.mk ha
                  have HB := Aside0.mk Q_HB
                  refine value_ (w1 := w') (v := (.bool true)) (by rfl) rfl ?_ ?_
                  · go_simp
                    (try simp only [i64_w])
                    try rfl
                  refine hK.out _ _ ⟨(by rw [ha.out]; exact putSel_upk 9 hb_ rfl rfl rfl), Q_HB⟩
                refine steps_cons ?_ ?_
                · rintro b a w' ⟨ha, Q_HB⟩ hb_ hon hoff
                  refine ⟨_, rfl, fun K hK => ?_⟩
                  have e68 : a.tmps[68]? = some ((.bool true)) := by rw [ha]; exact putSel_on (e := (9, 68, (.bool true))) 9 rfl rfl (hon 9 (by kernel_rfl)) rfl
                  replace ha := Aside0.mk ha
                  have HB := Aside0.mk Q_HB
                  refine goes_ Try.func22 (by kernel_rfl) rfl #[] (wanted_on rfl rfl rfl (e68.trans (by first | rfl | (simp [*]; done)))) rfl rfl (by first | (simp only [List.map_toArray, List.map_cons, List.map_nil, Act.eval, Array.getD_eq_getD_getElem?, Option.getD_some, e68]; done) | (simp only [List.map_toArray, List.map_cons, List.map_nil, Act.eval, Array.getD_eq_getD_getElem?, Option.getD_some, e68]; rfl)) ?_
                  refine (VaryLives.lives_c _).mono ?_
                  rintro e w1_ ⟨rfl, hb⟩
                  refine ⟨_, rfl, ?_⟩
                  refine hK.out _ _ ⟨(by rw [ha.out]; exact putSel_upk 10 hb_ rfl rfl rfl), below_step HB.out hb⟩
                refine steps_cons ?_ ?_
                · rintro b a w' ⟨ha, Q_HB⟩ hb_ hon hoff
                  refine ⟨_, rfl, fun K hK => ?_⟩
                  have e68 : a.tmps[68]? = some ((.bool true)) := by rw [ha]; exact putSel_on (e := (9, 68, (.bool true))) 9 rfl rfl (hon 9 (by kernel_rfl)) rfl
                  have e69 : a.tmps[69]? = some ((.bool true)) := by rw [ha]; exact putSel_on (e := (10, 69, (.bool true))) 10 rfl rfl (hon 10 (by kernel_rfl)) rfl
                  replace ha := Aside0.mk ha
                  have HB := Aside0.mk Q_HB
                  refine value_ (w1 := w') (v := (.bool true)) (by rfl) rfl ?_ ?_
                  · go_simp
                    (try simp only [i64_w])
                    try rfl
                  refine hK.out _ _ ⟨(by rw [ha.out]; exact putSel_upk 11 hb_ rfl rfl rfl), Q_HB⟩
                refine steps_cons ?_ ?_
                · rintro b a w' ⟨ha, Q_HB⟩ hb_ hon hoff
                  refine ⟨_, rfl, fun K hK => ?_⟩
                  have e70 : a.tmps[70]? = some ((.bool true)) := by rw [ha]; exact putSel_on (e := (11, 70, (.bool true))) 11 rfl rfl (hon 11 (by kernel_rfl)) rfl
                  replace ha := Aside0.mk ha
                  have HB := Aside0.mk Q_HB
                  refine value_ (w1 := w') (v := (.bool true)) (by rfl) rfl ?_ ?_
                  · go_simp
                    (try simp only [i64_w])
                    try rfl
                  refine hK.out _ _ ⟨(by rw [ha.out]; exact putSel_upk 12 hb_ rfl rfl rfl), Q_HB⟩
                exact steps_nil
              rintro b a w4 hall ⟨ha, Q_HB⟩
              clear HB
              have hb0_ := hall 0 (by kernel_rfl)
              have hb1_ := hall 1 (by kernel_rfl)
              have hb2_ := hall 2 (by kernel_rfl)
              have hb3_ := hall 3 (by kernel_rfl)
              have hb4_ := hall 4 (by kernel_rfl)
              have hb5_ := hall 5 (by kernel_rfl)
              have hb6_ := hall 6 (by kernel_rfl)
              have hb7_ := hall 7 (by kernel_rfl)
              have hb8_ := hall 8 (by kernel_rfl)
              have hb9_ := hall 9 (by kernel_rfl)
              have hb10_ := hall 10 (by kernel_rfl)
              have hb11_ := hall 11 (by kernel_rfl)
              have hb12_ := hall 12 (by kernel_rfl)
              subst ha
              simp only [putSel, hb0_, hb1_, hb2_, hb3_, hb4_, hb5_, hb6_, hb7_, hb8_, hb9_, hb10_, hb11_, hb12_, if_true, Act.put, List.setIfInBounds_toArray, List.set_cons_zero, List.set_cons_succ]
              have HB := Aside0.mk Q_HB
              clear Q_HB
              clear hall hb0_ hb1_ hb2_ hb3_ hb4_ hb5_ hb6_ hb7_ hb8_ hb9_ hb10_ hb11_ hb12_
              go_wp2_with fail
              go_ret
              exact ⟨rfl, HB.out⟩
            · have hle2 : ((strOfNums (all l1)).size : Int) < ((strOfNums (all l0)).size : Int) := by omega
              have hle3 : ((strOfNums (all l1)).size : Int) ≤ ((strOfNums (all l0)).size : Int) := by omega
              obtain ⟨kk, hkk⟩ : ∃ kk, kk = (strOfNums (all l1)).size := ⟨_, rfl⟩
              have hKm : kk = min (all l0).length (all l1).length := by rw [hkk, strOfNums_size]; simp only [strOfNums_size] at hle; omega
              have hK0 : (kk : Int) ≤ ((strOfNums (all l0)).size : Int) := by rw [strOfNums_size]; omega
              have hK1 : (kk : Int) ≤ ((strOfNums (all l1)).size : Int) := by rw [strOfNums_size]; omega
              have hq : (((strOfNums (all l0)).extract 0 kk).toList == ((strOfNums (all l1)).extract 0 kk).toList) = decide (l0 = l1) := by
                rw [toList_eq_iff, extract_nums _ (ok_all _) kk (by omega), extract_nums _ (ok_all _) kk (by omega)]
                rw [Bool.eq_iff_iff]
                simp only [decide_eq_true_eq]
                constructor
                · intro h
                  have h2 := congrArg ByteArray.toList h
                  exact take_eq l0 l1 HLEN.out HS0.out HS1.out kk hKm ((Byt.str_eq (Byt.ok_take (ok_all _) _) (Byt.ok_take (ok_all _) _)).1 h2)
                · rintro rfl; rfl
              go_wp2_with fail
              rw [← hkk]
              have HB := Aside0.mk (pw_below_drewN HB2.out d)
              obtain ⟨w3, hw3⟩ : ∃ w3, w3 = w2.drewN d := ⟨_, rfl⟩
              rw [← hw3] at HB ⊢
              clear hw3 hkk hle hle2 hle3 hKm HB2
              refine start_ (n := 13) (S := fun w' => True) (ds := []) #[false, false, false, false, false, false, false, false, false, false, false, false, false] (by kernel_rfl) rfl rfl trivial (fun hHeld => ?_); refine with_tabW VaryApart.tab12 VaryApart.bits12 (fun HT_ HW_ => ?_)
              refine inv_at [0, 1, 2, 3, 4, 5, 6, 7, 8, 9, 10, 11, 12] (fun a0_ b a w' => a = putSel a0_ b [(0, 59, (.string (strOfNums (all l0)))), (1, 60, (.int .i64 (kk : Int))), (2, 61, (.string ((strOfNums (all l0)).extract 0 kk))), (3, 62, (.string (strOfNums (all l1)))), (4, 63, (.int .i64 (kk : Int))), (5, 64, (.string ((strOfNums (all l1)).extract 0 kk))), (6, 65, (.bool (decide (l0 = l1)))), (7, 66, (.bool (decide (l0 = l1)))), (8, 67, (.bool true)), (9, 68, (.bool true)), (10, 69, (.bool true)), (11, 70, (.bool true)), (12, 4, (.bool true))] ∧ (Below w.heap.size w w')) HT_.out HW_.out (by kernel_rfl) (by kernel_rfl) ?_ ?_ ?_
              · exact ⟨by simp only [putSel, Bool.false_eq_true, if_false], below_drew1 HB.out⟩
              · skip
                clear HB
                refine steps_cons ?_ ?_
                · rintro b a w' ⟨ha, Q_HB⟩ hb_ hon hoff
                  refine ⟨_, rfl, fun K hK => ?_⟩
                  have e5 : a.tmps[5]? = some ((.string (strOfNums (all l0)))) := by rw [ha]; exact (putSel_off rfl).trans rfl
                  replace ha := Aside0.mk ha
                  have HB := Aside0.mk Q_HB
                  refine value_ (w1 := w') (v := (.string (strOfNums (all l0)))) (by rfl) rfl ?_ ?_
                  · go_simp
                    (try simp only [i64_w])
                    try rfl
                  refine hK.out _ _ ⟨(by rw [ha.out]; exact putSel_upk 0 hb_ rfl rfl rfl), Q_HB⟩
                refine steps_cons ?_ ?_
                · rintro b a w' ⟨ha, Q_HB⟩ hb_ hon hoff
                  refine ⟨_, rfl, fun K hK => ?_⟩
                  have e11 : a.tmps[11]? = some ((.int .i64 (kk : Int))) := by rw [ha]; exact (putSel_off rfl).trans rfl
                  replace ha := Aside0.mk ha
                  have HB := Aside0.mk Q_HB
                  refine value_ (w1 := w') (v := (.int .i64 (kk : Int))) (by rfl) rfl ?_ ?_
                  · go_simp
                    (try simp only [i64_w])
                    try rfl
                  refine hK.out _ _ ⟨(by rw [ha.out]; exact putSel_upk 1 hb_ rfl rfl rfl), Q_HB⟩
                refine steps_cons ?_ ?_
                · rintro b a w' ⟨ha, Q_HB⟩ hb_ hon hoff
                  refine ⟨_, rfl, fun K hK => ?_⟩
                  have e59 : a.tmps[59]? = some ((.string (strOfNums (all l0)))) := by rw [ha]; exact putSel_on (e := (0, 59, (.string (strOfNums (all l0))))) 0 rfl rfl (hon 0 (by kernel_rfl)) rfl
                  have e60 : a.tmps[60]? = some ((.int .i64 (kk : Int))) := by rw [ha]; exact putSel_on (e := (1, 60, (.int .i64 (kk : Int)))) 1 rfl rfl (hon 1 (by kernel_rfl)) rfl
                  replace ha := Aside0.mk ha
                  have HB := Aside0.mk Q_HB
                  refine value_ (w1 := w') (v := (.string ((strOfNums (all l0)).extract 0 kk))) (by rfl) rfl ?_ ?_
                  · go_simp
                    (try simp only [i64_w])
                    try rfl
                  refine hK.out _ _ ⟨(by rw [ha.out]; exact putSel_upk 2 hb_ rfl rfl rfl), Q_HB⟩
                refine steps_cons ?_ ?_
                · rintro b a w' ⟨ha, Q_HB⟩ hb_ hon hoff
                  refine ⟨_, rfl, fun K hK => ?_⟩
                  have e7 : a.tmps[7]? = some ((.string (strOfNums (all l1)))) := by rw [ha]; exact (putSel_off rfl).trans rfl
                  replace ha := Aside0.mk ha
                  have HB := Aside0.mk Q_HB
                  refine value_ (w1 := w') (v := (.string (strOfNums (all l1)))) (by rfl) rfl ?_ ?_
                  · go_simp
                    (try simp only [i64_w])
                    try rfl
                  refine hK.out _ _ ⟨(by rw [ha.out]; exact putSel_upk 3 hb_ rfl rfl rfl), Q_HB⟩
                refine steps_cons ?_ ?_
                · rintro b a w' ⟨ha, Q_HB⟩ hb_ hon hoff
                  refine ⟨_, rfl, fun K hK => ?_⟩
                  have e11 : a.tmps[11]? = some ((.int .i64 (kk : Int))) := by rw [ha]; exact (putSel_off rfl).trans rfl
                  replace ha := Aside0.mk ha
                  have HB := Aside0.mk Q_HB
                  refine value_ (w1 := w') (v := (.int .i64 (kk : Int))) (by rfl) rfl ?_ ?_
                  · go_simp
                    (try simp only [i64_w])
                    try rfl
                  refine hK.out _ _ ⟨(by rw [ha.out]; exact putSel_upk 4 hb_ rfl rfl rfl), Q_HB⟩
                refine steps_cons ?_ ?_
                · rintro b a w' ⟨ha, Q_HB⟩ hb_ hon hoff
                  refine ⟨_, rfl, fun K hK => ?_⟩
                  have e62 : a.tmps[62]? = some ((.string (strOfNums (all l1)))) := by rw [ha]; exact putSel_on (e := (3, 62, (.string (strOfNums (all l1))))) 3 rfl rfl (hon 3 (by kernel_rfl)) rfl
                  have e63 : a.tmps[63]? = some ((.int .i64 (kk : Int))) := by rw [ha]; exact putSel_on (e := (4, 63, (.int .i64 (kk : Int)))) 4 rfl rfl (hon 4 (by kernel_rfl)) rfl
                  replace ha := Aside0.mk ha
                  have HB := Aside0.mk Q_HB
                  refine value_ (w1 := w') (v := (.string ((strOfNums (all l1)).extract 0 kk))) (by rfl) rfl ?_ ?_
                  · go_simp
                    (try simp only [i64_w])
                    try rfl
                  refine hK.out _ _ ⟨(by rw [ha.out]; exact putSel_upk 5 hb_ rfl rfl rfl), Q_HB⟩
                refine steps_cons ?_ ?_
                · rintro b a w' ⟨ha, Q_HB⟩ hb_ hon hoff
                  refine ⟨_, rfl, fun K hK => ?_⟩
                  have e61 : a.tmps[61]? = some ((.string ((strOfNums (all l0)).extract 0 kk))) := by rw [ha]; exact putSel_on (e := (2, 61, (.string ((strOfNums (all l0)).extract 0 kk)))) 2 rfl rfl (hon 2 (by kernel_rfl)) rfl
                  have e64 : a.tmps[64]? = some ((.string ((strOfNums (all l1)).extract 0 kk))) := by rw [ha]; exact putSel_on (e := (5, 64, (.string ((strOfNums (all l1)).extract 0 kk)))) 5 rfl rfl (hon 5 (by kernel_rfl)) rfl
                  replace ha := Aside0.mk ha
                  have HB := Aside0.mk Q_HB
                  refine value_ (w1 := w') (v := (.bool (decide (l0 = l1)))) (by rfl) rfl ?_ ?_
                  · go_simp
                    (try simp only [i64_w])
                    try rfl
                  refine hK.out _ _ ⟨(by rw [ha.out]; exact putSel_upk 6 hb_ rfl rfl rfl), Q_HB⟩
                refine steps_cons ?_ ?_
                · rintro b a w' ⟨ha, Q_HB⟩ hb_ hon hoff
                  refine ⟨_, rfl, fun K hK => ?_⟩
                  have e9 : a.tmps[9]? = some ((.bool (decide (l0 = l1)))) := by rw [ha]; exact (putSel_off rfl).trans rfl
                  replace ha := Aside0.mk ha
                  have HB := Aside0.mk Q_HB
                  refine value_ (w1 := w') (v := (.bool (decide (l0 = l1)))) (by rfl) rfl ?_ ?_
                  · go_simp
                    (try simp only [i64_w])
                    try rfl
                  refine hK.out _ _ ⟨(by rw [ha.out]; exact putSel_upk 7 hb_ rfl rfl rfl), Q_HB⟩
                refine steps_cons ?_ ?_
                · rintro b a w' ⟨ha, Q_HB⟩ hb_ hon hoff
                  refine ⟨_, rfl, fun K hK => ?_⟩
                  have e65 : a.tmps[65]? = some ((.bool (decide (l0 = l1)))) := by rw [ha]; exact putSel_on (e := (6, 65, (.bool (decide (l0 = l1))))) 6 rfl rfl (hon 6 (by kernel_rfl)) rfl
                  have e66 : a.tmps[66]? = some ((.bool (decide (l0 = l1)))) := by rw [ha]; exact putSel_on (e := (7, 66, (.bool (decide (l0 = l1))))) 7 rfl rfl (hon 7 (by kernel_rfl)) rfl
                  replace ha := Aside0.mk ha
                  have HB := Aside0.mk Q_HB
                  refine value_ (w1 := w') (v := (.bool true)) (by rfl) rfl ?_ ?_
                  · go_simp
                    (try simp only [i64_w])
                    try rfl
                  refine hK.out _ _ ⟨(by rw [ha.out]; exact putSel_upk 8 hb_ rfl rfl rfl), Q_HB⟩
                refine steps_cons ?_ ?_
                · rintro b a w' ⟨ha, Q_HB⟩ hb_ hon hoff
                  refine ⟨_, rfl, fun K hK => ?_⟩
                  have e67 : a.tmps[67]? = some ((.bool true)) := by rw [ha]; exact putSel_on (e := (8, 67, (.bool true))) 8 rfl rfl (hon 8 (by kernel_rfl)) rfl
                  replace ha := Aside0.mk ha
                  have HB := Aside0.mk Q_HB
                  refine value_ (w1 := w') (v := (.bool true)) (by rfl) rfl ?_ ?_
                  · go_simp
                    (try simp only [i64_w])
                    try rfl
                  refine hK.out _ _ ⟨(by rw [ha.out]; exact putSel_upk 9 hb_ rfl rfl rfl), Q_HB⟩
                refine steps_cons ?_ ?_
                · rintro b a w' ⟨ha, Q_HB⟩ hb_ hon hoff
                  refine ⟨_, rfl, fun K hK => ?_⟩
                  have e68 : a.tmps[68]? = some ((.bool true)) := by rw [ha]; exact putSel_on (e := (9, 68, (.bool true))) 9 rfl rfl (hon 9 (by kernel_rfl)) rfl
                  replace ha := Aside0.mk ha
                  have HB := Aside0.mk Q_HB
                  refine goes_ Try.func22 (by kernel_rfl) rfl #[] (wanted_on rfl rfl rfl (e68.trans (by first | rfl | (simp [*]; done)))) rfl rfl (by first | (simp only [List.map_toArray, List.map_cons, List.map_nil, Act.eval, Array.getD_eq_getD_getElem?, Option.getD_some, e68]; done) | (simp only [List.map_toArray, List.map_cons, List.map_nil, Act.eval, Array.getD_eq_getD_getElem?, Option.getD_some, e68]; rfl)) ?_
                  refine (VaryLives.lives_c _).mono ?_
                  rintro e w1_ ⟨rfl, hb⟩
                  refine ⟨_, rfl, ?_⟩
                  refine hK.out _ _ ⟨(by rw [ha.out]; exact putSel_upk 10 hb_ rfl rfl rfl), below_step HB.out hb⟩
                refine steps_cons ?_ ?_
                · rintro b a w' ⟨ha, Q_HB⟩ hb_ hon hoff
                  refine ⟨_, rfl, fun K hK => ?_⟩
                  have e68 : a.tmps[68]? = some ((.bool true)) := by rw [ha]; exact putSel_on (e := (9, 68, (.bool true))) 9 rfl rfl (hon 9 (by kernel_rfl)) rfl
                  have e69 : a.tmps[69]? = some ((.bool true)) := by rw [ha]; exact putSel_on (e := (10, 69, (.bool true))) 10 rfl rfl (hon 10 (by kernel_rfl)) rfl
                  replace ha := Aside0.mk ha
                  have HB := Aside0.mk Q_HB
                  refine value_ (w1 := w') (v := (.bool true)) (by rfl) rfl ?_ ?_
                  · go_simp
                    (try simp only [i64_w])
                    try rfl
                  refine hK.out _ _ ⟨(by rw [ha.out]; exact putSel_upk 11 hb_ rfl rfl rfl), Q_HB⟩
                refine steps_cons ?_ ?_
                · rintro b a w' ⟨ha, Q_HB⟩ hb_ hon hoff
                  refine ⟨_, rfl, fun K hK => ?_⟩
                  have e70 : a.tmps[70]? = some ((.bool true)) := by rw [ha]; exact putSel_on (e := (11, 70, (.bool true))) 11 rfl rfl (hon 11 (by kernel_rfl)) rfl
                  replace ha := Aside0.mk ha
                  have HB := Aside0.mk Q_HB
                  refine value_ (w1 := w') (v := (.bool true)) (by rfl) rfl ?_ ?_
                  · go_simp
                    (try simp only [i64_w])
                    try rfl
                  refine hK.out _ _ ⟨(by rw [ha.out]; exact putSel_upk 12 hb_ rfl rfl rfl), Q_HB⟩
                exact steps_nil
              rintro b a w4 hall ⟨ha, Q_HB⟩
              clear HB
              have hb0_ := hall 0 (by kernel_rfl)
              have hb1_ := hall 1 (by kernel_rfl)
              have hb2_ := hall 2 (by kernel_rfl)
              have hb3_ := hall 3 (by kernel_rfl)
              have hb4_ := hall 4 (by kernel_rfl)
              have hb5_ := hall 5 (by kernel_rfl)
              have hb6_ := hall 6 (by kernel_rfl)
              have hb7_ := hall 7 (by kernel_rfl)
              have hb8_ := hall 8 (by kernel_rfl)
              have hb9_ := hall 9 (by kernel_rfl)
              have hb10_ := hall 10 (by kernel_rfl)
              have hb11_ := hall 11 (by kernel_rfl)
              have hb12_ := hall 12 (by kernel_rfl)
              subst ha
              simp only [putSel, hb0_, hb1_, hb2_, hb3_, hb4_, hb5_, hb6_, hb7_, hb8_, hb9_, hb10_, hb11_, hb12_, if_true, Act.put, List.setIfInBounds_toArray, List.set_cons_zero, List.set_cons_succ]
              have HB := Aside0.mk Q_HB
              clear Q_HB
              clear hall hb0_ hb1_ hb2_ hb3_ hb4_ hb5_ hb6_ hb7_ hb8_ hb9_ hb10_ hb11_ hb12_
              go_wp2_with fail
              go_ret
              exact ⟨rfl, HB.out⟩
      · have hne : ((l0.length : Int) != (l1.length : Int)) = true := by simp; omega
        have hne2 : ¬ (l0.length : Int) = (l1.length : Int) := by omega
        go_wp2_with fail
        refine (VaryLives.lives_c _).mono ?_
        rintro e w5 ⟨rfl, hb⟩
        have HB5 := Aside0.mk (HB2.out.trans (hb.mono HB2.out.size))
        clear hb
        go_wp2_with fail
        go_ret
        exact ⟨rfl, HB5.out⟩
    · go_wp2_with fail
      refine (VaryLives.lives_c _).mono ?_
      rintro e w5 ⟨rfl, hb⟩
      have HB5 := Aside0.mk (HB2.out.trans (hb.mono HB2.out.size))
      clear hb
      go_wp2_with fail
      go_ret
      exact ⟨rfl, HB5.out⟩
  · go_wp2_with fail
    refine (texts_c _ _ l1 _ HC1'.out HM1.out).mono ?_
    rintro e w2 ⟨h1, hb2⟩
    have HB2 := Aside0.mk (HB1.out.trans (hb2.mono HB1.out.size))
    clear hb2
    rcases h1 with ⟨f1, rfl⟩ | ⟨f1, rfl⟩
    · go_wp2_with fail
      refine (VaryLives.lives_c _).mono ?_
      rintro e w5 ⟨rfl, hb⟩
      have HB5 := Aside0.mk (HB2.out.trans (hb.mono HB2.out.size))
      clear hb
      go_wp2_with fail
      go_ret
      exact ⟨rfl, HB5.out⟩
    · go_wp2_with fail
      refine (VaryLives.lives_c _).mono ?_
      rintro e w5 ⟨rfl, hb⟩
      have HB5 := Aside0.mk (HB2.out.trans (hb.mono HB2.out.size))
      clear hb
      go_wp2_with fail
      go_ret
      exact ⟨rfl, HB5.out⟩
end Go.Proofs.Ytgefpgbofhcmdaa.Apart

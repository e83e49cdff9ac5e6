/- The walks of vary's reader's methods. -/
import Derived.Test.YtgefpgbofhcmdaaVaryR
import Derived.Outline
namespace Go.Proofs.Ytgefpgbofhcmdaa.VaryR
open Go.RowKit Go.Proofs.Ytgefpgbofhcmdaa.P Go.Proofs.YtgefpgbofhcmdaaW.PrintWords Go.Proofs.YtgefpgbofhcmdaaW.PrintLast Go.Proofs.YtgefpgbofhcmdaaW.PrintMore Go.Proofs.Ytgefpgbofhcmdaa.Own Go.Proofs.Ytgefpgbofhcmdaa.Vy

set_option maxHeartbeats 1000000 in
theorem num_read (g : Nat) (w : World) (v : Value) (l : List Int) (a : Nat) (h : RdAt g w v l a false) (hok : Byt.Ok l) :
    Calls Try.prog 46 #[.pointer (some ⟨g, 0, none⟩), .func (.func 47) #[] #[]] w (RdPost g v l a false (if (numL (l.drop a)).2 = 0 then (.int .i64 0) else (.int .i64 (numL (l.drop a)).1)) (numL (l.drop a)).2 w) := by
  have H := Aside0.mk h
  clear h
  by_cases hk : (numL (l.drop a)).2 = 0
  · have HK := Aside0.mk hk
    rw [if_pos hk]
    clear hk
    go_enter Try.func46, Try.ntmps46
    go_wp2_with fail
    refine (bad_c g _ v l a false H.out).mono ?_
    rintro e w' ⟨rfl, rfl⟩
    go_wp2_with fail
    refine (numFn_c g _ v l a H.out hok).mono ?_
    rintro e w' ⟨a', rfl, h1, h2, h3⟩
    have H1 := Aside0.mk h1
    have H2 := Aside0.mk h2
    have H3 := Aside0.mk h3
    rw [decide_eq_true HK.out] at h1
    have H4 := Aside0.mk h1
    clear h1 h2 h3
    go_wp2_with fail
    refine (bad_c g _ v l a' true H4.out).mono ?_
    rintro e w' ⟨rfl, rfl⟩
    go_wp2_with fail
    go_ret
    exact RdPost.mk H1.out H2.out H3.out
  · have HK := Aside0.mk hk
    rw [if_neg hk]
    clear hk
    go_enter Try.func46, Try.ntmps46
    go_wp2_with fail
    refine (bad_c g _ v l a false H.out).mono ?_
    rintro e w' ⟨rfl, rfl⟩
    go_wp2_with fail
    refine (numFn_c g _ v l a H.out hok).mono ?_
    rintro e w' ⟨a', rfl, h1, h2, h3⟩
    have H1 := Aside0.mk h1
    have H2 := Aside0.mk h2
    have H3 := Aside0.mk h3
    rw [decide_eq_false HK.out] at h1
    have H4 := Aside0.mk h1
    clear h1 h2 h3
    go_wp2_with fail
    refine (bad_c g _ v l a' false H4.out).mono ?_
    rintro e w' ⟨rfl, rfl⟩
    go_wp2_with fail
    go_ret
    exact RdPost.mk H1.out H2.out H3.out

set_option maxHeartbeats 1000000 in
theorem signed_read (g : Nat) (w : World) (v : Value) (l : List Int) (a : Nat) (h : RdAt g w v l a false) (hok : Byt.Ok l) :
    Calls Try.prog 46 #[.pointer (some ⟨g, 0, none⟩), .func (.func 50) #[] #[]] w (RdPost g v l a false (if (sgnL (l.drop a)).2 = 0 then (.int .i64 0) else (.int .i64 (sgnL (l.drop a)).1)) (sgnL (l.drop a)).2 w) := by
  have H := Aside0.mk h
  clear h
  by_cases hk : (sgnL (l.drop a)).2 = 0
  · have HK := Aside0.mk hk
    rw [if_pos hk]
    clear hk
    go_enter Try.func46, Try.ntmps46
    go_wp2_with fail
    refine (bad_c g _ v l a false H.out).mono ?_
    rintro e w' ⟨rfl, rfl⟩
    go_wp2_with fail
    refine (signed_c g _ v l a H.out hok).mono ?_
    rintro e w' ⟨a', rfl, h1, h2, h3⟩
    have H1 := Aside0.mk h1
    have H2 := Aside0.mk h2
    have H3 := Aside0.mk h3
    rw [decide_eq_true HK.out] at h1
    have H4 := Aside0.mk h1
    clear h1 h2 h3
    go_wp2_with fail
    refine (bad_c g _ v l a' true H4.out).mono ?_
    rintro e w' ⟨rfl, rfl⟩
    go_wp2_with fail
    go_ret
    exact RdPost.mk H1.out H2.out H3.out
  · have HK := Aside0.mk hk
    rw [if_neg hk]
    clear hk
    go_enter Try.func46, Try.ntmps46
    go_wp2_with fail
    refine (bad_c g _ v l a false H.out).mono ?_
    rintro e w' ⟨rfl, rfl⟩
    go_wp2_with fail
    refine (signed_c g _ v l a H.out hok).mono ?_
    rintro e w' ⟨a', rfl, h1, h2, h3⟩
    have H1 := Aside0.mk h1
    have H2 := Aside0.mk h2
    have H3 := Aside0.mk h3
    rw [decide_eq_false HK.out] at h1
    have H4 := Aside0.mk h1
    clear h1 h2 h3
    go_wp2_with fail
    refine (bad_c g _ v l a' false H4.out).mono ?_
    rintro e w' ⟨rfl, rfl⟩
    go_wp2_with fail
    go_ret
    exact RdPost.mk H1.out H2.out H3.out

set_option maxHeartbeats 1000000 in
theorem text_read (g : Nat) (w : World) (v : Value) (l : List Int) (a : Nat) (h : RdAt g w v l a false) (hok : Byt.Ok l) :
    Calls Try.prog 51 #[.pointer (some ⟨g, 0, none⟩), .func (.func 52) #[] #[]] w (RdPost g v l a false (if (textL (l.drop a)).2 = 0 then (.string ⟨#[]⟩) else (.string (strOfNums (textL (l.drop a)).1))) (textL (l.drop a)).2 w) := by
  have H := Aside0.mk h
  clear h
  by_cases hk : (textL (l.drop a)).2 = 0
  · have HK := Aside0.mk hk
    rw [if_pos hk]
    clear hk
    go_enter Try.func51, Try.ntmps51
    go_wp2_with fail
    refine (bad_c g _ v l a false H.out).mono ?_
    rintro e w' ⟨rfl, rfl⟩
    go_wp2_with fail
    refine (text_c g _ v l a H.out hok).mono ?_
    rintro e w' ⟨a', rfl, h1, h2, h3⟩
    have H1 := Aside0.mk h1
    have H2 := Aside0.mk h2
    have H3 := Aside0.mk h3
    rw [decide_eq_true HK.out] at h1
    have H4 := Aside0.mk h1
    clear h1 h2 h3
    go_wp2_with fail
    refine (bad_c g _ v l a' true H4.out).mono ?_
    rintro e w' ⟨rfl, rfl⟩
    go_wp2_with fail
    go_ret
    exact RdPost.mk H1.out H2.out H3.out
  · have HK := Aside0.mk hk
    rw [if_neg hk]
    clear hk
    go_enter Try.func51, Try.ntmps51
    go_wp2_with fail
    refine (bad_c g _ v l a false H.out).mono ?_
    rintro e w' ⟨rfl, rfl⟩
    go_wp2_with fail
    refine (text_c g _ v l a H.out hok).mono ?_
    rintro e w' ⟨a', rfl, h1, h2, h3⟩
    have H1 := Aside0.mk h1
    have H2 := Aside0.mk h2
    have H3 := Aside0.mk h3
    rw [decide_eq_false HK.out] at h1
    have H4 := Aside0.mk h1
    clear h1 h2 h3
    go_wp2_with fail
    refine (bad_c g _ v l a' false H4.out).mono ?_
    rintro e w' ⟨rfl, rfl⟩
    go_wp2_with fail
    go_ret
    exact RdPost.mk H1.out H2.out H3.out

set_option maxHeartbeats 1000000 in
theorem readStr_bad (F : Nat) (g : Nat) (w : World) (v : Value) (l : List Int) (a : Nat) (k : Nat) (h : Rd g w v l a true) :
    Calls Try.prog 51 #[.pointer (some ⟨g, 0, none⟩), .func (.func F) #[] #[]] w (RdPost g v l a true (.string ⟨#[]⟩) k w) := by
  obtain ⟨a', h, _⟩ := h
  have H := Aside0.mk h
  clear h
  go_enter Try.func51, Try.ntmps51
  go_wp2_with fail
  refine (bad_c g _ v l a' true H.out).mono ?_
  rintro e w' ⟨rfl, rfl⟩
  go_wp2_with fail
  go_ret
  exact ⟨rfl, ⟨a', H.out, fun h => by cases h⟩, But.refl g _⟩
theorem num_zero {l : List Int} (h : (numL l).2 = 0) : (numL l).1 = 0 := numL_zero h
theorem sgn_zero {l : List Int} (h : (sgnL l).2 = 0) : (sgnL l).1 = 0 := by
  unfold sgnL at h ⊢; simp only at h ⊢; rw [numL_zero h]; rfl
theorem text_zero {l : List Int} (h : (textL l).2 = 0) : (textL l).1 = [] := by
  unfold textL at h ⊢
  split
  · rfl
  · rename_i h1
    rw [if_neg h1] at h
    exact absurd h (by simp only; omega)
theorem strOf_nil : strOfNums [] = ⟨#[]⟩ := rfl
theorem stepV_true {α : Type} (z : α) (k : Nat) (x : α) : stepV z true k x = z := rfl
theorem stepV_false {α : Type} {z : α} {k : Nat} {x : α} (h : k = 0 → x = z) : stepV z false k x = x := by
  unfold stepV stepB
  by_cases hk : k = 0
  · simp [hk, h hk]
  · simp [hk]

set_option maxHeartbeats 1000000 in
theorem nNum (g : Nat) (w : World) (v : Value) (l : List Int) (a : Nat) (bad : Bool) (h : Rd g w v l a bad) (hok : Byt.Ok l) :
    Calls Try.prog 31 #[.pointer (some ⟨g, 0, none⟩)] w (RdPost g v l a bad (.int .i64 (stepV 0 bad (numL (l.drop a)).2 (numL (l.drop a)).1)) (numL (l.drop a)).2 w) := by
  cases bad with
  | true =>
    have H := Aside0.mk h
    clear h
    rw [stepV_true]
    go_enter Try.func31, Try.ntmps31
    go_wp2_with fail
    refine (readInt_bad _ g _ v l a (numL (l.drop a)).2 H.out).mono ?_
    rintro e w' ⟨rfl, h1, h2⟩
    have H1 := Aside0.mk h1
    have H2 := Aside0.mk h2
    clear h1 h2
    go_wp2_with fail
    go_ret
    exact ⟨rfl, H1.out, H2.out⟩
  | false =>
    obtain ⟨a', h, ha⟩ := h
    obtain rfl := ha rfl
    have H := Aside0.mk h
    clear h ha
    rw [stepV_false num_zero]
    go_enter Try.func31, Try.ntmps31
    go_wp2_with fail
    refine (num_read g _ v l a' H.out hok).mono ?_
    rintro e w' ⟨rfl, h1, h2⟩
    have H1 := Aside0.mk h1
    have H2 := Aside0.mk h2
    clear h1 h2
    by_cases hk : (numL (l.drop a')).2 = 0
    · have HZ := Aside0.mk (num_zero hk)
      rw [if_pos hk]
      clear hk
      go_wp2_with fail
      go_ret
      exact ⟨by rw [HZ.out]; rfl, H1.out, H2.out⟩
    · rw [if_neg hk]
      clear hk
      go_wp2_with fail
      go_ret
      exact ⟨rfl, H1.out, H2.out⟩

set_option maxHeartbeats 1000000 in
theorem nSigned (g : Nat) (w : World) (v : Value) (l : List Int) (a : Nat) (bad : Bool) (h : Rd g w v l a bad) (hok : Byt.Ok l) :
    Calls Try.prog 34 #[.pointer (some ⟨g, 0, none⟩)] w (RdPost g v l a bad (.int .i64 (stepV 0 bad (sgnL (l.drop a)).2 (sgnL (l.drop a)).1)) (sgnL (l.drop a)).2 w) := by
  cases bad with
  | true =>
    have H := Aside0.mk h
    clear h
    rw [stepV_true]
    go_enter Try.func34, Try.ntmps34
    go_wp2_with fail
    refine (readInt_bad _ g _ v l a (sgnL (l.drop a)).2 H.out).mono ?_
    rintro e w' ⟨rfl, h1, h2⟩
    have H1 := Aside0.mk h1
    have H2 := Aside0.mk h2
    clear h1 h2
    go_wp2_with fail
    go_ret
    exact ⟨rfl, H1.out, H2.out⟩
  | false =>
    obtain ⟨a', h, ha⟩ := h
    obtain rfl := ha rfl
    have H := Aside0.mk h
    clear h ha
    rw [stepV_false sgn_zero]
    go_enter Try.func34, Try.ntmps34
    go_wp2_with fail
    refine (signed_read g _ v l a' H.out hok).mono ?_
    rintro e w' ⟨rfl, h1, h2⟩
    have H1 := Aside0.mk h1
    have H2 := Aside0.mk h2
    clear h1 h2
    by_cases hk : (sgnL (l.drop a')).2 = 0
    · have HZ := Aside0.mk (sgn_zero hk)
      rw [if_pos hk]
      clear hk
      go_wp2_with fail
      go_ret
      exact ⟨by rw [HZ.out]; rfl, H1.out, H2.out⟩
    · rw [if_neg hk]
      clear hk
      go_wp2_with fail
      go_ret
      exact ⟨rfl, H1.out, H2.out⟩

set_option maxHeartbeats 1000000 in
theorem nText (g : Nat) (w : World) (v : Value) (l : List Int) (a : Nat) (bad : Bool) (h : Rd g w v l a bad) (hok : Byt.Ok l) :
    Calls Try.prog 35 #[.pointer (some ⟨g, 0, none⟩)] w (RdPost g v l a bad (.string (strOfNums (stepV [] bad (textL (l.drop a)).2 (textL (l.drop a)).1))) (textL (l.drop a)).2 w) := by
  cases bad with
  | true =>
    have H := Aside0.mk h
    clear h
    rw [stepV_true]
    go_enter Try.func35, Try.ntmps35
    go_wp2_with fail
    refine (readStr_bad _ g _ v l a (textL (l.drop a)).2 H.out).mono ?_
    rintro e w' ⟨rfl, h1, h2⟩
    have H1 := Aside0.mk h1
    have H2 := Aside0.mk h2
    clear h1 h2
    go_wp2_with fail
    go_ret
    exact ⟨rfl, H1.out, H2.out⟩
  | false =>
    obtain ⟨a', h, ha⟩ := h
    obtain rfl := ha rfl
    have H := Aside0.mk h
    clear h ha
    rw [stepV_false text_zero]
    go_enter Try.func35, Try.ntmps35
    go_wp2_with fail
    refine (text_read g _ v l a' H.out hok).mono ?_
    rintro e w' ⟨rfl, h1, h2⟩
    have H1 := Aside0.mk h1
    have H2 := Aside0.mk h2
    clear h1 h2
    by_cases hk : (textL (l.drop a')).2 = 0
    · have HZ := Aside0.mk (text_zero hk)
      rw [if_pos hk]
      clear hk
      go_wp2_with fail
      go_ret
      exact ⟨by rw [HZ.out]; rfl, H1.out, H2.out⟩
    · rw [if_neg hk]
      clear hk
      go_wp2_with fail
      go_ret
      exact ⟨rfl, H1.out, H2.out⟩

/-! A step that reads something, and one that doesn't. -/
theorem rd_ok {g : Nat} {w : World} {v : Value} {l : List Int} {a k : Nat} (h : Rd g w v l (stepA false a k) (stepB false k)) (hk : k ≠ 0) : Rd g w v l (a + k) false := by
  have e1 : stepB false k = false := by unfold stepB; simp [hk]
  rw [e1] at h; exact h
theorem rd_no {g : Nat} {w : World} {v : Value} {l : List Int} {a k : Nat} (h : Rd g w v l (stepA false a k) (stepB false k)) (hk : k = 0) : Rd g w v l a true := by
  subst hk; exact h
theorem nNum_ok (g : Nat) (w : World) (v : Value) (l : List Int) (a : Nat) (x : Int) (k : Nat) (h : Rd g w v l a false) (hok : Byt.Ok l) (hx : numL (l.drop a) = (x, k)) (hk : k ≠ 0) :
    Calls Try.prog 31 #[.pointer (some ⟨g, 0, none⟩)] w fun e w' => e = .returned (.int .i64 x) ∧ Rd g w' v l (a + k) false ∧ But g w w' := by
  have := nNum g w v l a false h hok
  rw [stepV_false num_zero, hx] at this
  exact this.mono fun e w' ⟨h1, h2, h3⟩ => ⟨h1, rd_ok h2 hk, h3⟩
theorem nSigned_ok (g : Nat) (w : World) (v : Value) (l : List Int) (a : Nat) (x : Int) (k : Nat) (h : Rd g w v l a false) (hok : Byt.Ok l) (hx : sgnL (l.drop a) = (x, k)) (hk : k ≠ 0) :
    Calls Try.prog 34 #[.pointer (some ⟨g, 0, none⟩)] w fun e w' => e = .returned (.int .i64 x) ∧ Rd g w' v l (a + k) false ∧ But g w w' := by
  have := nSigned g w v l a false h hok
  rw [stepV_false sgn_zero, hx] at this
  exact this.mono fun e w' ⟨h1, h2, h3⟩ => ⟨h1, rd_ok h2 hk, h3⟩
theorem nText_ok (g : Nat) (w : World) (v : Value) (l : List Int) (a : Nat) (x : List Int) (k : Nat) (h : Rd g w v l a false) (hok : Byt.Ok l) (hx : textL (l.drop a) = (x, k)) (hk : k ≠ 0) :
    Calls Try.prog 35 #[.pointer (some ⟨g, 0, none⟩)] w fun e w' => e = .returned (.string (strOfNums x)) ∧ Rd g w' v l (a + k) false ∧ But g w w' := by
  have := nText g w v l a false h hok
  rw [stepV_false text_zero, hx] at this
  exact this.mono fun e w' ⟨h1, h2, h3⟩ => ⟨h1, rd_ok h2 hk, h3⟩

theorem nNum_bad (g : Nat) (w : World) (v : Value) (l : List Int) (a : Nat) (h : Rd g w v l a true) (hok : Byt.Ok l) :
    Calls Try.prog 31 #[.pointer (some ⟨g, 0, none⟩)] w fun e w' => e = .returned (.int .i64 0) ∧ Rd g w' v l a true ∧ But g w w' := by
  have := nNum g w v l a true h hok
  rw [stepV_true] at this
  exact this
theorem nNum_no (g : Nat) (w : World) (v : Value) (l : List Int) (a : Nat) (h : Rd g w v l a false) (hok : Byt.Ok l) (hk : (numL (l.drop a)).2 = 0) :
    Calls Try.prog 31 #[.pointer (some ⟨g, 0, none⟩)] w fun e w' => e = .returned (.int .i64 0) ∧ Rd g w' v l a true ∧ But g w w' := by
  have := nNum g w v l a false h hok
  rw [stepV_false num_zero, num_zero hk] at this
  exact this.mono fun e w' ⟨h1, h2, h3⟩ => ⟨h1, rd_no h2 hk, h3⟩

theorem nSigned_bad (g : Nat) (w : World) (v : Value) (l : List Int) (a : Nat) (h : Rd g w v l a true) (hok : Byt.Ok l) :
    Calls Try.prog 34 #[.pointer (some ⟨g, 0, none⟩)] w fun e w' => e = .returned (.int .i64 0) ∧ Rd g w' v l a true ∧ But g w w' := by
  have := nSigned g w v l a true h hok
  rw [stepV_true] at this
  exact this
theorem nSigned_no (g : Nat) (w : World) (v : Value) (l : List Int) (a : Nat) (h : Rd g w v l a false) (hok : Byt.Ok l) (hk : (sgnL (l.drop a)).2 = 0) :
    Calls Try.prog 34 #[.pointer (some ⟨g, 0, none⟩)] w fun e w' => e = .returned (.int .i64 0) ∧ Rd g w' v l a true ∧ But g w w' := by
  have := nSigned g w v l a false h hok
  rw [stepV_false sgn_zero, sgn_zero hk] at this
  exact this.mono fun e w' ⟨h1, h2, h3⟩ => ⟨h1, rd_no h2 hk, h3⟩

theorem nText_bad (g : Nat) (w : World) (v : Value) (l : List Int) (a : Nat) (h : Rd g w v l a true) (hok : Byt.Ok l) :
    Calls Try.prog 35 #[.pointer (some ⟨g, 0, none⟩)] w fun e w' => e = .returned (.string ⟨#[]⟩) ∧ Rd g w' v l a true ∧ But g w w' := by
  have := nText g w v l a true h hok
  rw [stepV_true] at this
  exact this
theorem nText_no (g : Nat) (w : World) (v : Value) (l : List Int) (a : Nat) (h : Rd g w v l a false) (hok : Byt.Ok l) (hk : (textL (l.drop a)).2 = 0) :
    Calls Try.prog 35 #[.pointer (some ⟨g, 0, none⟩)] w fun e w' => e = .returned (.string ⟨#[]⟩) ∧ Rd g w' v l a true ∧ But g w w' := by
  have := nText g w v l a false h hok
  rw [stepV_false text_zero, text_zero hk] at this
  exact this.mono fun e w' ⟨h1, h2, h3⟩ => ⟨h1, rd_no h2 hk, h3⟩

theorem nBad (g : Nat) (w : World) (v : Value) (l : List Int) (a : Nat) (bad : Bool) (h : Rd g w v l a bad) :
    Calls Try.prog 33 #[.pointer (some ⟨g, 0, none⟩)] w fun e w' => e = .returned (.bool bad) ∧ w' = w := by
  obtain ⟨a', h, _⟩ := h
  exact bad_c g w v l a' bad h
/-- How many bytes are ahead. -/
def leftL (l : List Int) (a : Nat) (bad : Bool) : Nat := if bad then 0 else l.length - a
set_option maxHeartbeats 1000000 in
theorem nLeft (g : Nat) (w : World) (v : Value) (l : List Int) (a : Nat) (bad : Bool) (h : Rd g w v l a bad) :
    Calls Try.prog 32 #[.pointer (some ⟨g, 0, none⟩)] w fun e w' => e = .returned (.int .i64 ((leftL l a bad : Nat) : Int)) ∧ Drawn0 w w' := by
  obtain ⟨a', h, ha⟩ := h
  have H := Aside0.mk h
  clear h
  cases bad with
  | true =>
    clear ha
    go_enter Try.func32, Try.ntmps32
    go_wp2_with fail
    refine (bad_c g _ v l a' true H.out).mono ?_
    rintro e w' ⟨rfl, rfl⟩
    go_wp2_with fail
    go_ret
    exact ⟨rfl, ⟨0, rfl⟩⟩
  | false =>
    obtain rfl := ha rfl
    clear ha
    obtain ⟨q, hq⟩ : ∃ q, q = l.length - a' := ⟨_, rfl⟩
    have HQ := Aside0.mk hq
    have hc := fun w => ahead_c g w v l a' false
    rw [← hq] at hc
    clear hq
    go_enter Try.func32, Try.ntmps32
    go_wp2_with fail
    refine (bad_c g _ v l a' false H.out).mono ?_
    rintro e w' ⟨rfl, rfl⟩
    go_wp2_with fail
    refine (hc _ H.out).mono ?_
    rintro e w' ⟨rfl, n, rfl⟩
    go_wp2_with fail
    go_ret
    exact ⟨by unfold leftL; rw [if_neg (by simp), ← HQ.out]; rfl, ⟨n, rfl⟩⟩
set_option maxHeartbeats 1000000 in
theorem nDone (g : Nat) (w : World) (v : Value) (l : List Int) (a : Nat) (bad : Bool) (h : Rd g w v l a bad) :
    Calls Try.prog 39 #[.pointer (some ⟨g, 0, none⟩)] w fun e w' => e = .returned (.bool (!bad && decide (l.length - a = 0))) ∧ Drawn0 w w' := by
  obtain ⟨a', h, ha⟩ := h
  have H := Aside0.mk h
  clear h
  cases bad with
  | true =>
    clear ha
    go_enter Try.func39, Try.ntmps39
    go_wp2_with fail
    refine (bad_c g _ v l a' true H.out).mono ?_
    rintro e w' ⟨rfl, rfl⟩
    go_wp2_with fail
    go_ret
    exact ⟨rfl, ⟨0, rfl⟩⟩
  | false =>
    obtain rfl := ha rfl
    clear ha
    obtain ⟨q, hq⟩ : ∃ q, q = l.length - a' := ⟨_, rfl⟩
    have HQ := Aside0.mk hq
    have hc := fun w => ahead_c g w v l a' false
    rw [← hq] at hc
    clear hq
    by_cases hz : q = 0
    · subst hz
      go_enter Try.func39, Try.ntmps39
      go_wp2_with fail
      refine (bad_c g _ v l a' false H.out).mono ?_
      rintro e w' ⟨rfl, rfl⟩
      go_wp2_with fail
      refine (hc _ H.out).mono ?_
      rintro e w' ⟨rfl, n, rfl⟩
      go_wp2_with fail
      go_ret
      exact ⟨by rw [← HQ.out]; rfl, ⟨n, rfl⟩⟩
    · have hz2 : ((q : Int) == 0) = false := by simp; omega
      have HZ := Aside0.mk hz
      clear hz
      go_enter Try.func39, Try.ntmps39
      go_wp2_with fail
      refine (bad_c g _ v l a' false H.out).mono ?_
      rintro e w' ⟨rfl, rfl⟩
      go_wp2_with fail
      refine (hc _ H.out).mono ?_
      rintro e w' ⟨rfl, n, rfl⟩
      go_wp2_with fail
      go_ret
      exact ⟨by rw [← HQ.out, decide_eq_false HZ.out]; rfl, ⟨n, rfl⟩⟩
set_option maxHeartbeats 1000000 in
theorem nRead (w : World) (v : Value) (l : List Int) (h : Sl w v l) (hl : l.length ≤ 140737488355000) :
    Calls Try.prog 30 #[v] w fun e w' => e = .returned (.pointer (some ⟨w.heap.size, 0, none⟩)) ∧ Rd w.heap.size w' v l 0 false ∧ Below w.heap.size w w' ∧ w'.heap.size = w.heap.size + 1 := by
  have H := Aside0.mk h
  have HL := Aside0.mk hl
  obtain ⟨A, c, rfl, hc, hC⟩ := h
  clear hC hl
  go_enter Try.func30, Try.ntmps30
  go_wp2_with fail
  go_ret
  exact ⟨rfl, ⟨0, ⟨by rw [Own.heap_new]; rfl, H.out.alloc _, Nat.zero_le _, HL.out⟩, fun _ => rfl⟩, below_alloc (Below.refl _ _) _, by show (w.heap.push _).size = _; simp⟩
end Go.Proofs.Ytgefpgbofhcmdaa.VaryR

import Derived.Test.YtedfcjcnhgomoaaRows
import Derived.Test.YtedfcjcnhgomoaaZB
import Derived.Test.YtedfcjcnhgomoaaZD
import Derived.Test.YtedfcjcnhgomoaaZA
import Derived.WalkKit
import Derived.ProofKit
import Derived.OpenShut
import Derived.ShutString
import Derived.ChangeOld
import Derived.Below
import Derived.SizedLaws
import Derived.Test.YtedfcjcnhgomoaaWSized
-- MERGED YtedfcjcnhgomoaaFrameBackL
section
/- The plain law of frames that are got back; no program in sight. -/
namespace Go.Proofs.Ytedfcjcnhgomoaa.FrameBackL
open Go.RowKit Go.Proofs.Ytedfcjcnhgomoaa.Own Go.Proofs.Ytedfcjcnhgomoaa.Vy Go.Proofs.Ytedfcjcnhgomoaa.FrameP Go.Proofs.Ytedfcjcnhgomoaa.FrameL Go.Proofs.Ytedfcjcnhgomoaa.FrameR

theorem good_parts {p : Pk} (h : good p = true) : (∃ e s a : Nat, p.e = e ∧ p.s = s ∧ p.a = a ∧ (e : Int) ≤ M ∧ (s : Int) ≤ M ∧ (a : Int) ≤ M) ∧ p.d.size ≤ 65536 := by
  unfold good numB at h
  simp only [Bool.and_eq_true, decide_eq_true_eq] at h
  obtain ⟨⟨⟨⟨h1, h2⟩, h3⟩, h4⟩, h5⟩ := h
  have : M = 4611686018427387904 := rfl
  exact ⟨⟨p.e.toNat, p.s.toNat, p.a.toNat, by omega, by omega, by omega, by omega, by omega, by omega⟩, h4⟩
theorem body_eq {p : Pk} {e s a : Nat} (he : p.e = e) (hs : p.s = s) (ha : p.a = a) (me : (e : Int) ≤ M) (ms : (s : Int) ≤ M) (ma : (a : Int) ≤ M) (hd : (p.d.size : Int) ≤ M) : body p = enc e ++ (enc s ++ (enc a ++ putTL [] (numsOf p.d))) := by
  unfold body putTL
  rw [he, hs, ha, putL_good me, putL_good ms, putL_good ma, putL_good (by rw [numsOf_length]; exact hd), putL_good (by rw [numsOf_length]; exact hd)]
  simp only [List.nil_append, List.append_assoc]
theorem parse_body {p : Pk} (h : good p = true) : parse (body p) = some p := by
  obtain ⟨⟨e, s, a, he, hs, ha, me, ms, ma⟩, hd⟩ := good_parts h
  have hM : M = 4611686018427387904 := rfl
  have hdl : ((numsOf p.d).length : Int) ≤ M := by rw [numsOf_length]; omega
  have hb := body_eq he hs ha me ms ma (by omega)
  have n1 : numL (body p) = ((e : Int), (enc e).length) := by rw [hb]; exact numL_enc e me _
  have j1 : i1 (body p) = (enc e).length := by unfold i1; rw [n1]
  have d1 : (body p).drop (i1 (body p)) = enc s ++ (enc a ++ putTL [] (numsOf p.d)) := by rw [j1, hb, List.drop_left]
  have n2 : numL ((body p).drop (i1 (body p))) = ((s : Int), (enc s).length) := by rw [d1]; exact numL_enc s ms _
  have j2 : i2 (body p) = (enc s).length := by unfold i2; rw [n2]
  have d2 : (body p).drop (i1 (body p) + i2 (body p)) = enc a ++ putTL [] (numsOf p.d) := by rw [← List.drop_drop, d1, j2, List.drop_left]
  have n3 : numL ((body p).drop (i1 (body p) + i2 (body p))) = ((a : Int), (enc a).length) := by rw [d2]; exact numL_enc a ma _
  have j3 : i3 (body p) = (enc a).length := by unfold i3; rw [n3]
  have d3 : (body p).drop (i1 (body p) + i2 (body p) + i3 (body p)) = putTL [] (numsOf p.d) := by rw [← List.drop_drop, d2, j3, List.drop_left]
  have n4 : textL ((body p).drop (i1 (body p) + i2 (body p) + i3 (body p))) = (numsOf p.d, (enc (numsOf p.d).length).length + (numsOf p.d).length) := by
    rw [d3]
    have := textL_put (numsOf p.d) [] hdl
    rwa [List.append_nil] at this
  have j4 : i4 (body p) = (enc (numsOf p.d).length).length + (numsOf p.d).length := by unfold i4; rw [n4]
  have hrp : rp (body p) = p := by
    unfold rp
    rw [n1, n2, n3, n4]
    simp only
    rw [← he, ← hs, ← ha, strOf_numsOf]
  have := parse_yes (ok_body p) (by rw [j1]; have := enc_pos e; omega) (by rw [j2]; have := enc_pos s; omega) (by rw [j3]; have := enc_pos a; omega) (by rw [j4]; have := enc_pos (numsOf p.d).length; omega)
  rw [this, hrp, if_pos ⟨h, rfl⟩]
theorem frame_eq {p : Pk} (h : good p = true) : frame p = enc (body p).length ++ Nice.sealL (body p) := by
  have := body_len p
  have := (good_parts h).2
  have hM : M = 4611686018427387904 := rfl
  unfold frame
  rw [putL_good (by omega), List.nil_append]
theorem get_back {p : Pk} (h : good p = true) (rest : List Int) : FrameL.get (frame p ++ rest) = (p, (frame p).length, 0) := by
  have hbl := body_len p
  have hd := (good_parts h).2
  have hM : M = 4611686018427387904 := rfl
  have hn : numL (frame p ++ rest) = (((body p).length : Int), (enc (body p).length).length) := by rw [frame_eq h, List.append_assoc]; exact numL_enc _ (by omega) _
  have hfl : (frame p).length = (enc (body p).length).length + (body p).length + 4 := by rw [frame_eq h, List.length_append, Nice.sealL_length]; omega
  have hp := enc_pos (body p).length
  rw [get_long (k := (enc (body p).length).length) (m := (body p).length) (by rw [hn]) (by rw [hn]; simp only; omega) (by rw [hn]) (by omega) (by rw [List.length_append, hfl]; omega)]
  have e1 : (frame p ++ rest).take ((enc (body p).length).length + (body p).length + 4) = frame p := by rw [← hfl, List.take_left]
  have e2 : (frame p).drop (enc (body p).length).length = Nice.sealL (body p) := by rw [frame_eq h, List.drop_left]
  rw [e1, e2, tail_some (p := p) (Nice.openB_seal _) (by rw [Nice.openL_seal]; exact parse_body h), hfl]
end Go.Proofs.Ytedfcjcnhgomoaa.FrameBackL
end
-- MERGED YtedfcjcnhgomoaaFrameBack
section
/- The walk of the law of frames that are got back. -/
namespace Go.Proofs.Ytedfcjcnhgomoaa.FrameBack
open Go.RowKit Go.Proofs.Ytedfcjcnhgomoaa.P Go.Proofs.YtedfcjcnhgomoaaW.PrintWords Go.Proofs.YtedfcjcnhgomoaaW.PrintLast Go.Proofs.YtedfcjcnhgomoaaW.PrintMore Go.Proofs.Ytedfcjcnhgomoaa.Own Go.Proofs.Ytedfcjcnhgomoaa.Vy Go.Proofs.Ytedfcjcnhgomoaa.FrameP Go.Proofs.Ytedfcjcnhgomoaa.FrameG
set_option linter.unusedSimpArgs false
set_option linter.unusedVariables false

theorem pk_cells {w : World} {x : Int × Int × Int × ByteArray} {cs : Array Value} (h : (Kd.pair (Kd.int .i64) (Kd.pair (Kd.int .i64) (Kd.pair (Kd.int .i64) Kd.string))).K w x cs.toList) : ∃ p : Pk, .agg cs = p.val := by
  obtain ⟨c0, c1, e, h0, c2, c3, rfl, h1, c4, c5, rfl, h2, h3⟩ := h
  have h0' : c0 = [.int .i64 x.1] := h0
  have h1' : c2 = [.int .i64 x.2.1] := h1
  have h2' : c4 = [.int .i64 x.2.2.1] := h2
  have h3' : c5 = [.string x.2.2.2] := h3
  subst h0' h1' h2' h3'
  refine ⟨⟨x.1, x.2.1, x.2.2.1, x.2.2.2⟩, ?_⟩
  unfold Pk.val
  have : cs = #[.int .i64 x.1, .int .i64 x.2.1, .int .i64 x.2.2.1, .string x.2.2.2] := by
    apply Array.ext'
    rw [e]; rfl
  rw [this]
set_option maxHeartbeats 2000000 in
set_option maxRecDepth 100000 in
theorem row (cs : Array Value) (x : Int × Int × Int × ByteArray) (A : Option Addr) (c : Nat) (l : List Int) (w : World) (hK : (Kd.pair (Kd.int .i64) (Kd.pair (Kd.int .i64) (Kd.pair (Kd.int .i64) Kd.string))).K w x cs.toList) (_ : (Lit.int .i64 x.1).wf = true ∧ (Lit.int .i64 x.2.1).wf = true ∧ (Lit.int .i64 x.2.2.1).wf = true ∧ x.2.2.2.size ≤ maxLen)
    (hC : Kd.C (Kd.int .u8) w A l.length l) (hc : l.length ≤ c) (ok : l.length ≤ maxLen ∧ ∀ y ∈ l, (Lit.int .u8 y).wf = true) (_ : l.length * 1 ≤ 140737488351232) :
    Calls Try.prog 5 #[.agg cs, .slice A l.length c] w fun e w' => e = .returned (.bool true) ∧ Below w.heap.size w w' := by
  obtain ⟨p, hp⟩ := pk_cells hK
  rw [hp]
  have HS := Aside0.mk (Sl.mk hC hc)
  have HO := Aside0.mk (Byt.ok_of_wf ok.2)
  clear hC hc ok hK hp
  have HG := Aside0.mk (good_c p)
  have HP := Aside0.mk (put_c p)
  have HBK := Aside0.mk (FrameBackL.get_back (p := p))
  have HFL := Aside0.mk (frame_len p)
  have HOF := Aside0.mk (ok_frame p)
  obtain ⟨gd, hgd⟩ : ∃ gd, gd = good p := ⟨_, rfl⟩
  have HGD := Aside0.mk hgd
  obtain ⟨F, hF⟩ : ∃ F, F = frame p := ⟨_, rfl⟩
  rw [← hF] at HP HBK HFL HOF
  rw [← hgd] at HG HP HBK
  clear hgd hF
  obtain ⟨e, s, a, d⟩ := p
  unfold Pk.val at *
  simp only at *
  by_cases h1 : (2000 : Int) < (d.size : Int)
  · go_enter Try.func5, Try.ntmps5
    go_wp2_with fail
    refine (FrameLives.lives_c _).mono ?_
    rintro e1 w1 ⟨rfl, hb⟩
    have HB := Aside0.mk ((below_alloc (Below.refl w.heap.size w) _).trans (hb.mono (by simp)))
    clear hb
    go_wp2_with fail
    go_ret
    exact ⟨rfl, HB.out⟩
  have h2 : ¬ (2000 : Int) < (d.size : Int) := h1
  by_cases h3 : (2000 : Int) < (l.length : Int)
  · clear h1
    go_enter Try.func5, Try.ntmps5
    go_wp2_with fail
    refine (FrameLives.lives_c _).mono ?_
    rintro e1 w1 ⟨rfl, hb⟩
    have HB := Aside0.mk ((below_alloc (Below.refl w.heap.size w) _).trans (hb.mono (by simp)))
    clear hb
    go_wp2_with fail
    go_ret
    exact ⟨rfl, HB.out⟩
  have h4 : ¬ (2000 : Int) < (l.length : Int) := h3
  clear h1 h3
  cases hgd : gd with
  | false =>
    rw [hgd] at HG
    clear hgd
    go_enter Try.func5, Try.ntmps5
    go_wp2_with fail
    refine (HG.out _).mono ?_
    rintro e1 w1 ⟨rfl, hb⟩
    have HB := Aside0.mk ((below_alloc (Below.refl w.heap.size w) _).trans (hb.mono (by simp)))
    clear hb
    go_wp2_with fail
    refine (FrameLives.lives_c _).mono ?_
    rintro e1 w2 ⟨rfl, hb⟩
    have HB2 := Aside0.mk (HB.out.trans (hb.mono HB.out.size))
    clear hb
    go_wp2_with fail
    go_ret
    exact ⟨rfl, HB2.out⟩
  | true =>
    have HBK2 := Aside0.mk (HBK.out hgd l)
    rw [hgd, if_pos rfl, if_pos rfl] at HP
    rw [hgd] at HG
    have hfl : (F.length : Int) ≤ 3000 := by have := HFL.out; omega
    have hfl2 : F.length ≤ 3000 := by omega
    clear hgd HBK HFL
    go_enter Try.func5, Try.ntmps5
    go_wp2_with fail
    obtain ⟨w0, hw0⟩ : ∃ w0, w0 = w.alloc (.cells #[.int .i64 e, .int .i64 s, .int .i64 a, .string d] 23) := ⟨_, rfl⟩
    have HB0 := Aside0.mk (show Below w.heap.size w w0 by rw [hw0]; exact below_alloc (Below.refl _ _) _)
    have HH0 := Aside0.mk (show w0.heap[w.heap.size]? = some (.cells #[.int .i64 e, .int .i64 s, .int .i64 a, .string d] 23 (0, 0)) by rw [hw0]; exact Own.heap_new _ _)
    rw [← hw0]
    clear hw0
    refine (HG.out _).mono ?_
    rintro e1 w1 ⟨rfl, hb⟩
    have HB1 := Aside0.mk (HB0.out.trans (hb.mono HB0.out.size))
    have HH1 := Aside0.mk ((hb.block _ (Array.getElem?_eq_some_iff.1 HH0.out).1).trans HH0.out)
    have c0 : w1.cell? ⟨w.heap.size, 0, none⟩ = some (.int .i64 e) := by rw [cell_of_row w1 _ 0 _ _ _ HH1.out]; rfl
    have c1 : w1.cell? ⟨w.heap.size, 1, none⟩ = some (.int .i64 s) := by rw [cell_of_row w1 _ 1 _ _ _ HH1.out]; rfl
    have c2 : w1.cell? ⟨w.heap.size, 2, none⟩ = some (.int .i64 a) := by rw [cell_of_row w1 _ 2 _ _ _ HH1.out]; rfl
    have c3 : w1.cell? ⟨w.heap.size, 3, none⟩ = some (.string d) := by rw [cell_of_row w1 _ 3 _ _ _ HH1.out]; rfl
    clear hb HB0 HH0
    go_wp2_with fail
    refine (HP.out _).mono ?_
    rintro e1 w2 ⟨v, rfl, hg, hb⟩
    have HB2 := Aside0.mk (HB1.out.trans (hb.mono HB1.out.size))
    have HH2 := Aside0.mk ((hb.block _ (Array.getElem?_eq_some_iff.1 HH1.out).1).trans HH1.out)
    obtain ⟨A1, n1, rfl, hn1, hC1⟩ := hg.sl
    have S2 := Aside0.mk (Sl.mk hC1 hn1)
    clear hg hb HB1 HH1 c0 c1 c2 c3 hC1
    go_wp2_with (at_builtin; refine wpList_gr rfl rfl Try.underlying25 info5 (Nat.le_refl _) rfl (Gr.cut _ 5 S2.out) rfl (HS.out.below HB2.out) ?b1 ?_)
    case b1 => omega
    intro v5 w5 hg5 hb5
    have HB5 := Aside0.mk (HB2.out.trans (hb5.mono HB2.out.size))
    have HH5 := Aside0.mk ((hb5.block _ (Array.getElem?_eq_some_iff.1 HH2.out).1).trans HH2.out)
    have S5 := Aside0.mk hg5.sl
    have hok := Byt.ok_append HOF.out HO.out
    have hlg : (F ++ l).length ≤ 1000000 := by rw [List.length_append]; omega
    obtain ⟨G, hG⟩ : ∃ G, G = F ++ l := ⟨_, rfl⟩
    rw [← hG] at S5 hok hlg HBK2
    have hlen := S5.out
    obtain ⟨A5, c5, rfl, hc5, hC5⟩ := hlen
    clear hg5 hb5 HB2 HH2 hC5 hG
    have hget := FrameG.get_c _ G w5 S5.out hok hlg
    rw [HBK2.out] at hget
    unfold Pk.val at hget
    simp only at hget
    have HGET := Aside0.mk hget
    clear hget hok hlg
    go_wp2_with fail
    refine HGET.out.mono ?_
    rintro e1 w6 ⟨rfl, hb⟩
    have HB6 := Aside0.mk (HB5.out.trans (hb.mono HB5.out.size))
    have hh := (hb.block _ (Array.getElem?_eq_some_iff.1 HH5.out).1).trans HH5.out
    have P4 := (Own.heap_old w6 (.cells #[.int .i64 e, .int .i64 s, .int .i64 a, .string d] 23) _ (lt_of hh)).trans hh
    have p0 : (w6.alloc (.cells #[.int .i64 e, .int .i64 s, .int .i64 a, .string d] 23)).cell? ⟨w.heap.size, 0, none⟩ = some (.int .i64 e) := by rw [cell_of_row _ _ 0 _ _ _ P4]; rfl
    have p1 : (w6.alloc (.cells #[.int .i64 e, .int .i64 s, .int .i64 a, .string d] 23)).cell? ⟨w.heap.size, 1, none⟩ = some (.int .i64 s) := by rw [cell_of_row _ _ 1 _ _ _ P4]; rfl
    have p2 : (w6.alloc (.cells #[.int .i64 e, .int .i64 s, .int .i64 a, .string d] 23)).cell? ⟨w.heap.size, 2, none⟩ = some (.int .i64 a) := by rw [cell_of_row _ _ 2 _ _ _ P4]; rfl
    have p3 : (w6.alloc (.cells #[.int .i64 e, .int .i64 s, .int .i64 a, .string d] 23)).cell? ⟨w.heap.size, 3, none⟩ = some (.string d) := by rw [cell_of_row _ _ 3 _ _ _ P4]; rfl
    have HB7 := Aside0.mk (below_alloc HB6.out (.cells #[.int .i64 e, .int .i64 s, .int .i64 a, .string d] 23))
    clear hb hh P4
    go_wp2_with fail
    refine (FrameLives.lives_c _).mono ?_
    rintro e1 w8 ⟨rfl, hb⟩
    have HB8 := Aside0.mk (HB7.out.trans (hb.mono HB7.out.size))
    clear hb
    go_wp2_with fail
    go_ret
    exact ⟨rfl, HB8.out⟩
end Go.Proofs.Ytedfcjcnhgomoaa.FrameBack
end
-- MERGED YtedfcjcnhgomoaaLawFrameBack
section
/- The law of frames that are got back -/
namespace Go.Proofs.Ytedfcjcnhgomoaa.frameBack
open Go.ChangeShapes Go.WideShapes Go.ChangeAt Go.RowKit Go.Proofs.YtedfcjcnhgomoaaW.PrintWords
open Go.ChangeMaps (open_string shut_string)
set_option linter.unusedVariables false
theorem own : ownKnob Try.prog.godebug = none := by kernel_rfl
theorem laidOut : laidOutB Try.prog = true := by kernel_rfl
theorem o3 : Opens.Opens Try.prog 3 (Kd.int .i64) (fun n => (Lit.int .i64 n).wf = true) := Opens.int_ (t := 3) Try.underlying3 (by kernel_rfl)
theorem o9 : Opens.Opens Try.prog 9 Kd.string (fun s => s.size ≤ maxLen) := Opens.string_ (t := 9) Try.underlying9 (by kernel_rfl)
theorem o23 : Opens.Opens Try.prog 23 (Kd.pair (Kd.int .i64) (Kd.pair (Kd.int .i64) (Kd.pair (Kd.int .i64) Kd.string))) (fun x => (fun n => (Lit.int .i64 n).wf = true) x.1 ∧ (fun n => (Lit.int .i64 n).wf = true) x.2.1 ∧ (fun n => (Lit.int .i64 n).wf = true) x.2.2.1 ∧ (fun s => s.size ≤ maxLen) x.2.2.2) := Opens.struct4_ (t := 23) Try.underlying23 (by kernel_rfl) o3 o3 o3 o9 rfl rfl rfl rfl
theorem o5 : Opens.Opens Try.prog 5 (Kd.int .u8) (fun n => (Lit.int .u8 n).wf = true) := Opens.int_ (t := 5) Try.underlying5 (by kernel_rfl)
theorem o25 : Opens.Opens Try.prog 25 (Kd.slice 5 (Kd.int .u8)) (fun l => l.length ≤ maxLen ∧ ∀ x ∈ l, (fun n => (Lit.int .u8 n).wf = true) x) := Opens.slice_ (t := 25) (e := 5) Try.underlying25 (by kernel_rfl) o5
set_option maxRecDepth 100000 in
theorem lifted (os : Os) (started : os.Started) (H : Type) (enc : TypeId × Value → H) :
    ReturnsInHanded {} Try.checked os 5 .any (Rows.frameBackSpec.pre6 enc Try.prog Try.f5 Rows.frameBackRow.domain false) (Rows.frameBackSpec.post enc Try.prog Try.f5 false true false false) := by
  refine returnsInHanded_of_change_sized (C := Try.checked) own started (by kernel_rfl) Try.func5
    (ChangeSpec.witness6 (enc := enc) (C := Try.checked) false ⟨#[], #[(.agg #[(.int .i64 0), (.int .i64 0), (.int .i64 0), (.string ByteArray.empty)]), (.slice none 0 0)], []⟩ 8 (by kernel_rfl) (by kernel_rfl) (by kernel_rfl) (by kernel_rfl)) ?_
  intro W base args ds gs before hval0 hW hcnd hsz0 _
  have hsz : (DataW.weightsEach Try.prog (Try.f5.params.toList ++ Rows.frameBackSpec.plain.varTypes Try.prog) (ds ++ gs)).all (· ≤ reachBytes) = true := hsz0
  have hval : ∀ (j : Nat) t v, Try.f5.params[j]? = some t → args[j]? = some v → Value.okWide Try.prog W .any base t v := hval0
  have hW' := hW
  obtain ⟨p, q, hA0, hV, rfl, hfz, hnd⟩ := hW
  have hA : DataW.TrodAll enc Try.prog W 0 (fun _ => true) true Try.f5.params.toList args.toList ds p := hA0
  rw [Try.params5] at hA hval hsz
  obtain ⟨v0, vs0, d0, ds0, p0, q0, hargs, rfl, rfl, h0, r0⟩ := trodAll_cons hA
  obtain ⟨v1, vs1, d1, ds1, p1, q1, rfl, rfl, rfl, h1, r1⟩ := trodAll_cons r0
  obtain ⟨rfl, rfl, rfl⟩ := trodAll_nil r1
  obtain rfl : args = #[v0, v1] := by cases args; simp_all
  obtain ⟨rfl, rfl⟩ := trodVars_none hV
  obtain ⟨cs0, rfl, hcs0⟩ := okWide_struct Try.underlying23 (hval 0 23 v0 rfl rfl)
  have k0 := h0
  have lt0 : ∀ x ∈ p0, x.block < W.heap.size := by obtain ⟨m, hm⟩ := k0; exact DataW.trod_lt m _ _ _ hm
  obtain ⟨x0, hK0, ok0⟩ := Opens.arg_ o23 h0
  obtain ⟨a1, len1, cap1, rfl⟩ := okWide_slice Try.underlying25 (hval 1 25 v1 rfl rfl)
  have k1 := h1
  have lt1 : ∀ x ∈ p1, x.block < W.heap.size := by obtain ⟨m, hm⟩ := k1; exact DataW.trod_lt m _ _ _ hm
  obtain ⟨x1, hK1, ok1⟩ := Opens.arg_ o25 h1
  obtain ⟨rfl, hc1, hC1⟩ := Opens.slice_shape hK1
  have y1 : x1.length * 1 ≤ 140737488351232 := Go.Proofs.YtedfcjcnhgomoaaW.PrintWords.sized_ints hsz (j := 1) (t := 25) rfl rfl Try.underlying25 Try.underlying5 (by kernel_rfl) (by kernel_rfl) k1
  clear hA0 hval0 hsz0 hsz
  refine (FrameBack.row cs0 x0 a1 cap1 x1 W hK0 ok0 hC1 hc1 ok1 y1).mono fun e W' ⟨he, bel⟩ => ?_
  subst he
  exact ⟨_, rfl, _, _, _, [], _, [], hW', trodAll_mk1 (shut_bool Try.underlying4 _), (trodAll_cons_mk (Below.trod laidOut (by kernel_rfl) (of_decide_eq_true (by kernel_rfl)) k0 bel lt0) (trodAll_cons_mk (Below.trod laidOut (by kernel_rfl) (of_decide_eq_true (by kernel_rfl)) k1 bel lt1) trodAll_mk0)), rfl, bel.frame _, fun h => by cases h⟩
theorem over : Rows.frameBackRow.holds Try.pinned (OpenSpec.ofChange Rows.frameBackSpec) :=
  OpenClaim.holds_of_wide 5 Try.f5 rfl rfl rfl rfl rfl rfl rfl ⟨rfl, rfl, rfl, rfl, rfl⟩ rfl rfl rfl rfl rfl (by kernel_rfl) Try.func5 (by kernel_rfl)
    (of_decide_eq_true (by kernel_rfl)) (by unfold Func.isWrapper; first | (rw [if_pos (by decide +kernel)]; kernel_rfl) | (rw [if_neg (by decide +kernel)]; exact ⟨rfl, rfl⟩))
    (fun os started H enc _ => lifted os started H enc)
theorem proved : Rows.FrameBackSaid := over
#print axioms proved
end Go.Proofs.Ytedfcjcnhgomoaa.frameBack
namespace Go.Proofs.Ytedfcjcnhgomoaa
/-- The row, under a short name, for the claim. -/
theorem frameBack_holds : Rows.FrameBackSaid := frameBack.proved
end Go.Proofs.Ytedfcjcnhgomoaa
end

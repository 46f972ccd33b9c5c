/- Parts of one proof, merged: XQH XQP XQR XDc. -/
import Derived.Test.YtpbphdkjjoipnaaGreatDoorES
import Derived.Deep.CutRange
import Derived.Deep.CutBlock
import Derived.Test.YtpbphdkjjoipnaaGreatDoorEK
import Derived.Test.YtpbphdkjjoipnaaGreatDoorEH
import Derived.Test.YtpbphdkjjoipnaaGreatDoorEL
import Derived.Test.YtpbphdkjjoipnaaGreatDoorED
set_option linter.all false
set_option maxHeartbeats 12800000
set_option maxRecDepth 10000
set_option linter.unusedVariables false
set_option linter.unusedSimpArgs false
set_option linter.unnecessarySimpa false
namespace Go.Proofs.YtpbphdkjjoipnaaGreatDoor
open Go.RowKit
section
variable {w : World} {p D : Nat} {DI : Int} {S : ByteArray} {s : List UInt8} {c : Nat}
set_option maxRecDepth 100000 in
theorem qvalue_step (IH0 : ∀ d, D = d + 1 → QValKnown d) (hDI : DI = D) (hD : D ≤ 100) (hs : QS w p S 4096 (.inr (s, c))) (hS : S.size ≤ 262144) :
  Calls Tryz.prog 71 #[.pointer (some ⟨p, 0, none⟩), .int .i64 DI] w fun e w' => QValAns D s c p S w e w' := by
 have IH := @qI (∀ d, D = d + 1 → QValKnown d) (by exact @IH0)
 obtain ⟨W0, Gf⟩ : ∃ W0, Hid (W0 = w.alloc (.cells #[.int .i64 0, .int .i64 0, .string ⟨#[]⟩, .slice none 0 0, .slice none 0 0] 25)) := ⟨_, qI rfl⟩
 have Gj : Hid (Kept [] w W0) := qI (by rw [Gf.o]; exact (Kept.refl [] w).alloc _)
 have Ms : Hid (W0.heap.size = w.heap.size + 1) := qI (by rw [Gf.o]; simp)
 have Gw : Hid (p < w.heap.size) := qI hs.lt
 have Gt : Hid (ResAt W0 w.heap.size) := qI (by rw [Gf.o]; exact block_alloc rfl)
 have HC : Hid (c ≤ 4096) := qI (by obtain ⟨i, h1, h2, h3, h4⟩ := hs.open_ok; exact h3)
 have CB := qI (qblanks_any (hs.kept0 Gj.o) hS)
 have Js := qI (fun h => value_dull (d := D) (s := s) (c := c) h)
 have Jt := qI (fun h h' => value_many (d := D) (s := s) (c := c) h h')
 have Ju := qI (fun h h' => value_deep (s := s) (c := c) h h')
 have Jv := qI (fun (d : Nat) h h' => value_read (d := d) (s := s) (c := c) h h')
 rw [show skipX (.inr (s, c)) = .inr (skipB s, c) from rfl] at CB
 have HS := qI hS
 have Jl := qI hDI
 have HD := qI hD
 have Mt : Hid (0 ≤ DI ∧ DI ≤ 100) := qI (by omega)
 clear hs hS hDI hD IH0
 revert CB Js Jt Ju Jv
 generalize skipB s = r
 intro CB Js Jt Ju Jv
 go_enter Tryz.func71, Tryz.ntmps71
 go_wp2_with fail
 rw [← Gf.o]
 refine CB.o.mono ?_
 rintro e w1 ⟨rfl, hq1, hk1⟩
 have Jw := qI hq1
 have Gn := qI hk1
 clear hq1 hk1
 go_wp2_with fail
 refine (qnext_any Jw.o HS.o).mono ?_
 rintro e w2 ⟨rfl, hk2⟩
 obtain ⟨z, hz, hcl⟩ := begins_class r c
 rw [hz]
 have HZ := qI hz
 have Mu := qI hcl
 obtain ⟨W3, Gu⟩ : ∃ W3, Hid (W3 = w2.alloc (.cells #[.int .i64 0, .int .i64 0, .string ⟨#[]⟩, .slice none 0 0, .slice none 0 0] 25)) := ⟨_, qI rfl⟩
 have Gi : Hid (Kept [] w1 W3) := qI (by rw [Gu.o]; exact hk2.alloc _)
 have Gx : Hid (ResAt W3 w2.heap.size) := qI (by rw [Gu.o]; exact block_alloc rfl)
 have Jm : Hid (w.heap.size + 1 ≤ w2.heap.size) := qI (by have h1 := Ms.o; have h2 := Gn.o.size; have h3 := hk2.size; omega)
 have Mv : Hid (W3.heap.size = w2.heap.size + 1) := qI (by rw [Gu.o]; simp)
 have Mw := qI (Jw.o.kept0 Gi.o)
 clear hz hcl hk2
 go_upto_region 4 with fail
 rw [← Gu.o]
 have CA : Hid (∀ w', Kept [] W3 w' → ∀ W : ByteArray, W.size ≤ 1000 → Calls Tryz.prog 102 #[.pointer (some ⟨p, 0, none⟩), .string W] w' fun e w'' => e = .returned (.bool (W.data.toList.isPrefixOf r)) ∧ Kept [] w' w'') := qI (fun w' k W hW => qahead_any (Mw.o.kept0 k) HS.o W hW)
 go_cut [7] from 13 to 58 (fun q wr => q = .bool (begins r) ∧ Kept [] W3 wr)
 case first =>
  rcases Mu.o with ⟨h1, h2⟩ | ⟨h1, h2⟩ | ⟨h1, h2⟩ | ⟨h1, h2⟩ | ⟨h1, h2⟩ | ⟨h1, h2⟩ | ⟨h1, h2⟩ | ⟨⟨h1, h3⟩, h2⟩ | ⟨⟨h1, h3⟩, h2⟩ | ⟨⟨h1, h3⟩, h2⟩
  ·subst h1
   rw [show ((110 : Nat) : Int) = 110 from rfl]
   have H2 := qI h2
   clear h2
   go_wp2_with fail
   refine (CA.o _ (Kept.refl _ _) ⟨#[110, 117, 108, 108]⟩ (by decide)).mono ?_
   rintro e w4 ⟨rfl, hk4⟩
   rw [show (⟨#[110, 117, 108, 108]⟩ : ByteArray).data.toList = nullW from rfl]
   have Gg := qI hk4
   clear hk4
   cases hb : nullW.isPrefixOf r <;> (have HB := qI hb; clear hb; go_wp2_with fail; go_meet; exact ⟨by rw [H2.o, HB.o], Gg.o⟩)
  ·subst h1
   rw [show ((116 : Nat) : Int) = 116 from rfl]
   have H2 := qI h2
   clear h2
   go_wp2_with fail
   refine (CA.o _ (Kept.refl _ _) ⟨#[116, 114, 117, 101]⟩ (by decide)).mono ?_
   rintro e w4 ⟨rfl, hk4⟩
   rw [show (⟨#[116, 114, 117, 101]⟩ : ByteArray).data.toList = trueW from rfl]
   have Gg := qI hk4
   clear hk4
   cases hb : trueW.isPrefixOf r <;> (have HB := qI hb; clear hb; go_wp2_with fail; go_meet; exact ⟨by rw [H2.o, HB.o], Gg.o⟩)
  ·subst h1
   rw [show ((102 : Nat) : Int) = 102 from rfl]
   have H2 := qI h2
   clear h2
   go_wp2_with fail
   refine (CA.o _ (Kept.refl _ _) ⟨#[102, 97, 108, 115, 101]⟩ (by decide)).mono ?_
   rintro e w4 ⟨rfl, hk4⟩
   rw [show (⟨#[102, 97, 108, 115, 101]⟩ : ByteArray).data.toList = falseW from rfl]
   have Gg := qI hk4
   clear hk4
   cases hb : falseW.isPrefixOf r <;> (have HB := qI hb; clear hb; go_wp2_with fail; go_meet; exact ⟨by rw [H2.o, HB.o], Gg.o⟩)
  ·subst h1
   rw [show ((34 : Nat) : Int) = 34 from rfl]
   have H2 := qI h2
   clear h2
   go_wp2_with fail
   go_meet
   exact ⟨by rw [H2.o], Kept.refl _ _⟩
  ·subst h1
   rw [show ((91 : Nat) : Int) = 91 from rfl]
   have H2 := qI h2
   clear h2
   go_wp2_with fail
   go_meet
   exact ⟨by rw [H2.o], Kept.refl _ _⟩
  ·subst h1
   rw [show ((123 : Nat) : Int) = 123 from rfl]
   have H2 := qI h2
   clear h2
   go_wp2_with fail
   go_meet
   exact ⟨by rw [H2.o], Kept.refl _ _⟩
  ·subst h1
   rw [show ((45 : Nat) : Int) = 45 from rfl]
   have H2 := qI h2
   clear h2
   go_wp2_with fail
   go_meet
   exact ⟨by rw [H2.o], Kept.refl _ _⟩
  ·obtain ⟨f1, -⟩ := int_ne (a := (z : Int)) (b := 110) (by omega)
   obtain ⟨f2, -⟩ := int_ne (a := (z : Int)) (b := 116) (by omega)
   obtain ⟨f3, -⟩ := int_ne (a := (z : Int)) (b := 102) (by omega)
   obtain ⟨f4, -⟩ := int_ne (a := (z : Int)) (b := 34) (by omega)
   obtain ⟨f5, -⟩ := int_ne (a := (z : Int)) (b := 91) (by omega)
   obtain ⟨f6, -⟩ := int_ne (a := (z : Int)) (b := 123) (by omega)
   obtain ⟨f7, -⟩ := int_ne (a := (z : Int)) (b := 45) (by omega)
   have f8 : decide (48 ≤ (z : Int)) = true := decide_eq_true (by omega)
   have f9 : decide ((z : Int) ≤ 57) = true := decide_eq_true (by omega)
   have H2 := qI h2
   clear h1 h2 h3
   go_wp2_with fail
   go_meet
   exact ⟨by rw [H2.o], Kept.refl _ _⟩
  all_goals
   obtain ⟨f1, -⟩ := int_ne (a := (z : Int)) (b := 110) (by omega)
   obtain ⟨f2, -⟩ := int_ne (a := (z : Int)) (b := 116) (by omega)
   obtain ⟨f3, -⟩ := int_ne (a := (z : Int)) (b := 102) (by omega)
   obtain ⟨f4, -⟩ := int_ne (a := (z : Int)) (b := 34) (by omega)
   obtain ⟨f5, -⟩ := int_ne (a := (z : Int)) (b := 91) (by omega)
   obtain ⟨f6, -⟩ := int_ne (a := (z : Int)) (b := 123) (by omega)
   obtain ⟨f7, -⟩ := int_ne (a := (z : Int)) (b := 45) (by omega)
   have H2 := qI h2
  ·have f8 : decide (48 ≤ (z : Int)) = false := decide_eq_false (by omega)
   clear h1 h2 h3
   go_wp2_with fail
   go_meet
   exact ⟨by rw [H2.o], Kept.refl _ _⟩
  ·have f8 : decide (48 ≤ (z : Int)) = true := decide_eq_true (by omega)
   have f9 : decide ((z : Int) ≤ 57) = false := decide_eq_false (by omega)
   clear h1 h2 h3
   go_wp2_with fail
   go_meet
   exact ⟨by rw [H2.o], Kept.refl _ _⟩
 case rest =>
  obtain ⟨rfl, hkc⟩ := hcut
  have Gg := qI (Gi.o.then hkc)
  have Gv := qI hkc
  obtain ⟨i, h1, hi, hc, hr⟩ := (Jw.o.kept0 Gg.o).open_ok
  have H1 := qI h1
  have HI := qI hi
  have HR := qI hr
  obtain ⟨z0, z1, z2, z3, fz⟩ := h1.cells
  have f3 := fz 3
  have hcI : (c : Int) ≤ 4096 := by omega
  clear h1 hi hc hr fz hkc
  go_upto_block 0 with fail
  clear z0 z1 z2 z3 f3
  have hp4 := H1.o.set3 (c + 1)
  have hk4 := kept_set wc p 3 (.int .i64 ((c + 1 : Nat)))
  rw [show ((c + 1 : Nat) : Int) = (c : Int) + 1 by omega] at hp4 hk4
  revert hp4 hk4
  generalize wc.setCell ⟨p, 3, none⟩ (.int .i64 ((c : Int) + 1)) = w5
  intro hp4 hk4
  have Mi : Hid (QAt w5 p S i (c + 1) 0) := qI hp4
  have Jn : Hid (QS w5 p S 4097 (.inr (r, c + 1))) := qI (by rw [← HR.o]; exact QS.good Mi.o HI.o (by have := HC.o; omega))
  have Gh : Hid (Kept [p] W3 w5) := qI ((Gv.o.mono (by simp)).trans' hk4)
  clear hp4 hk4
  obtain ⟨b, hbb⟩ : ∃ b, begins r = b := ⟨_, rfl⟩
  rw [hbb]
  have Mj := qI hbb
  clear hbb
  go_cut [] from 66 to 130 (QCut D s c p S w w.heap.size w2.heap.size W3)
  case first =>
   have Gc : Hid (ResAt w5 w2.heap.size) := qI (Gx.o.kept Gh.o (by have h1 := Gw.o; have h2 := Jm.o; simp; omega))
   have Gd : Hid (Kept [p] w w5) := qI (((Gj.o.mono (Y := [p]) (by simp)).trans' (Gn.o.then Gi.o)).trans' Gh.o)
   have Ga : Hid (p < w.heap.size ∧ w.heap.size < w2.heap.size ∧ w2.heap.size < w5.heap.size) := qI (by have h1 := Gw.o; have h2 := Jm.o; have h3 := Mv.o; have h4 := Gh.o.size; omega)
   obtain ⟨z0, z1, z2, z3, fz⟩ := Mi.o.cells
   rw [show ((c + 1 : Nat) : Int) = (c : Int) + 1 by omega] at z3
   clear fz
   cases b
   ·have HX := qI (Js.o Mj.o)
    have CF := qI (qfail_any Jn.o i 50 HI.o (by decide) (by decide))
    go_wp2_with fail
    refine CF.o.mono ?_
    rintro e w6 ⟨rfl, hq6, hk6⟩
    go_wp2_with fail
    go_meet
    exact qcut_bad HX.o (Nat.le_refl _) hq6 (Gd.o.trans' hk6) ((Gh.o.trans' hk6).mono (by simp)) (Gc.o.kept hk6 (by have h1 := Ga.o; simp; omega))
   have hb := Mj.o
   by_cases hm : 4096 < c + 1
   ·have HX := qI (Jt.o hb hm)
    have hmI : (4096 : Int) < (c : Int) + 1 := by omega
    have CF := qI (qfail_any Jn.o i 42 HI.o (by decide) (by decide))
    clear hb hm
    go_wp2_with fail
    refine CF.o.mono ?_
    rintro e w6 ⟨rfl, hq6, hk6⟩
    go_wp2_with fail
    go_meet
    exact qcut_bad HX.o (Nat.le_refl _) hq6 (Gd.o.trans' hk6) ((Gh.o.trans' hk6).mono (by simp)) (Gc.o.kept hk6 (by have h1 := Ga.o; simp; omega))
   have hmI : ¬ (4096 : Int) < (c : Int) + 1 := by omega
   rcases Nat.eq_zero_or_pos D with h0 | h0
   ·subst h0
    have HX := qI (Ju.o hb hm)
    obtain ⟨j1, j2⟩ := int_eq (a := DI) (b := 0) (by have := Jl.o; omega)
    have CF := qI (qfail_any Jn.o i 41 HI.o (by decide) (by decide))
    clear hb hm
    go_wp2_with fail
    refine CF.o.mono ?_
    rintro e w6 ⟨rfl, hq6, hk6⟩
    go_wp2_with fail
    go_meet
    exact qcut_bad HX.o (Nat.le_refl _) hq6 (Gd.o.trans' hk6) ((Gh.o.trans' hk6).mono (by simp)) (Gc.o.kept hk6 (by have h1 := Ga.o; simp; omega))
   obtain ⟨d, rfl⟩ : ∃ d, D = d + 1 := ⟨D - 1, by omega⟩
   obtain ⟨j1, j2⟩ := int_ne (a := DI) (b := 0) (by have := Jl.o; omega)
   have Gy : Hid (c + 1 ≤ 4096) := qI (by omega)
   have Gz := qI (Jv.o d hb hm)
   have Mk := @qI (QValKnown d) (by intro w p S s c h1 h2; exact IH.o d rfl h1 h2)
   have Jo : Hid (DI - 1 = (d : Int) ∧ d ≤ 100) := qI (by have := Jl.o; have := HD.o; omega)
   have hd0 : 1 ≤ DI := by have := Jl.o; omega
   have hd1 : DI ≤ 100 := Mt.o.2
   clear hb hm h0
   have CW0 := qI (qword_any Jn.o HS.o ⟨#[110, 117, 108, 108]⟩ (by decide))
   rw [show (⟨#[110, 117, 108, 108]⟩ : ByteArray).data.toList = nullW from rfl] at CW0
   by_cases n0 : nullW.isPrefixOf r = true
   ·rw [show eatB nullW (.inr (r, c + 1)) = true from n0, show eatX nullW (.inr (r, c + 1)) = .inr (r.drop 4, c + 1) from eatX_yes n0] at CW0
    have Gp : Hid (pRead (pValue d) r (c + 1) = .inr (leaf 1 0 ⟨#[]⟩, r.drop 4, c + 1)) := qI (by
     have h9 := (read_word (sub := pValue d) (s := r) (c := c + 1) (k := 1) (n := 0) (by unfold wordOf; exact if_pos n0)).1
     exact h9)
    clear n0
    go_wp2_with fail
    refine CW0.o.mono ?_
    rintro e w6 ⟨rfl, hq, hk⟩
    have Je := qI hq
    have Gb := qI ((Kept.refl [p] w5).trans' hk)
    clear hq hk
    have Ge := qI (Gc.o.kept Gb.o (by have h1 := Ga.o; simp; omega))
    obtain ⟨⟨d0, d1, d2, d3, d4⟩, g0, g1, g2, g3, g4⟩ := Ge.o.facts
    go_wp2_with fail
    go_meet
    have KF := kept_set w6 w2.heap.size 0 (.int .i64 1)
    have Gl := block_setCell (i := 0) (v := .int .i64 1) Ge.o (d := #[.int .i64 1, .int .i64 0, .string ⟨#[]⟩, .slice none 0 0, .slice none 0 0]) rfl
    exact qcut_mk (w0 := w6) (w1 := w6) (qboth_ok (cs := [.int .i64 1, .int .i64 0, .string ⟨#[]⟩, .slice none 0 0, .slice none 0 0]) Gp.o ⟨_, _, _, _, _, _, _, _, _, rfl⟩ (Kept.refl _ _) (Je.o.narrow Gy.o) (ownRep_leaf rfl rfl)) Gz.o (Gd.o.trans' Gb.o) Ga.o.1 (Nat.le_refl _) Ga.o.2.1 (by have h1 := Ga.o.2.2; have h2 := Gb.o.size; omega) ((Gh.o.trans' Gb.o).mono (by simp)) KF Gl
   rw [show eatB nullW (.inr (r, c + 1)) = false from eq_false_of_ne_true n0, eatX_no (show eatB nullW (.inr (r, c + 1)) = false from eq_false_of_ne_true n0)] at CW0
   have N0 := qI n0
   clear n0
   go_wp2_with fail
   refine CW0.o.mono ?_
   rintro e w6 ⟨rfl, hq, hk⟩
   have HQw6 := qI hq
   have HKw6 := qI ((Kept.refl [p] w5).trans' hk)
   clear hq hk
   have CW1 := qI (qword_any HQw6.o HS.o ⟨#[116, 114, 117, 101]⟩ (by decide))
   rw [show (⟨#[116, 114, 117, 101]⟩ : ByteArray).data.toList = trueW from rfl] at CW1
   by_cases n1 : trueW.isPrefixOf r = true
   ·rw [show eatB trueW (.inr (r, c + 1)) = true from n1, show eatX trueW (.inr (r, c + 1)) = .inr (r.drop 4, c + 1) from eatX_yes n1] at CW1
    have Gp : Hid (pRead (pValue d) r (c + 1) = .inr (leaf 2 1 ⟨#[]⟩, r.drop 4, c + 1)) := qI (by
     have h9 := (read_word (sub := pValue d) (s := r) (c := c + 1) (k := 2) (n := 1) (by unfold wordOf; rw [if_neg N0.o]; exact if_pos n1)).1
     exact h9)
    clear n1
    go_wp2_with fail
    refine CW1.o.mono ?_
    rintro e w7 ⟨rfl, hq, hk⟩
    have Je := qI hq
    have Gb := qI (HKw6.o.trans' hk)
    clear hq hk
    have Ge := qI (Gc.o.kept Gb.o (by have h1 := Ga.o; simp; omega))
    obtain ⟨⟨d0, d1, d2, d3, d4⟩, g0, g1, g2, g3, g4⟩ := Ge.o.facts
    go_wp2_with fail
    go_meet
    obtain ⟨WF, e⟩ : ∃ WF, WF = set5 w7 w2.heap.size (.int .i64 2) (.int .i64 1) (.string ⟨#[]⟩) (.slice none 0 0) (.slice none 0 0) := ⟨_, rfl⟩
    obtain ⟨KF, Gl⟩ := set5_facts' Ge.o e
    unfold set5 at e
    rw [← e]
    exact qcut_mk (w0 := w7) (w1 := w7) (qboth_ok (cs := [.int .i64 2, .int .i64 1, .string ⟨#[]⟩, .slice none 0 0, .slice none 0 0]) Gp.o ⟨_, _, _, _, _, _, _, _, _, rfl⟩ (Kept.refl _ _) (Je.o.narrow Gy.o) (ownRep_leaf rfl rfl)) Gz.o (Gd.o.trans' Gb.o) Ga.o.1 (Nat.le_refl _) Ga.o.2.1 (by have h1 := Ga.o.2.2; have h2 := Gb.o.size; omega) ((Gh.o.trans' Gb.o).mono (by simp)) KF Gl
   rw [show eatB trueW (.inr (r, c + 1)) = false from eq_false_of_ne_true n1, eatX_no (show eatB trueW (.inr (r, c + 1)) = false from eq_false_of_ne_true n1)] at CW1
   have N1 := qI n1
   clear n1
   go_wp2_with fail
   refine CW1.o.mono ?_
   rintro e w7 ⟨rfl, hq, hk⟩
   have HQw7 := qI hq
   have HKw7 := qI (HKw6.o.trans' hk)
   clear hq hk
   have CW2 := qI (qword_any HQw7.o HS.o ⟨#[102, 97, 108, 115, 101]⟩ (by decide))
   rw [show (⟨#[102, 97, 108, 115, 101]⟩ : ByteArray).data.toList = falseW from rfl] at CW2
   by_cases n2 : falseW.isPrefixOf r = true
   ·rw [show eatB falseW (.inr (r, c + 1)) = true from n2, show eatX falseW (.inr (r, c + 1)) = .inr (r.drop 5, c + 1) from eatX_yes n2] at CW2
    have Gp : Hid (pRead (pValue d) r (c + 1) = .inr (leaf 2 0 ⟨#[]⟩, r.drop 5, c + 1)) := qI (by
     have h9 := (read_word (sub := pValue d) (s := r) (c := c + 1) (k := 2) (n := 0) (by unfold wordOf; rw [if_neg N0.o]; rw [if_neg N1.o]; exact if_pos n2)).1
     exact h9)
    clear n2
    go_wp2_with fail
    refine CW2.o.mono ?_
    rintro e w8 ⟨rfl, hq, hk⟩
    have Je := qI hq
    have Gb := qI (HKw7.o.trans' hk)
    clear hq hk
    have Ge := qI (Gc.o.kept Gb.o (by have h1 := Ga.o; simp; omega))
    obtain ⟨⟨d0, d1, d2, d3, d4⟩, g0, g1, g2, g3, g4⟩ := Ge.o.facts
    go_wp2_with fail
    go_meet
    have KF := kept_set w8 w2.heap.size 0 (.int .i64 2)
    have Gl := block_setCell (i := 0) (v := .int .i64 2) Ge.o (d := #[.int .i64 2, .int .i64 0, .string ⟨#[]⟩, .slice none 0 0, .slice none 0 0]) rfl
    exact qcut_mk (w0 := w8) (w1 := w8) (qboth_ok (cs := [.int .i64 2, .int .i64 0, .string ⟨#[]⟩, .slice none 0 0, .slice none 0 0]) Gp.o ⟨_, _, _, _, _, _, _, _, _, rfl⟩ (Kept.refl _ _) (Je.o.narrow Gy.o) (ownRep_leaf rfl rfl)) Gz.o (Gd.o.trans' Gb.o) Ga.o.1 (Nat.le_refl _) Ga.o.2.1 (by have h1 := Ga.o.2.2; have h2 := Gb.o.size; omega) ((Gh.o.trans' Gb.o).mono (by simp)) KF Gl
   rw [show eatB falseW (.inr (r, c + 1)) = false from eq_false_of_ne_true n2, eatX_no (show eatB falseW (.inr (r, c + 1)) = false from eq_false_of_ne_true n2)] at CW2
   have N2 := qI n2
   clear n2
   go_wp2_with fail
   refine CW2.o.mono ?_
   rintro e w8 ⟨rfl, hq, hk⟩
   have HQw8 := qI hq
   have HKw8 := qI (HKw7.o.trans' hk)
   clear hq hk
   have Jp := qI (read_not (sub := pValue d) (s := r) (c := c + 1) (by unfold wordOf; rw [if_neg N0.o, if_neg N1.o, if_neg N2.o]))
   have H34 := qI (next_head r c 34 (by decide))
   rw [HZ.o] at H34
   by_cases h34 : z = 34
   ·obtain ⟨l1, l2⟩ := int_eq (a := (z : Int)) (b := 34) (by omega)
    have Gp : Hid (pRead (pValue d) r (c + 1) = match unqL r with | .inl e => .inl e | .inr (t, r') => .inr (leaf 4 0 (strB t), r', c + 1)) := qI (by
     rw [Jp.o, if_pos (H34.o.2 h34)]
     cases unqL r with
     | inl e => rfl
     | inr y => rfl)
    have CL := qI (qliteral_any HQw8.o HS.o)
    clear h34
    go_wp2_with fail
    refine CL.o.mono ?_
    rintro e w9 ⟨rfl, hq, hk⟩
    have Jx : Hid (QBoth d (pRead (pValue d) r (c + 1)) p S w9 (.returned (.agg #[.int .i64 4, .int .i64 0, .string (strB (litS (.inr (r, c + 1)))), .slice none 0 0, .slice none 0 0])) w9) := qI (by
     cases hu : unqL r with
     | inl e =>
      rw [(litX_bad hu).1] at hq
      exact qboth_bad (cs := [.int .i64 4, .int .i64 0, .string (strB (litS (.inr (r, c + 1)))), .slice none 0 0, .slice none 0 0]) (by rw [Gp.o, hu]) ⟨_, _, _, _, _, _, _, _, _, rfl⟩ (Kept.refl _ _) hq
     | inr y =>
      obtain ⟨t, r'⟩ := y
      rw [(litX_ok hu).1] at hq
      rw [(litX_ok hu).2]
      exact qboth_ok (cs := [.int .i64 4, .int .i64 0, .string (strB t), .slice none 0 0, .slice none 0 0]) (by rw [Gp.o, hu]) ⟨_, _, _, _, _, _, _, _, _, rfl⟩ (Kept.refl _ _) (hq.narrow Gy.o) (ownRep_leaf rfl rfl))
    have Gb := qI (HKw8.o.trans' hk)
    clear hq hk
    revert Jx
    generalize strB (litS (.inr (r, c + 1))) = T
    intro Jx
    have Ge := qI (Gc.o.kept Gb.o (by have h1 := Ga.o; simp; omega))
    obtain ⟨⟨d0, d1, d2, d3, d4⟩, g0, g1, g2, g3, g4⟩ := Ge.o.facts
    go_wp2_with fail
    go_meet
    obtain ⟨WF, e⟩ : ∃ WF, WF = set5 w9 w2.heap.size (.int .i64 4) (.int .i64 0) (.string T) (.slice none 0 0) (.slice none 0 0) := ⟨_, rfl⟩
    obtain ⟨KF, Gl⟩ := set5_facts' Ge.o e
    unfold set5 at e
    rw [← e]
    exact qcut_mk (w0 := w9) (w1 := w9) Jx.o Gz.o (Gd.o.trans' Gb.o) Ga.o.1 (Nat.le_refl _) Ga.o.2.1 (by have h1 := Ga.o.2.2; have h2 := Gb.o.size; omega) ((Gh.o.trans' Gb.o).mono (by simp)) KF Gl
   have N34 : Hid (r.head? ≠ some 34) := qI (fun h => h34 (H34.o.1 h))
   obtain ⟨l1, l2⟩ := int_ne (a := (z : Int)) (b := 34) (by omega)
   clear h34
   have C9 := qI (qword_any HQw8.o HS.o ⟨#[91]⟩ (by decide))
   rw [show (⟨#[91]⟩ : ByteArray).data.toList = [91] from rfl, (head_eats 91 r (c + 1)).1] at C9
   by_cases h91 : r.head? = some 91
   ·rw [decide_eq_true h91, (head_eats 91 r (c + 1)).2.1 h91] at C9
    have Jy : Hid (pRead (pValue d) r (c + 1) = asList (pItems (listStep (pValue d)) 93 (r.length + 1) r.tail (c + 1) [])) := qI (by
     rw [Jp.o, if_neg N34.o, if_pos h91, asList_eq]
     cases pItems (listStep (pValue d)) 93 (r.length + 1) r.tail (c + 1) [] with
     | inl e => rfl
     | inr y => rfl)
    have Jf := qI Gz.o
    rw [Jy.o] at Jf
    have Jz : Hid (r.tail.length < r.length + 1) := qI (by rw [List.length_tail]; omega)
    clear h91
    go_wp2_with fail
    refine C9.o.mono ?_
    rintro e w9 ⟨rfl, hq, hk⟩
    have HQa := qI (hq.narrow Gy.o)
    have HKa := qI (HKw8.o.trans' hk)
    clear hq hk
    go_wp2_with fail
    rw [Jo.o.1]
    refine (qlist_any (d := d) (by exact @Mk.o) Jo.o.2 HQa.o HS.o Jz.o).mono ?_
    rintro e w10 ⟨cs, rfl, ⟨k5, m5, s5, p5, i5, c5, q5, j5, d5, rfl⟩, hk5, hrest⟩
    have Ja : Hid (QBoth d (asList (pItems (listStep (pValue d)) 93 (r.length + 1) r.tail (c + 1) [])) p S w9 (.returned (.agg #[.int .i64 k5, .int .i64 m5, .string s5, .slice p5 i5 c5, .slice q5 j5 d5])) w10) := qI ⟨_, rfl, ⟨_, _, _, _, _, _, _, _, _, rfl⟩, hk5, hrest⟩
    have Gb := qI (HKa.o.trans' hk5)
    clear hk5 hrest
    have Ge := qI (Gc.o.kept Gb.o (by have h1 := Ga.o; simp; omega))
    obtain ⟨⟨d0, d1, d2, d3, d4⟩, g0, g1, g2, g3, g4⟩ := Ge.o.facts
    go_wp2_with fail
    go_meet
    obtain ⟨WF, e⟩ : ∃ WF, WF = set5 w10 w2.heap.size (.int .i64 k5) (.int .i64 m5) (.string s5) (.slice p5 i5 c5) (.slice q5 j5 d5) := ⟨_, rfl⟩
    obtain ⟨KF, Gl⟩ := set5_facts' Ge.o e
    unfold set5 at e
    rw [← e]
    exact qcut_mk (w0 := w9) (w1 := w10) Ja.o Jf.o (Gd.o.trans' HKa.o) Ga.o.1 (Nat.le_refl _) Ga.o.2.1 (by have h1 := Ga.o.2.2; have h2 := HKa.o.size; omega) ((Gh.o.trans' Gb.o).mono (by simp)) KF Gl
   rw [decide_eq_false h91, (head_eats 91 r (c + 1)).2.2 h91] at C9
   have N91 := qI h91
   clear h91
   go_wp2_with fail
   refine C9.o.mono ?_
   rintro e w9 ⟨rfl, hq, hk⟩
   have HQw9 := qI hq
   have HKw9 := qI (HKw8.o.trans' hk)
   clear hq hk
   have C10 := qI (qword_any HQw9.o HS.o ⟨#[123]⟩ (by decide))
   rw [show (⟨#[123]⟩ : ByteArray).data.toList = [123] from rfl, (head_eats 123 r (c + 1)).1] at C10
   by_cases h123 : r.head? = some 123
   ·rw [decide_eq_true h123, (head_eats 123 r (c + 1)).2.1 h123] at C10
    have Jy : Hid (pRead (pValue d) r (c + 1) = asMap (pItems (pairStep (pValue d)) 125 (r.length + 1) r.tail (c + 1) [])) := qI (by
     rw [Jp.o, if_neg N34.o, if_neg N91.o, if_pos h123, asMap_eq]
     cases pItems (pairStep (pValue d)) 125 (r.length + 1) r.tail (c + 1) [] with
     | inl e => rfl
     | inr y => rfl)
    have Jf := qI Gz.o
    rw [Jy.o] at Jf
    have Jz : Hid (r.tail.length < r.length + 1) := qI (by rw [List.length_tail]; omega)
    clear h123
    go_wp2_with fail
    refine C10.o.mono ?_
    rintro e w10 ⟨rfl, hq, hk⟩
    have HQa := qI (hq.narrow Gy.o)
    have HKa := qI (HKw9.o.trans' hk)
    clear hq hk
    go_wp2_with fail
    rw [Jo.o.1]
    refine (qpairs_any (d := d) (by exact @Mk.o) Jo.o.2 HQa.o HS.o Jz.o).mono ?_
    rintro e w11 ⟨cs, rfl, ⟨k5, m5, s5, p5, i5, c5, q5, j5, d5, rfl⟩, hk5, hrest⟩
    have Ja : Hid (QBoth d (asMap (pItems (pairStep (pValue d)) 125 (r.length + 1) r.tail (c + 1) [])) p S w10 (.returned (.agg #[.int .i64 k5, .int .i64 m5, .string s5, .slice p5 i5 c5, .slice q5 j5 d5])) w11) := qI ⟨_, rfl, ⟨_, _, _, _, _, _, _, _, _, rfl⟩, hk5, hrest⟩
    have Gb := qI (HKa.o.trans' hk5)
    clear hk5 hrest
    have Ge := qI (Gc.o.kept Gb.o (by have h1 := Ga.o; simp; omega))
    obtain ⟨⟨d0, d1, d2, d3, d4⟩, g0, g1, g2, g3, g4⟩ := Ge.o.facts
    go_wp2_with fail
    go_meet
    obtain ⟨WF, e⟩ : ∃ WF, WF = set5 w11 w2.heap.size (.int .i64 k5) (.int .i64 m5) (.string s5) (.slice p5 i5 c5) (.slice q5 j5 d5) := ⟨_, rfl⟩
    obtain ⟨KF, Gl⟩ := set5_facts' Ge.o e
    unfold set5 at e
    rw [← e]
    exact qcut_mk (w0 := w10) (w1 := w11) Ja.o Jf.o (Gd.o.trans' HKa.o) Ga.o.1 (Nat.le_refl _) Ga.o.2.1 (by have h1 := Ga.o.2.2; have h2 := HKa.o.size; omega) ((Gh.o.trans' Gb.o).mono (by simp)) KF Gl
   rw [decide_eq_false h123, (head_eats 123 r (c + 1)).2.2 h123] at C10
   have Gp : Hid (pRead (pValue d) r (c + 1) = match numL r with | .inl e => .inl e | .inr (n, r') => .inr (leaf 3 n ⟨#[]⟩, r', c + 1)) := qI (by
    rw [Jp.o, if_neg N34.o, if_neg N91.o, if_neg h123]
    cases numL r with
    | inl e => rfl
    | inr y => rfl)
   clear h123
   go_wp2_with fail
   refine C10.o.mono ?_
   rintro e w10 ⟨rfl, hq, hk⟩
   have HQw10 := qI hq
   have HKw10 := qI (HKw9.o.trans' hk)
   clear hq hk
   go_wp2_with fail
   refine (qnumber_any HQw10.o HS.o).mono ?_
   rintro e w11 ⟨⟨y, rfl, hans⟩, hk⟩
   have Ma : Hid (QBoth d (pRead (pValue d) r (c + 1)) p S w11 (.returned (.agg #[.int .i64 3, .int .i64 y, .string ⟨#[]⟩, .slice none 0 0, .slice none 0 0])) w11) := qI (by
    cases hn : numL r with
    | inl x =>
     rw [hn] at hans
     exact qboth_bad (cs := [.int .i64 3, .int .i64 y, .string ⟨#[]⟩, .slice none 0 0, .slice none 0 0]) (by rw [Gp.o, hn]) ⟨_, _, _, _, _, _, _, _, _, rfl⟩ (Kept.refl _ _) hans
    | inr q =>
     obtain ⟨n, r'⟩ := q
     rw [hn] at hans
     obtain ⟨rfl, hq⟩ := hans
     have Yh := (num_facts hn).1
     exact qboth_ok (cs := [.int .i64 3, .int .i64 y, .string ⟨#[]⟩, .slice none 0 0, .slice none 0 0]) (by rw [Gp.o, hn]) ⟨_, _, _, _, _, _, _, _, _, rfl⟩ (Kept.refl _ _) (hq.narrow Gy.o) (ownRep_leaf rfl (wf64 (by omega) (by omega))))
   have Gb := qI (HKw10.o.trans' hk)
   clear hans hk
   have Ge := qI (Gc.o.kept Gb.o (by have h1 := Ga.o; simp; omega))
   obtain ⟨⟨d0, d1, d2, d3, d4⟩, g0, g1, g2, g3, g4⟩ := Ge.o.facts
   go_wp2_with fail
   go_meet
   obtain ⟨WF, e⟩ : ∃ WF, WF = set5 w11 w2.heap.size (.int .i64 3) (.int .i64 y) (.string ⟨#[]⟩) (.slice none 0 0) (.slice none 0 0) := ⟨_, rfl⟩
   obtain ⟨KF, Gl⟩ := set5_facts' Ge.o e
   unfold set5 at e
   rw [← e]
   exact qcut_mk (w0 := w11) (w1 := w11) Ma.o Gz.o (Gd.o.trans' Gb.o) Ga.o.1 (Nat.le_refl _) Ga.o.2.1 (by have h1 := Ga.o.2.2; have h2 := Gb.o.size; omega) ((Gh.o.trans' Gb.o).mono (by simp)) KF Gl
  case rest =>
   obtain ⟨k5, m5, s5, p5, i5, c5, q5, j5, d5, X, hbk, hq, hk, hfin⟩ := hcut
   rename_i wd
   have Mx := qI hbk
   have My := qI hq
   have Mz := qI hk
   have Mb := qI hfin
   clear hbk hq hk hfin
   go_wp2_with fail
   refine (qblanks_any My.o HS.o).mono ?_
   rintro e w6 ⟨rfl, hq6, hk6⟩
   have Ya := qI hq6
   have Jg := qI hk6
   have hb := hk6.heap Mx.o (by have h1 := Gw.o; have h2 := Jm.o; simp; omega)
   have x0 := cell_head (o := 0) (v := .int .i64 k5) hb rfl
   have x1 := cell_head (o := 1) (v := .int .i64 m5) hb rfl
   have x2 := cell_head (o := 2) (v := .string s5) hb rfl
   have x3 := cell_head (o := 3) (v := .slice p5 i5 c5) hb rfl
   have x4 := cell_head (o := 4) (v := .slice q5 j5 d5) hb rfl
   have Ml := qI (((Gt.o.kept (Gn.o.then Gi.o) (by have h1 := Gw.o; simp; omega)).kept Mz.o (by have h1 := Gw.o; have h2 := Jm.o; simp; omega)).kept hk6 (by have h1 := Gw.o; simp; omega))
   obtain ⟨⟨d0, d1, d2, d3, d4⟩, g0, g1, g2, g3, g4⟩ := Ml.o.facts
   clear hb hq6 hk6
   go_wp2_with fail
   obtain ⟨WF, e⟩ : ∃ WF, WF = set5 w6 w.heap.size (.int .i64 k5) (.int .i64 m5) (.string s5) (.slice p5 i5 c5) (.slice q5 j5 d5) := ⟨_, rfl⟩
   obtain ⟨KF, y0, y1, y2, y3, y4⟩ := Ml.o.stored e
   unfold set5 at e
   rw [← e]
   exact bodyPost_ret (v := .agg #[.int .i64 k5, .int .i64 m5, .string s5, .slice p5 i5 c5, .slice q5 j5 d5]) (by simp [results, Tryz.results71, go_sem, y0, y1, y2, y3, y4]) rfl
    (Mb.o WF (Ya.o.kept KF (by have h1 := Gw.o; simp; omega)) ((Jg.o.mono (by simp)).trans KF (fun i hi => by simp at hi; exact .inl (by simp [hi]))))
end
theorem qvalue_known : ∀ (d : Nat), d ≤ 100 → QValKnown d := by
 intro d
 induction d with
 | zero => intro hd w p S s c hs hS; exact qvalue_step (fun d h => (nomatch h)) rfl hd hs hS
 | succ d IH => intro hd w p S s c hs hS; exact qvalue_step (fun d' h => by injection h with h; subst h; exact IH (by omega)) rfl hd hs hS
section
variable {w : World} {a : Option Addr} {c : Nat} {l : List UInt8}
theorem qparse_long (hl : 262144 < l.length) : Calls Tryz.prog 45 #[.slice a l.length c] w fun e w' => ParseAns l w.heap.size e w' ∧ Kept [] w w' := by
 obtain ⟨W0, Gf⟩ : ∃ W0, Hid (W0 = w.alloc (.cells #[.int .i64 0, .int .i64 0, .string ⟨#[]⟩, .slice none 0 0, .slice none 0 0] 25)) := ⟨_, qI rfl⟩
 have Gj : Hid (Kept [] w W0) := qI (by rw [Gf.o]; exact (Kept.refl [] w).alloc _)
 have Gt : Hid (ResAt W0 w.heap.size) := qI (by rw [Gf.o]; exact resAt_new w)
 have hlI : (262144 : Int) < l.length := by omega
 have HX : Hid (parseL l = .inl 3) := qI (by unfold parseL; rw [if_pos hl])
 clear hl
 go_enter Tryz.func45, Tryz.ntmps45
 go_upto_region 2 with fail
 rw [← Gf.o]
 obtain ⟨⟨d0, d1, d2, d3, d4⟩, f0, f1, f2, f3, f4⟩ := Gt.o.facts
 go_wp2_with fail
 obtain ⟨WF, e⟩ : ∃ WF, WF = set5 W0 w.heap.size (.int .i64 0) (.int .i64 0) (.string ⟨#[]⟩) (.slice none 0 0) (.slice none 0 0) := ⟨_, rfl⟩
 obtain ⟨KF, y0, y1, y2, y3, y4⟩ := Gt.o.stored e
 unfold set5 at e
 rw [← e]
 exact bodyPost_ret (v := .tuple #[.agg #[.int .i64 0, .int .i64 0, .string ⟨#[]⟩, .slice none 0 0, .slice none 0 0], .int .i64 0, .int .i64 3]) (by simp [results, Tryz.results45, go_sem, y0, y1, y2, y3, y4]) rfl ⟨parseAns_bad (n := 0) HX.o (by decide) (by decide), ((Gj.o.mono (Y := [w.heap.size]) (by simp)).trans' KF).fresh (by simp)⟩
set_option maxRecDepth 100000 in
theorem qparse_short (hb : Bytes w (.slice a l.length c) l) (hl : l.length ≤ 262144) : Calls Tryz.prog 45 #[.slice a l.length c] w fun e w' => ParseAns l w.heap.size e w' ∧ Kept [] w w' := by
 obtain ⟨W0, Gf⟩ : ∃ W0, Hid (W0 = w.alloc (.cells #[.int .i64 0, .int .i64 0, .string ⟨#[]⟩, .slice none 0 0, .slice none 0 0] 25)) := ⟨_, qI rfl⟩
 have Gj : Hid (Kept [] w W0) := qI (by rw [Gf.o]; exact (Kept.refl [] w).alloc _)
 have Jh : Hid (W0.heap.size = w.heap.size + 1) := qI (by rw [Gf.o]; simp)
 have Gt : Hid (ResAt W0 w.heap.size) := qI (by rw [Gf.o]; exact resAt_new w)
 obtain ⟨W1, Mc⟩ : ∃ W1, Hid (W1 = W0.alloc (.cells #[.string (strB l), .int .i64 0, .int .i64 0, .int .i64 0] 99)) := ⟨_, qI rfl⟩
 have Gn : Hid (Kept [] W0 W1) := qI (by rw [Mc.o]; exact (Kept.refl [] W0).alloc _)
 have Mm : Hid (QS W1 (w.heap.size + 1) (strB l) 4096 (.inr (l, 0))) := qI ⟨0, 0, 0, by unfold QAt; rw [Mc.o]; exact block_alloc Jh.o, Nat.zero_le _, Nat.zero_le _, rfl, by rw [strB_list]; rfl, rfl⟩
 have hS : (strB l).size ≤ 262144 := by rw [strB_size]; exact hl
 have CV : Hid (Calls Tryz.prog 71 #[.pointer (some ⟨w.heap.size + 1, 0, none⟩), .int .i64 12] W1 fun e w' => QValAns 12 l 0 (w.heap.size + 1) (strB l) W1 e w') := qI (qvalue_known 12 (by decide) Mm.o hS)
 have hcv := Bytes.toStr (hb.kept0 Gj.o)
 rw [Gf.o] at hcv
 have hlI : (l.length : Int) ≤ 262144 := by omega
 have Mn := qI (parse_eq hl)
 have Yb := qI hS
 have Mo : Hid ((strB l).size = l.length) := qI (strB_size l)
 clear hb hl hS
 go_enter Tryz.func45, Tryz.ntmps45
 go_wp2_with fail
 rw [← Gf.o, ← Mc.o]
 clear hcv
 refine CV.o.mono ?_
 rintro e w2 ⟨cs, rfl, ⟨k5, m5, s5, p5, i5, c5, q5, j5, d5, rfl⟩, hk2, hrest⟩
 obtain ⟨W3, Gu⟩ : ∃ W3, Hid (W3 = w2.alloc (.cells #[.int .i64 k5, .int .i64 m5, .string s5, .slice p5 i5 c5, .slice q5 j5 d5] 25)) := ⟨_, qI rfl⟩
 have Gx : Hid (W3.heap[w2.heap.size]? = some (.cells #[.int .i64 k5, .int .i64 m5, .string s5, .slice p5 i5 c5, .slice q5 j5 d5] 25 (0, 0))) := qI (by rw [Gu.o]; exact block_alloc rfl)
 have Gi : Hid (Kept [] w2 W3) := qI (by rw [Gu.o]; exact (Kept.refl [] w2).alloc _)
 have Gq := qI hk2
 have Jq : Hid (Kept [w.heap.size + 1] W0 W3) := qI (((Gn.o.mono (by simp)).trans' hk2).then Gi.o)
 have Yi : Hid (w.heap.size + 1 < w2.heap.size) := qI (by have h1 := hk2.size; have h2 := Mm.o.lt; omega)
 clear hk2
 have hpe := Mn.o
 clear Mn
 have hsplit : (∃ x, pValue 12 l 0 = .inl x) ∨ (∃ v r c', pValue 12 l 0 = .inr (v, r, c') ∧ r ≠ []) ∨ ∃ v c', pValue 12 l 0 = .inr (v, [], c') := by
  cases hR : pValue 12 l 0 with
  | inl x => exact .inl ⟨x, rfl⟩
  | inr y =>
   obtain ⟨v, r, c'⟩ := y
   by_cases hr : r = []
   ·subst hr; exact .inr (.inr ⟨v, c', rfl⟩)
   ·exact .inr (.inl ⟨v, r, c', rfl, hr⟩)
 rcases hsplit with ⟨x, hR⟩ | ⟨v, r, c', hR, hr⟩ | ⟨v, c', hR⟩
 rotate_left 2
 ·rw [hR] at hrest hpe
  replace hpe : parseL l = .inr v := hpe.trans (if_pos rfl)
  have HX := qI hpe
  have Jr := qI (QS.kept0 hrest.1 Gi.o)
  have HO := qI hrest.2
  obtain ⟨i, q4, hi, hn, hdr⟩ := Jr.o.open_ok
  have hil : ¬ (i : Int) < l.length := by
   have h9 := drop_len hdr hi
   have h8 := Mo.o
   simp only [List.length_nil] at h9
   omega
  have z1 := q4.cells.2.1
  have z2 := q4.cells.2.2.1
  have x0 := cell_head (o := 0) (v := .int .i64 k5) Gx.o rfl
  have x1 := cell_head (o := 1) (v := .int .i64 m5) Gx.o rfl
  have x2 := cell_head (o := 2) (v := .string s5) Gx.o rfl
  have x3 := cell_head (o := 3) (v := .slice p5 i5 c5) Gx.o rfl
  have x4 := cell_head (o := 4) (v := .slice q5 j5 d5) Gx.o rfl
  have Ji := qI (Gt.o.kept Jq.o (by simp))
  obtain ⟨⟨d0, d1, d2, d3, d4⟩, f0, f1, f2, f3, f4⟩ := Ji.o.facts
  clear hrest hpe hR q4 hi hn hdr
  go_upto_region 5 with fail
  rw [← Gu.o]
  go_wp2_with fail
  obtain ⟨WF, e⟩ : ∃ WF, WF = set5 W3 w.heap.size (.int .i64 k5) (.int .i64 m5) (.string s5) (.slice p5 i5 c5) (.slice q5 j5 d5) := ⟨_, rfl⟩
  obtain ⟨KF, y0, y1, y2, y3, y4⟩ := Ji.o.stored e
  unfold set5 at e
  rw [← e]
  have hz1 := Jh.o
  have hz2 := Gn.o.size
  exact bodyPost_ret (v := .tuple #[.agg #[.int .i64 k5, .int .i64 m5, .string s5, .slice p5 i5 c5, .slice q5 j5 d5], .int .i64 l.length, .int .i64 0]) (by simp [results, Tryz.results45, go_sem, y0, y1, y2, y3, y4]) rfl
   ⟨parseAns_ok (cs := [.int .i64 k5, .int .i64 m5, .string s5, .slice p5 i5 c5, .slice q5 j5 d5]) HX.o ⟨_, _, _, _, _, _, _, _, _, rfl⟩ (HO.o.move ((Gi.o.mono (by simp)).trans' KF) (fun g hg => by simp at hg; omega) (by omega)), (Gj.o.mono (Y := [w.heap.size + 1, w.heap.size]) (by simp)).trans' ((Jq.o.mono (by simp)).trans' (KF.mono (by simp))) |>.fresh (by simp)⟩
 case' inl =>
  rw [hR] at hrest hpe
  have HX : Hid (parseL l = .inl x) := qI hpe
  have Jj : Hid (QS W3 (w.heap.size + 1) (strB l) 4097 (.inl x)) := qI (QS.kept0 hrest Gi.o)
  obtain ⟨i, n, q4, hi, hn, hx0, hx1⟩ := Jj.o.open_bad
  have z2 := q4.cells.2.2.1
  obtain ⟨g1, g2⟩ := int_ne (a := x) (b := 0) (by omega)
  have Gg : Hid (Kept [w.heap.size + 1] W0 W3) := Jq
  clear hrest hpe hR q4 hi hn hx0 hx1
  go_upto_region 5 with fail
  rw [← Gu.o]
  go_upto_region 7 with fail
  clear z2 g1 g2
  revert Jj Gg
  generalize hw4 : W3 = w4
  intro Jj Gg
  clear hw4
 case' inr.inl =>
  rw [hR] at hrest hpe
  replace hpe : parseL l = .inl 50 := hpe.trans (if_neg hr)
  obtain ⟨x, hx⟩ : ∃ x : Int, 50 = x := ⟨_, rfl⟩
  rw [hx] at hpe
  have HX : Hid (parseL l = .inl x) := qI hpe
  have Jr : Hid (QS W3 (w.heap.size + 1) (strB l) 4096 (.inr (r, c'))) := qI (QS.kept0 hrest.1 Gi.o)
  obtain ⟨i, q4, hi, hn, hdr⟩ := Jr.o.open_ok
  have hil : (i : Int) < l.length := by
   have h9 := drop_len hdr hi
   have h8 := Mo.o
   have h7 : r.length ≠ 0 := fun h => hr (List.eq_nil_of_length_eq_zero h)
   omega
  have z1 := q4.cells.2.1
  have z2 := q4.cells.2.2.1
  have CF : Hid (Calls Tryz.prog 72 #[.pointer (some ⟨w.heap.size + 1, 0, none⟩), .int .i64 i, .int .i64 50] W3 fun e w2 => e = .returned (.tuple #[]) ∧ QS w2 (w.heap.size + 1) (strB l) 4097 (.inl x) ∧ Kept [w.heap.size + 1] W3 w2) := qI (by
   have h9 := qfail_any Jr.o.wide i 50 hi (by decide) (by decide)
   rw [← hx]
   exact h9)
  clear hrest hpe hR hr hx q4 hi hn hdr
  go_upto_region 5 with fail
  rw [← Gu.o]
  go_wp2_with fail
  refine CF.o.mono ?_
  rintro e w4 ⟨rfl, hp4, hk4⟩
  have Gg := qI (Jq.o.trans' hk4)
  have Jj := qI hp4
  clear hp4 hk4 z1 z2 hil
 all_goals
  obtain ⟨i, n, q4, hi, hn, hx0, hx1⟩ := Jj.o.open_bad
  have hi2 := Yb.o
  have HI : Hid (i ≤ 262144) := qI (by omega)
  have Md : Hid (0 < x ∧ x ≤ 1000) := qI ⟨hx0, hx1⟩
  have e1 := ext_cell q4.cells.2.1
  have e3 := ext_cell q4.cells.2.2.1
  have c3 := q4.cells.2.2.1
  obtain ⟨g1, g2⟩ := int_ne (a := x) (b := 0) (by omega)
  have hr4 := Gt.o.kept Gg.o (by simp)
  have s0 : ∀ z : Ext w4, z.w.setCell ⟨w.heap.size, 0, none⟩ (.int .i64 0) = z.w := fun z => setCell_same (z.k.heap hr4 (by simp)) rfl
  have s1 : ∀ z : Ext w4, z.w.setCell ⟨w.heap.size, 1, none⟩ (.int .i64 0) = z.w := fun z => setCell_same (z.k.heap hr4 (by simp)) rfl
  have s2 : ∀ z : Ext w4, z.w.setCell ⟨w.heap.size, 2, none⟩ (.string ⟨#[]⟩) = z.w := fun z => setCell_same (z.k.heap hr4 (by simp)) rfl
  have s3 : ∀ z : Ext w4, z.w.setCell ⟨w.heap.size, 3, none⟩ (.slice none 0 0) = z.w := fun z => setCell_same (z.k.heap hr4 (by simp)) rfl
  have s4 : ∀ z : Ext w4, z.w.setCell ⟨w.heap.size, 4, none⟩ (.slice none 0 0) = z.w := fun z => setCell_same (z.k.heap hr4 (by simp)) rfl
  have Ji := qI hr4
  clear hr4 q4 hi2 hi hn hx0 hx1
  go_wp2_with fail
  refine wp_region_ext w4 (by kernel_rfl) (by kernel_rfl) (Kept.refl _ _) ?_
  clear c3
  repeat go_big_quiet_step (fail)
  refine wpQuiet_step (fun K hK => ?_)
  rw [if_pos (by kernel_rfl)]
  refine ⟨undef, ?_, hK _ ?_⟩
  ·rintro _ ⟨z, rfl⟩
   have hz := z.k.heap Ji.o (by simp)
   have x0 := cell_head (o := 0) (v := .int .i64 0) hz rfl
   have y0 := free_head (o := 0) hz
   have x1 := cell_head (o := 1) (v := .int .i64 0) hz rfl
   have y1 := free_head (o := 1) hz
   have x2 := cell_head (o := 2) (v := .string ⟨#[]⟩) hz rfl
   have y2 := free_head (o := 2) hz
   have x3 := cell_head (o := 3) (v := .slice none 0 0) hz rfl
   have y3 := free_head (o := 3) hz
   have x4 := cell_head (o := 4) (v := .slice none 0 0) hz rfl
   have y4 := free_head (o := 4) hz
   unfold Oper.quietAt
   go_simp
  clear hK K
  dsimp only [Act.put]
  repeat go_big_quiet_step (fail)
  refine wpQuiet_nil ?_
  intro w5 hk5
  clear s0 s1 s2 s3 s4 e1 e3
  go_wp2_with fail
  obtain ⟨y0, y1, y2, y3, y4⟩ := (Ji.o.kept hk5 (by simp)).facts.1
  exact bodyPost_ret (v := .tuple #[.agg #[.int .i64 0, .int .i64 0, .string ⟨#[]⟩, .slice none 0 0, .slice none 0 0], .int .i64 i, .int .i64 x]) (by simp [results, Tryz.results45, go_sem, y0, y1, y2, y3, y4]) rfl
   ⟨parseAns_bad HX.o Md.o HI.o, (Gj.o.mono (Y := [w.heap.size + 1]) (by simp)).trans' (Gg.o.then hk5) |>.fresh (by simp)⟩
theorem qparse_any (hb : Bytes w (.slice a l.length c) l) : Calls Tryz.prog 45 #[.slice a l.length c] w fun e w' => ParseAns l w.heap.size e w' ∧ Kept [] w w' := by
 by_cases h : l.length ≤ 262144
 ·exact qparse_short hb h
 ·exact qparse_long (by omega)
end
theorem enc_some {n : Nat} {v : V n} {X : List UInt8} {E : Int} (h : encV n v = (X, E)) : E = 0 ∨ X = [] := by
 by_cases hc : checkV n v = 0
 ·by_cases hl : 262144 < (writeV n (sortV n v)).length
  ·rw [encV_long hc hl] at h; injection h with h1 h2; exact .inr h1.symm
  ·rw [encV_fine hc (by omega)] at h; injection h with h1 h2; exact .inl h2.symm
 ·rw [encV_bad hc] at h; injection h with h1 h2; exact .inr h1.symm
theorem parse_some {l : List UInt8} {v : V 12} (h : parseL l = .inr v) : l ≠ [] := by
 intro e
 subst e
 have h9 : parseL [] = .inl 50 := by rw [parse_eq (l := []) (by decide), value_dull (d := 12) (s := []) (c := 0) rfl]
 rw [h9] at h
 cases h
section
variable {w : World} {a : Option Addr} {c : Nat} {l : List UInt8}
set_option maxRecDepth 100000 in
theorem refDecode_any (hb : Bytes w (.slice a l.length c) l) : Calls Tryz.prog 20 #[.slice a l.length c] w fun e w' => DecAns l w.heap.size e w' ∧ Kept [] w w' := by
 obtain ⟨W0, Gf⟩ : ∃ W0, Hid (W0 = w.alloc (.cells #[.int .i64 0, .int .i64 0, .string ⟨#[]⟩, .slice none 0 0, .slice none 0 0] 25)) := ⟨_, qI rfl⟩
 have Gj : Hid (Kept [] w W0) := qI (by rw [Gf.o]; exact (Kept.refl [] w).alloc _)
 have Jh : Hid (W0.heap.size = w.heap.size + 1) := qI (by rw [Gf.o]; simp)
 have Gt : Hid (ResAt W0 w.heap.size) := qI (by rw [Gf.o]; exact resAt_new w)
 have CP := qI (qparse_any (hb.kept0 Gj.o))
 have Yc := qI (hb.kept0 Gj.o)
 clear hb
 go_enter Tryz.func20, Tryz.ntmps20
 go_wp2_with fail
 rw [← Gf.o]
 refine CP.o.mono ?_
 rintro e w1 ⟨ha, hk1⟩
 have Gn := qI hk1
 have hw1 : w.heap.size < w1.heap.size := by have := hk1.size; have := Jh.o; omega
 clear hk1
 unfold ParseAns at ha
 cases hp : parseL l with
 | inl x =>
  rw [hp] at ha
  obtain ⟨hx, n, hn, rfl⟩ := ha
  have HD := qI (dec_parse hp)
  have Md := qI hx
  unfold zeroA
  obtain ⟨g1, g2⟩ := int_ne (a := x) (b := 0) (by omega)
  obtain ⟨W2, Gk⟩ : ∃ W2, Hid (W2 = w1.alloc (.cells #[.int .i64 0, .int .i64 0, .string ⟨#[]⟩, .slice none 0 0, .slice none 0 0] 25)) := ⟨_, qI rfl⟩
  have Gq : Hid (Kept [] W0 W2) := qI (by rw [Gk.o]; exact Gn.o.alloc _)
  have Mp := qI (Gt.o.kept Gq.o (by simp))
  obtain ⟨⟨d0, d1, d2, d3, d4⟩, f0, f1, f2, f3, f4⟩ := Mp.o.facts
  clear hp hx
  go_upto_region 2 with fail
  rw [← Gk.o]
  go_wp2_with fail
  obtain ⟨WF, e⟩ : ∃ WF, WF = set5 W2 w.heap.size (.int .i64 0) (.int .i64 0) (.string ⟨#[]⟩) (.slice none 0 0) (.slice none 0 0) := ⟨_, rfl⟩
  obtain ⟨KF, y0, y1, y2, y3, y4⟩ := Mp.o.stored e
  unfold set5 at e
  rw [← e]
  exact bodyPost_ret (v := .tuple #[.agg #[.int .i64 0, .int .i64 0, .string ⟨#[]⟩, .slice none 0 0, .slice none 0 0], .int .i64 x]) (by simp [results, Tryz.results20, go_sem, y0, y1, y2, y3, y4]) rfl ⟨decAns_bad HD.o Md.o, ((Gj.o.mono (Y := [w.heap.size]) (by simp)).trans' ((Gq.o.mono (by simp)).trans' KF)).fresh (by simp)⟩
 | inr v =>
  rw [hp] at ha
  obtain ⟨cs, ⟨k5, m5, s5, p5, i5, c5, q5, j5, d5, rfl⟩, rfl, ho⟩ := ha
  obtain ⟨W2, Gk⟩ : ∃ W2, Hid (W2 = w1.alloc (.cells #[.int .i64 k5, .int .i64 m5, .string s5, .slice p5 i5 c5, .slice q5 j5 d5] 25)) := ⟨_, qI rfl⟩
  have Gm : Hid (Kept [] w1 W2) := qI (by rw [Gk.o]; exact (Kept.refl [] w1).alloc _)
  have Gq := qI (Gn.o.then Gm.o)
  have Jd : Hid (W2.heap[w1.heap.size]? = some (.cells #[.int .i64 k5, .int .i64 m5, .string s5, .slice p5 i5 c5, .slice q5 j5 d5] 25 (0, 0))) := qI (by rw [Gk.o]; exact block_alloc rfl)
  have HO := qI ho
  have CE := qI (refEncode_any (ho.rep.kept0 Gm.o) (parse_small hp) (by decide))
  have HY := qI (dec_yes hp)
  have HN := qI (dec_no hp)
  have Yd := qI (parse_some hp)
  clear ho hp
  have x0 := cell_head (o := 0) (v := .int .i64 k5) Jd.o rfl
  have x1 := cell_head (o := 1) (v := .int .i64 m5) Jd.o rfl
  have x2 := cell_head (o := 2) (v := .string s5) Jd.o rfl
  have x3 := cell_head (o := 3) (v := .slice p5 i5 c5) Jd.o rfl
  have x4 := cell_head (o := 4) (v := .slice q5 j5 d5) Jd.o rfl
  go_upto_region 4 with fail
  rw [← Gk.o]
  go_wp2_with fail
  clear x0 x1 x2 x3 x4
  refine CE.o.mono ?_
  rintro e w3 ⟨⟨a3, c3, rfl, hb3⟩, hk3⟩
  have Gi := qI (Gq.o.then hk3)
  have Gr := qI (hk3.heap Jd.o (by simp))
  have Me := qI (Gm.o.then hk3)
  have hs1 := Bytes.toStr (Yc.o.kept0 Gi.o)
  have hs2 := Bytes.toStr hb3
  clear hb3 hk3
  obtain ⟨E1, E2, hE⟩ : ∃ E1 E2, encV 12 v = (E1, E2) := ⟨_, _, rfl⟩
  have Mf := qI (enc_some hE)
  rw [hE] at HY HN
  simp only [hE] at *
  have Mg := qI (Gt.o.kept Gi.o (by simp))
  obtain ⟨⟨d0, d1, d2, d3, d4⟩, f0, f1, f2, f3, f4⟩ := Mg.o.facts
  by_cases h3 : l = E1
  rotate_left
  ·have HD := qI (HN.o (fun e => h3 (Prod.mk.inj e).1.symm))
   obtain ⟨g1, g2⟩ := str_ne (a := strB E1) (b := strB l) (fun e => h3 (strB_inj e).symm)
   clear h3
   revert hs1 hs2 g1 g2
   generalize strB E1 = T1
   generalize strB l = T2
   intro hs1 hs2 g1 g2
   go_wp2_with fail
   obtain ⟨WF, e⟩ : ∃ WF, WF = set5 w3 w.heap.size (.int .i64 0) (.int .i64 0) (.string ⟨#[]⟩) (.slice none 0 0) (.slice none 0 0) := ⟨_, rfl⟩
   obtain ⟨KF, y0, y1, y2, y3, y4⟩ := Mg.o.stored e
   unfold set5 at e
   rw [← e]
   exact bodyPost_ret (v := .tuple #[.agg #[.int .i64 0, .int .i64 0, .string ⟨#[]⟩, .slice none 0 0, .slice none 0 0], .int .i64 60]) (by simp [results, Tryz.results20, go_sem, y0, y1, y2, y3, y4]) rfl ⟨decAns_bad HD.o (by decide), ((Gj.o.mono (Y := [w.heap.size]) (by simp)).trans' ((Gi.o.mono (by simp)).trans' KF)).fresh (by simp)⟩
  have HD := qI (HY.o (by
   rcases Mf.o with h | h
   ·rw [h3, h]
   ·exact absurd (h3.trans h) Yd.o))
  obtain ⟨g1, g2⟩ := str_eq (a := strB E1) (b := strB l) (by rw [h3])
  clear h3
  revert hs1 hs2 g1 g2
  generalize strB E1 = T1
  generalize strB l = T2
  intro hs1 hs2 g1 g2
  have x0 := cell_head (o := 0) (v := .int .i64 k5) Gr.o rfl
  have x1 := cell_head (o := 1) (v := .int .i64 m5) Gr.o rfl
  have x2 := cell_head (o := 2) (v := .string s5) Gr.o rfl
  have x3 := cell_head (o := 3) (v := .slice p5 i5 c5) Gr.o rfl
  have x4 := cell_head (o := 4) (v := .slice q5 j5 d5) Gr.o rfl
  go_wp2_with fail
  obtain ⟨WF, e⟩ : ∃ WF, WF = set5 w3 w.heap.size (.int .i64 k5) (.int .i64 m5) (.string s5) (.slice p5 i5 c5) (.slice q5 j5 d5) := ⟨_, rfl⟩
  obtain ⟨KF, y0, y1, y2, y3, y4⟩ := Mg.o.stored e
  unfold set5 at e
  rw [← e]
  have hz := Jh.o
  exact bodyPost_ret (v := .tuple #[.agg #[.int .i64 k5, .int .i64 m5, .string s5, .slice p5 i5 c5, .slice q5 j5 d5], .int .i64 0]) (by simp [results, Tryz.results20, go_sem, y0, y1, y2, y3, y4]) rfl
   ⟨decAns_ok (cs := [.int .i64 k5, .int .i64 m5, .string s5, .slice p5 i5 c5, .slice q5 j5 d5]) HD.o ⟨_, _, _, _, _, _, _, _, _, rfl⟩ (HO.o.move ((Me.o.mono (by simp)).trans' KF) (fun g hg => by simp at hg; omega) (by omega)), ((Gj.o.mono (Y := [w.heap.size]) (by simp)).trans' ((Gi.o.mono (by simp)).trans' KF)).fresh (by simp)⟩
end
theorem zero_rep (d : Nat) (w : World) : Rep (d + 1) (fun _ => True) w [.int .i64 0, .int .i64 0, .string ⟨#[]⟩, .slice none 0 0, .slice none 0 0] (leaf 0 0 ⟨#[]⟩ : VS (V d)) :=
 (OwnRep.rep (B := 0) (ownRep_leaf rfl rfl)).mono (fun _ _ _ => trivial)
section
variable {w : World} {a : Option Addr} {c : Nat} {l : List UInt8}
set_option maxRecDepth 100000 in
theorem decodes_any (hb : Bytes w (.slice a l.length c) l) (ht : Tabs w) :
  Calls Tryz.prog 4 #[.slice a l.length c] w fun e w' => e = .returned (.bool true) ∧ Kept [] w w' := by
 have HT := qI ht
 have HB := qI hb
 have CL : Hid (∀ w1, Kept [] w w1 → Calls Tryz.prog 12 #[] w1 fun e w' => e = .returned (.bool true) ∧ Kept [] w1 w') := qI (fun w1 k => lives_any (HT.o.kept0 k))
 clear hb ht
 by_cases hl : 5000 < l.length
 ·have hlI : (5000 : Int) < l.length := by omega
  clear hl
  go_enter Tryz.func4, Tryz.ntmps4
  go_wp2_with fail
  refine (CL.o _ (Kept.refl _ _)).mono ?_
  rintro e w1 ⟨rfl, hk1⟩
  go_wp2_with fail
  go_ret
  exact ⟨rfl, hk1⟩
 have hlI : (l.length : Int) ≤ 5000 := by omega
 clear hl
 go_enter Tryz.func4, Tryz.ntmps4
 go_wp2_with fail
 refine (decode_any HB.o HT.o).mono ?_
 rintro e w1 ⟨ha1, hk1⟩
 unfold DecAns at ha1
 have Gn := qI hk1
 clear hk1 hlI
 cases hd : decV l with
 | inl x =>
  rw [hd] at ha1
  obtain ⟨hx, rfl⟩ := ha1
  unfold zeroA
  obtain ⟨g1, g2⟩ := int_ne (a := x) (b := 0) (by omega)
  obtain ⟨W2, Gk⟩ : ∃ W2, Hid (W2 = w1.alloc (.cells #[.int .i64 0, .int .i64 0, .string ⟨#[]⟩, .slice none 0 0, .slice none 0 0] 25)) := ⟨_, qI rfl⟩
  have Gq : Hid (Kept [] w W2) := qI (by rw [Gk.o]; exact Gn.o.alloc _)
  have HA : Hid (BoxAt W2 w1.heap.size 0 0 ⟨#[]⟩ (.slice none 0 0) (.slice none 0 0)) := qI (by rw [Gk.o]; exact box_at _ _ _ _ _ _ _)
  have CD := qI (refDecode_any (HB.o.kept0 Gq.o))
  have HD := qI hd
  clear hx hd
  go_wp2_with fail
  rw [← Gk.o]
  refine CD.o.mono ?_
  rintro e w3 ⟨ha3, hk3⟩
  unfold DecAns at ha3
  rw [HD.o] at ha3
  obtain ⟨-, rfl⟩ := ha3
  unfold zeroA
  obtain ⟨W4, Jb⟩ : ∃ W4, Hid (W4 = w3.alloc (.cells #[.int .i64 0, .int .i64 0, .string ⟨#[]⟩, .slice none 0 0, .slice none 0 0] 25)) := ⟨_, qI rfl⟩
  have Gs : Hid (Kept [] W2 W4) := qI (by rw [Jb.o]; exact hk3.alloc _)
  have Mh : Hid (BoxAt W4 w3.heap.size 0 0 ⟨#[]⟩ (.slice none 0 0) (.slice none 0 0)) := qI (by rw [Jb.o]; exact box_at _ _ _ _ _ _ _)
  have Gg := qI (Gq.o.then Gs.o)
  clear hk3
  go_wp2_with fail
  rw [← Jb.o]
  refine (CL.o _ Gg.o).mono ?_
  rintro e w5 ⟨rfl, hk5⟩
  have Gh := qI (Gg.o.then hk5)
  obtain ⟨a0, a1, a2, a3, a4⟩ := HA.o.kept0 (Gs.o.then hk5)
  obtain ⟨b0, b1, b2, b3, b4⟩ := Mh.o.kept0 hk5
  have CE := qI (exact_any 1 (leaf 0 0 ⟨#[]⟩ : VS (V 0)) (leaf 0 0 ⟨#[]⟩ : VS (V 0)) (zero_rep 0 w5) (zero_rep 0 w5) (by exact ⟨by decide, by decide⟩))
  rw [show eqV 1 (leaf 0 0 ⟨#[]⟩ : VS (V 0)) (leaf 0 0 ⟨#[]⟩ : VS (V 0)) = true from (eqV_iff 1 _ _).2 rfl] at CE
  clear hk5
  go_wp2_with fail
  clear a0 a1 a2 a3 a4 b0 b1 b2 b3 b4
  refine CE.o.mono ?_
  rintro e w6 ⟨rfl, hk6⟩
  go_wp2_with fail
  go_ret
  exact ⟨rfl, Gh.o.then hk6⟩
 | inr v =>
  rw [hd] at ha1
  obtain ⟨cs, ⟨k5, m5, s5, p5, i5, c5, q5, j5, d5, rfl⟩, rfl, ho⟩ := ha1
  obtain ⟨W2, Gk⟩ : ∃ W2, Hid (W2 = w1.alloc (.cells #[.int .i64 k5, .int .i64 m5, .string s5, .slice p5 i5 c5, .slice q5 j5 d5] 25)) := ⟨_, qI rfl⟩
  have Gm : Hid (Kept [] w1 W2) := qI (by rw [Gk.o]; exact (Kept.refl [] w1).alloc _)
  have Gq : Hid (Kept [] w W2) := qI (Gn.o.then Gm.o)
  have HA : Hid (BoxAt W2 w1.heap.size k5 m5 s5 (.slice p5 i5 c5) (.slice q5 j5 d5)) := qI (by rw [Gk.o]; exact box_at _ _ _ _ _ _ _)
  have Mq := qI (ho.rep.kept0 Gm.o)
  have CD := qI (refDecode_any (HB.o.kept0 Gq.o))
  have Ye := qI (enc_dec hd)
  have Mr : Hid (Small 12 v) := qI (by
   unfold decV at hd
   cases hp : parseL l with
   | inl x => rw [hp] at hd; cases hd
   | inr u =>
    rw [hp] at hd
    dsimp only at hd
    split at hd
    ·injection hd with hd; subst hd; exact parse_small hp
    ·cases hd)
  have HD := qI hd
  clear ho hd
  go_wp2_with fail
  rw [← Gk.o]
  refine CD.o.mono ?_
  rintro e w3 ⟨ha3, hk3⟩
  unfold DecAns at ha3
  rw [HD.o] at ha3
  obtain ⟨cs, ⟨k6, m6, s6, p6, i6, c6, q6, j6, d6, rfl⟩, rfl, ho3⟩ := ha3
  obtain ⟨W4, Jb⟩ : ∃ W4, Hid (W4 = w3.alloc (.cells #[.int .i64 k6, .int .i64 m6, .string s6, .slice p6 i6 c6, .slice q6 j6 d6] 25)) := ⟨_, qI rfl⟩
  have Gv : Hid (Kept [] w3 W4) := qI (by rw [Jb.o]; exact (Kept.refl [] w3).alloc _)
  have Gs : Hid (Kept [] W2 W4) := qI (hk3.then Gv.o)
  have Mh : Hid (BoxAt W4 w3.heap.size k6 m6 s6 (.slice p6 i6 c6) (.slice q6 j6 d6)) := qI (by rw [Jb.o]; exact box_at _ _ _ _ _ _ _)
  have Yf := qI (ho3.rep.kept0 Gv.o)
  have Gg := qI (Gq.o.then Gs.o)
  clear hk3 ho3
  go_wp2_with fail
  rw [← Jb.o]
  refine (CL.o _ Gg.o).mono ?_
  rintro e w5 ⟨rfl, hk5⟩
  have Gh := qI (Gg.o.then hk5)
  have Jc := qI (Gs.o.then hk5)
  obtain ⟨a0, a1, a2, a3, a4⟩ := HA.o.kept0 Jc.o
  obtain ⟨b0, b1, b2, b3, b4⟩ := Mh.o.kept0 hk5
  have CE := qI (exact_any 12 v v (Mq.o.kept0 Jc.o) (Yf.o.kept0 hk5) Mr.o)
  rw [show eqV 12 v v = true from (eqV_iff 12 _ _).2 rfl] at CE
  clear hk5
  go_wp2_with fail
  clear a0 a1 a2 a3 a4 b0 b1 b2 b3 b4
  refine CE.o.mono ?_
  rintro e w6 ⟨rfl, hk6⟩
  have Jg := qI (Gh.o.then hk6)
  have Jk := qI (Jc.o.then hk6)
  obtain ⟨a0, a1, a2, a3, a4⟩ := HA.o.kept0 Jk.o
  have CN := qI (encode_any (Mq.o.kept0 Jk.o) Mr.o (by decide) (HT.o.kept0 Jg.o))
  rw [Ye.o] at CN
  clear hk6
  go_wp2_with fail
  clear a0 a1 a2 a3 a4
  refine CN.o.mono ?_
  rintro e w7 ⟨⟨p7, c7, rfl, hb7⟩, hk7⟩
  have hs1 := Bytes.toStr (HB.o.kept0 (Jg.o.then hk7))
  have hs2 := Bytes.toStr hb7
  have Yg := qI (Jg.o.then hk7)
  clear hb7 hk7
  revert hs1 hs2
  generalize strB l = T
  intro hs1 hs2
  go_wp2_with fail
  go_ret
  exact ⟨rfl, Yg.o⟩
end
end Go.Proofs.YtpbphdkjjoipnaaGreatDoor

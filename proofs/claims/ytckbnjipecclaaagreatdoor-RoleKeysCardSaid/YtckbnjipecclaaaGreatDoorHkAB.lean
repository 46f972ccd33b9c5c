/- Parts of one proof, merged: XGH XGQ XSp. -/
import Derived.Test.YtckbnjipecclaaaGreatDoorHkW
import Derived.Test.YtckbnjipecclaaaGreatDoorHkX
import Derived.Test.YtckbnjipecclaaaGreatDoorHkAA
import Derived.Test.YtckbnjipecclaaaGreatDoorHkT
import Derived.Test.YtckbnjipecclaaaGreatDoorHkM
import Derived.Test.YtckbnjipecclaaaGreatDoorHkA
import Derived.Test.YtckbnjipecclaaaGreatDoorHkO
import Derived.Test.YtckbnjipecclaaaGreatDoorHkD
import Derived.Laws.Cover1
set_option linter.all false
set_option maxHeartbeats 12800000
set_option maxRecDepth 10000
set_option linter.unusedVariables false
set_option linter.unusedSimpArgs false
set_option linter.unnecessarySimpa false
namespace Go.Proofs.YtckbnjipecclaaaGreatDoor
open Go.RowKit
theorem fint_eight {n : Nat} (u : VS (V n)) (bad : Bool) (s : ByteArray) : fint u bad s 8 256 = fint u bad s 0 256 ∨ ((fint u bad s 8 256).2 = true ∧ ((fint u bad s 0 256).2 = true ∨ (fint u bad s 0 256).1 < 8)) := by
 rw [fint_rget, fint_rget]
 rcases rget_two u bad s 3 with h | ⟨x, h⟩
 ·rw [h]; exact .inl rfl
 ·rw [h]
  simp only
  by_cases h8 : 8 ≤ numV n x ∧ numV n x ≤ 256
  ·rw [if_pos h8, if_pos (by omega)]; exact .inl rfl
  ·rw [if_neg h8]
   by_cases h0 : 0 ≤ numV n x ∧ numV n x ≤ 256
   ·rw [if_pos h0]; exact .inr ⟨rfl, .inr (by show numV n x < 8; omega)⟩
   ·rw [if_neg h0]; exact .inl rfl
theorem readKey_turn {n : Nat} (v : VS (V (n + 1))) : readKeyV v =
  let t := ftext v (decide (v.kind ≠ 6)) ⟨#[107, 101, 121, 116, 121, 112, 101]⟩ 64
  let s := ftext v t.2 ⟨#[115, 99, 104, 101, 109, 101]⟩ 64
  let m := fmap v s.2 ⟨#[107, 101, 121, 118, 97, 108]⟩
  let u : VS (V n) := m.1.getD (zeroV : VS (V n))
  let bi := fint u (decide (u.kind ≠ 6)) ⟨#[98, 105, 116, 115]⟩ 8 256
  let he := fint u bi.2 ⟨#[104, 101, 105, 103, 104, 116]⟩ 0 6
  let pu := ftext u he.2 ⟨#[112, 117, 98, 108, 105, 99]⟩ 64
  match unhexS pu.1 with
  | none => none
  | some l => if m.2 = false ∧ pu.2 = false ∧ l.length = 32 ∧ t.1 = ⟨#[108, 97, 109, 112, 111, 114, 116, 45, 109, 101, 114, 107, 108, 101]⟩ ∧ s.1 = ⟨#[115, 104, 97, 50, 53, 54]⟩ ∧ mayKey ⟨bi.1, he.1, l⟩ = true then some ⟨bi.1, he.1, l⟩ else none := by
 unfold readKeyV readS
 simp only
 generalize (fmap v (ftext v (ftext v (decide (v.kind ≠ 6)) ⟨#[107, 101, 121, 116, 121, 112, 101]⟩ 64).2 ⟨#[115, 99, 104, 101, 109, 101]⟩ 64).2 ⟨#[107, 101, 121, 118, 97, 108]⟩) = m
 generalize (m.1.getD (zeroV : VS (V n)) : VS (V n)) = u
 rcases fint_eight u (decide (u.kind ≠ 6)) ⟨#[98, 105, 116, 115]⟩ with h | ⟨h8, h0⟩
 ·rw [h]
  rfl
 ·have f1 : ∀ s lo hi, fint u true s lo hi = (0, true) := fun _ _ _ => rfl
  have f2 : ∀ s m, (ftext u true s m).2 = true := fun _ _ => rfl
  have f3 : ∀ s m, (ftext u true s m).1 = ⟨#[]⟩ := fun _ _ => rfl
  have e1 : (unhexS (⟨#[]⟩ : ByteArray)) = some [] := by decide +kernel
  rw [h8, f1]
  simp only [f2, f3, e1]
  rw [if_neg (fun h => by cases h.2.1)]
  rcases h0 with h0 | h0
  ·rw [h0, f1]
   simp only [f2, f3, e1]
   rw [if_neg (fun h => by cases h.2.1)]
  ·split
   ·rfl
   ·rw [if_neg]
    rintro ⟨-, -, -, -, -, hm⟩
    unfold mayKey mayBits at hm
    simp only [Bool.and_eq_true, decide_eq_true_eq] at hm
    omega
def ReadAnsR (e : Ending) : Option KeyS → Prop
 | none => e = .returned (.tuple #[.agg (keyA zeroKey), .bool false])
 | some k => e = .returned (.tuple #[.agg (keyA k), .bool true])
theorem GivenR.rep {n : Nat} {g : Nat} {w' : World} {e : Ending} {r : Option (V (n + 1))} (h : GivenR (n + 1) g w' e r) : ∃ k m s p i c q j d, e = .returned (.agg #[.int .i64 k, .int .i64 m, .string s, .slice p i c, .slice q j d]) ∧ Rep (n + 1) (fun _ => True) w' [.int .i64 k, .int .i64 m, .string s, .slice p i c, .slice q j d] (r.getD (zeroV : VS (V n)) : VS (V n)) := by
 cases r with
 | none => exact ⟨_, _, _, _, _, _, _, _, _, h, rep_zero _ _⟩
 | some x =>
  obtain ⟨cs, rfl, h2⟩ := h
  obtain ⟨k, m, s, p, i, c, q, j, d, rfl⟩ := h2.conv
  exact ⟨k, m, s, p, i, c, q, j, d, rfl, h2.mono (fun _ _ _ => trivial)⟩
def copyL (l : List UInt8) (j : Nat) : List UInt8 := l.take j ++ List.replicate (32 - j) 0
theorem copyL_len {l : List UInt8} (hl : l.length = 32) {j : Nat} (hj : j ≤ 32) : (copyL l j).length = 32 := by
 simp [copyL, hl]; omega
theorem copyL_set {l : List UInt8} (hl : l.length = 32) {j : Nat} (hj : j < 32) : (copyL l j).set j (l[j]'(by omega)) = copyL l (j + 1) := by
 unfold copyL
 have h1 : (l.take j).length = j := by rw [List.length_take]; omega
 rw [List.set_append_right _ _ (by omega), h1, Nat.sub_self, show 32 - j = (32 - (j + 1)) + 1 by omega, List.replicate_succ, List.set_cons_zero, List.take_succ_eq_append_getElem (by omega), List.append_assoc]
 rfl
theorem keyA_set (b h : Int) (r : List UInt8) (j : Nat) (c : UInt8) : (keyA ⟨b, h, r⟩).setIfInBounds (2 + j) (.int .u8 c.toNat) = keyA ⟨b, h, r.set j c⟩ := by
 unfold keyA keyL
 rw [List.setIfInBounds_toArray, show 2 + j = j + 1 + 1 by omega, List.set_cons_succ, List.set_cons_succ, List.map_set]
 rfl
theorem refReadKey_any {n : Nat} {S : Nat → Prop} {w : World} {cs : List Value} {v : VS (V (n + 1))} (h : Rep (n + 2) S w cs v) (hs : Small (n + 2) v) :
  Calls Tryz.prog 10 #[.agg cs.toArray] w fun e w' => ReadAnsR e (readKeyV v) ∧ Kept [] w w' := by
 obtain ⟨kd, nm, st, pa, la, ca, pb, lb, cb, rfl⟩ := h.conv
 obtain ⟨W0, Gh⟩ : ∃ W0, Hid (W0 = (w.alloc (.cells #[.int .i64 kd, .int .i64 nm, .string st, .slice pa la ca, .slice pb lb cb] 28)).alloc (.cells (keyA zeroKey) 24)) := ⟨_, qI rfl⟩
 have Gz : Hid (Kept [] w W0) := qI (by rw [Gh.o]; exact ((Kept.refl _ w).alloc _).alloc _)
 have Jo : Hid (BoxAt W0 w.heap.size kd nm st (.slice pa la ca) (.slice pb lb cb)) := qI (by rw [Gh.o]; exact (box_at _ _ _ _ _ _ _).kept0 ((Kept.refl [] _).alloc _))
 have Gm : Hid (KeyAt W0 (w.heap.size + 1) zeroKey) := qI (by rw [Gh.o]; exact block_alloc (by simp))
 have Jp : Hid (W0.heap.size = w.heap.size + 2) := qI (by rw [Gh.o]; simp)
 have COF := qI (refOf_any (h.kept0 Gz.o))
 have Gn : Hid (v.m.length ≤ 1000000) := qI (by have := hs.few; omega)
 obtain ⟨⟨t1, tb⟩, HT⟩ : ∃ x, Hid (ftext v (decide (v.kind ≠ 6)) ⟨#[107, 101, 121, 116, 121, 112, 101]⟩ 64 = x) := ⟨_, qI rfl⟩
 obtain ⟨⟨s1, sb⟩, HS⟩ : ∃ x, Hid (ftext v tb ⟨#[115, 99, 104, 101, 109, 101]⟩ 64 = x) := ⟨_, qI rfl⟩
 obtain ⟨⟨m1, mb⟩, HM⟩ : ∃ x, Hid (fmap v sb ⟨#[107, 101, 121, 118, 97, 108]⟩ = x) := ⟨_, qI rfl⟩
 obtain ⟨u, HU⟩ : ∃ u : VS (V n), Hid (u = m1.getD (zeroV : VS (V n))) := ⟨_, qI rfl⟩
 obtain ⟨⟨bi, bb⟩, Gp⟩ : ∃ x, Hid (fint u (decide (u.kind ≠ 6)) ⟨#[98, 105, 116, 115]⟩ 8 256 = x) := ⟨_, qI rfl⟩
 obtain ⟨⟨he, hb⟩, Ja⟩ : ∃ x, Hid (fint u bb ⟨#[104, 101, 105, 103, 104, 116]⟩ 0 6 = x) := ⟨_, qI rfl⟩
 obtain ⟨⟨p1, pb'⟩, Gq⟩ : ∃ x, Hid (ftext u hb ⟨#[112, 117, 98, 108, 105, 99]⟩ 64 = x) := ⟨_, qI rfl⟩
 have Gr : Hid (u.m.length ≤ 1000000) := qI (by have := fmap_small (bad := sb) (s := ⟨#[107, 101, 121, 118, 97, 108]⟩) hs; rw [HM.o, ← HU.o] at this; have := this.few; omega)
 have Jq : Hid (p1.size ≤ 64) := qI (by have := ftext_le u hb ⟨#[112, 117, 98, 108, 105, 99]⟩ 64; rw [show ((64 : Nat) : Int) = 64 from rfl, Gq.o] at this; exact this)
 have Jb : Hid (readKeyV v = match unhexS p1 with
  | none => none
  | some l => if mb = false ∧ pb' = false ∧ l.length = 32 ∧ t1 = ⟨#[108, 97, 109, 112, 111, 114, 116, 45, 109, 101, 114, 107, 108, 101]⟩ ∧ s1 = ⟨#[115, 104, 97, 50, 53, 54]⟩ ∧ mayKey ⟨bi, he, l⟩ = true then some ⟨bi, he, l⟩ else none) := qI (by
  rw [readKey_turn]
  simp only [HT.o, HS.o, HM.o, ← HU.o, Gp.o, Ja.o, Gq.o])
 have Jr : Hid (wf64I bi) := qI (by
  have h9 : (fint u (decide (u.kind ≠ 6)) ⟨#[98, 105, 116, 115]⟩ 8 256).1 = 0 ∨ (8 ≤ (fint u (decide (u.kind ≠ 6)) ⟨#[98, 105, 116, 115]⟩ 8 256).1 ∧ (fint u (decide (u.kind ≠ 6)) ⟨#[98, 105, 116, 115]⟩ 8 256).1 ≤ 256) := by
   rw [fint_rget]
   rcases rget_two u (decide (u.kind ≠ 6)) ⟨#[98, 105, 116, 115]⟩ 3 with h | ⟨x, h⟩
   ·rw [h]; exact .inl rfl
   ·rw [h]
    simp only
    by_cases q : 8 ≤ numV n x ∧ numV n x ≤ 256
    ·rw [if_pos q]; exact .inr q
    ·rw [if_neg q]; exact .inl rfl
  rw [Gp.o] at h9
  simp only at h9
  exact ⟨by omega, by omega⟩)
 clear h hs
 go_enter Tryz.func10, Tryz.ntmps10
 go_upto_region 1 with fail
 change Code.wp _ _ _ _ ((w.alloc (.cells #[.int .i64 kd, .int .i64 nm, .string st, .slice pa la ca, .slice pb lb cb] 28)).alloc (.cells (keyA zeroKey) 24))
 rw [← Gh.o]
 obtain ⟨c0, c1, c2, c3, c4⟩ := Jo.o
 go_upto_region 2 with (go_at_call 46; refine COF.o.mono ?_; rintro e w1 ⟨⟨g1, hg1, rfl, hf⟩, hk⟩; have Js := qI hg1; have Jt := qI hf; have Ju := qI hk; clear hg1 hf hk c0 c1 c2 c3 c4)
 have Jv : Hid (Kept [g1] W0 w1) := qI (Ju.o.mono (by simp))
 have CT1 : Hid _ := qI (rtext_any Jt.o Gn.o ⟨#[107, 101, 121, 116, 121, 112, 101]⟩ 64)
 rw [HT.o] at CT1
 have CT2 : Hid (∀ w1, FldR (n + 1) w1 g1 v tb → _) := qI (fun w1 (hf : FldR (n + 1) w1 g1 v tb) => rtext_any hf Gn.o ⟨#[115, 99, 104, 101, 109, 101]⟩ 64)
 rw [HS.o] at CT2
 have CM : Hid (∀ w1, FldR (n + 1) w1 g1 v sb → _) := qI (fun w1 (hf : FldR (n + 1) w1 g1 v sb) => rmap_any hf Gn.o ⟨#[107, 101, 121, 118, 97, 108]⟩)
 rw [HM.o] at CM
 go_upto_region 3 with first
  | (have Jw := Jc; go_at_call 47; refine (CT2.o _ Jc.o).mono ?_; rintro e w3 ⟨rfl, hf, hk⟩; simp only at hf ⊢; have Jx := qI hf; have Jy : Hid (Kept [g1] W0 w3) := qI (Jz.o.trans' hk); clear hf hk)
  | (go_at_call 47; refine CT1.o.mono ?_; rintro e w2 ⟨rfl, hf, hk⟩; simp only at hf ⊢; have Jc := qI hf; have Jz : Hid (Kept [g1] W0 w2) := qI (Jv.o.trans' hk); clear hf hk)
 go_upto_region 4 with first
  | (go_at_call 48; refine (CM.o _ Jx.o).mono ?_; rintro e w4 ⟨hgv, hf, hk⟩; simp only at hf; obtain ⟨k3, m3, s3, p3, i3, c3, q3, j3, e3, rfl, hrp⟩ := GivenR.rep hgv; rw [← HU.o] at hrp; have Ma := qI hrp; have Jd := qI hf; have Mb : Hid (Kept [g1] W0 w4) := qI (Jy.o.trans' hk); clear hf hk hgv hrp)
  | (go_at_call 46; refine (refOf_any Ma.o).mono ?_; rintro e w5 ⟨⟨g2, hg2, rfl, hf⟩, hk⟩; have Mc := qI hg2; have Md := qI hf; have Me := qI (Jd.o.kept0 hk); have Mf : Hid (Kept [g1] W0 w5) := qI (Mb.o.then hk); clear hg2 hf hk)
 have Ga : Hid (g1 < g2) := qI (by have := Jd.o.lt; have := Mc.o; omega)
 have Gs : Hid (Kept [g1, g2] W0 w5) := qI (Mf.o.mono (by simp))
 have CI1 : Hid _ := qI (rint_any Md.o Gr.o ⟨#[98, 105, 116, 115]⟩ 8 256)
 rw [Gp.o] at CI1
 have CI2 : Hid (∀ w1, FldR n w1 g2 u bb → _) := qI (fun w1 (hf : FldR n w1 g2 u bb) => rint_any hf Gr.o ⟨#[104, 101, 105, 103, 104, 116]⟩ 0 6)
 rw [Ja.o] at CI2
 have CT3 : Hid (∀ w1, FldR n w1 g2 u hb → _) := qI (fun w1 (hf : FldR n w1 g2 u hb) => rtext_any hf Gr.o ⟨#[112, 117, 98, 108, 105, 99]⟩ 64)
 rw [Gq.o] at CT3
 go_upto_region 5 with first
  | (have Jw := Je; go_at_call 49; refine (CI2.o _ Je.o).mono ?_; rintro e w7 ⟨rfl, hf, hk⟩; simp only at hf ⊢; have Jf := qI hf; have Mg := qI (Mh.o.kept hk (by intro i hi; simp at hi; subst hi; exact Ga.o)); have Mi : Hid (Kept [g1, g2] W0 w7) := qI (Mj.o.trans' (hk.mono (by simp))); clear hf hk)
  | (go_at_call 49; refine CI1.o.mono ?_; rintro e w6 ⟨rfl, hf, hk⟩; simp only at hf ⊢; have Je := qI hf; have Mh := qI (Me.o.kept hk (by intro i hi; simp at hi; subst hi; exact Ga.o)); have Mj : Hid (Kept [g1, g2] W0 w6) := qI (Gs.o.trans' (hk.mono (by simp))); clear hf hk)
  | (refine wpList_store34 (by rfl) (.tmp 8) (.tmp 25) (by rfl) (g := w7.heap.size) (k := ⟨bi, he, zeros32⟩) (k0 := zeroKey) (block_alloc rfl) (by rfl) (by rfl) (by rfl) (by rfl) ?_; intro w8 h8 hk8; have Jg := qI h8; have Gt : Hid (Kept [] w7 w8) := qI (((Kept.refl [] w7).alloc _).trans hk8 (by intro i hi; simp at hi; subst hi; exact .inr (Nat.le_refl _))); clear h8 hk8; simp only [Act.put])
 obtain ⟨kb, Gi⟩ : ∃ kb, Hid (kb = w7.heap.size) := ⟨_, qI rfl⟩
 rw [← Gi.o] at Jg ⊢
 have Mk : Hid (Kept [g1, g2] W0 w8) := qI (Mi.o.then Gt.o)
 have Ml := qI (Jf.o.kept0 Gt.o)
 have Mm := qI (Mg.o.kept0 Gt.o)
 have Gj : Hid (g2 < kb ∧ w.heap.size + 2 ≤ kb ∧ w.heap.size + 2 ≤ g1) := qI (by have h0 := Jp.o; have h1 := Js.o; have h2 := Ga.o; have h3 := Jf.o.lt; have := Gi.o; omega)
 have Gu : Hid (∀ w9, Kept [g1, g2] W0 w9 → Kept [] w w9) := qI (fun w9 hk => Gz.o.trans hk (by
  have h1 := Gj.o
  have h2 := Ga.o
  intro i hi
  simp at hi
  rcases hi with rfl | rfl
  ·exact .inr (by omega)
  ·exact .inr (by omega)))
 have Gb : Hid (∀ w9, Kept [g1, g2] W0 w9 → KeyAt w9 (w.heap.size + 1) zeroKey) := qI (fun w9 hk => hk.heap Gm.o (by
  have h1 := Gj.o
  have h2 := Ga.o
  simp
  omega))
 have Gl : Hid (zeroKey.root.length = 32) := qI (by rfl)
 have CU : Hid (∀ w1 : World, Calls Tryz.prog 50 #[.string p1] w1 fun e w' => (∃ ua L uc okb, e = .returned (.tuple #[.slice ua L uc, .bool okb]) ∧ Hid ((okb = false ∧ unhexS p1 = none) ∨ ∃ l, okb = true ∧ unhexS p1 = some l ∧ L = l.length ∧ Bytes w' (.slice ua l.length uc) l ∧ ∀ g, vblk (.slice ua l.length uc) = some g → w1.heap.size ≤ g)) ∧ Kept [] w1 w') := qI (fun w1 => by
  refine (refUnhex_any p1 (by have := Jq.o; omega) w1).mono ?_
  rintro e w' ⟨h9, hk9⟩
  cases hu : unhexS p1 with
  | none => rw [hu] at h9; exact ⟨⟨none, 0, 0, false, h9, qI (.inl ⟨rfl, rfl⟩)⟩, hk9⟩
  | some l =>
   rw [hu] at h9
   obtain ⟨a, c, rfl, h8, h7⟩ := h9
   exact ⟨⟨a, l.length, c, true, rfl, qI (.inr ⟨l, rfl, rfl, rfl, h8, h7⟩)⟩, hk9⟩)
 go_upto_region 6 with first
  | (go_at_call 50; refine (CU.o _).mono ?_; rintro e w10 ⟨⟨ua, L, uc, okb, rfl, Jh⟩, hk⟩; have Gv := qI (Mn.o.kept0 hk); have Gw := qI (Mo.o.kept0 hk); have Ge : Hid (Kept [g1, g2] W0 w10) := qI (Mp.o.then hk); have Gg := qI (KeyAt.kept0 Ji.o hk); have Mq := qI (Nat.lt_of_lt_of_le (lt_of_block Ji.o) (Nat.le_refl _)); clear hk)
  | (go_at_call 47; refine (CT3.o _ Ml.o).mono ?_; rintro e w9 ⟨rfl, hf, hk⟩; simp only at hf ⊢; have Mn := qI hf; have Mo := qI (Mm.o.kept hk (by intro i hi; simp at hi; subst hi; exact Ga.o)); have Mp : Hid (Kept [g1, g2] W0 w9) := qI (Mk.o.trans' (hk.mono (by simp))); have Ji : Hid (KeyAt w9 kb ⟨bi, he, zeros32⟩) := qI (hk.heap Jg.o (by have := Gj.o; simp; omega)); clear hf hk)
 obtain ⟨d1, -⟩ := Gw.o.c5
 obtain ⟨d2, -⟩ := Gv.o.c5
 have CMY := qI (refMayKey_any ⟨bi, he, zeros32⟩ Jr.o w10)
 obtain ⟨mr, Jj⟩ : ∃ mr, Hid (mr = mayKey ⟨bi, he, zeros32⟩) := ⟨_, qI rfl⟩
 rw [← Jj.o] at CMY
 have Jk : Hid (∀ l, mayKey ⟨bi, he, l⟩ = mr) := qI (fun l => by rw [Jj.o]; rfl)
 by_cases hg : mb = false ∧ pb' = false ∧ okb = true ∧ L = 32 ∧ t1 = ⟨#[108, 97, 109, 112, 111, 114, 116, 45, 109, 101, 114, 107, 108, 101]⟩ ∧ s1 = ⟨#[115, 104, 97, 50, 53, 54]⟩ ∧ mr = true
 rotate_left
 ·have Mr : Hid (readKeyV v = none) := qI (by
   rw [Jb.o]
   rcases Jh.o with ⟨-, h2⟩ | ⟨l, h1, h2, h3, -, -⟩
   ·rw [h2]
   ·rw [h2]
    exact if_neg (fun q => hg ⟨q.1, q.2.1, h1, by rw [h3]; exact q.2.2.1, q.2.2.2.1, q.2.2.2.2.1, by rw [← Jk.o l]; exact q.2.2.2.2.2⟩))
  have hd : mb = true ∨ (mb = false ∧ pb' = true) ∨ (mb = false ∧ pb' = false ∧ okb = false) ∨ (mb = false ∧ pb' = false ∧ okb = true ∧ ((L : Int) != 32) = true) ∨ (mb = false ∧ pb' = false ∧ okb = true ∧ ((L : Int) != 32) = false ∧ ¬ t1.toList = [108, 97, 109, 112, 111, 114, 116, 45, 109, 101, 114, 107, 108, 101]) ∨ (mb = false ∧ pb' = false ∧ okb = true ∧ ((L : Int) != 32) = false ∧ t1.toList = [108, 97, 109, 112, 111, 114, 116, 45, 109, 101, 114, 107, 108, 101] ∧ ¬ s1.toList = [115, 104, 97, 50, 53, 54]) ∨ (mb = false ∧ pb' = false ∧ okb = true ∧ ((L : Int) != 32) = false ∧ t1.toList = [108, 97, 109, 112, 111, 114, 116, 45, 109, 101, 114, 107, 108, 101] ∧ s1.toList = [115, 104, 97, 50, 53, 54] ∧ mr = false) := by
   rcases Bool.eq_false_or_eq_true mb with a1 | a1
   ·exact .inl a1
   rcases Bool.eq_false_or_eq_true pb' with a2 | a2
   ·exact .inr (.inl ⟨a1, a2⟩)
   rcases Bool.eq_false_or_eq_true okb with a3 | a3
   rotate_left
   ·exact .inr (.inr (.inl ⟨a1, a2, a3⟩))
   by_cases a4 : L = 32
   rotate_left
   ·exact .inr (.inr (.inr (.inl ⟨a1, a2, a3, (int_ne (a := (L : Int)) (b := 32) (by omega)).2⟩)))
   have b4 := (int_eq (a := (L : Int)) (b := 32) (by omega)).2
   by_cases a5 : t1 = ⟨#[108, 97, 109, 112, 111, 114, 116, 45, 109, 101, 114, 107, 108, 101]⟩
   rotate_left
   ·exact .inr (.inr (.inr (.inr (.inl ⟨a1, a2, a3, b4, fun e => a5 (toList_inj (e.trans lm_list.symm))⟩))))
   have b5 : t1.toList = [108, 97, 109, 112, 111, 114, 116, 45, 109, 101, 114, 107, 108, 101] := by rw [a5]; exact lm_list
   by_cases a6 : s1 = ⟨#[115, 104, 97, 50, 53, 54]⟩
   rotate_left
   ·exact .inr (.inr (.inr (.inr (.inr (.inl ⟨a1, a2, a3, b4, b5, fun e => a6 (toList_inj (e.trans sha_list.symm))⟩)))))
   refine .inr (.inr (.inr (.inr (.inr (.inr ⟨a1, a2, a3, b4, b5, by rw [a6]; exact sha_list, ?_⟩)))))
   rcases Bool.eq_false_or_eq_true mr with a7 | a7
   ·exact absurd ⟨a1, a2, a3, a4, a5, a6, a7⟩ hg
   ·exact a7
  clear hg
  rcases hd with rfl | ⟨rfl, rfl⟩ | ⟨rfl, rfl, rfl⟩ | ⟨rfl, rfl, rfl, f1⟩ | ⟨rfl, rfl, rfl, f1, f2⟩ | ⟨rfl, rfl, rfl, f1, f2, f4⟩ | ⟨rfl, rfl, rfl, f1, f2, f4, rfl⟩
  all_goals
   have hex : ∃ w11, w11 = w10 := ⟨_, rfl⟩
   go_wp2_with first
    | (refine wpList_load34g (by rfl) (.tmp 8) (by rfl) Gg.o (by rfl) (by rfl) ?_)
    | (go_at_call 51; refine CMY.o.mono ?_; rintro e w12 ⟨rfl, hk⟩; have Gc : Hid (Kept [g1, g2] W0 w12) := qI (Ge.o.then hk); clear hk)
    | (refine wpList_store34 (by rfl) (.tmp 2) (.tmp 64) (by rfl) (g := w.heap.size + 1) (k := zeroKey) (by first | exact Gb.o _ Gc.o | exact Gb.o _ Ge.o) Gl.o Gl.o (by rfl) (by rfl) ?_; intro w20 h20 hk20; have H20 := qI h20; have Gf := qI hk20; clear h20 hk20; simp only [Act.put])
   have hres := H20.o.var Gl.o
   refine bodyPost_ret (v := .tuple #[.agg (keyA zeroKey), .bool false]) (by simp only [results, Tryz.results10]; simp [hres, Sem.run_bind, asAddr, Act.put]) rfl ?_
   rw [Mr.o]
   first
    | exact ⟨rfl, (Gu.o _ Gc.o).trans Gf.o (by intro i hi; simp at hi; subst hi; exact .inr (by omega))⟩
    | exact ⟨rfl, (Gu.o _ Ge.o).trans Gf.o (by intro i hi; simp at hi; subst hi; exact .inr (by omega))⟩
 ·obtain ⟨rfl, rfl, rfl, hL, ht, hs, rfl⟩ := hg
  obtain ⟨l, hl, Ms, hub, huv⟩ : ∃ l, l.length = 32 ∧ Hid (readKeyV v = some ⟨bi, he, l⟩) ∧ Bytes w10 (.slice ua l.length uc) l ∧ ∀ g, vblk (.slice ua l.length uc) = some g → kb < g := by
   rcases Jh.o with ⟨h1, -⟩ | ⟨l, -, h2, h3, h4, h5⟩
   ·cases h1
   ·refine ⟨l, by rw [← h3]; exact hL, qI ?_, h4, fun g hgg => Nat.lt_of_lt_of_le Mq.o (h5 g hgg)⟩
    rw [Jb.o, h2]
    exact if_pos ⟨rfl, rfl, by rw [← h3]; exact hL, ht, hs, Jk.o l⟩
  subst hL
  have f1 : ((32 : Int) != 32) = false := rfl
  have f2 : t1.toList = [108, 97, 109, 112, 111, 114, 116, 45, 109, 101, 114, 107, 108, 101] := by rw [ht]; exact lm_list
  have f4 : s1.toList = [115, 104, 97, 50, 53, 54] := by rw [hs]; exact sha_list
  rw [hl] at hub huv
  have Gd := qI hl
  have Mt : Hid (Bytes w10 (.slice ua 32 uc) l) := qI hub
  have Mu := qI huv
  clear ht hs hub huv hl
  go_upto_region 8 with first
   | (refine wpList_load34g (by rfl) (.tmp 8) (by rfl) Gg.o (by rfl) (by rfl) ?_)
   | (go_at_call 51; refine CMY.o.mono ?_; rintro e w12 ⟨rfl, hk⟩; have Gk := qI hk; have Gc : Hid (Kept [g1, g2] W0 w12) := qI (Ge.o.then hk); clear hk)
  have Gx := qI (KeyAt.kept0 Gg.o Gk.o)
  clear d1 d2 f1 f2 f4
  go_wp2_with fail
  go_loopw [11] (fun i wr => ∃ j : Nat, i = .int .i64 j ∧ j ≤ 32 ∧ KeyAt wr kb ⟨bi, he, copyL l j⟩ ∧ Kept [kb] w12 wr) (fun i _ => 32 - (intOf i).toNat)
  case atStart => exact ⟨0, rfl, Nat.zero_le _, Gx.o, Kept.refl _ _⟩
  case round =>
   obtain ⟨j, rfl, hj, hkj, hkr⟩ := hrel
   have Jl := qI hkj
   have Jm := qI hkr
   by_cases hlt : j < 32
   ·have hltI : (j : Int) < 32 := by omega
    obtain ⟨ug, uo, rfl, p0⟩ := Bytes.at (w := w12) (l := l) (c := uc) (a := ua) (by rw [Gd.o]; exact Slc.kept0 Mt.o Gk.o) (k := j) (by rw [Gd.o]; exact hlt)
    have Mv : Hid (ug ≠ kb) := qI (by have := Mu.o ug rfl; omega)
    have q0 := hkr.cell p0 (by have := Mv.o; simpa using this)
    have hsz : 2 + j < (keyA ⟨bi, he, copyL l j⟩).size := by simp [keyA, keyL, copyL_len Gd.o hj]; omega
    have o0 := cell_head (o := 2 + j) (v := (keyA ⟨bi, he, copyL l j⟩)[2 + j]) hkj (Array.getElem?_eq_getElem hsz)
    have f0 := free_head (o := 2 + j) hkj
    have Gy : Hid ((keyA ⟨bi, he, copyL l j⟩).setIfInBounds (2 + j) (.int .u8 (l[j]'(by rw [Gd.o]; exact hlt)).toNat) = keyA ⟨bi, he, copyL l (j + 1)⟩) := qI (by rw [keyA_set, copyL_set Gd.o hlt])
    revert q0 Gy o0
    generalize l[j]'(by rw [Gd.o]; exact hlt) = c
    generalize (keyA ⟨bi, he, copyL l j⟩)[2 + j] = old
    intro o0 q0 Gy
    have Jn := qI hlt
    clear p0 hkj hkr hsz hlt
    go_wp2_with fail
    case roundEnd =>
     exact ⟨⟨j + 1, by go_num, by have := Jn.o; omega, block_setCell Jl.o Gy.o, Jm.o.trans' ((Kept.refl [kb] wr).setCell (.inl (by simp)) _)⟩, by have := Jn.o; simp [intOf]; omega⟩
   ·obtain rfl : j = 32 := by omega
    have Mw : Hid (KeyAt wr kb ⟨bi, he, l⟩) := qI (by
     have h9 := Jl.o
     rw [show copyL l 32 = l by unfold copyL; rw [List.take_of_length_le (by rw [Gd.o]; exact Nat.le_refl _)]; simp] at h9
     exact h9)
    have Mx := qI (hkr.heap (Gb.o _ Gc.o) (by have := Gj.o; simp; omega))
    clear hkj hkr
    go_wp2_with first
     | (refine wpList_load34 (by rfl) (.tmp 8) (by rfl) Mw.o Gd.o (by rfl) ?_)
     | (refine wpList_store34 (by rfl) (.tmp 2) (.tmp 76) (by rfl) (g := w.heap.size + 1) (k := ⟨bi, he, l⟩) Mx.o Gl.o Gd.o (by rfl) (by rfl) ?_; intro w20 h20 hk20; have H20 := qI h20; have Gf := qI hk20; clear h20 hk20; simp only [Act.put])
    have hres := H20.o.var Gd.o
    refine bodyPost_ret (v := .tuple #[.agg (keyA ⟨bi, he, l⟩), .bool true]) (by simp only [results, Tryz.results10]; simp [hres, Sem.run_bind, asAddr, Act.put]) rfl ?_
    rw [Ms.o]
    exact ⟨rfl, ((Gu.o _ Gc.o).trans Jm.o (by intro i hi; simp at hi; subst hi; exact .inr (by have := Gj.o; omega))).trans Gf.o (by intro i hi; simp at hi; subst hi; exact .inr (by omega))⟩
section
variable {P : Program} {ops : Array Oper} {Q : Exit → Act → World → Prop} {md : Region.Mode} {S : World → Prop} {L : Nat}
theorem wpAnyT_twoB {O : Array Oper} {i j : Nat} {oi oj : Oper} {fuel : Nat} {listed : Array Bool} {a : Act} {w : World} (hO : O = ops) (hi : ops[i]? = some oi) (hj : ops[j]? = some oj) (hr : Region.ready md ops listed = [i, j])
  (hwi : Region.wanted oi (yielded ops a.tmps) = true) (hwj : Region.wanted oj (yielded ops a.tmps) = true)
  (h1 : ∀ K : Act → World → Prop, (∀ a' w', (i = L ∨ S w') → wpAnyT P md O Q S L fuel (listed.setIfInBounds i true) a' w' → K a' w') → oi.wp P a w K Q)
  (h2 : ∀ K : Act → World → Prop, (∀ a' w', (j = L ∨ S w') → wpAnyT P md O Q S L fuel (listed.setIfInBounds j true) a' w' → K a' w') → oj.wp P a w K Q) : wpAnyT P md O Q S L (fuel + 1) listed a w := by
 subst hO
 refine ⟨fun h0 => (by rw [hr] at h0; cases h0), ?_⟩
 rw [hr]
 intro m hm
 simp only [List.mem_cons, List.not_mem_nil, or_false] at hm
 rcases hm with rfl | rfl
 ·unfold wpOp
  rw [hi]
  simp only
  rw [if_pos hwi]
  exact .inl (h1 _ fun a' w' e1 e2 => ⟨e1, e2⟩)
 ·unfold wpOp
  rw [hj]
  simp only
  rw [if_pos hwj]
  exact .inl (h2 _ fun a' w' e1 e2 => ⟨e1, e2⟩)
end
theorem slc_head {P : Program} {t e size bytes : Nat} {z : Value} (T : SliceTy P t e size bytes z) {w : World} {v : Value} {n : Nat} {xs : List Value} (h : Slc w size v n xs) (k : Nat) (hk : k ≤ n) :
  ∃ a c, (∀ W, (Instr.slice t v none (some (.int .i64 k)) none).run P W = .ok (.slice a k c) W) ∧ Slc w size (.slice a k c) k (xs.take (k * size)) := by
 obtain ⟨v', -, -, h3, h4, -⟩ := h.cut T 0 k (Nat.zero_le _) hk
 obtain ⟨a, c, rfl, -, -⟩ := h4.form
 exact ⟨a, c, h3 rfl, by simpa using h4⟩
theorem slc_tail {P : Program} {t e size bytes : Nat} {z : Value} (T : SliceTy P t e size bytes z) {w : World} {v : Value} {n : Nat} {xs : List Value} (h : Slc w size v n xs) (k : Nat) (hk : k ≤ n) :
  ∃ a c, (∀ W, (Instr.slice t v (some (.int .i64 k)) none none).run P W = .ok (.slice a (n - k) c) W) ∧ Slc w size (.slice a (n - k) c) (n - k) (xs.drop (k * size)) := by
 obtain ⟨v', -, h3, -, h4, -⟩ := h.cut T k n hk (Nat.le_refl _)
 obtain ⟨a, c, rfl, -, -⟩ := h4.form
 refine ⟨a, c, h3 rfl, ?_⟩
 have e2 : List.take ((n - k) * size) (List.drop (k * size) xs) = List.drop (k * size) xs := List.take_of_length_le (by rw [List.length_drop, h.1, Nat.sub_mul]; exact Nat.le_refl _)
 rw [e2] at h4
 exact h4
theorem pairCs_take : ∀ (l : List (ByteArray × List Value)) (k : Nat), (∀ p, p ∈ l → p.2.length = 5) → (pairCs l).take (k * 6) = pairCs (l.take k)
 | _, 0, _ => by simp [pairCs]
 | [], k + 1, _ => by simp [pairCs]
 | p :: t, k + 1, h => by
  have hp : (pairC p).length = 6 := by simp [pairC, h p (List.mem_cons_self ..)]
  rw [List.take_succ_cons]
  show List.take ((k + 1) * 6) (pairC p ++ pairCs t) = pairC p ++ pairCs (t.take k)
  rw [List.take_append, List.take_of_length_le (by omega), hp, show (k + 1) * 6 - 6 = k * 6 by omega, pairCs_take t k (fun q hq => h q (List.mem_cons_of_mem _ hq))]
theorem pairCs_drop : ∀ (l : List (ByteArray × List Value)) (k : Nat), (∀ p, p ∈ l → p.2.length = 5) → (pairCs l).drop (k * 6) = pairCs (l.drop k)
 | _, 0, _ => by simp
 | [], k + 1, _ => by simp [pairCs]
 | p :: t, k + 1, h => by
  have hp : (pairC p).length = 6 := by simp [pairC, h p (List.mem_cons_self ..)]
  rw [List.drop_succ_cons]
  show List.drop ((k + 1) * 6) (pairC p ++ pairCs t) = pairCs (t.drop k)
  rw [List.drop_append, List.drop_eq_nil_of_le (by omega), hp, show (k + 1) * 6 - 6 = k * 6 by omega, pairCs_drop t k (fun q hq => h q (List.mem_cons_of_mem _ hq)), List.nil_append]
theorem slc_six {w : World} {x : Value} {m : Nat} {ms : List (ByteArray × List Value)} (h : Slc w 6 x m (pairCs ms)) (h6 : ∀ c, c ∈ ms.map pairC → c.length = 6) {j : Nat} (hj : j < ms.length) :
  ∃ g o cap, x = .slice (some ⟨g, o, none⟩) m cap ∧ w.cell? ⟨g, o + j * 6, none⟩ = some (.string ms[j].1) := by
 obtain ⟨hl, h⟩ := h
 have hf := flat_len (ms.map pairC) h6
 rw [← pairCs_flat, List.length_map] at hf
 rcases h with ⟨rfl, h0⟩ | ⟨h0, _⟩ | ⟨g, o, cap, rfl, -, -, hr⟩
 ·omega
 ·omega
 ·refine ⟨g, o, cap, rfl, hr.cells (j * 6) _ ?_⟩
  have := flat_get (ms.map pairC) j 0 h6 (by simpa using hj) (by omega)
  rw [← pairCs_flat, Nat.add_zero] at this
  rw [this]
  simp [pairC]
theorem nodup_right {n : Nat} {v : VS (V n)} (h : rightV (n + 1) v = true) : (v.m.map (fun p => p.1)).Nodup := by
 rcases own_cases (right_own h) with g | g | g | g | g | g
 ·rw [g.2.2.2.2]; simp
 ·rw [g.2.2.2.2]; simp
 ·rw [g.2.2.2.2]; simp
 ·rw [g.2.2.2.2]; simp
 ·rw [g.2.2.2]; simp
 ·have h5 := g.2.2.2.2
  unfold keysOk at h5
  rw [Bool.and_eq_true] at h5
  simpa using h5.2
theorem bytesLess_ltB (a b : ByteArray) : Op.bytesLess a.toList b.toList = ltB a b := by
 have e : ∀ (l m : List UInt8), Op.bytesLess l m = decide (l < m) := by
  intro l
  induction l with
  | nil => intro m; cases m <;> simp [Op.bytesLess]
  | cons a x ih =>
   intro m
   cases m with
   | nil => simp [Op.bytesLess]
   | cons b y =>
    unfold Op.bytesLess
    rw [ih, Bool.eq_iff_iff]
    simp only [Bool.or_eq_true, Bool.and_eq_true, decide_eq_true_eq, beq_iff_eq, List.cons_lt_cons_iff]
 rw [ByteArray.toList_eq, ByteArray.toList_eq, e]
 rfl
theorem gtr_yes {a b : ByteArray} (h : ltB b a = true) : Op.bytesLess a.toList b.toList = false ∧ (a.toList == b.toList) = false := by
 have h1 : ltB a b = false := by
  cases h2 : ltB a b with
  | false => rfl
  | true => exact absurd h2 (ltB_asymm h)
 exact ⟨by rw [bytesLess_ltB]; exact h1, (str_ne (fun e => by subst e; rw [h] at h1; cases h1)).1⟩
theorem gtr_no {a b : ByteArray} (h : ltB b a = false) : (!Op.bytesLess a.toList b.toList && !a.toList == b.toList) = false := by
 rw [bytesLess_ltB]
 cases h2 : ltB a b with
 | true => rfl
 | false =>
  have e := ltB_none (a := a) (b := b) (by rw [h2]; decide) (by rw [h]; decide)
  subst e
  rw [(str_eq rfl).1]
  rfl
theorem All2.take {α β : Type} {R : α → β → Prop} {xs : List α} {ys : List β} (h : All2 R xs ys) (k : Nat) : All2 R (xs.take k) (ys.take k) := by
 refine ⟨by rw [List.length_take, List.length_take, h.1], fun j x y hx hy => ?_⟩
 rw [List.getElem?_take] at hx hy
 split at hx
 ·rename_i hj
  rw [if_pos hj] at hy
  exact h.2 j x y hx hy
 ·cases hx
theorem All2.drop {α β : Type} {R : α → β → Prop} {xs : List α} {ys : List β} (h : All2 R xs ys) (k : Nat) : All2 R (xs.drop k) (ys.drop k) := by
 refine ⟨by rw [List.length_drop, List.length_drop, h.1], fun j x y hx hy => ?_⟩
 rw [List.getElem?_drop] at hx hy
 exact h.2 (k + j) x y hx hy
theorem ones_pairs {α : Type} {R : List Value → α → Prop} {xs : List (ByteArray × List Value)} {ys : List (ByteArray × α)} (h : All2 (pairR R) xs ys) (hR : ∀ c y, R c y → ∀ u ∈ c, u.oneCell' = true) : ∀ u ∈ pairCs xs, u.oneCell' = true := by
 intro u hu
 unfold pairCs at hu
 rw [List.mem_flatMap] at hu
 obtain ⟨p, hp, hu⟩ := hu
 obtain ⟨y, -, hy⟩ := h.mem_left hp
 rcases List.mem_cons.1 hu with rfl | hu
 ·rfl
 ·exact hR _ _ hy.2 u hu
theorem kept_cell (w : World) (p o : Nat) (v : Value) : Kept [p] w (w.setCell ⟨p, o, none⟩ v) := (Kept.refl [p] w).setCell (p := ⟨p, o, none⟩) (.inl (by simp)) v
structure InsL {n : Nat} (W : World) (b3 : Nat) (v : VS (V n)) (k : Nat) (wr : World) (vl : Value) (lcs : List (List Value)) : Prop where
 blk : wr.heap[b3]? = some (.cells (valA v.kind v.num v.s vl (.slice none 0 0)) 28 (0, 0))
 row : wr.ownsRow W.heap.size 28 5 vl k lcs.flatten
 all : All2 (Rep n (fun g => W.heap.size ≤ g ∧ vl.ownBlock ≠ some g) wr) lcs ((v.l.take k).map (sortV n))
 kept : Kept [b3] W wr
structure InsM {n : Nat} (W : World) (b3 : Nat) (v : VS (V n)) (vl : Value) (k : Nat) (wr : World) (vm : Value) (mcs : List (ByteArray × List Value)) (ms : List (ByteArray × V n)) : Prop where
 blk : wr.heap[b3]? = some (.cells (valA v.kind v.num v.s vl vm) 28 (0, 0))
 row : wr.ownsRow W.heap.size 78 6 vm ms.length (pairCs mcs)
 all : All2 (pairR (Rep n (fun g => W.heap.size ≤ g ∧ vm.ownBlock ≠ some g) wr)) mcs ms
 kept : Kept [b3] W wr
 ord : ms.Pairwise (fun x y => leK x y = true)
 perm : ms.Perm ((v.m.take k).map (pairMap (sortV n)))
 lim : ms.length = k
end Go.Proofs.YtckbnjipecclaaaGreatDoor

/- Parts of one proof, merged: XYM XYN. -/
import Derived.Test.YtpbphdkjjoipnaaGreatDoorGQ
import Derived.Test.YtpbphdkjjoipnaaGreatDoorGZ
import Derived.Test.YtpbphdkjjoipnaaGreatDoorGR
set_option linter.all false
set_option maxHeartbeats 12800000
set_option maxRecDepth 10000
set_option linter.unusedVariables false
set_option linter.unusedSimpArgs false
set_option linter.unnecessarySimpa false
namespace Go.Proofs.YtpbphdkjjoipnaaGreatDoor
open Go.RowKit
def QU (n : Nat) : Prop := ∀ (v : V n) {S : Nat → Prop} {w : World} {cs : List Value} (p : ByteArray), Rep n S w cs v → zU n v → n ≤ 100 → p.size ≤ 1000000 * (101 - n) →
 Calls Tryz.prog 66 #[.agg cs.toArray, .string p] w fun e w' => YQ w.heap.size (lvS n v p) e w' ∧ zc [] w w'
set_option maxRecDepth 100000 in
theorem QL {n : Nat} (IH : QU n) : QU (n + 1) := fun (v : VS (V n)) {S} {w} {cs} p hr hsm hn hp => by
 obtain ⟨vl, vm, lcs, mcs, hr⟩ := hr.open_
 obtain ⟨pl, cl, pm, cm, rfl, rfl, rfl⟩ := hr.forms
 obtain ⟨W0, Ge⟩ : ∃ W0, Hid (W0 = w.alloc (.cells #[.int .i64 v.kind, .int .i64 v.num, .string v.s, .slice pl v.l.length cl, .slice pm v.m.length cm] 25)) := ⟨_, qI rfl⟩
 have Gg : Hid (zc [] w W0) := qI (by rw [Ge.o]; exact (zc.refl [] w).alloc _)
 have Gk : Hid (W0.heap.size = w.heap.size + 1) := qI (by rw [Ge.o]; simp)
 have Gf : Hid (z8 W0 w.heap.size v.kind v.num v.s (.slice pl v.l.length cl) (.slice pm v.m.length cm)) := qI (by rw [Ge.o]; exact yg _ _ _ _ _ _ _)
 have Gm := qI hr
 have Gn := qI hsm
 have Je := qI hp
 have Gp := qI hn
 have hfew := jO hsm
 have hlI : (v.l.length : Int) ≤ 1000000 := by omega
 have hmI : (v.m.length : Int) ≤ 1000000 := by omega
 have hp0 : p.size ≤ 101000000 := by omega
 clear hr hsm hn hp hfew
 by_cases h0 : v.l.length + v.m.length = 0
 ·have Gr : Hid (lvS (n + 1) v p = [p]) := qI (by unfold lvS; rw [Qc h0]; simp [path_nil])
  have h0I : (v.l.length : Int) + v.m.length = 0 := by omega
  obtain ⟨x0, x1, x2, x3, x4⟩ := Gf.o
  clear h0
  go_enter Tryz.func66, Tryz.ntmps66
  go_upto_region 1 with fail
  rw [← Ge.o]
  go_wp2_with fail
  go_ret
  exact ⟨by rw [Gr.o]; exact ⟨_, _, rfl, Y9 _ _ Gg.o.size p⟩, Gg.o.alloc _⟩
 obtain ⟨i1, i2⟩ := zy (a := (v.l.length : Int) + v.m.length) (b := 0) (by omega)
 have Gs := qI h0
 have Jf := qI Gn.o.1
 obtain ⟨x0, x1, x2, x3, x4⟩ := Gf.o
 clear h0
 go_enter Tryz.func66, Tryz.ntmps66
 go_upto_region 1 with fail
 rw [← Ge.o]
 go_wp2_with fail
 go_loopw [5, 6] (fun z i wr => ∃ (k : Nat) (X : List ByteArray), i = .int .i64 k ∧ k ≤ v.l.length ∧ Hid (X = (lvA v k).map (xF p)) ∧ KJ W0 X z wr) (fun _ i _ => v.l.length - (intOf i).toNat)
 case atStart => exact ⟨0, [], rfl, Nat.zero_le _, qI rfl, ⟨World.ownsRow_nil _ _ _ _, zc.refl _ _⟩⟩
 case round =>
  clear x0 x1 x2 x3 x4
  obtain ⟨k, X, rfl, hk, HX, hlv⟩ := hrel
  obtain ⟨az, cz, rfl⟩ := hlv.form
  have Ga := qI hlv
  have Gl : Hid (zc [] w wr) := qI (Gg.o.then hlv.kept)
  obtain ⟨x0, x1, x2, x3, x4⟩ := Gf.o.kept0 hlv.kept
  by_cases hlt : k < v.l.length
  ·have hltI : (k : Int) < v.l.length := by omega
   obtain ⟨g1, o1, c1, kd, nm, st, a1, b1, e1, q0, q1, q2, q3, q4, hrp⟩ := Gm.o.at_l Gl.o k hlt
   simp only [Value.slice.injEq] at e1
   obtain ⟨rfl, -, rfl⟩ := e1
   obtain ⟨pa1, na1, ca1, pb1, nb1, cb1, rfl, rfl⟩ := hrp.sl
   have Gb := qI (lvA_next hlt p)
   rw [← HX.o] at Gb
   have Gt := qI hrp
   have Gu := qI (Gn.o.kid (xr (List.getElem_mem hlt)))
   have Gc := qI hlt
   have Gv : Hid ((lvA v (k + 1)).length ≤ 20000) := qI (by have h1 := lvA_le v (k + 1) Gs.o; have := Jf.o; omega)
   have hfr : ∀ g, g ∈ (Value.slice az X.length cz).ownBlock.toList → W0.heap.size ≤ g ∧ g < wr.heap.size := fun g hg => Ga.o.row.lt g (Option.mem_toList.1 hg)
   have Gw := qI hfr
   obtain ⟨_, _, _, _, _, _, _, _, e9, ql, -⟩ := Gm.o.at_l (zc.refl [] w) k hlt
   simp only [Value.slice.injEq, Option.some.injEq, Addr.mk.injEq, and_true, true_and] at e9
   obtain ⟨⟨rfl, rfl⟩, rfl⟩ := e9
   have hg1 : ∀ g, g ∈ (Value.slice az X.length cz).ownBlock.toList → g1 ≠ g ∧ w.heap.size ≠ g := fun g hg => by have h1 := Y5 ql; have h2 := (hfr g hg).1; have h3 := Gk.o; omega
   clear ql
   have HQ : Hid (∀ w', zc (Value.slice az X.length cz).ownBlock.toList wr w' → z8 w' w.heap.size v.kind v.num v.s (.slice (some ⟨g1, o1, none⟩) v.l.length cl) (.slice pm v.m.length cm) ∧ w'.cell? ⟨g1, o1 + k * 5, none⟩ = some (.int .i64 kd) ∧ w'.cell? ⟨g1, o1 + k * 5 + 1, none⟩ = some (.int .i64 nm) ∧ w'.cell? ⟨g1, o1 + k * 5 + 2, none⟩ = some (.string st) ∧ w'.cell? ⟨g1, o1 + k * 5 + 3, none⟩ = some (.slice pa1 na1 ca1) ∧ w'.cell? ⟨g1, o1 + k * 5 + 4, none⟩ = some (.slice pb1 nb1 cb1)) := qI (fun w' q => ⟨(Gf.o.kept0 Ga.o.kept).kept q (fun hx => (hg1 _ hx).2 rfl), q.cell q0 (fun hx => (hg1 _ hx).1 rfl), q.cell q1 (fun hx => (hg1 _ hx).1 rfl), q.cell q2 (fun hx => (hg1 _ hx).1 rfl), q.cell q3 (fun hx => (hg1 _ hx).1 rfl), q.cell q4 (fun hx => (hg1 _ hx).1 rfl)⟩)
   clear hrp hlv hk hfr hg1
   go_upto_region 7 with fail
   clear x0 x1 x2 x3 x4 q0 q1 q2 q3 q4
   refine zj (n := 14) (fun w' : World => zc (Value.slice az X.length cz).ownBlock.toList wr w') 13 (by kernel_rfl) (by kernel_rfl) ?_
   change zS _ _ _ _ _ _ _ _ _ wr.drew
   have HE : Hid (zc [] wr wr.drew) := qI (zc.refl _ wr).drew
   have hSS : (fun w' : World => zc (Value.slice az X.length cz).ownBlock.toList wr w') wr.drew := (zc.refl _ wr).drew
   revert HE hSS
   generalize wr.drew = WD
   intro HE hSS
   have hz1 : ¬ 9223372036854775807 < p.size + 1 := by omega
   refine zu ?_
   intro O R hO hR
   have hQp : ∀ c a (d : Nat) v w, R (.panic c) (a.put (some d) v) w → R (.panic c) a w := by subst hR; exact fun _ _ _ _ _ h => h
   refine za (i := 0) (v := ?_) hO rfl rfl (by kernel_rfl) (by kernel_rfl) (by kernel_rfl) (by kernel_rfl) hQp (Or.inl ⟨by kernel_rfl, fun w hSw => ?_⟩) hSS ?_
   rotate_left
   ·go_simp; try with_reducible rfl
   try simp only [zA,zN,zB,zC,zD]
   refine za (i := 1) (v := ?_) hO rfl rfl (by kernel_rfl) (by kernel_rfl) (by kernel_rfl) (by kernel_rfl) hQp (Or.inl ⟨by kernel_rfl, fun w hSw => ?_⟩) hSS ?_
   rotate_left
   ·go_simp; try with_reducible rfl
   try simp only [zA,zN,zB,zC,zD]
   refine za (i := 2) (v := ?_) hO rfl rfl (by kernel_rfl) (by kernel_rfl) (by kernel_rfl) (by kernel_rfl) hQp (Or.inl ⟨by kernel_rfl, fun w hSw => ?_⟩) hSS ?_
   rotate_left
   ·obtain ⟨⟨y0, y1, y2, y3, y4⟩, s0, s1, s2, s3, s4⟩ := HQ.o _ hSw; go_simp; try with_reducible rfl
   try simp only [zA,zN,zB,zC,zD]
   refine za (i := 3) (v := ?_) hO rfl rfl (by kernel_rfl) (by kernel_rfl) (by kernel_rfl) (by kernel_rfl) hQp (Or.inl ⟨by kernel_rfl, fun w hSw => ?_⟩) hSS ?_
   rotate_left
   ·go_simp; try with_reducible rfl
   try simp only [zA,zN,zB,zC,zD]
   refine za (i := 4) (v := ?_) hO rfl rfl (by kernel_rfl) (by kernel_rfl) (by kernel_rfl) (by kernel_rfl) hQp (Or.inl ⟨by kernel_rfl, fun w hSw => ?_⟩) hSS ?_
   rotate_left
   ·go_simp; try with_reducible rfl
   try simp only [zA,zN,zB,zC,zD]
   refine za (i := 5) (v := ?_) hO rfl rfl (by kernel_rfl) (by kernel_rfl) (by kernel_rfl) (by kernel_rfl) hQp (Or.inl ⟨by kernel_rfl, fun w hSw => ?_⟩) hSS ?_
   rotate_left
   ·obtain ⟨⟨y0, y1, y2, y3, y4⟩, s0, s1, s2, s3, s4⟩ := HQ.o _ hSw; go_simp; try with_reducible rfl
   try simp only [zA,zN,zB,zC,zD]
   refine za (i := 6) (v := ?_) hO rfl rfl (by kernel_rfl) (by kernel_rfl) (by kernel_rfl) (by kernel_rfl) hQp (Or.inl ⟨by kernel_rfl, fun w hSw => ?_⟩) hSS ?_
   rotate_left
   ·go_simp; try with_reducible rfl
   try simp only [zA,zN,zB,zC,zD]
   refine za (i := 7) (v := ?_) hO rfl rfl (by kernel_rfl) (by kernel_rfl) (by kernel_rfl) (by kernel_rfl) hQp (Or.inl ⟨by kernel_rfl, fun w hSw => ?_⟩) hSS ?_
   rotate_left
   ·go_simp; try with_reducible rfl
   try simp only [zA,zN,zB,zC,zD]
   refine za (i := 8) (v := ?_) hO rfl rfl (by kernel_rfl) (by kernel_rfl) (by kernel_rfl) (by kernel_rfl) hQp (Or.inl ⟨by kernel_rfl, fun w hSw => ?_⟩) hSS ?_
   rotate_left
   ·go_simp; try with_reducible rfl
   try simp only [zA,zN,zB,zC,zD]
   obtain ⟨P1, hP1⟩ : ∃ P1, p ++ (⟨#[47]⟩ : ByteArray) = P1 := ⟨_, rfl⟩
   have hP1z : P1.size = p.size + 1 := by rw [← hP1, ByteArray.size_append]; rfl
   rw [hP1]
   rw [hP1] at Gb
   have hP1y : P1.size ≤ 101000001 := by omega
   have Gx := qI hP1z
   clear hP1 hP1z
   refine zd (i := 9) hO rfl (by kernel_rfl) (by kernel_rfl) (fun K hK => ?_)
   go_simp
   refine Calls.mono (bQ k (by omega) (by omega) WD) ?_
   rw [Lib.itoa_nonneg]
   have hTz : (zf (Lib.decDigits k)).size ≤ 21 := by rw [zG]; exact qS k (by omega)
   rintro e w3 ⟨rfl, rfl⟩
   refine hK _ _ (.inr hSS) ?_
   clear hK K
   try simp only [zA,zN,zB,zC,zD]
   revert hTz Gb
   generalize zf (Lib.decDigits k) = T
   intro Gb hTz
   have hz2 : ¬ 9223372036854775807 < P1.size + T.size := by omega
   refine za (i := 10) (v := ?_) hO rfl rfl (by kernel_rfl) (by kernel_rfl) (by kernel_rfl) (by kernel_rfl) hQp (Or.inl ⟨by kernel_rfl, fun w hSw => ?_⟩) hSS ?_
   rotate_left
   ·go_simp; try with_reducible rfl
   try simp only [zA,zN,zB,zC,zD]
   refine zd (i := 11) hO rfl (by kernel_rfl) (by kernel_rfl) (fun K hK => ?_)
   go_simp
   have CV := qI (IH v.l[k] (P1 ++ T) (Gt.o.kept0 HE.o) Gu.o (by have := Gp.o; omega) (by rw [ByteArray.size_append]; have := Je.o; have := Gp.o; have := Gx.o; omega))
   refine Calls.mono CV.o ?_
   rintro e w5 ⟨⟨p5, c5, rfl, hrow5⟩, hk5⟩
   have hS1 : (fun w' : World => zc (Value.slice az X.length cz).ownBlock.toList wr w') w5 := hSS.then hk5
   have Gh := qI (HE.o.then hk5)
   have Gy := qI (zk Ga.o.row Gh.o (by simp))
   have Gi := qI (Slc.of_row hrow5)
   have Gd : Hid (X.length + (lvS n v.l[k] (P1 ++ T)).length ≤ 20000) := qI (by
    have h1 := congrArg List.length Gb.o
    rw [List.length_append, List.length_map] at h1
    have := Gv.o
    omega)
   refine hK _ _ (.inr hS1) ?_
   clear hK K
   try simp only [zA,zN,zB,zC,zD]
   clear hSS hk5 hrow5
   have hSS := hS1
   clear hS1
   refine zd (i := 12) hO rfl (by kernel_rfl) (by kernel_rfl) (fun K hK => ?_)
   refine yi qG Gy.o Gi.o (kr _) (by have := Gd.o; simp only [maxLen]; omega) (by have := Gd.o; omega) (by have h1 := (Ga.o.kept.then Gh.o).size; exact h1) (.tmp 25) (.tmp 36) rfl rfl rfl ?_
   intro b6 c6 w6 hrow6 hk6 hbk6
   rw [← bk, ← List.length_append] at hrow6
   rw [← List.length_append]
   obtain ⟨Y, hY⟩ : ∃ Y, X ++ lvS n v.l[k] (P1 ++ T) = Y := ⟨_, rfl⟩
   rw [hY] at hrow6
   rw [hY]
   have Gz : Hid (zc [] W0 w6) := qI ((Ga.o.kept.then Gh.o).trans hk6 (fun g hg => .inr (Gw.o g hg).1))
   have Ja : Hid (KJ W0 Y (.slice b6 Y.length c6) w6) := qI ⟨hrow6, Gz.o⟩
   have Jb : Hid (Y = (lvA v (k + 1)).map (xF p)) := qI (by rw [← hY]; exact Gb.o.symm)
   have hS1 : (fun w' : World => zc (Value.slice az X.length cz).ownBlock.toList wr w') w6 := hSS.trans' hk6
   clear hY
   refine hK _ _ (.inr hS1) ?_
   clear hK K
   try simp only [zA,zN,zB,zC,zD]
   clear hSS hrow6 hk6 hbk6 hS1
   refine zd (i := 13) hO rfl (by kernel_rfl) (by kernel_rfl) (fun K hK => ?_)
   go_simp
   refine hK _ _ (.inl rfl) ?_
   clear hK K
   try simp only [zA,zN,zB,zC,zD]
   refine zt hO (by kernel_rfl) ?_ _
   subst hR
   try clear hQp hO O
   go_wp2_with fail
   case roundEnd => exact ⟨⟨k + 1, Y, by go_num, by have := Gc.o; omega, Jb, Ja.o⟩, by have := Gc.o; simp [intOf]; omega⟩
  ·obtain rfl : k = v.l.length := by omega
   have hltI : ¬ (v.l.length : Int) < v.l.length := by omega
   have Jg : Hid (X = (lvB v 0).map (xF p)) := qI (by rw [Q6]; exact HX.o)
   clear hlt hk hlv HX
   go_wp2_with fail
   go_loopw [5, 7] (fun z i wq => ∃ (k : Nat) (X : List ByteArray), i = .int .i64 k ∧ k ≤ v.m.length ∧ Hid (X = (lvB v k).map (xF p)) ∧ KJ W0 X z wq) (fun _ i _ => v.m.length - (intOf i).toNat)
   case atStart => exact ⟨0, X, rfl, Nat.zero_le _, Jg, Ga.o⟩
   case round =>
    clear Ga Gl Jg x0 x1 x2 x3 x4 hltI
    obtain ⟨k, X, rfl, hk, HX, hlv⟩ := hrel
    obtain ⟨az, cz, rfl⟩ := hlv.form
    have Ga := qI hlv
    have Gl : Hid (zc [] w wr) := qI (Gg.o.then hlv.kept)
    obtain ⟨x0, x1, x2, x3, x4⟩ := Gf.o.kept0 hlv.kept
    by_cases hlt : k < v.m.length
    ·have hltI : (k : Int) < v.m.length := by omega
     obtain ⟨g1, o1, c1, kd, nm, st, a1, b1, e1, qk, q0, q1, q2, q3, q4, hrp⟩ := Gm.o.at_m Gl.o k hlt
     simp only [Value.slice.injEq] at e1
     obtain ⟨rfl, -, rfl⟩ := e1
     obtain ⟨pa1, na1, ca1, pb1, nb1, cb1, rfl, rfl⟩ := hrp.sl
     obtain ⟨key, hkey⟩ : ∃ key, v.m[k].1 = key := ⟨_, rfl⟩
     have hkz : key.size ≤ 400000 := by rw [← hkey]; exact Nat.le_trans (vf (List.getElem_mem hlt)) Gn.o.2
     have Gb := qI (lvB_next hlt p)
     rw [← HX.o] at Gb
     rw [hkey] at qk Gb
     have hpt : (yX [key]).length ≤ 800001 := by
      have h1 := Qb key.data.toList
      rw [kS] at h1
      show (47 :: yo key.data.toList ++ []).length ≤ 800001
      rw [List.append_nil, List.length_cons]
      omega
     have Jh := qI hpt
     have Gt := qI hrp
     have Gu := qI (Gn.o.kid (xh (List.getElem_mem hlt)))
     have Gc := qI hlt
     have Gv : Hid ((lvB v (k + 1)).length ≤ 20000) := qI (by have h1 := lvB_le v (k + 1) Gs.o; have := Jf.o; omega)
     have hfr : ∀ g, g ∈ (Value.slice az X.length cz).ownBlock.toList → W0.heap.size ≤ g ∧ g < wr.heap.size := fun g hg => Ga.o.row.lt g (Option.mem_toList.1 hg)
     have Gw := qI hfr
     obtain ⟨_, _, _, _, _, _, _, _, e9, ql, -⟩ := Gm.o.at_m (zc.refl [] w) k hlt
     simp only [Value.slice.injEq, Option.some.injEq, Addr.mk.injEq, and_true, true_and] at e9
     obtain ⟨⟨rfl, rfl⟩, rfl⟩ := e9
     have hg1 : ∀ g, g ∈ (Value.slice az X.length cz).ownBlock.toList → g1 ≠ g ∧ w.heap.size ≠ g := fun g hg => by have h1 := Y5 ql; have h2 := (hfr g hg).1; have h3 := Gk.o; omega
     clear ql
     have HQ : Hid (∀ w', zc (Value.slice az X.length cz).ownBlock.toList wr w' → z8 w' w.heap.size v.kind v.num v.s (.slice pl v.l.length cl) (.slice (some ⟨g1, o1, none⟩) v.m.length cm) ∧ w'.cell? ⟨g1, o1 + k * 6 + 1, none⟩ = some (.int .i64 kd) ∧ w'.cell? ⟨g1, o1 + k * 6 + 2, none⟩ = some (.int .i64 nm) ∧ w'.cell? ⟨g1, o1 + k * 6 + 3, none⟩ = some (.string st) ∧ w'.cell? ⟨g1, o1 + k * 6 + 4, none⟩ = some (.slice pa1 na1 ca1) ∧ w'.cell? ⟨g1, o1 + k * 6 + 5, none⟩ = some (.slice pb1 nb1 cb1) ∧ w'.cell? ⟨g1, o1 + k * 6, none⟩ = some (.string key)) := qI (fun w' q => ⟨(Gf.o.kept0 Ga.o.kept).kept q (fun hx => (hg1 _ hx).2 rfl), q.cell q0 (fun hx => (hg1 _ hx).1 rfl), q.cell q1 (fun hx => (hg1 _ hx).1 rfl), q.cell q2 (fun hx => (hg1 _ hx).1 rfl), q.cell q3 (fun hx => (hg1 _ hx).1 rfl), q.cell q4 (fun hx => (hg1 _ hx).1 rfl), q.cell qk (fun hx => (hg1 _ hx).1 rfl)⟩)
     clear hrp hlv hk hfr hg1 hkey hpt hkz
     go_upto_region 11 with fail
     clear x0 x1 x2 x3 x4 q0 q1 q2 q3 q4 qk
     refine zj (n := 20) (fun w' : World => zc (Value.slice az X.length cz).ownBlock.toList wr w') 19 (by kernel_rfl) (by kernel_rfl) ?_
     change zS _ _ _ _ _ _ _ _ _ wr.drew
     have HE : Hid (zc [] wr wr.drew) := qI (zc.refl _ wr).drew
     have hSS : (fun w' : World => zc (Value.slice az X.length cz).ownBlock.toList wr w') wr.drew := (zc.refl _ wr).drew
     revert HE hSS
     generalize wr.drew = WD
     intro HE hSS
     have hz1 : ¬ 9223372036854775807 < p.size + 1 := by omega
     refine zu ?_
     intro O R hO hR
     have hQp : ∀ c a (d : Nat) v w, R (.panic c) (a.put (some d) v) w → R (.panic c) a w := by subst hR; exact fun _ _ _ _ _ h => h
     refine za (i := 0) (v := ?_) hO rfl rfl (by kernel_rfl) (by kernel_rfl) (by kernel_rfl) (by kernel_rfl) hQp (Or.inl ⟨by kernel_rfl, fun w hSw => ?_⟩) hSS ?_
     rotate_left
     ·go_simp; try with_reducible rfl
     try simp only [zA,zN,zB,zC,zD]
     refine za (i := 1) (v := ?_) hO rfl rfl (by kernel_rfl) (by kernel_rfl) (by kernel_rfl) (by kernel_rfl) hQp (Or.inl ⟨by kernel_rfl, fun w hSw => ?_⟩) hSS ?_
     rotate_left
     ·go_simp; try with_reducible rfl
     try simp only [zA,zN,zB,zC,zD]
     refine za (i := 2) (v := ?_) hO rfl rfl (by kernel_rfl) (by kernel_rfl) (by kernel_rfl) (by kernel_rfl) hQp (Or.inl ⟨by kernel_rfl, fun w hSw => ?_⟩) hSS ?_
     rotate_left
     ·obtain ⟨⟨y0, y1, y2, y3, y4⟩, s0, s1, s2, s3, s4, sk⟩ := HQ.o _ hSw; go_simp; try with_reducible rfl
     try simp only [zA,zN,zB,zC,zD]
     refine za (i := 3) (v := ?_) hO rfl rfl (by kernel_rfl) (by kernel_rfl) (by kernel_rfl) (by kernel_rfl) hQp (Or.inl ⟨by kernel_rfl, fun w hSw => ?_⟩) hSS ?_
     rotate_left
     ·go_simp; try with_reducible rfl
     try simp only [zA,zN,zB,zC,zD]
     refine za (i := 4) (v := ?_) hO rfl rfl (by kernel_rfl) (by kernel_rfl) (by kernel_rfl) (by kernel_rfl) hQp (Or.inl ⟨by kernel_rfl, fun w hSw => ?_⟩) hSS ?_
     rotate_left
     ·go_simp; try with_reducible rfl
     try simp only [zA,zN,zB,zC,zD]
     refine za (i := 5) (v := ?_) hO rfl rfl (by kernel_rfl) (by kernel_rfl) (by kernel_rfl) (by kernel_rfl) hQp (Or.inl ⟨by kernel_rfl, fun w hSw => ?_⟩) hSS ?_
     rotate_left
     ·go_simp; try with_reducible rfl
     try simp only [zA,zN,zB,zC,zD]
     refine za (i := 6) (v := ?_) hO rfl rfl (by kernel_rfl) (by kernel_rfl) (by kernel_rfl) (by kernel_rfl) hQp (Or.inl ⟨by kernel_rfl, fun w hSw => ?_⟩) hSS ?_
     rotate_left
     ·obtain ⟨⟨y0, y1, y2, y3, y4⟩, s0, s1, s2, s3, s4, sk⟩ := HQ.o _ hSw; go_simp; try with_reducible rfl
     try simp only [zA,zN,zB,zC,zD]
     refine za (i := 7) (v := ?_) hO rfl rfl (by kernel_rfl) (by kernel_rfl) (by kernel_rfl) (by kernel_rfl) hQp (Or.inl ⟨by kernel_rfl, fun w hSw => ?_⟩) hSS ?_
     rotate_left
     ·go_simp; try with_reducible rfl
     try simp only [zA,zN,zB,zC,zD]
     refine za (i := 8) (v := ?_) hO rfl rfl (by kernel_rfl) (by kernel_rfl) (by kernel_rfl) (by kernel_rfl) hQp (Or.inl ⟨by kernel_rfl, fun w hSw => ?_⟩) hSS ?_
     rotate_left
     ·go_simp; try with_reducible rfl
     try simp only [zA,zN,zB,zC,zD]
     refine za (i := 9) (v := ?_) hO rfl rfl (by kernel_rfl) (by kernel_rfl) (by kernel_rfl) (by kernel_rfl) hQp (Or.inl ⟨by kernel_rfl, fun w hSw => ?_⟩) hSS ?_
     rotate_left
     ·obtain ⟨⟨y0, y1, y2, y3, y4⟩, s0, s1, s2, s3, s4, sk⟩ := HQ.o _ hSw; go_simp; try with_reducible rfl
     try simp only [zA,zN,zB,zC,zD]
     refine za (i := 10) (v := ?_) hO rfl rfl (by kernel_rfl) (by kernel_rfl) (by kernel_rfl) (by kernel_rfl) hQp (Or.inl ⟨by kernel_rfl, fun w hSw => ?_⟩) hSS ?_
     rotate_left
     ·go_simp; try with_reducible rfl
     try simp only [zA,zN,zB,zC,zD]
     refine za (i := 11) (v := ?_) hO rfl rfl (by kernel_rfl) (by kernel_rfl) (by kernel_rfl) (by kernel_rfl) hQp (Or.inl ⟨by kernel_rfl, fun w hSw => ?_⟩) hSS ?_
     rotate_left
     ·go_simp; try with_reducible rfl
     try simp only [zA,zN,zB,zC,zD]
     refine za (i := 12) (v := ?_) hO rfl rfl (by kernel_rfl) (by kernel_rfl) (by kernel_rfl) (by kernel_rfl) hQp (Or.inl ⟨by kernel_rfl, fun w hSw => ?_⟩) hSS ?_
     rotate_left
     ·go_simp; try with_reducible rfl
     try simp only [zA,zN,zB,zC,zD]
     refine za (i := 13) (v := ?_) hO rfl rfl (by kernel_rfl) (by kernel_rfl) (by kernel_rfl) (by kernel_rfl) hQp (Or.inl ⟨by kernel_rfl, fun w hSw => ?_⟩) hSS ?_
     rotate_left
     ·obtain ⟨⟨y0, y1, y2, y3, y4⟩, s0, s1, s2, s3, s4, sk⟩ := HQ.o _ hSw; go_simp; try with_reducible rfl
     try simp only [zA,zN,zB,zC,zD]
     refine zd (i := 14) hO rfl (by kernel_rfl) (by kernel_rfl) (fun K hK => ?_)
     go_simp
     have Gj : Hid (Slc (WD.alloc (.cells #[.string key] 9)) 1 (.slice (some ⟨WD.heap.size, 0, none⟩) 1 1) 1 (zI [key])) := qI (Slc.of_row (Y9 WD 0 (Nat.zero_le _) key))
     have hS1 : (fun w' : World => zc (Value.slice az X.length cz).ownBlock.toList wr w') (WD.alloc (.cells #[.string key] 9)) := hSS.alloc _
     have Jc : Hid (zc [] wr (WD.alloc (.cells #[.string key] 9))) := qI (HE.o.alloc _)
     refine hK _ _ (.inr hS1) ?_
     clear hK K
     try simp only [zA,zN,zB,zC,zD]
     clear hSS HE
     have hSS := hS1
     clear hS1
     revert Gj Jc hSS
     generalize WD.alloc (.cells #[.string key] 9) = w3
     intro Gj Jc hSS
     refine zd (i := 15) hO rfl (by kernel_rfl) (by kernel_rfl) (fun K hK => ?_)
     go_simp
     refine Calls.mono (QH Gj.o (by omega) (by have := Jh.o; omega)) ?_
     rintro e w4 ⟨rfl, hk4⟩
     have hS1 : (fun w' : World => zc (Value.slice az X.length cz).ownBlock.toList wr w') w4 := hSS.then hk4
     have HE := qI (Jc.o.then hk4)
     refine hK _ _ (.inr hS1) ?_
     clear hK K
     try simp only [zA,zN,zB,zC,zD]
     clear hSS hk4
     have hSS := hS1
     clear hS1
     have hTz : (zf (yX [key])).size ≤ 800001 := by rw [zG]; exact Jh.o
     revert hTz Gb
     generalize zf (yX [key]) = T
     intro Gb hTz
     have hz2 : ¬ 9223372036854775807 < p.size + T.size := by omega
     refine za (i := 16) (v := ?_) hO rfl rfl (by kernel_rfl) (by kernel_rfl) (by kernel_rfl) (by kernel_rfl) hQp (Or.inl ⟨by kernel_rfl, fun w hSw => ?_⟩) hSS ?_
     rotate_left
     ·go_simp; try with_reducible rfl
     try simp only [zA,zN,zB,zC,zD]
     refine zd (i := 17) hO rfl (by kernel_rfl) (by kernel_rfl) (fun K hK => ?_)
     go_simp
     have CV := qI (IH v.m[k].2 (p ++ T) (Gt.o.kept0 HE.o) Gu.o (by have := Gp.o; omega) (by rw [ByteArray.size_append]; have := Je.o; have := Gp.o; omega))
     refine Calls.mono CV.o ?_
     rintro e w5 ⟨⟨p5, c5, rfl, hrow5⟩, hk5⟩
     have hS1 : (fun w' : World => zc (Value.slice az X.length cz).ownBlock.toList wr w') w5 := hSS.then hk5
     have Gh := qI (HE.o.then hk5)
     have Gy := qI (zk Ga.o.row Gh.o (by simp))
     have Gi := qI (Slc.of_row hrow5)
     have Gd : Hid (X.length + (lvS n v.m[k].2 (p ++ T)).length ≤ 20000) := qI (by
      have h1 := congrArg List.length Gb.o
      rw [List.length_append, List.length_map] at h1
      have := Gv.o
      omega)
     refine hK _ _ (.inr hS1) ?_
     clear hK K
     try simp only [zA,zN,zB,zC,zD]
     clear hSS hk5 hrow5
     have hSS := hS1
     clear hS1
     refine zd (i := 18) hO rfl (by kernel_rfl) (by kernel_rfl) (fun K hK => ?_)
     refine yi qG Gy.o Gi.o (kr _) (by have := Gd.o; simp only [maxLen]; omega) (by have := Gd.o; omega) (by have h1 := (Ga.o.kept.then Gh.o).size; exact h1) (.tmp 45) (.tmp 62) rfl rfl rfl ?_
     intro b6 c6 w6 hrow6 hk6 hbk6
     rw [← bk, ← List.length_append] at hrow6
     rw [← List.length_append]
     obtain ⟨Y, hY⟩ : ∃ Y, X ++ lvS n v.m[k].2 (p ++ T) = Y := ⟨_, rfl⟩
     rw [hY] at hrow6
     rw [hY]
     have Gz : Hid (zc [] W0 w6) := qI ((Ga.o.kept.then Gh.o).trans hk6 (fun g hg => .inr (Gw.o g hg).1))
     have Ja : Hid (KJ W0 Y (.slice b6 Y.length c6) w6) := qI ⟨hrow6, Gz.o⟩
     have Jb : Hid (Y = (lvB v (k + 1)).map (xF p)) := qI (by rw [← hY]; exact Gb.o.symm)
     have hS1 : (fun w' : World => zc (Value.slice az X.length cz).ownBlock.toList wr w') w6 := hSS.trans' hk6
     clear hY
     refine hK _ _ (.inr hS1) ?_
     clear hK K
     try simp only [zA,zN,zB,zC,zD]
     clear hSS hrow6 hk6 hbk6 hS1
     refine zd (i := 19) hO rfl (by kernel_rfl) (by kernel_rfl) (fun K hK => ?_)
     go_simp
     refine hK _ _ (.inl rfl) ?_
     clear hK K
     try simp only [zA,zN,zB,zC,zD]
     refine zt hO (by kernel_rfl) ?_ _
     subst hR
     try clear hQp hO O
     go_wp2_with fail
     case roundEnd => exact ⟨⟨k + 1, Y, by go_num, by have := Gc.o; omega, Jb, Ja.o⟩, by have := Gc.o; simp [intOf]; omega⟩
    ·obtain rfl : k = v.m.length := by omega
     have hltI : ¬ (v.m.length : Int) < v.m.length := by omega
     have Gr : Hid (lvS (n + 1) v p = X) := qI (by unfold lvS; rw [lv_all Gs.o]; exact HX.o.symm)
     clear hlt hk hlv HX
     go_wp2_with fail
     go_ret
     exact ⟨by rw [Gr.o]; exact ⟨_, _, rfl, yN Ga.o.row (fun g hg => by have h1 := (Ga.o.row.lt g hg).1; have h2 := Gg.o.size; omega)⟩, Gl.o⟩
theorem vB : ∀ n, QU n
 | 0 => fun v {_} {_} {_} _ _ _ _ _ => nomatch v
 | n + 1 => QL (vB n)
section
variable {n : Nat} {v : V n} {S : Nat → Prop} {w : World} {cs : List Value}
set_option maxRecDepth 100000 in
theorem KI (hr : Rep n S w cs v) (hsm : zU n v) (hn : n ≤ 100) :
  Calls Tryz.prog 36 #[.agg cs.toArray] w fun e w' => YQ w.heap.size (y6 n v) e w' ∧ zc [] w w' := by
 obtain ⟨kd, nm, st, a, la, ea, b, lb, eb, rfl⟩ := hr.conv
 obtain ⟨W0, Ge⟩ : ∃ W0, Hid (W0 = w.alloc (.cells #[.int .i64 kd, .int .i64 nm, .string st, .slice a la ea, .slice b lb eb] 25)) := ⟨_, qI rfl⟩
 have Gg : Hid (zc [] w W0) := qI (by rw [Ge.o]; exact (zc.refl [] w).alloc _)
 have Gf : Hid (z8 W0 w.heap.size kd nm st (.slice a la ea) (.slice b lb eb)) := qI (by rw [Ge.o]; exact yg _ _ _ _ _ _ _)
 have CK := qI (ZQ (hr.kept0 Gg.o) hsm hn)
 have CL := qI (fun (w' : World) (k : zc [] w w') => vB n v ⟨#[]⟩ (hr.kept0 k) hsm hn (Nat.zero_le _))
 have hbx := Gf.o
 rw [Ge.o] at hbx
 obtain ⟨x0, x1, x2, x3, x4⟩ := hbx
 clear hr hsm hn
 go_enter Tryz.func36, Tryz.ntmps36
 go_wp2_with fail
 rw [← Ge.o]
 clear x0 x1 x2 x3 x4
 refine CK.o.mono ?_
 rintro e w1 ⟨rfl, hk1⟩
 have Gq := qI (Gg.o.then hk1)
 obtain ⟨x0, x1, x2, x3, x4⟩ := Gf.o.kept0 hk1
 clear hk1
 by_cases hc : zz n v = 0
 ·have Gc : Hid (y6 n v = lvS n v ⟨#[]⟩) := qI (by unfold y6; rw [if_pos hc])
  rw [hc]
  have CL1 := qI (CL.o _ Gq.o)
  clear hc
  go_wp2_with fail
  refine CL1.o.mono ?_
  rintro e w2 ⟨⟨p2, c2, rfl, hrow⟩, hk2⟩
  have Jd := qI (yN (base' := w.heap.size) hrow (fun g hg => by have h1 := (hrow.lt g hg).1; have h2 := Gq.o.size; omega))
  have Ji := qI (Gq.o.then hk2)
  clear hrow hk2 x0 x1 x2 x3 x4
  revert Jd Gc
  generalize lvS n v ⟨#[]⟩ = X
  intro Gc Jd
  go_wp2_with fail
  go_ret
  exact ⟨by rw [Gc.o]; exact ⟨_, _, rfl, Jd.o⟩, Ji.o⟩
 ·have Gc : Hid (y6 n v = []) := qI (by unfold y6; rw [if_neg hc])
  obtain ⟨g1, g2⟩ := zy (a := zz n v) (b := 0) hc
  clear hc
  go_wp2_with fail
  go_ret
  exact ⟨by rw [Gc.o]; exact br _ _, Gq.o⟩
end
end Go.Proofs.YtpbphdkjjoipnaaGreatDoor

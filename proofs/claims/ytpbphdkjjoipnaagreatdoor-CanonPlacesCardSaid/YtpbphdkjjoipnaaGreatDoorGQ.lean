/- Parts of one proof, merged: XYK XYL. -/
import Derived.Test.YtpbphdkjjoipnaaGreatDoorGZ
import Derived.Test.YtpbphdkjjoipnaaGreatDoorGY
import Derived.Test.YtpbphdkjjoipnaaGreatDoorGW
import Derived.Test.YtpbphdkjjoipnaaGreatDoorFG
import Derived.Test.YtpbphdkjjoipnaaGreatDoorGR
import Derived.Test.YtpbphdkjjoipnaaGreatDoorFE
set_option linter.all false
set_option maxHeartbeats 12800000
set_option maxRecDepth 10000
set_option linter.unusedVariables false
set_option linter.unusedSimpArgs false
set_option linter.unnecessarySimpa false
namespace Go.Proofs.YtpbphdkjjoipnaaGreatDoor
open Go.RowKit
structure KJ (w : World) (X : List ByteArray) (z : Value) (wr : World) : Prop where
 row : wr.ownsRow w.heap.size 9 1 z X.length (zI X)
 kept : zc [] w wr
theorem KJ.form {w wr : World} {X : List ByteArray} {z : Value} (h : KJ w X z wr) : ∃ a c, z = .slice a X.length c := by
 obtain ⟨a, c, e, -, -⟩ := (Slc.of_row h.row).form
 exact ⟨a, c, e⟩
theorem bk (a b : List ByteArray) : zI (a ++ b) = zI a ++ zI b := by unfold zI; rw [List.map_append]
theorem Y9 (w : World) (B : Nat) (hB : B ≤ w.heap.size) (p : ByteArray) : (w.alloc (.cells #[.string p] 9)).ownsRow B 9 1 (.slice (some ⟨w.heap.size, 0, none⟩) 1 1) 1 (zI [p]) :=
 World.ownsRow_lit w #[.string p] 1 hB (by decide) rfl
def JY (n : Nat) : Prop := ∀ (v : V n) {S : Nat → Prop} {w : World} {cs : List Value} (p : ByteArray), Rep n S w cs v → zU n v → n ≤ 100 → p.size ≤ 1000000 * (101 - n) → yU w →
 Calls Tryz.prog 65 #[.agg cs.toArray, .string p] w fun e w' => YQ w.heap.size (lvS n v p) e w' ∧ zc [] w w'
set_option maxRecDepth 100000 in
theorem leaves_step {n : Nat} (IH : JY n) : JY (n + 1) := fun (v : VS (V n)) {S} {w} {cs} p hr hsm hn hp ht => by
 obtain ⟨vl, vm, lcs, mcs, hr⟩ := hr.open_
 obtain ⟨pl, cl, pm, cm, rfl, rfl, rfl⟩ := hr.forms
 obtain ⟨W0, Gg⟩ : ∃ W0, Hid (W0 = w.alloc (.cells #[.int .i64 v.kind, .int .i64 v.num, .string v.s, .slice pl v.l.length cl, .slice pm v.m.length cm] 25)) := ⟨_, qI rfl⟩
 have Gh : Hid (zc [] w W0) := qI (by rw [Gg.o]; exact (zc.refl [] w).alloc _)
 have Gp : Hid (z8 W0 w.heap.size v.kind v.num v.s (.slice pl v.l.length cl) (.slice pm v.m.length cm)) := qI (by rw [Gg.o]; exact yg _ _ _ _ _ _ _)
 have Je := qI hr
 have Gr := qI hsm
 have Jf := qI hp
 have HT := qI ht
 have Gs := qI hn
 have hfew := jO hsm
 have hlI : (v.l.length : Int) ≤ 1000000 := by omega
 have hmI : (v.m.length : Int) ≤ 1000000 := by omega
 have hp0 : p.size ≤ 101000000 := by omega
 clear hr hsm hn hp ht hfew
 by_cases h0 : v.l.length + v.m.length = 0
 ·have Gu : Hid (lvS (n + 1) v p = [p]) := qI (by unfold lvS; rw [Qc h0]; simp [path_nil])
  have h0I : (v.l.length : Int) + v.m.length = 0 := by omega
  obtain ⟨x0, x1, x2, x3, x4⟩ := Gp.o
  clear h0
  go_enter Tryz.func65, Tryz.ntmps65
  go_upto_region 1 with fail
  rw [← Gg.o]
  go_wp2_with fail
  go_ret
  exact ⟨by rw [Gu.o]; exact ⟨_, _, rfl, Y9 _ _ Gh.o.size p⟩, Gh.o.alloc _⟩
 obtain ⟨i1, i2⟩ := zy (a := (v.l.length : Int) + v.m.length) (b := 0) (by omega)
 have Gv := qI h0
 have Jg := qI Gr.o.1
 obtain ⟨x0, x1, x2, x3, x4⟩ := Gp.o
 clear h0
 go_enter Tryz.func65, Tryz.ntmps65
 go_upto_region 1 with fail
 rw [← Gg.o]
 go_wp2_with fail
 go_loopw [5, 6, 7, 23] (fun z _ _ i wr => ∃ (k : Nat) (X : List ByteArray), i = .int .i64 k ∧ k ≤ v.l.length ∧ Hid (X = (lvA v k).map (xF p)) ∧ KJ W0 X z wr) (fun _ _ _ i _ => v.l.length - (intOf i).toNat)
 case atStart => exact ⟨0, [], rfl, Nat.zero_le _, qI rfl, ⟨World.ownsRow_nil _ _ _ _, zc.refl _ _⟩⟩
 case round =>
  obtain ⟨k, X, rfl, hk, HX, hlv⟩ := hrel
  obtain ⟨az, cz, rfl⟩ := hlv.form
  have Gb := qI hlv
  have Gi : Hid (zc [] w wr) := qI (Gh.o.then hlv.kept)
  by_cases hlt : k < v.l.length
  ·have hltI : (k : Int) < v.l.length := by omega
   obtain ⟨g1, o1, c1, kd, nm, st, a1, b1, e1, q0, q1, q2, q3, q4, hrp⟩ := Je.o.at_l Gi.o k hlt
   simp only [Value.slice.injEq] at e1
   obtain ⟨rfl, -, rfl⟩ := e1
   obtain ⟨pa1, na1, ca1, pb1, nb1, cb1, rfl, rfl⟩ := hrp.sl
   obtain ⟨W2, Gj⟩ : ∃ W2, Hid (W2 = wr.alloc (.cells #[.int .i64 kd, .int .i64 nm, .string st, .slice pa1 na1 ca1, .slice pb1 nb1 cb1] 25)) := ⟨_, qI rfl⟩
   have Ga : Hid (zc [] wr W2) := qI (by rw [Gj.o]; exact (zc.refl [] wr).alloc _)
   have Gw : Hid (z8 W2 wr.heap.size kd nm st (.slice pa1 na1 ca1) (.slice pb1 nb1 cb1)) := qI (by rw [Gj.o]; exact yg _ _ _ _ _ _ _)
   have Gc := qI (lvA_next hlt p)
   rw [← HX.o] at Gc
   have Gx := qI (hrp.kept0 Ga.o)
   have Gy := qI (Gr.o.kid (xr (List.getElem_mem hlt)))
   have Gd := qI hlt
   have Gz : Hid ((lvA v (k + 1)).length ≤ 20000) := qI (by have h1 := lvA_le v (k + 1) Gv.o; have := Jg.o; omega)
   clear hrp hlv hk
   go_upto_region 7 with fail
   rw [← Gj.o]
   refine zj (n := 10) (fun w' : World => z8 w' wr.heap.size kd nm st (.slice pa1 na1 ca1) (.slice pb1 nb1 cb1)) 9 (by kernel_rfl) (by kernel_rfl) ?_
   change zS _ _ _ _ _ _ _ _ _ W2.drew
   have Gf : Hid (zc [] W2 W2.drew) := qI (zc.refl _ W2).drew
   have hSS : (fun w' : World => z8 w' wr.heap.size kd nm st (.slice pa1 na1 ca1) (.slice pb1 nb1 cb1)) W2.drew := Gw.o.kept0 Gf.o
   revert Gf hSS
   generalize W2.drew = WD
   intro Gf hSS
   have hz1 : ¬ 9223372036854775807 < p.size + 1 := by omega
   refine zu ?_
   intro O R hO hR
   have hQp : ∀ c a (d : Nat) v w, R (.panic c) (a.put (some d) v) w → R (.panic c) a w := by subst hR; exact fun _ _ _ _ _ h => h
   refine za (i := 0) (v := ?_) hO rfl rfl (by kernel_rfl) (by kernel_rfl) (by kernel_rfl) (by kernel_rfl) hQp (Or.inl ⟨by kernel_rfl, fun w hSw => ?_⟩) hSS ?_
   rotate_left
   ·go_simp; try with_reducible rfl
   try simp only [zA,zN,zB,zC,zD]
   refine za (i := 1) (v := ?_) hO rfl rfl (by kernel_rfl) (by kernel_rfl) (by kernel_rfl) (by kernel_rfl) hQp (Or.inl ⟨by kernel_rfl, fun w hSw => ?_⟩) hSS ?_
   rotate_left
   ·obtain ⟨s0, s1, s2, s3, s4⟩ := hSw; go_simp; try with_reducible rfl
   try simp only [zA,zN,zB,zC,zD]
   refine za (i := 2) (v := ?_) hO rfl rfl (by kernel_rfl) (by kernel_rfl) (by kernel_rfl) (by kernel_rfl) hQp (Or.inl ⟨by kernel_rfl, fun w hSw => ?_⟩) hSS ?_
   rotate_left
   ·go_simp; try with_reducible rfl
   try simp only [zA,zN,zB,zC,zD]
   refine za (i := 3) (v := ?_) hO rfl rfl (by kernel_rfl) (by kernel_rfl) (by kernel_rfl) (by kernel_rfl) hQp (Or.inl ⟨by kernel_rfl, fun w hSw => ?_⟩) hSS ?_
   rotate_left
   ·go_simp; try with_reducible rfl
   try simp only [zA,zN,zB,zC,zD]
   refine za (i := 4) (v := ?_) hO rfl rfl (by kernel_rfl) (by kernel_rfl) (by kernel_rfl) (by kernel_rfl) hQp (Or.inl ⟨by kernel_rfl, fun w hSw => ?_⟩) hSS ?_
   rotate_left
   ·go_simp; try with_reducible rfl
   try simp only [zA,zN,zB,zC,zD]
   obtain ⟨P1, hP1⟩ : ∃ P1, p ++ (⟨#[47]⟩ : ByteArray) = P1 := ⟨_, rfl⟩
   have hP1z : P1.size = p.size + 1 := by rw [← hP1, ByteArray.size_append]; rfl
   rw [hP1]
   rw [hP1] at Gc
   have hP1y : P1.size ≤ 101000001 := by omega
   have Ja := qI hP1z
   clear hP1 hP1z
   refine zd (i := 5) hO rfl (by kernel_rfl) (by kernel_rfl) (fun K hK => ?_)
   go_simp
   refine Calls.mono (Y7 ((HT.o.kept0 Gi.o).kept0 (Ga.o.then Gf.o)) k (by omega) (by omega)) ?_
   rw [Lib.itoa_nonneg]
   have hTz : (zf (Lib.decDigits k)).size ≤ 21 := by rw [zG]; exact qS k (by omega)
   rintro e w3 ⟨rfl, hk3⟩
   have Gk := qI (Gf.o.then hk3)
   have hS1 : (fun w' : World => z8 w' wr.heap.size kd nm st (.slice pa1 na1 ca1) (.slice pb1 nb1 cb1)) w3 := hSS.kept0 hk3
   refine hK _ _ (.inr hS1) ?_
   clear hK K
   try simp only [zA,zN,zB,zC,zD]
   clear hSS hk3
   have hSS := hS1
   clear hS1
   revert hTz Gc
   generalize zf (Lib.decDigits k) = T
   intro Gc hTz
   have hz2 : ¬ 9223372036854775807 < P1.size + T.size := by omega
   refine za (i := 6) (v := ?_) hO rfl rfl (by kernel_rfl) (by kernel_rfl) (by kernel_rfl) (by kernel_rfl) hQp (Or.inl ⟨by kernel_rfl, fun w hSw => ?_⟩) hSS ?_
   rotate_left
   ·go_simp; try with_reducible rfl
   try simp only [zA,zN,zB,zC,zD]
   refine zd (i := 7) hO rfl (by kernel_rfl) (by kernel_rfl) (fun K hK => ?_)
   go_simp
   have CV := qI (IH v.l[k] (P1 ++ T) ((Gx.o.kept0 Gk.o)) Gy.o (by have := Gs.o; omega) (by rw [ByteArray.size_append]; have := Jf.o; have := Gs.o; have := Ja.o; omega) (((HT.o.kept0 Gi.o).kept0 Ga.o).kept0 Gk.o))
   refine Calls.mono CV.o ?_
   rintro e w4 ⟨⟨p4, c4, rfl, hrow4⟩, hk4⟩
   have Gl := qI (Gk.o.then hk4)
   have hS1 : (fun w' : World => z8 w' wr.heap.size kd nm st (.slice pa1 na1 ca1) (.slice pb1 nb1 cb1)) w4 := hSS.kept0 hk4
   have Jj := qI (zk Gb.o.row (Ga.o.then Gl.o) (by simp))
   have Gm := qI (Slc.of_row hrow4)
   have Ge : Hid (X.length + (lvS n v.l[k] (P1 ++ T)).length ≤ 20000) := qI (by
    have h1 := congrArg List.length Gc.o
    rw [List.length_append, List.length_map] at h1
    have := Gz.o
    omega)
   refine hK _ _ (.inr hS1) ?_
   clear hK K
   try simp only [zA,zN,zB,zC,zD]
   clear hSS hk4 hrow4
   have hSS := hS1
   clear hS1
   refine zd (i := 8) hO rfl (by kernel_rfl) (by kernel_rfl) (fun K hK => ?_)
   refine yi qG Jj.o Gm.o (kr _) (by have := Ge.o; simp only [maxLen]; omega) (by have := Ge.o; omega) (by have h1 := (Gb.o.kept.then (Ga.o.then Gl.o)).size; exact h1) (.tmp 28) (.tmp 35) rfl rfl rfl ?_
   intro b5 c5 w5 hrow5 hk5 hbk5
   rw [← bk, ← List.length_append] at hrow5
   rw [← List.length_append]
   obtain ⟨Y, hY⟩ : ∃ Y, X ++ lvS n v.l[k] (P1 ++ T) = Y := ⟨_, rfl⟩
   rw [hY] at hrow5
   rw [hY]
   have hfr : ∀ g, g ∈ (Value.slice az X.length cz).ownBlock.toList → W0.heap.size ≤ g ∧ g < wr.heap.size := fun g hg => Gb.o.row.lt g (Option.mem_toList.1 hg)
   have Gq : Hid (zc [] W0 w5) := qI ((Gb.o.kept.then (Ga.o.then Gl.o)).trans hk5 (fun g hg => .inr (hfr g hg).1))
   have hS1 : (fun w' : World => z8 w' wr.heap.size kd nm st (.slice pa1 na1 ca1) (.slice pb1 nb1 cb1)) w5 := hSS.kept hk5 (fun hx => by have := (hfr _ hx).2; omega)
   have Jb : Hid (KJ W0 Y (.slice b5 Y.length c5) w5) := qI ⟨hrow5, Gq.o⟩
   have Jc : Hid (Y = (lvA v (k + 1)).map (xF p)) := qI (by rw [← hY]; exact Gc.o.symm)
   clear hY
   refine hK _ _ (.inr hS1) ?_
   clear hK K
   try simp only [zA,zN,zB,zC,zD]
   clear hSS hrow5 hk5 hbk5 hfr hS1
   refine zd (i := 9) hO rfl (by kernel_rfl) (by kernel_rfl) (fun K hK => ?_)
   go_simp
   refine hK _ _ (.inl rfl) ?_
   clear hK K
   try simp only [zA,zN,zB,zC,zD]
   refine zt hO (by kernel_rfl) ?_ _
   subst hR
   try clear hQp hO O
   go_wp2_with fail
   case roundEnd => exact ⟨⟨k + 1, Y, by go_num, by have := Gd.o; omega, Jc, Jb.o⟩, by have := Gd.o; simp [intOf]; omega⟩
  ·obtain rfl : k = v.l.length := by omega
   have hltI : ¬ (v.l.length : Int) < v.l.length := by omega
   have Jh : Hid (X = (lvB v 0).map (xF p)) := qI (by rw [Q6]; exact HX.o)
   obtain ⟨x0, x1, x2, x3, x4⟩ := Gp.o.kept0 hlv.kept
   clear hlt hk hlv HX
   go_wp2_with fail
   go_loopw [5, 9, 41] (fun z _ i wq => ∃ (k : Nat) (X : List ByteArray), i = .int .i64 k ∧ k ≤ v.m.length ∧ Hid (X = (lvB v k).map (xF p)) ∧ KJ W0 X z wq) (fun _ _ i _ => v.m.length - (intOf i).toNat)
   case atStart => exact ⟨0, X, rfl, Nat.zero_le _, Jh, Gb.o⟩
   case round =>
    clear Gb Gi Jh x0 x1 x2 x3 x4 hltI
    obtain ⟨k, X, rfl, hk, HX, hlv⟩ := hrel
    obtain ⟨az, cz, rfl⟩ := hlv.form
    have Gb := qI hlv
    have Gi : Hid (zc [] w wr) := qI (Gh.o.then hlv.kept)
    by_cases hlt : k < v.m.length
    ·have hltI : (k : Int) < v.m.length := by omega
     obtain ⟨g1, o1, c1, kd, nm, st, a1, b1, e1, qk, q0, q1, q2, q3, q4, hrp⟩ := Je.o.at_m Gi.o k hlt
     simp only [Value.slice.injEq] at e1
     obtain ⟨rfl, -, rfl⟩ := e1
     obtain ⟨pa1, na1, ca1, pb1, nb1, cb1, rfl, rfl⟩ := hrp.sl
     obtain ⟨key, hkey⟩ : ∃ key, v.m[k].1 = key := ⟨_, rfl⟩
     have hkz : key.size ≤ 400000 := by rw [← hkey]; exact Nat.le_trans (vf (List.getElem_mem hlt)) Gr.o.2
     have Gc := qI (lvB_next hlt p)
     rw [← HX.o] at Gc
     rw [hkey] at qk Gc
     obtain ⟨W2, Gj⟩ : ∃ W2, Hid (W2 = wr.alloc (.cells #[.string key, .int .i64 kd, .int .i64 nm, .string st, .slice pa1 na1 ca1, .slice pb1 nb1 cb1] 60)) := ⟨_, qI rfl⟩
     have Ga : Hid (zc [] wr W2) := qI (by rw [Gj.o]; exact (zc.refl [] wr).alloc _)
     have Gw : Hid (xD W2 wr.heap.size key kd nm st (.slice pa1 na1 ca1) (.slice pb1 nb1 cb1)) := qI (by rw [Gj.o]; exact zai rfl _ _ _ _ _ _ _)
     have Gx := qI (hrp.kept0 Ga.o)
     have Gy := qI (Gr.o.kid (xh (List.getElem_mem hlt)))
     have Gd := qI hlt
     have Gz : Hid ((lvB v (k + 1)).length ≤ 20000) := qI (by have h1 := lvB_le v (k + 1) Gv.o; have := Jg.o; omega)
     have hpt : (yX [key]).length ≤ 800001 := by
      have h1 := Qb key.data.toList
      rw [kS] at h1
      show (47 :: yo key.data.toList ++ []).length ≤ 800001
      rw [List.append_nil, List.length_cons]
      omega
     have Ji := qI hpt
     have Jm := qI hkz
     clear hrp hlv hk hkey hpt hkz
     go_upto_region 12 with fail
     rw [← Gj.o]
     refine zj (n := 12) (fun w' : World => xD w' wr.heap.size key kd nm st (.slice pa1 na1 ca1) (.slice pb1 nb1 cb1)) 11 (by kernel_rfl) (by kernel_rfl) ?_
     change zS _ _ _ _ _ _ _ _ _ W2.drew
     have Gf : Hid (zc [] W2 W2.drew) := qI (zc.refl _ W2).drew
     have hSS : (fun w' : World => xD w' wr.heap.size key kd nm st (.slice pa1 na1 ca1) (.slice pb1 nb1 cb1)) W2.drew := Gw.o.kept0 Gf.o
     revert Gf hSS
     generalize W2.drew = WD
     intro Gf hSS
     refine zu ?_
     intro O R hO hR
     have hQp : ∀ c a (d : Nat) v w, R (.panic c) (a.put (some d) v) w → R (.panic c) a w := by subst hR; exact fun _ _ _ _ _ h => h
     refine za (i := 0) (v := ?_) hO rfl rfl (by kernel_rfl) (by kernel_rfl) (by kernel_rfl) (by kernel_rfl) hQp (Or.inl ⟨by kernel_rfl, fun w hSw => ?_⟩) hSS ?_
     rotate_left
     ·go_simp; try with_reducible rfl
     try simp only [zA,zN,zB,zC,zD]
     refine za (i := 1) (v := ?_) hO rfl rfl (by kernel_rfl) (by kernel_rfl) (by kernel_rfl) (by kernel_rfl) hQp (Or.inl ⟨by kernel_rfl, fun w hSw => ?_⟩) hSS ?_
     rotate_left
     ·go_simp; try with_reducible rfl
     try simp only [zA,zN,zB,zC,zD]
     refine za (i := 2) (v := ?_) hO rfl rfl (by kernel_rfl) (by kernel_rfl) (by kernel_rfl) (by kernel_rfl) hQp (Or.inl ⟨by kernel_rfl, fun w hSw => ?_⟩) hSS ?_
     rotate_left
     ·obtain ⟨sk, s0, s1, s2, s3, s4⟩ := hSw; go_simp; try with_reducible rfl
     try simp only [zA,zN,zB,zC,zD]
     refine za (i := 3) (v := ?_) hO rfl rfl (by kernel_rfl) (by kernel_rfl) (by kernel_rfl) (by kernel_rfl) hQp (Or.inl ⟨by kernel_rfl, fun w hSw => ?_⟩) hSS ?_
     rotate_left
     ·go_simp; try with_reducible rfl
     try simp only [zA,zN,zB,zC,zD]
     refine za (i := 4) (v := ?_) hO rfl rfl (by kernel_rfl) (by kernel_rfl) (by kernel_rfl) (by kernel_rfl) hQp (Or.inl ⟨by kernel_rfl, fun w hSw => ?_⟩) hSS ?_
     rotate_left
     ·go_simp; try with_reducible rfl
     try simp only [zA,zN,zB,zC,zD]
     refine za (i := 5) (v := ?_) hO rfl rfl (by kernel_rfl) (by kernel_rfl) (by kernel_rfl) (by kernel_rfl) hQp (Or.inl ⟨by kernel_rfl, fun w hSw => ?_⟩) hSS ?_
     rotate_left
     ·obtain ⟨sk, s0, s1, s2, s3, s4⟩ := hSw; go_simp; try with_reducible rfl
     try simp only [zA,zN,zB,zC,zD]
     refine zd (i := 6) hO rfl (by kernel_rfl) (by kernel_rfl) (fun K hK => ?_)
     go_simp
     have Gk : Hid (zc [] W2 (WD.alloc (.cells #[.string key] 9))) := qI (Gf.o.alloc _)
     have Gn : Hid (Slc (WD.alloc (.cells #[.string key] 9)) 1 (.slice (some ⟨WD.heap.size, 0, none⟩) 1 1) 1 (zI [key])) := qI (Slc.of_row (Y9 WD 0 (Nat.zero_le _) key))
     have hS1 : (fun w' : World => xD w' wr.heap.size key kd nm st (.slice pa1 na1 ca1) (.slice pb1 nb1 cb1)) (WD.alloc (.cells #[.string key] 9)) := hSS.kept0 ((zc.refl [] WD).alloc _)
     refine hK _ _ (.inr hS1) ?_
     clear hK K
     try simp only [zA,zN,zB,zC,zD]
     clear hSS
     have hSS := hS1
     clear hS1
     revert Gk Gn hSS
     generalize WD.alloc (.cells #[.string key] 9) = w3
     intro Gk Gn hSS
     refine zd (i := 7) hO rfl (by kernel_rfl) (by kernel_rfl) (fun K hK => ?_)
     go_simp
     refine Calls.mono (pointer_any Gn.o (by omega) (by have := Ji.o; omega)) ?_
     rintro e w4 ⟨rfl, hk4⟩
     have Gl := qI (Gk.o.then hk4)
     have hS1 : (fun w' : World => xD w' wr.heap.size key kd nm st (.slice pa1 na1 ca1) (.slice pb1 nb1 cb1)) w4 := hSS.kept0 hk4
     refine hK _ _ (.inr hS1) ?_
     clear hK K
     try simp only [zA,zN,zB,zC,zD]
     clear hSS hk4
     have hSS := hS1
     clear hS1
     have hTz : (zf (yX [key])).size ≤ 800001 := by rw [zG]; exact Ji.o
     revert hTz Gc
     generalize zf (yX [key]) = T
     intro Gc hTz
     have hz2 : ¬ 9223372036854775807 < p.size + T.size := by omega
     refine za (i := 8) (v := ?_) hO rfl rfl (by kernel_rfl) (by kernel_rfl) (by kernel_rfl) (by kernel_rfl) hQp (Or.inl ⟨by kernel_rfl, fun w hSw => ?_⟩) hSS ?_
     rotate_left
     ·go_simp; try with_reducible rfl
     try simp only [zA,zN,zB,zC,zD]
     refine zd (i := 9) hO rfl (by kernel_rfl) (by kernel_rfl) (fun K hK => ?_)
     go_simp
     have CV := qI (IH v.m[k].2 (p ++ T) ((Gx.o.kept0 Gl.o)) Gy.o (by have := Gs.o; omega) (by rw [ByteArray.size_append]; have := Jf.o; have := Gs.o; omega) (((HT.o.kept0 Gi.o).kept0 Ga.o).kept0 Gl.o))
     refine Calls.mono CV.o ?_
     rintro e w5 ⟨⟨p5, c5, rfl, hrow5⟩, hk5⟩
     have Gq := qI (Gl.o.then hk5)
     have hS1 : (fun w' : World => xD w' wr.heap.size key kd nm st (.slice pa1 na1 ca1) (.slice pb1 nb1 cb1)) w5 := hSS.kept0 hk5
     have Jb := qI (zk Gb.o.row (Ga.o.then Gq.o) (by simp))
     have Gm := qI (Slc.of_row hrow5)
     have Ge : Hid (X.length + (lvS n v.m[k].2 (p ++ T)).length ≤ 20000) := qI (by
      have h1 := congrArg List.length Gc.o
      rw [List.length_append, List.length_map] at h1
      have := Gz.o
      omega)
     refine hK _ _ (.inr hS1) ?_
     clear hK K
     try simp only [zA,zN,zB,zC,zD]
     clear hSS hk5 hrow5
     have hSS := hS1
     clear hS1
     refine zd (i := 10) hO rfl (by kernel_rfl) (by kernel_rfl) (fun K hK => ?_)
     refine yi qG Jb.o Gm.o (kr _) (by have := Ge.o; simp only [maxLen]; omega) (by have := Ge.o; omega) (by have h1 := (Gb.o.kept.then (Ga.o.then Gq.o)).size; exact h1) (.tmp 45) (.tmp 54) rfl rfl rfl ?_
     intro b6 c6 w6 hrow6 hk6 hbk6
     rw [← bk, ← List.length_append] at hrow6
     rw [← List.length_append]
     obtain ⟨Y, hY⟩ : ∃ Y, X ++ lvS n v.m[k].2 (p ++ T) = Y := ⟨_, rfl⟩
     rw [hY] at hrow6
     rw [hY]
     have hfr : ∀ g, g ∈ (Value.slice az X.length cz).ownBlock.toList → W0.heap.size ≤ g ∧ g < wr.heap.size := fun g hg => Gb.o.row.lt g (Option.mem_toList.1 hg)
     have Jk : Hid (zc [] W0 w6) := qI ((Gb.o.kept.then (Ga.o.then Gq.o)).trans hk6 (fun g hg => .inr (hfr g hg).1))
     have hS1 : (fun w' : World => xD w' wr.heap.size key kd nm st (.slice pa1 na1 ca1) (.slice pb1 nb1 cb1)) w6 := hSS.kept hk6 (fun hx => by have := (hfr _ hx).2; omega)
     have Jl : Hid (KJ W0 Y (.slice b6 Y.length c6) w6) := qI ⟨hrow6, Jk.o⟩
     have Jc : Hid (Y = (lvB v (k + 1)).map (xF p)) := qI (by rw [← hY]; exact Gc.o.symm)
     clear hY
     refine hK _ _ (.inr hS1) ?_
     clear hK K
     try simp only [zA,zN,zB,zC,zD]
     clear hSS hrow6 hk6 hbk6 hfr hS1
     refine zd (i := 11) hO rfl (by kernel_rfl) (by kernel_rfl) (fun K hK => ?_)
     go_simp
     refine hK _ _ (.inl rfl) ?_
     clear hK K
     try simp only [zA,zN,zB,zC,zD]
     refine zt hO (by kernel_rfl) ?_ _
     subst hR
     try clear hQp hO O
     go_wp2_with fail
     case roundEnd => exact ⟨⟨k + 1, Y, by go_num, by have := Gd.o; omega, Jc, Jl.o⟩, by have := Gd.o; simp [intOf]; omega⟩
    ·obtain rfl : k = v.m.length := by omega
     have hltI : ¬ (v.m.length : Int) < v.m.length := by omega
     have Gu : Hid (lvS (n + 1) v p = X) := qI (by unfold lvS; rw [lv_all Gv.o]; exact HX.o.symm)
     clear hlt hk hlv HX
     go_wp2_with fail
     go_ret
     exact ⟨by rw [Gu.o]; exact ⟨_, _, rfl, yN Gb.o.row (fun g hg => by have h1 := (Gb.o.row.lt g hg).1; have h2 := Gh.o.size; omega)⟩, Gi.o⟩
theorem Zr : ∀ n, JY n
 | 0 => fun v {_} {_} {_} _ _ _ _ _ _ => nomatch v
 | n + 1 => leaves_step (Zr n)
def y6 (n : Nat) (v : V n) : List ByteArray := if zz n v = 0 then lvS n v ⟨#[]⟩ else []
section
variable {n : Nat} {v : V n} {S : Nat → Prop} {w : World} {cs : List Value}
set_option maxRecDepth 100000 in
theorem leaves_any (hr : Rep n S w cs v) (hsm : zU n v) (hn : n ≤ 100) (ht : yU w) :
  Calls Tryz.prog 35 #[.agg cs.toArray] w fun e w' => YQ w.heap.size (y6 n v) e w' ∧ zc [] w w' := by
 obtain ⟨kd, nm, st, a, la, ea, b, lb, eb, rfl⟩ := hr.conv
 obtain ⟨W0, Gg⟩ : ∃ W0, Hid (W0 = w.alloc (.cells #[.int .i64 kd, .int .i64 nm, .string st, .slice a la ea, .slice b lb eb] 25)) := ⟨_, qI rfl⟩
 have Gh : Hid (zc [] w W0) := qI (by rw [Gg.o]; exact (zc.refl [] w).alloc _)
 have Gp : Hid (z8 W0 w.heap.size kd nm st (.slice a la ea) (.slice b lb eb)) := qI (by rw [Gg.o]; exact yg _ _ _ _ _ _ _)
 have CK := qI (x9 (hr.kept0 Gh.o) hsm hn (ht.kept0 Gh.o))
 have CL := qI (fun (w' : World) (k : zc [] w w') => Zr n v ⟨#[]⟩ (hr.kept0 k) hsm hn (Nat.zero_le _) (ht.kept0 k))
 have hbx := Gp.o
 rw [Gg.o] at hbx
 obtain ⟨x0, x1, x2, x3, x4⟩ := hbx
 clear hr hsm hn ht
 go_enter Tryz.func35, Tryz.ntmps35
 go_wp2_with fail
 rw [← Gg.o]
 clear x0 x1 x2 x3 x4
 refine CK.o.mono ?_
 rintro e w1 ⟨rfl, hk1⟩
 have Gt := qI (Gh.o.then hk1)
 obtain ⟨x0, x1, x2, x3, x4⟩ := Gp.o.kept0 hk1
 clear hk1
 by_cases hc : zz n v = 0
 ·have Gd : Hid (y6 n v = lvS n v ⟨#[]⟩) := qI (by unfold y6; rw [if_pos hc])
  rw [hc]
  have CL1 := qI (CL.o _ Gt.o)
  clear hc
  go_wp2_with fail
  refine CL1.o.mono ?_
  rintro e w2 ⟨⟨p2, c2, rfl, hrow⟩, hk2⟩
  have Jd := qI (yN (base' := w.heap.size) hrow (fun g hg => by have h1 := (hrow.lt g hg).1; have h2 := Gt.o.size; omega))
  have Ga := qI (Gt.o.then hk2)
  clear hrow hk2 x0 x1 x2 x3 x4
  revert Jd Gd
  generalize lvS n v ⟨#[]⟩ = X
  intro Gd Jd
  go_wp2_with fail
  go_ret
  exact ⟨by rw [Gd.o]; exact ⟨_, _, rfl, Jd.o⟩, Ga.o⟩
 ·have Gd : Hid (y6 n v = []) := qI (by unfold y6; rw [if_neg hc])
  obtain ⟨g1, g2⟩ := zy (a := zz n v) (b := 0) hc
  clear hc
  go_wp2_with fail
  go_ret
  exact ⟨by rw [Gd.o]; exact br _ _, Gt.o⟩
end
end Go.Proofs.YtpbphdkjjoipnaaGreatDoor

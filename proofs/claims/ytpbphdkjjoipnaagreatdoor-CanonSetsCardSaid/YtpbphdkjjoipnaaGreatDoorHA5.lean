/- Parts of one proof, merged: XWI XWJ XWK XWL. -/
import Derived.Test.YtpbphdkjjoipnaaGreatDoorHA3
import Derived.Test.YtpbphdkjjoipnaaGreatDoorHA4
import Derived.Test.YtpbphdkjjoipnaaGreatDoorHZ
import Derived.Test.YtpbphdkjjoipnaaGreatDoorHR
import Derived.Test.YtpbphdkjjoipnaaGreatDoorHL
import Derived.Test.YtpbphdkjjoipnaaGreatDoorHD
set_option linter.all false
set_option maxHeartbeats 12800000
set_option maxRecDepth 10000
set_option linter.unusedVariables false
set_option linter.unusedSimpArgs false
set_option linter.unnecessarySimpa false
namespace Go.Proofs.YtpbphdkjjoipnaaGreatDoor
open Go.Proofs.Tryz
open Go.RowKit
def jD {k : Nat} (x : V k) (n : Nat) (v : V n) (p : List UInt8) : Option (Sigma V) × Int :=
 if zi n v ≠ 0 then (none, zi n v) else if zi k x ≠ 0 then (none, zi k x) else match yf p with
  | none => (none, 60)
  | some L => match yZ x n v L with
   | none => (none, 4)
   | some y => if zi (k + n) y ≠ 0 then (none, zi (k + n) y) else (some ⟨k + n, y⟩, 0)
section
variable {k n : Nat} {x : V k} {v : V n} {p : List UInt8} {L : List (List UInt8)} {y : V (k + n)}
theorem KZ (h : zi n v ≠ 0) : jD x n v p = (none, zi n v) := by unfold jD; rw [if_pos h]
theorem YL (h : zi n v = 0) (h2 : zi k x ≠ 0) : jD x n v p = (none, zi k x) := by unfold jD; rw [if_neg (by simpa using h), if_pos h2]
theorem YN (h : zi n v = 0) (h2 : zi k x = 0) (hp : yf p = none) : jD x n v p = (none, 60) := by unfold jD; rw [if_neg (by simpa using h), if_neg (by simpa using h2), hp]
theorem YP (h : zi n v = 0) (h2 : zi k x = 0) (hp : yf p = some L) (ha : yZ x n v L = none) : jD x n v p = (none, 4) := by unfold jD; rw [if_neg (by simpa using h), if_neg (by simpa using h2), hp]; simp only [ha]
theorem YR (h : zi n v = 0) (h2 : zi k x = 0) (hp : yf p = some L) (ha : yZ x n v L = some y) (hc : zi (k + n) y ≠ 0) : jD x n v p = (none, zi (k + n) y) := by unfold jD; rw [if_neg (by simpa using h), if_neg (by simpa using h2), hp]; simp only [ha]; rw [if_pos hc]
theorem YZ (h : zi n v = 0) (h2 : zi k x = 0) (hp : yf p = some L) (ha : yZ x n v L = some y) (hc : zi (k + n) y = 0) : jD x n v p = (some ⟨k + n, y⟩, 0) := by unfold jD; rw [if_neg (by simpa using h), if_neg (by simpa using h2), hp]; simp only [ha]; rw [if_neg (by simpa using hc)]
end
theorem parts_sum {p : List UInt8} {L : List (List UInt8)} (h : yf p = some L) : (L.map List.length).sum ≤ p.length := by
 have e := jz h
 subst e
 clear h
 induction L with
 | nil => exact Nat.zero_le _
 | cons x l ih =>
  have h1 := esc_ge x
  rw [List.map_cons, List.sum_cons, show kr (x :: l) = (47 :: JF x) ++ kr l from rfl, List.length_append, List.length_cons]
  omega
def K8 (n : Nat) (v : V n) : Prop := ze n v ≤ 6000 ∧ zw n v ≤ 60000
theorem K8.small {n : Nat} {v : V n} (h : K8 n v) : zZ n v := ⟨by have := h.1; omega, by have := h.2; omega⟩
theorem Y3 {k n : Nat} {x : V k} {v : V n} {p : List UInt8} {L : List (List UInt8)} {y : V (k + n)} (hx : K8 k x) (hv : K8 n v) (hp : yf p = some L) (h1 : p.length ≤ 1000) (h : yZ x n v L = some y) : zZ (k + n) y := by
 have h2 := size_set n v L h
 have h3 := parts_sum hp
 have h4 := hx.1
 have h5 := hx.2
 have h6 := hv.1
 have h7 := hv.2
 exact ⟨by omega, by omega⟩
section
variable {n k : Nat} {v : V n} {x : V k} {S : Nat → Prop} {w : World} {cs cy : List Value}
set_option maxRecDepth 100000 in
theorem refSet_any (hr : Rep n S w cs v) (hx : Rep k S w cy x) (hv : K8 n v) (hxs : K8 k x) (hn : k + n ≤ 100) (p : ByteArray) (hp : p.size ≤ 1000) :
  Calls Tryz.prog 32 #[.agg cs.toArray, .string p, .agg cy.toArray] w fun e w' => Zb (jD x n v p.data.toList) e w' ∧ zb [] w w' := by
 have hr := hr.move (T := fun g => S g ∧ g < w.heap.size) (zb.refl [] w) (fun g h1 h2 => ⟨by simp, h2, h1⟩)
 have hx := hx.move (T := fun g => S g ∧ g < w.heap.size) (zb.refl [] w) (fun g h1 h2 => ⟨by simp, h2, h1⟩)
 obtain ⟨kd, nm, st, a, la, ea, b, lb, eb, rfl⟩ := hr.conv
 obtain ⟨kx, mx, sx, px, ix, cx, qx, jx, dx, rfl⟩ := hx.conv
 obtain ⟨W0, Ge⟩ : ∃ W0, Hid (W0 = ((w.alloc (.cells #[.int .i64 kd, .int .i64 nm, .string st, .slice a la ea, .slice b lb eb] 25)).alloc (.cells #[.int .i64 kx, .int .i64 mx, .string sx, .slice px ix cx, .slice qx jx dx] 25)).alloc (.cells #[.int .i64 0, .int .i64 0, .string ⟨#[]⟩, .slice none 0 0, .slice none 0 0] 25)) := ⟨_, qI rfl⟩
 have Ga : Hid (zb [] w W0) := qI (by rw [Ge.o]; exact (((zb.refl [] w).alloc _).alloc _).alloc _)
 have Gz : Hid (W0.heap.size = w.heap.size + 3) := qI (by rw [Ge.o]; simp)
 have Jo : Hid (z6 W0 w.heap.size kd nm st (.slice a la ea) (.slice b lb eb)) := qI (by rw [Ge.o]; exact ((yb _ _ _ _ _ _ _).kept0 ((zb.refl [] _).alloc _)).kept0 ((zb.refl [] _).alloc _))
 have Jp : Hid (z6 W0 (w.heap.size + 1) kx mx sx (.slice px ix cx) (.slice qx jx dx)) := qI (by
  rw [Ge.o]
  have h := yb (w.alloc (.cells #[.int .i64 kd, .int .i64 nm, .string st, .slice a la ea, .slice b lb eb] 25)) kx mx sx (.slice px ix cx) (.slice qx jx dx) 25
  rw [show (w.alloc (.cells #[.int .i64 kd, .int .i64 nm, .string st, .slice a la ea, .slice b lb eb] 25)).heap.size = w.heap.size + 1 by simp] at h
  exact h.kept0 ((zb.refl [] _).alloc _))
 have Gk : Hid (xh W0 (w.heap.size + 1 + 1)) := qI (by rw [Ge.o]; exact zn (by simp))
 have Ju := qI (hr.kept0 Ga.o)
 have Jq := qI (hx.kept0 Ga.o)
 have HV := qI hv
 have Jv := qI hxs
 have HN := qI hn
 have CK := qI (vg (hr.kept0 Ga.o) hv.small (by omega))
 have CKX : Hid (∀ w1, zb [] W0 w1 → Calls Tryz.prog 15 #[.agg #[.int .i64 kx, .int .i64 mx, .string sx, .slice px ix cx, .slice qx jx dx]] w1 fun e w' => e = .returned (.int .i64 (zi k x)) ∧ zb [] w1 w') := qI (fun w1 q => vg (Jq.o.kept0 q) hxs.small (by omega))
 have CPT := qI (fun (w' : World) => refParts_any (w := w') p (by omega))
 have Jn := qI hp
 have hbx := Jo.o
 rw [Ge.o] at hbx
 obtain ⟨x0, x1, x2, x3, x4⟩ := hbx
 clear hr hx hv hxs hp hn
 go_enter func32, ntmps32
 go_wp2_with fail
 rw [← Ge.o]
 clear x0 x1 x2 x3 x4
 refine CK.o.mono ?_
 rintro e w1 ⟨rfl, hk1⟩
 have Gc := qI hk1
 clear hk1
 by_cases hc : zi n v = 0
 rotate_left
 ·obtain ⟨g1, g2⟩ := zt (a := zi n v) (b := 0) hc
  have Gd := qI (KZ (x := x) (p := p.data.toList) hc)
  have Gb := qI (Gk.o.kept Gc.o (by simp))
  obtain ⟨⟨d0, d1, d2, d3, d4⟩, f0, f1, f2, f3, f4⟩ := Gb.o.facts
  clear hc
  go_wp2_with fail
  obtain ⟨WF, e⟩ : ∃ WF, WF = zy w1 (w.heap.size + 1 + 1) (.int .i64 0) (.int .i64 0) (.string ⟨#[]⟩) (.slice none 0 0) (.slice none 0 0) := ⟨_, rfl⟩
  obtain ⟨KF, y0, y1, y2, y3, y4⟩ := Gb.o.stored e
  unfold zy at e
  rw [← e]
  exact bodyPost_ret (v := .tuple #[.agg #[.int .i64 0, .int .i64 0, .string ⟨#[]⟩, .slice none 0 0, .slice none 0 0], .int .i64 (zi n v)]) (by simp [results, results32, go_sem, y0, y1, y2, y3, y4]) rfl ⟨yD Gd.o, ((Ga.o.mono (Y := [w.heap.size + 1 + 1]) (by simp)).trans' ((Gc.o.mono (by simp)).trans' KF)).fresh (by simp; omega)⟩
 have HC := qI hc
 rw [hc]
 clear hc
 obtain ⟨x0, x1, x2, x3, x4⟩ := Jp.o.kept0 Gc.o
 go_wp2_with fail
 clear x0 x1 x2 x3 x4
 refine (CKX.o _ Gc.o).mono ?_
 rintro e w2 ⟨rfl, hk2⟩
 have Gj := qI (Gc.o.then hk2)
 clear hk2
 by_cases hc : zi k x = 0
 rotate_left
 ·obtain ⟨g1, g2⟩ := zt (a := zi k x) (b := 0) hc
  have Gd := qI (YL (p := p.data.toList) HC.o hc)
  have Gb := qI (Gk.o.kept Gj.o (by simp))
  obtain ⟨⟨d0, d1, d2, d3, d4⟩, f0, f1, f2, f3, f4⟩ := Gb.o.facts
  clear hc
  go_wp2_with fail
  obtain ⟨WF, e⟩ : ∃ WF, WF = zy w2 (w.heap.size + 1 + 1) (.int .i64 0) (.int .i64 0) (.string ⟨#[]⟩) (.slice none 0 0) (.slice none 0 0) := ⟨_, rfl⟩
  obtain ⟨KF, y0, y1, y2, y3, y4⟩ := Gb.o.stored e
  unfold zy at e
  rw [← e]
  exact bodyPost_ret (v := .tuple #[.agg #[.int .i64 0, .int .i64 0, .string ⟨#[]⟩, .slice none 0 0, .slice none 0 0], .int .i64 (zi k x)]) (by simp [results, results32, go_sem, y0, y1, y2, y3, y4]) rfl ⟨yD Gd.o, ((Ga.o.mono (Y := [w.heap.size + 1 + 1]) (by simp)).trans' ((Gj.o.mono (by simp)).trans' KF)).fresh (by simp; omega)⟩
 have Gt := qI hc
 rw [hc]
 clear hc
 have CPT1 := qI (CPT.o w2)
 go_wp2_with fail
 refine CPT1.o.mono ?_
 rintro e w3 ⟨ha3, hk3⟩
 have Gf := qI (Gj.o.then hk3)
 clear hk3 CPT1
 cases hpl : yf p.data.toList with
 | none =>
  obtain rfl := ha3.none_ hpl
  have Gd := qI (YN HC.o Gt.o hpl)
  have Gb := qI (Gk.o.kept Gf.o (by simp))
  obtain ⟨⟨d0, d1, d2, d3, d4⟩, f0, f1, f2, f3, f4⟩ := Gb.o.facts
  clear ha3 hpl
  go_wp2_with fail
  obtain ⟨WF, e⟩ : ∃ WF, WF = zy w3 (w.heap.size + 1 + 1) (.int .i64 0) (.int .i64 0) (.string ⟨#[]⟩) (.slice none 0 0) (.slice none 0 0) := ⟨_, rfl⟩
  obtain ⟨KF, y0, y1, y2, y3, y4⟩ := Gb.o.stored e
  unfold zy at e
  rw [← e]
  exact bodyPost_ret (v := .tuple #[.agg #[.int .i64 0, .int .i64 0, .string ⟨#[]⟩, .slice none 0 0, .slice none 0 0], .int .i64 60]) (by simp [results, results32, go_sem, y0, y1, y2, y3, y4]) rfl ⟨yD Gd.o, ((Ga.o.mono (Y := [w.heap.size + 1 + 1]) (by simp)).trans' ((Gf.o.mono (by simp)).trans' KF)).fresh (by simp; omega)⟩
 | some L =>
  obtain ⟨pa, ca, rfl, hsl⟩ := ha3.some_ hpl
  have Gl := qI hpl
  have Jw := qI (v8 hpl)
  have CA := qI (ZX k n v x (Ju.o.kept0 Gf.o) (Jq.o.kept0 Gf.o) hsl HV.o.small (by have h1 := Jw.o.1; rw [ju] at h1; have := Jn.o; omega))
  rw [Zz] at CA
  obtain ⟨x0, x1, x2, x3, x4⟩ := Jo.o.kept0 Gf.o
  obtain ⟨y0, y1, y2, y3, y4⟩ := Jp.o.kept0 Gf.o
  clear ha3 hpl hsl
  go_wp2_with fail
  refine CA.o.mono ?_
  rintro e w4 ⟨hg4, hk4⟩
  obtain ⟨k5, i5, s5, p5, m5, c5, q5, n5, e5, fl, rfl, hfl, hrep5⟩ := ZU hg4
  clear x0 x1 x2 x3 x4 y0 y1 y2 y3 y4 hg4
  obtain ⟨W5, Gu⟩ : ∃ W5, Hid (W5 = w4.alloc (.cells #[.int .i64 k5, .int .i64 i5, .string s5, .slice p5 m5 c5, .slice q5 n5 e5] 25)) := ⟨_, qI rfl⟩
  have Gm : Hid (zb [] w4 W5) := qI (by rw [Gu.o]; exact (zb.refl [] w4).alloc _)
  have Ja := qI ((Gf.o.then hk4).then Gm.o)
  have Jx : Hid (z6 W5 w4.heap.size k5 i5 s5 (.slice p5 m5 c5) (.slice q5 n5 e5)) := qI (by rw [Gu.o]; exact yb _ _ _ _ _ _ _)
  have Jr := qI hrep5
  have Jy : Hid (w.heap.size + 3 ≤ w3.heap.size) := qI (by have h1 := Gz.o; have h2 := Gf.o.size; omega)
  cases hset : yZ x n v L with
  | none =>
   rw [hset] at hfl
   obtain rfl : fl = false := hfl
   clear hk4 hrep5
   go_upto_region 11 with fail
   rw [← Gu.o]
   have Gd := qI (YP HC.o Gt.o Gl.o hset)
   have Gb := qI (Gk.o.kept Ja.o (by simp))
   obtain ⟨⟨d0, d1, d2, d3, d4⟩, f0, f1, f2, f3, f4⟩ := Gb.o.facts
   clear hset
   go_wp2_with fail
   obtain ⟨WF, e⟩ : ∃ WF, WF = zy W5 (w.heap.size + 1 + 1) (.int .i64 0) (.int .i64 0) (.string ⟨#[]⟩) (.slice none 0 0) (.slice none 0 0) := ⟨_, rfl⟩
   obtain ⟨KF, y0, y1, y2, y3, y4⟩ := Gb.o.stored e
   unfold zy at e
   rw [← e]
   exact bodyPost_ret (v := .tuple #[.agg #[.int .i64 0, .int .i64 0, .string ⟨#[]⟩, .slice none 0 0, .slice none 0 0], .int .i64 4]) (by simp [results, results32, go_sem, y0, y1, y2, y3, y4]) rfl ⟨yD Gd.o, ((Ga.o.mono (Y := [w.heap.size + 1 + 1]) (by simp)).trans' ((Ja.o.mono (by simp)).trans' KF)).fresh (by simp; omega)⟩
  | some y =>
   rw [hset] at hfl
   obtain rfl : fl = true := hfl
   have Gr := qI ((Jr.o y hset).kept0 Gm.o)
   have Gs := qI (Y3 Jv.o HV.o Gl.o (by rw [ju]; exact Jn.o) hset)
   have Gn := qI hset
   obtain ⟨x0, x1, x2, x3, x4⟩ := Jx.o
   have CKY := qI (vg Gr.o Gs.o HN.o)
   clear hk4 hset hrep5
   go_upto_region 11 with fail
   rw [← Gu.o]
   go_wp2_with fail
   clear x0 x1 x2 x3 x4
   refine CKY.o.mono ?_
   rintro e w6 ⟨rfl, hk6⟩
   have Gp := qI (Ja.o.then hk6)
   have Jz := qI (Gr.o.kept0 hk6)
   by_cases hc : zi (k + n) y = 0
   rotate_left
   ·obtain ⟨g1, g2⟩ := zt (a := zi (k + n) y) (b := 0) hc
    have Gd := qI (YR HC.o Gt.o Gl.o Gn.o hc)
    have Gb := qI (Gk.o.kept Gp.o (by simp))
    obtain ⟨⟨d0, d1, d2, d3, d4⟩, f0, f1, f2, f3, f4⟩ := Gb.o.facts
    clear hc hk6
    go_wp2_with fail
    obtain ⟨WF, e⟩ : ∃ WF, WF = zy w6 (w.heap.size + 1 + 1) (.int .i64 0) (.int .i64 0) (.string ⟨#[]⟩) (.slice none 0 0) (.slice none 0 0) := ⟨_, rfl⟩
    obtain ⟨KF, y0, y1, y2, y3, y4⟩ := Gb.o.stored e
    unfold zy at e
    rw [← e]
    exact bodyPost_ret (v := .tuple #[.agg #[.int .i64 0, .int .i64 0, .string ⟨#[]⟩, .slice none 0 0, .slice none 0 0], .int .i64 (zi (k + n) y)]) (by simp [results, results32, go_sem, y0, y1, y2, y3, y4]) rfl ⟨yD Gd.o, ((Ga.o.mono (Y := [w.heap.size + 1 + 1]) (by simp)).trans' ((Gp.o.mono (by simp)).trans' KF)).fresh (by simp; omega)⟩
   have Ma := qI hc
   rw [hc]
   obtain ⟨x0, x1, x2, x3, x4⟩ := Jx.o.kept0 hk6
   clear hc hk6
   have Gd := qI (YZ HC.o Gt.o Gl.o Gn.o Ma.o)
   have Gb := qI (Gk.o.kept Gp.o (by simp))
   obtain ⟨⟨d0, d1, d2, d3, d4⟩, f0, f1, f2, f3, f4⟩ := Gb.o.facts
   skip
   go_wp2_with fail
   obtain ⟨WF, e⟩ : ∃ WF, WF = zy w6 (w.heap.size + 1 + 1) (.int .i64 k5) (.int .i64 i5) (.string s5) (.slice p5 m5 c5) (.slice q5 n5 e5) := ⟨_, rfl⟩
   obtain ⟨KF, z0, z1, z2, z3, z4⟩ := Gb.o.stored e
   unfold zy at e
   rw [← e]
   have Mb := qI (Jz.o.kept KF (by intro g hg; simp at hg; subst hg; intro hs; have := Jy.o; rcases hs with hs | hs; (· have := hs.2; omega); omega))
   exact bodyPost_ret (v := .tuple #[.agg #[.int .i64 k5, .int .i64 i5, .string s5, .slice p5 m5 c5, .slice q5 n5 e5], .int .i64 0]) (by simp [results, results32, go_sem, z0, z1, z2, z3, z4]) rfl ⟨ZH Gd.o Mb.o, ((Ga.o.mono (Y := [w.heap.size + 1 + 1]) (by simp)).trans' ((Gp.o.mono (by simp)).trans' KF)).fresh (by simp; omega)⟩
end
section
variable {n k : Nat} {v : V n} {x : V k} {S : Nat → Prop} {w : World} {cs cy : List Value}
theorem ten_cells {w : World} {g : Nat} {t : Nat} {a b c d e a' b' c' d' e' : Value} (h : w.heap[g]? = some (.cells #[a, b, c, d, e, a', b', c', d', e'] t (0, 0))) :
  (w.cell? ⟨g, 0, none⟩ = some a ∧ w.cell? ⟨g, 1, none⟩ = some b ∧ w.cell? ⟨g, 2, none⟩ = some c ∧ w.cell? ⟨g, 3, none⟩ = some d ∧ w.cell? ⟨g, 4, none⟩ = some e) ∧
  w.cell? ⟨g, 5, none⟩ = some a' ∧ w.cell? ⟨g, 6, none⟩ = some b' ∧ w.cell? ⟨g, 7, none⟩ = some c' ∧ w.cell? ⟨g, 8, none⟩ = some d' ∧ w.cell? ⟨g, 9, none⟩ = some e' :=
 ⟨⟨za h rfl, za h rfl, za h rfl, za h rfl, za h rfl⟩, za h rfl, za h rfl, za h rfl, za h rfl, za h rfl⟩
set_option maxRecDepth 100000 in
theorem set_any (hr : Rep n S w cs v) (hx : Rep k S w cy x) (hv : K8 n v) (hxs : K8 k x) (hn : k + n ≤ 100) (p : ByteArray) (hp : p.size ≤ 1000) (hm : b9 w) (ht : yK w) (he : qB w) :
  Calls Tryz.prog 31 #[.agg cs.toArray, .string p, .agg cy.toArray] w fun e w' => Zb (jD x n v p.data.toList) e w' ∧ zb [] w w' := by
 obtain ⟨kd, nm, st, a, la, ea, b, lb, eb, rfl⟩ := hr.conv
 obtain ⟨kx, mx, sx, px, ix, cx, qx, jx, dx, rfl⟩ := hx.conv
 obtain ⟨W0, Ge⟩ : ∃ W0, Hid (W0 = ((w.alloc (.cells #[.int .i64 kd, .int .i64 nm, .string st, .slice a la ea, .slice b lb eb] 25)).alloc (.cells #[.int .i64 kx, .int .i64 mx, .string sx, .slice px ix cx, .slice qx jx dx] 25)).alloc (.cells #[.int .i64 0, .int .i64 0, .string ⟨#[]⟩, .slice none 0 0, .slice none 0 0] 25)) := ⟨_, qI rfl⟩
 have Ga : Hid (zb [] w W0) := qI (by rw [Ge.o]; exact (((zb.refl [] w).alloc _).alloc _).alloc _)
 have Gz : Hid (W0.heap.size = w.heap.size + 3) := qI (by rw [Ge.o]; simp)
 have Jo : Hid (z6 W0 w.heap.size kd nm st (.slice a la ea) (.slice b lb eb)) := qI (by rw [Ge.o]; exact ((yb _ _ _ _ _ _ _).kept0 ((zb.refl [] _).alloc _)).kept0 ((zb.refl [] _).alloc _))
 have Jp : Hid (z6 W0 (w.heap.size + 1) kx mx sx (.slice px ix cx) (.slice qx jx dx)) := qI (by
  rw [Ge.o]
  have h := yb (w.alloc (.cells #[.int .i64 kd, .int .i64 nm, .string st, .slice a la ea, .slice b lb eb] 25)) kx mx sx (.slice px ix cx) (.slice qx jx dx) 25
  rw [show (w.alloc (.cells #[.int .i64 kd, .int .i64 nm, .string st, .slice a la ea, .slice b lb eb] 25)).heap.size = w.heap.size + 1 by simp] at h
  exact h.kept0 ((zb.refl [] _).alloc _))
 have Gk : Hid (xh W0 (w.heap.size + 1 + 1)) := qI (by rw [Ge.o]; exact zn (by simp))
 obtain ⟨WA, Mc⟩ : ∃ WA, Hid (WA = W0.alloc (.cells #[.int .i64 kd, .int .i64 nm, .string st, .slice a la ea, .slice b lb eb, .int .i64 kx, .int .i64 mx, .string sx, .slice px ix cx, .slice qx jx dx] 25)) := ⟨_, qI rfl⟩
 have Md : Hid (zb [] W0 WA) := qI (by rw [Mc.o]; exact (zb.refl [] W0).alloc _)
 have Me : Hid (WA.heap[W0.heap.size]? = some (.cells #[.int .i64 kd, .int .i64 nm, .string st, .slice a la ea, .slice b lb eb, .int .i64 kx, .int .i64 mx, .string sx, .slice px ix cx, .slice qx jx dx] 25 (0, 0))) := qI (by rw [Mc.o]; exact zn rfl)
 have Ju := qI (hr.kept0 Ga.o)
 have Jq := qI (hx.kept0 Ga.o)
 have HV := qI hv
 have Jv := qI hxs
 have HN := qI hn
 have HT := qI (ht.kept0 Ga.o)
 have HE := qI (he.kept0 Ga.o)
 have CK : Hid (∀ w1, zb [] W0 w1 → Calls Tryz.prog 39 #[.agg #[.int .i64 kd, .int .i64 nm, .string st, .slice a la ea, .slice b lb eb]] w1 fun e w' => e = .returned (.int .i64 (zi n v)) ∧ zb [] w1 w') := qI (fun w1 q => xn (Ju.o.kept0 q) hv.small (by omega) (HT.o.kept0 q))
 have CKX : Hid (∀ w1, zb [] W0 w1 → Calls Tryz.prog 39 #[.agg #[.int .i64 kx, .int .i64 mx, .string sx, .slice px ix cx, .slice qx jx dx]] w1 fun e w' => e = .returned (.int .i64 (zi k x)) ∧ zb [] w1 w') := qI (fun w1 q => xn (Jq.o.kept0 q) hxs.small (by omega) (HT.o.kept0 q))
 have CPT := qI (fun (w' : World) (q : zb [] w w') => ZZ (hm.kept0 q) p (by omega))
 have Jn := qI hp
 obtain ⟨x0, x1, x2, x3, x4⟩ := Jo.o
 obtain ⟨y0, y1, y2, y3, y4⟩ := Jp.o
 clear hr hx hv hxs hp hn hm ht he
 go_enter func31, ntmps31
 go_upto_region 1 with fail
 rw [← Ge.o]
 go_wp2_with fail
 rw [← Mc.o]
 clear x0 x1 x2 x3 x4 y0 y1 y2 y3 y4
 go_loopw [9, 10, 19] (fun _ _ i wr => ∃ j : Nat, i = .int .i64 j ∧ j ≤ 2 ∧ zb [] WA wr ∧ (1 ≤ j → zi n v = 0) ∧ (2 ≤ j → zi k x = 0)) (fun _ _ i _ => 2 - (intOf i).toNat)
 case atStart => exact ⟨0, rfl, by decide, zb.refl _ _, fun h => by omega, fun h => by omega⟩
 case round =>
  obtain ⟨j, rfl, hj, hkw, hj1, hj2⟩ := hrel
  have Jb := qI (Md.o.then hkw)
  have Jc := qI hkw
  have Mf : Hid (w.heap.size + 3 ≤ wr.heap.size) := qI (by have h1 := Gz.o; have h2 := Jb.o.size; omega)
  have Mg := qI hj1
  have Mx := qI hj2
  obtain ⟨⟨t0, t1, t2, t3, t4⟩, t5, t6, t7, t8, t9⟩ := ten_cells (Jc.o.heap Me.o (by simp))
  clear hkw hj1 hj2
  have hjj : j = 0 ∨ j = 1 ∨ j = 2 := by omega
  rcases hjj with rfl | rfl | rfl
  ·obtain ⟨WB, Jd⟩ : ∃ WB, Hid (WB = wr.alloc (.cells #[.int .i64 kd, .int .i64 nm, .string st, .slice a la ea, .slice b lb eb] 25)) := ⟨_, qI rfl⟩
   have Je : Hid (zb [] wr WB) := qI (by rw [Jd.o]; exact (zb.refl [] wr).alloc _)
   have Mh : Hid (z6 WB wr.heap.size kd nm st (.slice a la ea) (.slice b lb eb)) := qI (by rw [Jd.o]; exact yb _ _ _ _ _ _ _)
   obtain ⟨x0, x1, x2, x3, x4⟩ := Mh.o
   go_upto_region 4 with fail
   rw [← Jd.o]
   go_wp2_with fail
   clear x0 x1 x2 x3 x4 t0 t1 t2 t3 t4 t5 t6 t7 t8 t9
   refine (CK.o _ (Jb.o.then Je.o)).mono ?_
   rintro e w1 ⟨rfl, hk1⟩
   have Gc := qI ((Jb.o.then Je.o).then hk1)
   have Jf := qI ((Jc.o.then Je.o).then hk1)
   clear hk1
   by_cases hc : zi n v = 0
   rotate_left
   ·obtain ⟨g1, g2⟩ := zt (a := zi n v) (b := 0) hc
    have Gd := qI (KZ (x := x) (p := p.data.toList) hc)
    have Gb := qI (Gk.o.kept Gc.o (by simp))
    obtain ⟨⟨d0, d1, d2, d3, d4⟩, f0, f1, f2, f3, f4⟩ := Gb.o.facts
    clear hc
    go_wp2_with fail
    obtain ⟨WF, e⟩ : ∃ WF, WF = zy w1 (w.heap.size + 1 + 1) (.int .i64 0) (.int .i64 0) (.string ⟨#[]⟩) (.slice none 0 0) (.slice none 0 0) := ⟨_, rfl⟩
    obtain ⟨KF, y0, y1, y2, y3, y4⟩ := Gb.o.stored e
    unfold zy at e
    rw [← e]
    exact bodyPost_ret (v := .tuple #[.agg #[.int .i64 0, .int .i64 0, .string ⟨#[]⟩, .slice none 0 0, .slice none 0 0], .int .i64 (zi n v)]) (by simp [results, results31, go_sem, y0, y1, y2, y3, y4]) rfl ⟨yD Gd.o, ((Ga.o.mono (Y := [w.heap.size + 1 + 1]) (by simp)).trans' ((Gc.o.mono (by simp)).trans' KF)).fresh (by simp; omega)⟩
   have Mi := qI hc
   rw [hc]
   clear hc
   go_wp2_with fail
   case roundEnd => exact ⟨⟨1, by go_num, by decide, Jf.o, fun _ => Mi.o, fun h => by omega⟩, by simp [intOf]⟩
  ·obtain ⟨WB, Jd⟩ : ∃ WB, Hid (WB = wr.alloc (.cells #[.int .i64 kx, .int .i64 mx, .string sx, .slice px ix cx, .slice qx jx dx] 25)) := ⟨_, qI rfl⟩
   have Je : Hid (zb [] wr WB) := qI (by rw [Jd.o]; exact (zb.refl [] wr).alloc _)
   have Mh : Hid (z6 WB wr.heap.size kx mx sx (.slice px ix cx) (.slice qx jx dx)) := qI (by rw [Jd.o]; exact yb _ _ _ _ _ _ _)
   obtain ⟨x0, x1, x2, x3, x4⟩ := Mh.o
   go_upto_region 4 with fail
   rw [← Jd.o]
   go_wp2_with fail
   clear x0 x1 x2 x3 x4 t0 t1 t2 t3 t4 t5 t6 t7 t8 t9
   refine (CKX.o _ (Jb.o.then Je.o)).mono ?_
   rintro e w1 ⟨rfl, hk1⟩
   have Gc := qI ((Jb.o.then Je.o).then hk1)
   have Jf := qI ((Jc.o.then Je.o).then hk1)
   clear hk1
   by_cases hc : zi k x = 0
   rotate_left
   ·obtain ⟨g1, g2⟩ := zt (a := zi k x) (b := 0) hc
    have Gd := qI (YL (p := p.data.toList) (Mg.o (by decide)) hc)
    have Gb := qI (Gk.o.kept Gc.o (by simp))
    obtain ⟨⟨d0, d1, d2, d3, d4⟩, f0, f1, f2, f3, f4⟩ := Gb.o.facts
    clear hc
    go_wp2_with fail
    obtain ⟨WF, e⟩ : ∃ WF, WF = zy w1 (w.heap.size + 1 + 1) (.int .i64 0) (.int .i64 0) (.string ⟨#[]⟩) (.slice none 0 0) (.slice none 0 0) := ⟨_, rfl⟩
    obtain ⟨KF, y0, y1, y2, y3, y4⟩ := Gb.o.stored e
    unfold zy at e
    rw [← e]
    exact bodyPost_ret (v := .tuple #[.agg #[.int .i64 0, .int .i64 0, .string ⟨#[]⟩, .slice none 0 0, .slice none 0 0], .int .i64 (zi k x)]) (by simp [results, results31, go_sem, y0, y1, y2, y3, y4]) rfl ⟨yD Gd.o, ((Ga.o.mono (Y := [w.heap.size + 1 + 1]) (by simp)).trans' ((Gc.o.mono (by simp)).trans' KF)).fresh (by simp; omega)⟩
   have Mi := qI hc
   rw [hc]
   clear hc
   go_wp2_with fail
   case roundEnd => exact ⟨⟨2, by go_num, by decide, Jf.o, fun _ => Mg.o (by decide), fun _ => Mi.o⟩, by simp [intOf]⟩
  ·have HC := qI (Mg.o (by decide))
   have Gt := qI (Mx.o (by decide))
   clear t0 t1 t2 t3 t4 t5 t6 t7 t8 t9
   have CPT1 := qI (CPT.o _ (Ga.o.then Jb.o))
   go_wp2_with fail
   refine CPT1.o.mono ?_
   rintro e w3 ⟨ha3, hk3⟩
   have Gf := qI (Jb.o.then hk3)
   have Mj : Hid (wr.heap.size ≤ w3.heap.size) := qI hk3.size
   clear hk3 CPT1
   cases hpl : yf p.data.toList with
   | none =>
    obtain rfl := ha3.none_ hpl
    have Gd := qI (YN HC.o Gt.o hpl)
    have Gb := qI (Gk.o.kept Gf.o (by simp))
    obtain ⟨⟨d0, d1, d2, d3, d4⟩, f0, f1, f2, f3, f4⟩ := Gb.o.facts
    clear ha3 hpl
    go_wp2_with fail
    obtain ⟨WF, e⟩ : ∃ WF, WF = zy w3 (w.heap.size + 1 + 1) (.int .i64 0) (.int .i64 0) (.string ⟨#[]⟩) (.slice none 0 0) (.slice none 0 0) := ⟨_, rfl⟩
    obtain ⟨KF, y0, y1, y2, y3, y4⟩ := Gb.o.stored e
    unfold zy at e
    rw [← e]
    exact bodyPost_ret (v := .tuple #[.agg #[.int .i64 0, .int .i64 0, .string ⟨#[]⟩, .slice none 0 0, .slice none 0 0], .int .i64 60]) (by simp [results, results31, go_sem, y0, y1, y2, y3, y4]) rfl ⟨yD Gd.o, ((Ga.o.mono (Y := [w.heap.size + 1 + 1]) (by simp)).trans' ((Gf.o.mono (by simp)).trans' KF)).fresh (by simp; omega)⟩
   | some L =>
    obtain ⟨pa, ca, rfl, hsl⟩ := ha3.some_ hpl
    have Gl := qI hpl
    have Jw := qI (v8 hpl)
    have My := qI hsl
    obtain ⟨x0, x1, x2, x3, x4⟩ := Jo.o.kept0 Gf.o
    have CC := qI (Zm n v (Ju.o.kept0 Gf.o) HV.o.small)
    clear ha3 hpl hsl
    go_wp2_with fail
    clear x0 x1 x2 x3 x4
    refine CC.o.mono ?_
    rintro e w4 ⟨⟨cs4, rfl, ho4⟩, hk4⟩
    obtain ⟨k4, m4, s4, p4, i4, c4, q4, j4, d4, rfl⟩ := ho4.rep.conv
    obtain ⟨W5, Gu⟩ : ∃ W5, Hid (W5 = w4.alloc (.cells #[.int .i64 k4, .int .i64 m4, .string s4, .slice p4 i4 c4, .slice q4 j4 d4] 25)) := ⟨_, qI rfl⟩
    have Gm : Hid (zb [] w4 W5) := qI (by rw [Gu.o]; exact (zb.refl [] w4).alloc _)
    have Jg : Hid (W5.heap.size = w4.heap.size + 1) := qI (by rw [Gu.o]; simp)
    have Jx : Hid (W5.heap[w4.heap.size]? = some (.cells #[.int .i64 k4, .int .i64 m4, .string s4, .slice p4 i4 c4, .slice q4 j4 d4] 25 (0, 0))) := qI (by rw [Gu.o]; exact zn rfl)
    have Mz := qI (ho4.kept0 Gm.o)
    have Gy : Hid (w3.heap.size ≤ w4.heap.size) := qI hk4.size
    have Js := qI (hk4.then Gm.o)
    have Ja := qI (Gf.o.then Js.o)
    have CC2 := qI (Zm k x (Jq.o.kept0 Ja.o) Jv.o.small)
    obtain ⟨x0, x1, x2, x3, x4⟩ := Jp.o.kept0 Ja.o
    clear ho4 hk4
    go_upto_region 12 with fail
    rw [← Gu.o]
    go_wp2_with fail
    clear x0 x1 x2 x3 x4
    refine CC2.o.mono ?_
    rintro e w6 ⟨⟨cs6, rfl, ho6⟩, hk6⟩
    obtain ⟨k6, m6, s6, p6, i6, c6, q6, j6, d6, rfl⟩ := ho6.rep.conv
    have Gg := qI hk6
    have Jh := qI (Js.o.then hk6)
    have Gp := qI (Ja.o.then hk6)
    have CP := qI (cput_any (S := fun g => w3.heap.size ≤ g ∧ g < w4.heap.size) (T := fun g => W5.heap.size ≤ g ∧ g < w6.heap.size) (v := v) (x := x) (Gg.o.heap Jx.o (by simp)) (Mz.o.kept0 Gg.o) (by omega) ho6.rep (fun b hb => by have h1 := Jg.o; have h2 := Gg.o.size; omega) (My.o.kept0 Jh.o) (by have h1 := Jw.o.1; rw [ju] at h1; have := Jn.o; omega) (Kk (fun x hx => by have h1 := Jw.o.2 x hx; rw [ju] at h1; have := Jn.o; omega)) HV.o.small (fun b hb => by have h1 := Jg.o; have h2 := Gg.o.size; omega) (HT.o.kept0 Gp.o) (HE.o.kept0 Gp.o))
    rw [Zz] at CP
    clear ho6 hk6
    go_wp2_with fail
    refine CP.o.mono ?_
    rintro e w7 hans
    unfold vJ at hans
    cases hset : yZ x n v L with
    | none =>
     rw [hset] at hans
     obtain ⟨rfl, hk7⟩ := hans
     have Ji := qI (Gp.o.then hk7)
     have Gd := qI (YP HC.o Gt.o Gl.o hset)
     have Gb := qI (Gk.o.kept Ji.o (by simp))
     obtain ⟨⟨d0, d1, d2, d3, d4⟩, f0, f1, f2, f3, f4⟩ := Gb.o.facts
     clear hset hk7
     go_wp2_with fail
     obtain ⟨WF, e⟩ : ∃ WF, WF = zy w7 (w.heap.size + 1 + 1) (.int .i64 0) (.int .i64 0) (.string ⟨#[]⟩) (.slice none 0 0) (.slice none 0 0) := ⟨_, rfl⟩
     obtain ⟨KF, y0, y1, y2, y3, y4⟩ := Gb.o.stored e
     unfold zy at e
     rw [← e]
     exact bodyPost_ret (v := .tuple #[.agg #[.int .i64 0, .int .i64 0, .string ⟨#[]⟩, .slice none 0 0, .slice none 0 0], .int .i64 4]) (by simp [results, results31, go_sem, y0, y1, y2, y3, y4]) rfl ⟨yD Gd.o, ((Ga.o.mono (Y := [w.heap.size + 1 + 1]) (by simp)).trans' ((Ji.o.mono (by simp)).trans' KF)).fresh (by simp; omega)⟩
    | some y =>
     rw [hset] at hans
     obtain ⟨rfl, X, hk7, hX, cs7, hrow7, hrep7⟩ := hans
     obtain ⟨k7, m7, s7, p7, i7, c7, q7, j7, d7, rfl⟩ := hrep7.conv
     have Mk : Hid (w3.heap.size ≤ w6.heap.size) := qI Jh.o.size
     have Ml : Hid (zb [] w3 w7) := qI (((Jh.o.mono (Y := X) (by simp)).trans' hk7).fresh (fun b hb => by
      rcases hX b hb with h | h
      ·have := Gy.o; omega
      ·exact h.1))
     have Ji := qI (Gf.o.then Ml.o)
     have Gs := qI (Y3 Jv.o HV.o Gl.o (by rw [ju]; exact Jn.o) hset)
     have Gn := qI hset
     have Gr := qI hrep7
     obtain ⟨y0, y1, y2, y3, y4⟩ := Z4 hrow7
     have Mm := qI hrow7
     have CKY := qI (xn Gr.o Gs.o HN.o (HT.o.kept0 Ji.o))
     clear hk7 hX hrow7 hrep7 hset
     go_wp2_with fail
     clear y0 y1 y2 y3 y4
     refine CKY.o.mono ?_
     rintro e w8 ⟨rfl, hk8⟩
     have Gv := qI (Ji.o.then hk8)
     have Mn := qI (Gr.o.kept0 hk8)
     by_cases hc : zi (k + n) y = 0
     rotate_left
     ·obtain ⟨g1, g2⟩ := zt (a := zi (k + n) y) (b := 0) hc
      have Gd := qI (YR HC.o Gt.o Gl.o Gn.o hc)
      have Gb := qI (Gk.o.kept Gv.o (by simp))
      obtain ⟨⟨d0, d1, d2, d3, d4⟩, f0, f1, f2, f3, f4⟩ := Gb.o.facts
      clear hc hk8
      go_wp2_with fail
      obtain ⟨WF, e⟩ : ∃ WF, WF = zy w8 (w.heap.size + 1 + 1) (.int .i64 0) (.int .i64 0) (.string ⟨#[]⟩) (.slice none 0 0) (.slice none 0 0) := ⟨_, rfl⟩
      obtain ⟨KF, y0, y1, y2, y3, y4⟩ := Gb.o.stored e
      unfold zy at e
      rw [← e]
      exact bodyPost_ret (v := .tuple #[.agg #[.int .i64 0, .int .i64 0, .string ⟨#[]⟩, .slice none 0 0, .slice none 0 0], .int .i64 (zi (k + n) y)]) (by simp [results, results31, go_sem, y0, y1, y2, y3, y4]) rfl ⟨yD Gd.o, ((Ga.o.mono (Y := [w.heap.size + 1 + 1]) (by simp)).trans' ((Gv.o.mono (by simp)).trans' KF)).fresh (by simp; omega)⟩
     have Ma := qI hc
     rw [hc]
     obtain ⟨x0, x1, x2, x3, x4⟩ := Z4 (Mm.o.kept hk8 (by simp))
     clear hc hk8
     have Gd := qI (YZ HC.o Gt.o Gl.o Gn.o Ma.o)
     have Gb := qI (Gk.o.kept Gv.o (by simp))
     obtain ⟨⟨d0, d1, d2, d3, d4⟩, f0, f1, f2, f3, f4⟩ := Gb.o.facts
     skip
     go_wp2_with fail
     obtain ⟨WF, e⟩ : ∃ WF, WF = zy w8 (w.heap.size + 1 + 1) (.int .i64 k7) (.int .i64 m7) (.string s7) (.slice p7 i7 c7) (.slice q7 j7 d7) := ⟨_, rfl⟩
     obtain ⟨KF, z0, z1, z2, z3, z4⟩ := Gb.o.stored e
     unfold zy at e
     rw [← e]
     have Mb := qI (Mn.o.kept KF (by intro g hg; simp at hg; subst hg; intro hs; have h1 := Mf.o; have h3 := Gy.o; have h4 := Jg.o; have h5 := Mk.o; have h6 := Mj.o; omega))
     exact bodyPost_ret (v := .tuple #[.agg #[.int .i64 k7, .int .i64 m7, .string s7, .slice p7 i7 c7, .slice q7 j7 d7], .int .i64 0]) (by simp [results, results31, go_sem, z0, z1, z2, z3, z4]) rfl ⟨ZH Gd.o Mb.o, ((Ga.o.mono (Y := [w.heap.size + 1 + 1]) (by simp)).trans' ((Gv.o.mono (by simp)).trans' KF)).fresh (by simp; omega)⟩
end
theorem half_of {n d : Nat} {v : V n} (h : zF n d v ≤ 6000) : K8 n v := by
 obtain ⟨h1, h2, _⟩ := bl n d v h
 exact ⟨by omega, by omega⟩
def nullV : VS (V 0) := ⟨0, 0, ⟨#[]⟩, [], []⟩
theorem nullV_rep (S : Nat → Prop) (w : World) : Rep 1 S w [.int .i64 0, .int .i64 0, .string ⟨#[]⟩, .slice none 0 0, .slice none 0 0] (nullV : V 1) := QG S w nullV rfl rfl rfl rfl
def outS (r : Option (Sigma V) × Int) : Sigma V := match r.1 with
 | none => ⟨1, nullV⟩
 | some u => u
theorem Zb.outS {r : Option (Sigma V) × Int} {e : Ending} {w' : World} (h : Zb r e w') : ∃ k i s p a b q c d, ∃ S : Nat → Prop, e = .returned (.tuple #[.agg #[.int .i64 k, .int .i64 i, .string s, .slice p a b, .slice q c d], .int .i64 r.2]) ∧ Rep (outS r).1 S w' [.int .i64 k, .int .i64 i, .string s, .slice p a b, .slice q c d] (outS r).2 := by
 obtain ⟨x, y⟩ := r
 cases x with
 | none => exact ⟨0, 0, ⟨#[]⟩, none, 0, 0, none, 0, 0, fun _ => True, h, nullV_rep _ _⟩
 | some u => exact h
theorem Ka {k n : Nat} (x : V k) (v : V n) (p : List UInt8) : (∃ c : Int, c ≠ 0 ∧ jD x n v p = (none, c)) ∨ ∃ L y, yf p = some L ∧ yZ x n v L = some y ∧ zi (k + n) y = 0 ∧ jD x n v p = (some ⟨k + n, y⟩, 0) := by
 by_cases h : zi n v = 0
 rotate_left
 ·exact .inl ⟨_, h, KZ h⟩
 by_cases h2 : zi k x = 0
 rotate_left
 ·exact .inl ⟨_, h2, YL h h2⟩
 cases hp : yf p with
 | none => exact .inl ⟨_, by decide, YN h h2 hp⟩
 | some L =>
  cases ha : yZ x n v L with
  | none => exact .inl ⟨_, by decide, YP h h2 hp ha⟩
  | some y =>
   by_cases hc : zi (k + n) y = 0
   ·exact .inr ⟨L, y, rfl, ha, hc, YZ h h2 hp ha hc⟩
   ·exact .inl ⟨_, hc, YR h h2 hp ha hc⟩
theorem last_dash {p : List UInt8} {L : List (List UInt8)} (h : yf p = some L) (hl : L.getLast? = some [45]) : p.getLast? = some 45 := by
 have e := jz h
 subst e
 obtain ⟨l, rfl⟩ := List.getLast?_eq_some_iff.1 hl
 unfold kr
 rw [List.flatMap_append]
 have : List.flatMap (fun s => 47 :: JF s) [[(45 : UInt8)]] = [47, 45] := by decide
 rw [this, show ([47, 45] : List UInt8) = [47] ++ [45] from rfl, ← List.append_assoc, List.getLast?_concat]
theorem J8 {n : Nat} {v : V n} {S : Nat → Prop} {w : World} {cs : List Value} (h : jW n BB S w cs v) :
  (∀ w1, zb [] w w1 → Calls Tryz.prog 11 #[.agg cs.toArray] w1 fun e w' => e = .returned (.bool true) ∧ zb [] w1 w') ∨
  ((∀ w1, zb [] w w1 → Calls Tryz.prog 11 #[.agg cs.toArray] w1 fun e w' => e = .returned (.bool false) ∧ zb [] w1 w') ∧
   ∃ v' : V 21, Rep 21 S w cs v' ∧ K8 21 v') := by
 have hl : ∀ {d : Nat} {u : V d} {b : Bool}, jW d BB S w cs u → decide (6000 < zF d 0 u) = b → ∀ w1, zb [] w w1 → Calls Tryz.prog 11 #[.agg cs.toArray] w1 fun e w' => e = .returned (.bool b) ∧ zb [] w1 w' := fun hu hb w1 k => by
  subst hb
  exact refLarge_any (hu.1.kept0 k) hu.2
 by_cases hd : zG n v ≤ 21
 ·obtain ⟨u, hu⟩ := jW.fit n 21 h hd
  by_cases hq : zF 21 0 u ≤ 6000
  ·exact .inr ⟨hl hu (decide_eq_false (by omega)), u, hu.1, half_of hq⟩
  ·exact .inl (hl hu (decide_eq_true (by omega)))
 ·refine .inl (hl h (decide_eq_true ?_))
  rcases Nat.lt_or_ge 6000 (zF n 0 v) with h1 | h1
  ·exact h1
  ·exfalso
   rcases (bl n 0 v h1).2.2 with rfl | h2
   ·exact nomatch v
   ·omega
theorem told_set {x v : V 21} {p : List UInt8} {L : List (List UInt8)} {y : V (21 + 21)} (hp : yf p = some L) (h : yZ x 21 v L = some y) (hc : zi (21 + 21) y = 0) (hl : p.getLast? ≠ some 45) : ∃ m, atR (21 + 21) y p = (some ⟨21 + m, upK x m⟩, 0) := by
 obtain ⟨m, hm⟩ := at_set 21 v L h (fun s hs e => hl (last_dash hp (by rw [hs, e]))) (by decide)
 exact ⟨m, atR_some hc hp hm⟩
section
variable {S S2 : Nat → Prop} {w : World} {ca cb : List Value}
set_option maxRecDepth 100000 in
theorem sets_any {n n' : Nat} {v : V n} {x : V n'} (ha : jW n BB S w ca v) (p : ByteArray) (hb : jW n' BB S2 w cb x) (hm : b9 w) (ht : yK w) (he : qB w) :
  Calls Tryz.prog 9 #[.agg ca.toArray, .string p, .agg cb.toArray] w fun e w' => e = .returned (.bool true) ∧ zb [] w w' := by
 obtain ⟨kd, nm, st, a, la, ea, b, lb, eb, rfl⟩ := ha.1.conv
 obtain ⟨kx, mx, sx, px, ix, cx, qx, jx, dx, rfl⟩ := hb.1.conv
 obtain ⟨W0, Ge⟩ : ∃ W0, Hid (W0 = (w.alloc (.cells #[.int .i64 kd, .int .i64 nm, .string st, .slice a la ea, .slice b lb eb] 25)).alloc (.cells #[.int .i64 kx, .int .i64 mx, .string sx, .slice px ix cx, .slice qx jx dx] 25)) := ⟨_, qI rfl⟩
 have Ga : Hid (zb [] w W0) := qI (by rw [Ge.o]; exact ((zb.refl [] w).alloc _).alloc _)
 have HA : Hid (z6 W0 w.heap.size kd nm st (.slice a la ea) (.slice b lb eb)) := qI (by rw [Ge.o]; exact (yb _ _ _ _ _ _ _).kept0 ((zb.refl [] _).alloc _))
 have HB : Hid (z6 W0 (w.heap.size + 1) kx mx sx (.slice px ix cx) (.slice qx jx dx)) := qI (by
  rw [Ge.o]
  have h := yb (w.alloc (.cells #[.int .i64 kd, .int .i64 nm, .string st, .slice a la ea, .slice b lb eb] 25)) kx mx sx (.slice px ix cx) (.slice qx jx dx) 25
  rw [show (w.alloc (.cells #[.int .i64 kd, .int .i64 nm, .string st, .slice a la ea, .slice b lb eb] 25)).heap.size = w.heap.size + 1 by simp] at h
  exact h)
 have HT := qI (ht.kept0 Ga.o)
 have HE := qI (he.kept0 Ga.o)
 have HM := qI (hm.kept0 Ga.o)
 have ia := J8 ha
 have ib := J8 hb
 have CL : Hid (∀ w1, zb [] W0 w1 → Calls Tryz.prog 12 #[] w1 fun e w' => e = .returned (.bool true) ∧ zb [] w1 w') := qI (fun w1 k => lives_any (HT.o.kept0 k))
 obtain ⟨a0, a1, a2, a3, a4⟩ := HA.o
 clear ha hb hm ht he
 rcases ia with LA | ⟨LA, ia⟩
 ·have LA := qI LA
  go_enter func9, ntmps9
  go_upto_region 1 with fail
  rw [← Ge.o]
  go_wp2_with fail
  clear a0 a1 a2 a3 a4
  refine (LA.o _ Ga.o).mono ?_
  rintro e w1 ⟨rfl, hk1⟩
  have Gc := qI hk1
  clear hk1
  go_wp2_with fail
  refine (CL.o _ Gc.o).mono ?_
  rintro e w2 ⟨rfl, hk2⟩
  go_wp2_with fail
  go_ret
  exact ⟨rfl, (Ga.o.then Gc.o).then hk2⟩
 have LA := qI LA
 rcases ib with LB | ⟨LB, ib⟩
 ·have LB := qI LB
  go_enter func9, ntmps9
  go_upto_region 1 with fail
  rw [← Ge.o]
  go_wp2_with fail
  clear a0 a1 a2 a3 a4
  refine (LA.o _ Ga.o).mono ?_
  rintro e w1 ⟨rfl, hk1⟩
  have Gc := qI hk1
  obtain ⟨a0, a1, a2, a3, a4⟩ := HB.o.kept0 hk1
  clear hk1
  go_wp2_with fail
  clear a0 a1 a2 a3 a4
  refine (LB.o _ (Ga.o.then Gc.o)).mono ?_
  rintro e w2 ⟨rfl, hk2⟩
  have Gj := qI (Gc.o.then hk2)
  clear hk2
  go_wp2_with fail
  refine (CL.o _ Gj.o).mono ?_
  rintro e w3 ⟨rfl, hk3⟩
  go_wp2_with fail
  go_ret
  exact ⟨rfl, (Ga.o.then Gj.o).then hk3⟩
 have LB := qI LB
 by_cases hp : p.size ≤ 1000
 rotate_left
 ·have hpI : (1000 : Int) < p.size := by omega
  clear hp ia ib
  go_enter func9, ntmps9
  go_upto_region 1 with fail
  rw [← Ge.o]
  go_wp2_with fail
  clear a0 a1 a2 a3 a4
  refine (LA.o _ Ga.o).mono ?_
  rintro e w1 ⟨rfl, hk1⟩
  have Gc := qI hk1
  obtain ⟨a0, a1, a2, a3, a4⟩ := HB.o.kept0 hk1
  clear hk1
  go_wp2_with fail
  clear a0 a1 a2 a3 a4
  refine (LB.o _ (Ga.o.then Gc.o)).mono ?_
  rintro e w2 ⟨rfl, hk2⟩
  have Gj := qI (Gc.o.then hk2)
  clear hk2
  go_wp2_with fail
  refine (CL.o _ Gj.o).mono ?_
  rintro e w3 ⟨rfl, hk3⟩
  go_wp2_with fail
  go_ret
  exact ⟨rfl, (Ga.o.then Gj.o).then hk3⟩
 have hpI : ¬ (1000 : Int) < p.size := by omega
 have HP := qI hp
 obtain ⟨u, hru, hsu⟩ := ia
 obtain ⟨y, hry, hsy⟩ := ib
 have Mr : Hid (Rep 21 (fun g => S g ∨ S2 g) W0 [.int .i64 kd, .int .i64 nm, .string st, .slice a la ea, .slice b lb eb] u) := qI ((hru.kept0 Ga.o).mono (fun g _ h => .inl h))
 have Gr : Hid (Rep 21 (fun g => S g ∨ S2 g) W0 [.int .i64 kx, .int .i64 mx, .string sx, .slice px ix cx, .slice qx jx dx] y) := qI ((hry.kept0 Ga.o).mono (fun g _ h => .inr h))
 have Ms := qI hsu
 have Gs := qI hsy
 have CS : Hid (∀ w1, zb [] W0 w1 → Calls Tryz.prog 31 #[.agg #[.int .i64 kd, .int .i64 nm, .string st, .slice a la ea, .slice b lb eb], .string p, .agg #[.int .i64 kx, .int .i64 mx, .string sx, .slice px ix cx, .slice qx jx dx]] w1 fun e w' => Zb (jD y 21 u p.data.toList) e w' ∧ zb [] w1 w') := qI (fun w1 k => set_any (Mr.o.kept0 k) (Gr.o.kept0 k) Ms.o Gs.o (by decide) p HP.o (HM.o.kept0 k) (HT.o.kept0 k) (HE.o.kept0 k))
 have CR : Hid (∀ w1, zb [] W0 w1 → Calls Tryz.prog 32 #[.agg #[.int .i64 kd, .int .i64 nm, .string st, .slice a la ea, .slice b lb eb], .string p, .agg #[.int .i64 kx, .int .i64 mx, .string sx, .slice px ix cx, .slice qx jx dx]] w1 fun e w' => Zb (jD y 21 u p.data.toList) e w' ∧ zb [] w1 w') := qI (fun w1 k => refSet_any (Mr.o.kept0 k) (Gr.o.kept0 k) Ms.o Gs.o (by decide) p HP.o)
 have Mt : Hid (zZ (outS (jD y 21 u p.data.toList)).1 (outS (jD y 21 u p.data.toList)).2) := qI (by
  rcases Ka y u p.data.toList with ⟨c, -, e⟩ | ⟨L, z, h1, h2, h3, e⟩
  ·rw [e]; exact ⟨by show ze 1 (nullV : V 1) ≤ 20000; decide, by show zw 1 (nullV : V 1) ≤ 400000; decide⟩
  ·rw [e]; exact Y3 hsy hsu h1 (by rw [ju]; exact hp) h2)
 have Jj := qI (Ka y u p.data.toList)
 clear hru hry hsu hsy hp
 go_enter func9, ntmps9
 go_upto_region 1 with fail
 rw [← Ge.o]
 go_wp2_with fail
 clear a0 a1 a2 a3 a4
 refine (LA.o _ Ga.o).mono ?_
 rintro e w1 ⟨rfl, hk1⟩
 have Gc := qI hk1
 obtain ⟨a0, a1, a2, a3, a4⟩ := HB.o.kept0 hk1
 clear hk1
 go_wp2_with fail
 clear a0 a1 a2 a3 a4
 refine (LB.o _ (Ga.o.then Gc.o)).mono ?_
 rintro e w2 ⟨rfl, hk2⟩
 have Gj := qI (Gc.o.then hk2)
 clear hk2
 obtain ⟨a0, a1, a2, a3, a4⟩ := HA.o.kept0 Gj.o
 obtain ⟨b0, b1, b2, b3, b4⟩ := HB.o.kept0 Gj.o
 go_wp2_with fail
 clear a0 a1 a2 a3 a4 b0 b1 b2 b3 b4
 refine (CS.o _ Gj.o).mono ?_
 rintro e w3 ⟨ha3, hk3⟩
 have Yi := qI ha3
 obtain ⟨k3, i3, s3, p3, n3, c3, q3, m3, d3, S3, rfl, hr3⟩ := ha3.outS
 obtain ⟨W4, Mo⟩ : ∃ W4, Hid (W4 = w3.alloc (.cells #[.int .i64 k3, .int .i64 i3, .string s3, .slice p3 n3 c3, .slice q3 m3 d3] 25)) := ⟨_, qI rfl⟩
 have Jt : Hid (zb [] w3 W4) := qI (by rw [Mo.o]; exact (zb.refl [] w3).alloc _)
 have Jk : Hid (zb [] W0 W4) := qI ((Gj.o.then hk3).then Jt.o)
 have Mu : Hid (z6 W4 w3.heap.size k3 i3 s3 (.slice p3 n3 c3) (.slice q3 m3 d3)) := qI (by rw [Mo.o]; exact yb _ _ _ _ _ _ _)
 have Mv := qI (hr3.kept0 Jt.o)
 obtain ⟨a0, a1, a2, a3, a4⟩ := HA.o.kept0 Jk.o
 obtain ⟨b0, b1, b2, b3, b4⟩ := HB.o.kept0 Jk.o
 clear ha3 hr3 hk3
 go_upto_region 4 with fail
 rw [← Mo.o]
 go_wp2_with fail
 clear a0 a1 a2 a3 a4 b0 b1 b2 b3 b4
 refine (CR.o _ Jk.o).mono ?_
 rintro e w5 ⟨ha5, hk5⟩
 obtain ⟨k5, i5, s5, p5, n5, c5, q5, m5, d5, S5, rfl, hr5⟩ := ha5.outS
 obtain ⟨W6, Mp⟩ : ∃ W6, Hid (W6 = w5.alloc (.cells #[.int .i64 k5, .int .i64 i5, .string s5, .slice p5 n5 c5, .slice q5 m5 d5] 25)) := ⟨_, qI rfl⟩
 have Gg : Hid (zb [] w5 W6) := qI (by rw [Mp.o]; exact (zb.refl [] w5).alloc _)
 have Gw : Hid (zb [] W4 W6) := qI (hk5.then Gg.o)
 have Gp : Hid (zb [] W0 W6) := qI (Jk.o.then Gw.o)
 have Ya : Hid (z6 W6 w5.heap.size k5 i5 s5 (.slice p5 n5 c5) (.slice q5 m5 d5)) := qI (by rw [Mp.o]; exact yb _ _ _ _ _ _ _)
 have Yb := qI (Mu.o.kept0 Gw.o)
 have Yc := qI (hr5.kept0 Gg.o)
 have Yd := qI (Mv.o.kept0 Gw.o)
 clear ha5 hr5 hk5
 go_upto_region 5 with fail
 rw [← Mp.o]
 go_wp2_with fail
 refine (CL.o _ Gp.o).mono ?_
 rintro e w7 ⟨rfl, hk7⟩
 have Ji := qI (Gp.o.then hk7)
 have Gx := qI hk7
 have Mq := qI (Gw.o.then hk7)
 clear hk7
 obtain ⟨a0, a1, a2, a3, a4⟩ := Yb.o.kept0 Gx.o
 obtain ⟨b0, b1, b2, b3, b4⟩ := Ya.o.kept0 Gx.o
 have CE := qI (YI _ _ _ (Yd.o.kept0 Gx.o) (Yc.o.kept0 Gx.o) Mt.o)
 rw [(QA _ _ _).2 rfl] at CE
 go_wp2_with fail
 clear a0 a1 a2 a3 a4 b0 b1 b2 b3 b4
 refine CE.o.mono ?_
 rintro e w8 ⟨rfl, hk8⟩
 have Gv := qI (Ji.o.then hk8)
 have Jl := qI (Mq.o.then hk8)
 clear hk8
 rcases Jj.o with ⟨code, hcode, hset⟩ | ⟨L, z, hpl, hsv, hck, hset⟩
 ·rw [hset]
  obtain ⟨g1, g2⟩ := zt (a := code) (b := 0) hcode
  clear hset hcode
  go_wp2_with fail
  go_ret
  exact ⟨rfl, Ga.o.then Gv.o⟩
 have hout : outS (jD y 21 u p.data.toList) = ⟨21 + 21, z⟩ := by rw [hset]; rfl
 have Ye : Hid (Rep (21 + 21) S3 W4 [.int .i64 k3, .int .i64 i3, .string s3, .slice p3 n3 c3, .slice q3 m3 d3] z) := qI (by
  have h9 := Mv.o
  rw [hout] at h9
  exact h9)
 have Yf : Hid (zZ (21 + 21) z) := qI (by
  have h9 := Mt.o
  rw [hout] at h9
  exact h9)
 have Gl := qI hpl
 have Yg := qI hsv
 have Yh := qI hck
 rw [hset]
 clear hset hout hpl hsv hck
 have CAT : Hid (∀ w1, zb [] W4 w1 → Calls Tryz.prog 33 #[.agg #[.int .i64 k3, .int .i64 i3, .string s3, .slice p3 n3 c3, .slice q3 m3 d3], .string p] w1 fun e w' => Zb (atR (21 + 21) z p.data.toList) e w' ∧ zb [] w1 w') := qI (fun w1 k => at_any (Ye.o.kept0 k) Yf.o (by decide) p (by have := HP.o; omega) (HM.o.kept0 (Jk.o.then k)) (HT.o.kept0 (Jk.o.then k)) (HE.o.kept0 (Jk.o.then k)))
 obtain ⟨a0, a1, a2, a3, a4⟩ := Mu.o.kept0 Jl.o
 have hlast : p.data.toList.getLast? = some 45 ∨ p.data.toList.getLast? ≠ some 45 := Classical.em _
 rcases hlast with hlast | hlast
 ·have hpos : 0 < p.size := by
   rcases Nat.eq_zero_or_pos p.size with h | h
   ·rw [← ju] at h
    rw [List.eq_nil_of_length_eq_zero h] at hlast
    cases hlast
   ·exact h
  obtain ⟨m, hm⟩ : ∃ m, p.size = m + 1 := ⟨p.size - 1, by omega⟩
  have hd : p.data.toList.drop m = [45] := by
   obtain ⟨l, hl⟩ := List.getLast?_eq_some_iff.1 hlast
   have h1 := congrArg List.length hl
   rw [ju, hm, List.length_append] at h1
   have h2 : l.length = m := by simpa using h1.symm
   rw [hl, ← h2, List.drop_left]
  obtain ⟨hlt, hc⟩ := Z9 hd
  have hp0 : (0 : Int) < p.size := by omega
  have hpm : (p.size : Int) - 1 = m := by omega
  have hltI : (m : Int) < p.size := by omega
  have hmI : (m : Int) ≤ 1000 := by have := HP.o; omega
  clear hlast hd hm hpos
  go_wp2_with fail
  go_ret
  exact ⟨rfl, Ga.o.then Gv.o⟩
 obtain ⟨mm, hat⟩ := told_set Gl.o Yg.o Yh.o hlast
 have Mw := qI hat
 clear hat
 by_cases hpos : 0 < p.size
 ·obtain ⟨m, hm⟩ : ∃ m, p.size = m + 1 := ⟨p.size - 1, by omega⟩
  obtain ⟨c, hd⟩ : ∃ c, p.data.toList.drop m = [c] := by
   have h1 : (p.data.toList.drop m).length = 1 := by rw [List.length_drop, ju, hm]; omega
   exact List.length_eq_one_iff.1 h1
  have hc45 : c ≠ 45 := by
   rintro rfl
   apply hlast
   have h1 := List.take_append_drop m p.data.toList
   rw [hd] at h1
   rw [← h1, List.getLast?_concat]
  obtain ⟨hlt, hc⟩ := Z9 hd
  obtain ⟨f45, -⟩ := zt (a := (c.toNat : Int)) (b := 45) (by
   intro e
   apply hc45
   exact UInt8.toNat_inj.1 (by have : (45 : UInt8).toNat = 45 := rfl; omega))
  have hp0 : (0 : Int) < p.size := by omega
  have hpm : (p.size : Int) - 1 = m := by omega
  have hltI : (m : Int) < p.size := by omega
  have hmI : (m : Int) ≤ 1000 := by have := HP.o; omega
  clear hlast hd hm hpos hc45
  go_wp2_with fail
  clear hp0 hpm hltI hmI hlt hc f45
  clear a0 a1 a2 a3 a4
  refine (CAT.o _ Jl.o).mono ?_
  rintro e w9 ⟨ha9, hk9⟩
  rw [Mw.o] at ha9
  obtain ⟨k9, i9, s9, p9, n9, c9, q9, m9, d9, S9, rfl, hr9⟩ := ha9
  obtain ⟨W10, Gh⟩ : ∃ W10, Hid (W10 = w9.alloc (.cells #[.int .i64 k9, .int .i64 i9, .string s9, .slice p9 n9 c9, .slice q9 m9 d9] 25)) := ⟨_, qI rfl⟩
  have Gq : Hid (zb [] w9 W10) := qI (by rw [Gh.o]; exact (zb.refl [] w9).alloc _)
  have Gi : Hid (zb [] W0 W10) := qI ((Gv.o.then hk9).then Gq.o)
  obtain ⟨a0, a1, a2, a3, a4⟩ : z6 W10 w9.heap.size k9 i9 s9 (.slice p9 n9 c9) (.slice q9 m9 d9) := by rw [Gh.o]; exact yb _ _ _ _ _ _ _
  obtain ⟨b0, b1, b2, b3, b4⟩ := HB.o.kept0 Gi.o
  have CE2 := qI (YI _ _ _ (hr9.kept0 Gq.o) ((Gr.o.kept0 Gi.o).upK mm) ⟨by rw [kQ]; exact Gs.o.small.1, by rw [kO]; exact Gs.o.small.2⟩)
  rw [(QA _ _ _).2 rfl] at CE2
  clear hr9 hk9
  go_upto_region 10 with fail
  rw [← Gh.o]
  go_wp2_with fail
  clear a0 a1 a2 a3 a4 b0 b1 b2 b3 b4
  refine CE2.o.mono ?_
  rintro e w11 ⟨rfl, hk11⟩
  have Jm := qI (Gi.o.then hk11)
  clear hk11
  go_wp2_with fail
  go_ret
  exact ⟨rfl, Ga.o.then Jm.o⟩
 have hp0 : ¬ (0 : Int) < p.size := by omega
 clear hlast hpos
 go_wp2_with fail
 clear hp0
 clear a0 a1 a2 a3 a4
 refine (CAT.o _ Jl.o).mono ?_
 rintro e w9 ⟨ha9, hk9⟩
 rw [Mw.o] at ha9
 obtain ⟨k9, i9, s9, p9, n9, c9, q9, m9, d9, S9, rfl, hr9⟩ := ha9
 obtain ⟨W10, Gh⟩ : ∃ W10, Hid (W10 = w9.alloc (.cells #[.int .i64 k9, .int .i64 i9, .string s9, .slice p9 n9 c9, .slice q9 m9 d9] 25)) := ⟨_, qI rfl⟩
 have Gq : Hid (zb [] w9 W10) := qI (by rw [Gh.o]; exact (zb.refl [] w9).alloc _)
 have Gi : Hid (zb [] W0 W10) := qI ((Gv.o.then hk9).then Gq.o)
 obtain ⟨a0, a1, a2, a3, a4⟩ : z6 W10 w9.heap.size k9 i9 s9 (.slice p9 n9 c9) (.slice q9 m9 d9) := by rw [Gh.o]; exact yb _ _ _ _ _ _ _
 obtain ⟨b0, b1, b2, b3, b4⟩ := HB.o.kept0 Gi.o
 have CE2 := qI (YI _ _ _ (hr9.kept0 Gq.o) ((Gr.o.kept0 Gi.o).upK mm) ⟨by rw [kQ]; exact Gs.o.small.1, by rw [kO]; exact Gs.o.small.2⟩)
 rw [(QA _ _ _).2 rfl] at CE2
 clear hr9 hk9
 go_upto_region 10 with fail
 rw [← Gh.o]
 go_wp2_with fail
 clear a0 a1 a2 a3 a4 b0 b1 b2 b3 b4
 refine CE2.o.mono ?_
 rintro e w11 ⟨rfl, hk11⟩
 have Jm := qI (Gi.o.then hk11)
 clear hk11
 go_wp2_with fail
 go_ret
 exact ⟨rfl, Ga.o.then Jm.o⟩
end
end Go.Proofs.YtpbphdkjjoipnaaGreatDoor

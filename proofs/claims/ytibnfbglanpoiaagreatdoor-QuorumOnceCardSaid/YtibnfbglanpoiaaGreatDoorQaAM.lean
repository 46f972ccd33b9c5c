/- Parts of one proof, merged: XEC XAV XJT XGU. -/
import Derived.Test.YtibnfbglanpoiaaGreatDoorQaS
import Derived.Test.YtibnfbglanpoiaaGreatDoorQaAL
import Derived.Test.YtibnfbglanpoiaaGreatDoorQaB
import Derived.Deep.Slices
import Derived.OpenShut
import Derived.SizedLaws
import Derived.Test.YtibnfbglanpoiaaGreatDoorQaR
import Derived.Test.YtibnfbglanpoiaaGreatDoorQaO
set_option linter.all false
set_option maxHeartbeats 12800000
set_option maxRecDepth 10000
set_option linter.unusedVariables false
set_option linter.unusedSimpArgs false
set_option linter.unnecessarySimpa false
namespace Go.Proofs.YtibnfbglanpoiaaGreatDoor
open Go.Proofs.Tryz
open Go.RowKit
attribute [local go_sem] Oper.semAt_some
theorem rev_take (l : List yh) (j : Nat) (hj : j < l.length) : l.reverse.take (l.length - 1 - j + 1) = l.reverse.take (l.length - 1 - j) ++ [l[j]] := by
 rw [List.take_succ_eq_append_getElem (by rw [List.length_reverse]; omega), List.getElem_reverse]
 congr 2
 congr 1
 omega
structure Back (B g : Nat) (W w : World) (kd nm : Int) (st : ByteArray) (x y : Value) (a : Option Addr) (k c : Nat) (l : List yh) : Prop where
 box : ZF w g kd nm st x y (.slice a k c)
 row : w.ownsRow B 40 2 (.slice a k c) k (qx l)
 kept : zb [g] W w
 base : W.heap.size ≤ B
theorem Back.kept0 {B g : Nat} {W w w' : World} {kd nm : Int} {st : ByteArray} {x y : Value} {a : Option Addr} {k c : Nat} {l : List yh} (h : Back B g W w kd nm st x y a k c l) (q : zb [] w w') : Back B g W w' kd nm st x y a k c l :=
 ⟨q.heap h.box (by simp), zk h.row q (by simp), h.kept.then q, h.base⟩
theorem Back.push {B g : Nat} {W w w' : World} {kd nm : Int} {st : ByteArray} {x y : Value} {a a5 : Option Addr} {k c m c5 : Nat} {l l2 : List yh} (h : Back B g W w kd nm st x y a k c l)
  (ho : w'.ownsRow B 40 2 (.slice a5 (k + m) c5) (k + m) (qx l ++ qx l2)) (hk : zb (Value.slice a k c).ownBlock.toList w w') :
  w'.cell? ⟨g, 5, none⟩ = some (.slice a k c) ∧ w'.frozen? ⟨g, 5, none⟩ = false ∧ Back B g W (w'.setCell ⟨g, 5, none⟩ (.slice a5 (k + m) c5)) kd nm st x y a5 (k + m) c5 (l ++ l2) := by
 have hne : g ∉ (Value.slice a k c).ownBlock.toList := fun hx => yG (z6 h.row (Option.mem_toList.1 hx)) (zy h.box) (by decide) rfl
 have hb := hk.heap h.box hne
 have ks : zb [g] w' (w'.setCell ⟨g, 5, none⟩ (.slice a5 (k + m) c5)) := (zb.refl _ w').setCell (.inl (by simp)) _
 refine ⟨za (o := 5) hb rfl, zh hb, ze (i := 5) (v := .slice a5 (k + m) c5) (d := #[.int .i64 kd, .int .i64 nm, .string st, x, y, .slice a5 (k + m) c5]) hb rfl, ?_, ?_, h.base⟩
 ·have e : qx (l ++ l2) = qx l ++ qx l2 := by simp [qx]
  rw [e]
  exact zk ho ks (fun q hq hx => by
   simp at hx
   subst hx
   exact yG (z6 ho hq) (zy hb) (by decide) rfl)
 ·exact (h.kept.trans hk (fun i hi => .inr (Nat.le_trans h.base (h.row.lt i (Option.mem_toList.1 hi)).1))).setCell (.inl (by simp)) _
theorem validL_len {n : Nat} (v : V n) (l : List yh) (r : qJ) (keys : List xJ) : (zR n v l r keys).length ≤ r.keys.length := by
 unfold zR
 split
 ·exact List.length_filter_le _ _
 ·exact Nat.zero_le _
theorem J7 {w : World} {a b : Option Addr} {c d : Nat} {l : List ByteArray} (ha : yC w (.slice a l.length c) l) (hb : yC w (.slice b l.length d) l) (hn : l.length ≤ 1000000000000) :
  Calls Tryz.prog 11 #[.slice a l.length c, .slice b l.length d] w fun e w' => e = .returned (.bool true) ∧ zb [] w w' := by
 have h1 := sameT_any ha hb hn hn
 rw [decide_eq_true rfl] at h1
 exact h1
set_option maxRecDepth 100000 in
theorem Qz {n : Nat} {v : V n} {S : Nat → Prop} {w : World} {cs : List Value} (hv : jJ n BB S w cs v) {a : Option Addr} {c : Nat} {l : List yh} (hr : xz w (.slice a l.length c) l) (hz : ∀ r, r ∈ l → r.small) (hl : l.length ≤ 140737488355328)
  {r : qJ} {ra : Option Addr} {rc : Nat} (hro : yC w (.slice ra r.keys.length rc) r.keys) (hrz : ∀ k, k ∈ r.keys → k.size ≤ 140737488355328) (hrn : r.keys.length ≤ 140737488355328)
  {a2 : Option Addr} {c2 : Nat} {keys : List xJ} (hk : Slc w 35 (.slice a2 keys.length c2) keys.length (vh keys)) (hkf : ∀ r, r ∈ keys → r.fine) (hkn : keys.length ≤ 140737488355328) (ht : xT w) (hks : yX w) :
  Calls Tryz.prog 4 #[.agg (vJ cs a l.length c).toArray, .agg #[.slice ra r.keys.length rc, .int .i64 r.thr], .slice a2 keys.length c2] w fun e w' => e = .returned (.bool true) ∧ zb [] w w' := by
 obtain ⟨kd, nm, st, p1, i1, d1, p2, i2, d2, rfl⟩ := hv.1.conv
 obtain ⟨W1, Gj⟩ : ∃ W1, Hid (W1 = (w.alloc (.cells #[.int .i64 kd, .int .i64 nm, .string st, .slice p1 i1 d1, .slice p2 i2 d2, .slice a l.length c] 28)).alloc (.cells #[.slice ra r.keys.length rc, .int .i64 r.thr] 31)) := ⟨_, qI rfl⟩
 have Gk : Hid (zb [] w W1) := qI (by rw [Gj.o]; exact ((zb.refl _ w).alloc _).alloc _)
 have Ga : Hid (ZF W1 w.heap.size kd nm st (.slice p1 i1 d1) (.slice p2 i2 d2) (.slice a l.length c)) := qI (by rw [Gj.o]; exact ((zb.refl [] _).alloc _).heap (zd rfl) (by simp))
 have Gq : Hid (W1.heap[w.heap.size + 1]? = some (.cells #[.slice ra r.keys.length rc, .int .i64 r.thr] 31 (0, 0))) := qI (by rw [Gj.o]; exact zd (by simp))
 have Ji : Hid (bK (∃ v' : V 21, Rep 21 S w [.int .i64 kd, .int .i64 nm, .string st, .slice p1 i1 d1, .slice p2 i2 d2] v' ∧ yz 21 v') w (.agg #[.int .i64 kd, .int .i64 nm, .string st, .slice p1 i1 d1, .slice p2 i2 d2])) := qI (incomingR hv)
 have CLG := qI (large18_any (Ji.o.kept0 Gk.o) (hr.kept0 Gk.o) hz hl ra r.keys.length rc hrn r.thr a2 keys.length c2 hkn)
 have CLL : Hid (∀ w2, zb [] w w2 → Calls Tryz.prog 8 #[] w2 fun e w' => e = .returned (.bool true) ∧ zb [] w2 w') := qI (fun w2 h => lives18_any (ht.kept0 h) (hks.kept0 h))
 have Gl := qI hr
 obtain ⟨b8, hb8⟩ : ∃ b, decide ((8 : Int) < l.length) = b := ⟨_, rfl⟩
 show Calls _ _ #[.agg #[.int .i64 kd, .int .i64 nm, .string st, .slice p1 i1 d1, .slice p2 i2 d2, .slice a l.length c], .agg #[.slice ra r.keys.length rc, .int .i64 r.thr], .slice a2 keys.length c2] _ _
 have HV := qI hv
 have HZ := qI hz
 have Jj := qI hro
 have Jk := qI hrz
 have Gy := qI (And.intro hk hkf)
 have HT := qI ht
 have Gz := qI hks
 have hlI : (l.length : Int) ≤ 140737488355328 := by omega
 clear hv hr hz hl hro hrz hrn hk hkf hkn ht hks
 generalize hm : l.length = m at Gj Ga CLG Gl hlI hb8 ⊢
 have HM := qI hm
 clear hm
 have c0 := za (o := 0) Ga.o rfl
 have c1 := za (o := 1) Ga.o rfl
 have c2' := za (o := 2) Ga.o rfl
 have c3 := za (o := 3) Ga.o rfl
 have c4 := za (o := 4) Ga.o rfl
 have c5 := za (o := 5) Ga.o rfl
 have r0 := za (o := 0) Gq.o rfl
 have r1 := za (o := 1) Gq.o rfl
 go_enter func4, ntmps4
 go_upto_region 1 with fail
 change Code.wp _ _ _ _ ((w.alloc (.cells #[.int .i64 kd, .int .i64 nm, .string st, .slice p1 i1 d1, .slice p2 i2 d2, .slice a m c] 28)).alloc (.cells #[.slice ra r.keys.length rc, .int .i64 r.thr] 31))
 rw [← Gj.o]
 cases b8 with
 | true =>
  have h8 : (8 : Int) < m := of_decide_eq_true hb8
  clear hb8
  go_wp2_with first
   | (go_at_call 7; refine CLG.o.mono ?_; rintro e w2 ⟨⟨b, rfl, hb⟩, hk2⟩; have Gp := qI (Gk.o.then hk2); have z5 := hk2.cell c5 (by simp); clear hk2 hb; cases b)
   | (go_at_call 8; refine (CLL.o _ Gp.o).mono ?_; rintro e w3 ⟨rfl, hk3⟩; have Gi := qI hk3; clear hk3)
  all_goals
   go_ret
   exact ⟨rfl, Gp.o.then Gi.o⟩
 | false =>
  have h8 : (m : Int) ≤ 8 := by have := of_decide_eq_false hb8; omega
  have H8 := qI h8
  clear hb8
  go_wp2_with first
   | (go_at_call 7; refine CLG.o.mono ?_; rintro e w2 ⟨⟨b, rfl, hb⟩, hk2⟩; have HB := qI hb; have Gr := qI hk2; have Gp := qI (Gk.o.then hk2); have y0 := hk2.cell c0 (by simp); have y1 := hk2.cell c1 (by simp); have y2 := hk2.cell c2' (by simp); have y3 := hk2.cell c3 (by simp); have y4 := hk2.cell c4 (by simp); have y5 := hk2.cell c5 (by simp); have x5 := ((zb.refl [] w2).alloc (.cells #[.int .i64 kd, .int .i64 nm, .string st, .slice p1 i1 d1, .slice p2 i2 d2, .slice none 0 0] 28)).cell y5 (by simp); clear hk2 hb c0 c1 c2' c3 c4 c5; cases b)
   | (go_at_call 8; refine (CLL.o _ Gp.o).mono ?_; rintro e w3 ⟨rfl, hk3⟩; have Gi := qI hk3; clear hk3)
  rotate_left
  ·go_ret
   exact ⟨rfl, Gp.o.then Gi.o⟩
  have Jl : Hid ((m ≤ 50 ∧ ∃ v' : V 21, Rep 21 S w [.int .i64 kd, .int .i64 nm, .string st, .slice p1 i1 d1, .slice p2 i2 d2] v' ∧ yz 21 v') ∧ r.keys.length ≤ 30 ∧ keys.length ≤ 30) := qI (HB.o (by first | rfl | trivial))
  obtain ⟨W3, Gs⟩ : ∃ W3, Hid (W3 = w2.alloc (.cells #[.int .i64 kd, .int .i64 nm, .string st, .slice p1 i1 d1, .slice p2 i2 d2, .slice none 0 0] 28)) := ⟨_, qI rfl⟩
  have Gi : Hid (zb [] w W3) := qI (by rw [Gs.o]; exact Gp.o.alloc _)
  have Gf : Hid (zb [] W1 W3) := qI (by rw [Gs.o]; exact Gr.o.alloc _)
  have Ja : Hid (ZF W3 w2.heap.size kd nm st (.slice p1 i1 d1) (.slice p2 i2 d2) (.slice none 0 0)) := qI (by rw [Gs.o]; exact zd rfl)
  have Gt : Hid (W1.heap.size ≤ w2.heap.size ∧ w.heap.size + 2 ≤ W1.heap.size) := qI ⟨Gr.o.size, by rw [Gj.o]; simp⟩
  rw [← Gs.o]
  generalize w2.heap.size = g7 at Ja Gt ⊢
  have Gm : Hid (Back W3.heap.size g7 W3 W3 kd nm st (.slice p1 i1 d1) (.slice p2 i2 d2) none 0 0 []) := qI ⟨Ja.o, World.ownsRow_nil _ _ _ _, zb.refl _ _, Nat.le_refl _⟩
  clear y0 y1 y2 y3 y4 y5 x5 r0 r1
  go_loopw [8] (fun t8 wr => (∃ (j : Nat) (av : Option Addr) (ac : Nat), t8 = .int .i64 j ∧ j < m ∧ Hid (Back W3.heap.size g7 W3 wr kd nm st (.slice p1 i1 d1) (.slice p2 i2 d2) av (m - 1 - j) ac (l.reverse.take (m - 1 - j)))) ∨ (∃ (av : Option Addr) (ac : Nat), t8 = .int .i64 (-1) ∧ Hid (Back W3.heap.size g7 W3 wr kd nm st (.slice p1 i1 d1) (.slice p2 i2 d2) av m ac l.reverse))) (fun t8 _ => (intOf t8 + 1).toNat)
  case atStart =>
   have hm := HM.o
   rcases Nat.eq_zero_or_pos m with h0 | h0
   ·subst h0
    have h1 : l = [] := List.eq_nil_of_length_eq_zero hm
    subst h1
    exact .inr ⟨none, 0, rfl, Gm⟩
   ·exact .inl ⟨m - 1, none, 0, by congr 1; omega, by omega, by rw [show m - 1 - (m - 1) = 0 by omega]; exact Gm⟩
  case round =>
   rcases hrel with ⟨j, av, ac, rfl, hj, Gd⟩ | ⟨av, ac, rfl, Gd⟩
   ·have hm := HM.o
    have hj2 : j < l.length := by omega
    have hkw : zb [g7] W3 wr := Gd.o.kept
    obtain ⟨g, o, rfl, -, -, hrow⟩ := xz.cells (by rw [hm]; exact Gl.o) (by omega)
    have hne : ∀ q, q < W1.heap.size → q ∉ [g7] := fun q hq => by have := Gt.o.1; rw [List.mem_singleton]; omega
    have hsz : w.heap.size ≤ W1.heap.size := Gk.o.size
    have hgl : g < w.heap.size := by
     have h1 := (Gl.o).lt (g := g)
     exact h1 (kS (by omega))
    have Jm : Hid (wr.cell? ⟨g, o + j * 2, none⟩ = some (.string l[j].id)) := qI (hkw.cell (Gi.o.cell (hrow j hj2 0 _ rfl) (by simp)) (hne g (by omega)))
    have Gu : Hid (wr.cell? ⟨g, o + j * 2 + 1, none⟩ = some (.string l[j].sig)) := qI (hkw.cell (Gi.o.cell (hrow j hj2 1 _ rfl) (by simp)) (hne g (by omega)))
    have z5 := hkw.cell (Gf.o.cell (za (o := 5) Ga.o rfl) (by simp)) (hne _ (lt_of_block Ga.o))
    have Gv : Hid (l.reverse.take (m - 1 - j + 1) = l.reverse.take (m - 1 - j) ++ [⟨l[j].id, l[j].sig⟩]) := qI (by have h1 := rev_take l j hj2; rw [hm] at h1; exact h1)
    have Js := qI hj
    have hjI : (j : Int) < m := by omega
    obtain ⟨k, hk⟩ : ∃ k, m - 1 - j = k := ⟨_, rfl⟩
    rw [hk] at Gd Gv
    have Jt := qI hk
    have Jn : Hid (k ≤ 8) := qI (by have := H8.o; omega)
    generalize l[j].id = s1 at Jm Gv
    generalize l[j].sig = s2 at Gu Gv
    have b5 := za (o := 5) Gd.o.box rfl
    clear hk hm hj hj2 hkw hrow hne hsz hgl
    go_upto_region 8 with fail
    refine zX (n := 58) 8 [zg.is (.pointer (some ⟨g7, 5, none⟩)),
     zg.is (.slice av k ac),
     zg.is (.pointer (some ⟨w.heap.size, 5, none⟩)),
     zg.is (.slice (some ⟨g, o, none⟩) m c),
     zg.is (.int .i64 j),
     zg.is (.pointer (some ⟨g, o + j * 2, none⟩)),
     zg.is (.agg #[.string s1, .string s2]),
     yS [.string s1, .string s2] 1 2] (by kernel_rfl) rfl (by kernel_rfl) (fun x => by simp only [List.map, yI, Act.put, List.setIfInBounds_toArray, List.set_cons_zero, List.set_cons_succ]; rfl) ?_ ?_
    ·refine ⟨fun x w2 hkw b hd => ?_, fun x w2 hkw b hd => ?_, fun x w2 hkw b hd => ?_, fun x w2 hkw b hd => ?_, fun x w2 hkw b hd => ?_, fun x w2 hkw b hd => ?_, fun x w2 hkw b hd => ?_, fun x w2 hkw b hd => ?_, trivial⟩
     ·go_wp2_with fail
      exact ⟨rfl, zb.refl _ _⟩
     ·have d0 : x 0 = _ := hd 0 (by kernel_rfl)
      have y0 := hkw.cell b5 (by simp)
      go_wp2_with fail
      exact ⟨rfl, zb.refl _ _⟩
     ·go_wp2_with fail
      exact ⟨rfl, zb.refl _ _⟩
     ·have d2 : x 2 = _ := hd 2 (by kernel_rfl)
      have y0 := hkw.cell z5 (by simp)
      go_wp2_with fail
      exact ⟨rfl, zb.refl _ _⟩
     ·go_wp2_with fail
      exact ⟨rfl, zb.refl _ _⟩
     ·have d3 : x 3 = _ := hd 3 (by kernel_rfl)
      have d4 : x 4 = _ := hd 4 (by kernel_rfl)
      have h1 := hjI
      go_wp2_with fail
      exact ⟨rfl, zb.refl _ _⟩
     ·have d5 : x 5 = _ := hd 5 (by kernel_rfl)
      have y0 := hkw.cell Jm.o (by simp)
      have y1 := hkw.cell Gu.o (by simp)
      go_wp2_with fail
      exact ⟨rfl, zb.refl _ _⟩
     ·have d6 : x 6 = _ := hd 6 (by kernel_rfl)
      go_wp2_with fail
      exact ⟨⟨w2.heap.size, rfl, Nat.le_refl _, by simp, zZ w2 [.string s1, .string s2] 2 1 _ _ rfl rfl (by decide)⟩, (zb.refl _ _).alloc _⟩
    ·intro x w7 hkw b7 hd hwin
     have d1 : x 1 = _ := hd 1 (by decide)
     obtain ⟨g9, d7, -, -, hsl⟩ := hd 7 (by decide)
     have Gw := qI hsl
     have Jb := qI (Gd.o.kept0 hkw)
     clear hd hwin hkw hsl
     change wpList _ _ _ [_, _, _] _ _
     go_wp2_with (at_builtin; refine zj J6 (v := .slice av k ac) (n := k) (xs := qx (l.reverse.take k)) Jb.o.row Gw.o (by simp [Value.oneCell']) (by have := Jn.o; simp only [maxLen]; omega) (by have := Jn.o; omega) Jb.o.kept.size rfl _ _ rfl d1 d7 ?_; intro v5 w8 hown hk5 _ _; obtain ⟨a5, c5, rfl, -, -⟩ := (Slc.of_row hown).form; obtain ⟨u0, uf, ho8⟩ := Jb.o.push (l2 := [⟨s1, s2⟩]) hown hk5; rw [← Gv.o] at ho8; have Jo := qI ho8; clear hown hk5 ho8)
     case roundEnd =>
      have hj := Js.o
      have hkj := Jt.o
      by_cases h0 : j = 0
      ·refine ⟨.inr ⟨a5, c5, by rw [h0]; rfl, ?_⟩, by simp [intOf, h0]⟩
       have h1 := Jo.o
       have e : k + 1 = m := by omega
       rw [e, List.take_of_length_le (by rw [List.length_reverse, HM.o]; exact Nat.le_refl _)] at h1
       rw [e]
       exact qI h1
      ·refine ⟨.inl ⟨j - 1, a5, c5, by congr 1; omega, by omega, ?_⟩, by first | (simp [intOf]; done) | (simp [intOf]; omega)⟩
       rw [show m - 1 - (j - 1) = k + 1 by omega]
       exact Jo
   ·have hkw : zb [g7] W3 wr := Gd.o.kept
    have hne : ∀ q, q < W1.heap.size → q ∉ [g7] := fun q hq => by have := Gt.o.1; rw [List.mem_singleton]; omega
    have hsz : w.heap.size ≤ W1.heap.size := Gk.o.size
    have HRWr : Hid (xz wr (.slice a m c) l) := qI (Slc.kept (Gl.o.kept0 Gi.o) hkw (fun g hg => hne g (by have := (Gl.o).lt hg; omega)))
    have z5 := hkw.cell (Gf.o.cell (za (o := 5) Ga.o rfl) (by simp)) (hne _ (lt_of_block Ga.o))
    have b5 := za (o := 5) Gd.o.box rfl
    have Jp : Hid (xz wr (.slice a m c) l → Slc wr 2 (.slice a m c) m (qx l)) := qI (fun h => by unfold xz at h; rw [HM.o] at h; exact h)
    have Gw := qI (Jp.o HRWr.o)
    clear hkw hne hsz
    go_upto_region 10 with (at_builtin; refine zj J6 (v := .slice av m ac) (n := m) (m := m) (xs := qx l.reverse) Gd.o.row Gw.o (rows_one l) (by have := H8.o; simp only [maxLen]; omega) (by have := H8.o; omega) Gd.o.kept.size rfl _ _ rfl rfl rfl ?_; intro v9 w9 hown hk9 _ _; obtain ⟨a9, c9, rfl, -, -⟩ := (Slc.of_row hown).form; obtain ⟨u0, uf, ho9⟩ := Gd.o.push (l2 := l) hown hk9; have Gn := qI ho9; clear hown hk9 ho9)
    generalize w9.setCell ⟨g7, 5, none⟩ (.slice a9 (m + m) c9) = W10 at Gn ⊢
    clear u0 uf b5 z5 HRWr Jp Gw Gd
    obtain ⟨⟨-, v', hrep, hsm⟩, hrn, hkn⟩ := Jl.o
    have Ge : Hid (zb [] w W10) := qI (Gi.o.trans Gn.o.kept (by intro i hi; rw [List.mem_singleton] at hi; subst hi; exact .inr (by have := Gt.o; have := Gk.o.size; omega)))
    have Jq : Hid (∀ q, q < W1.heap.size → q ∉ [g7]) := qI (fun q hq => by have := Gt.o.1; rw [List.mem_singleton]; omega)
    have Gb : Hid (ZF W10 w.heap.size kd nm st (.slice p1 i1 d1) (.slice p2 i2 d2) (.slice a m c)) := qI (Gn.o.kept.heap (Gf.o.heap Ga.o (by simp)) (Jq.o _ (lt_of_block Ga.o)))
    have Gg : Hid (W10.heap[w.heap.size + 1]? = some (.cells #[.slice ra r.keys.length rc, .int .i64 r.thr] 31 (0, 0))) := qI (Gn.o.kept.heap (Gf.o.heap Gq.o (by simp)) (Jq.o _ (lt_of_block Gq.o)))
    have h8n : m ≤ 8 := by have := H8.o; omega
    have Gu : Hid (∀ w2, zb [] W10 w2 → Env 21 S w2 [.int .i64 kd, .int .i64 nm, .string st, .slice p1 i1 d1, .slice p2 i2 d2] v' a c l) := qI (fun w2 hk => ⟨hrep.kept0 (Ge.o.then hk), hsm, by decide, by rw [HM.o]; exact Gl.o.kept0 (Ge.o.then hk), HZ.o, by rw [HM.o]; omega⟩)
    have Gx : Hid ((l.reverse ++ l).length = m + m) := qI (by rw [List.length_append, List.length_reverse, HM.o])
    have Jr : Hid (∀ w2, zb [] W10 w2 → Env 21 S w2 [.int .i64 kd, .int .i64 nm, .string st, .slice p1 i1 d1, .slice p2 i2 d2] v' a9 c9 (l.reverse ++ l)) := qI (fun w2 hk => ⟨hrep.kept0 (Ge.o.then hk), hsm, by decide, by
      unfold xz
      rw [Gx.o]
      exact Slc.kept0 (Slc.of_row Gn.o.row) hk, fun x hx => by
      rcases List.mem_append.1 hx with h1 | h1
      ·exact HZ.o x (List.mem_reverse.1 h1)
      ·exact HZ.o x h1, by rw [Gx.o]; omega⟩)
    have Jc : Hid (∀ w2, zb [] W10 w2 → jf w2 ra rc r) := qI (fun w2 hk => ⟨Jj.o.kept0 (Ge.o.then hk), Jk.o, by omega⟩)
    have Jd : Hid (∀ w2, zb [] W10 w2 → xY w2 (.slice a2 keys.length c2) keys) := qI (fun w2 hk => ⟨Slc.kept0 Gy.o.1 (Ge.o.then hk), Gy.o.2, by omega⟩)
    obtain ⟨res, Gh⟩ : ∃ res, Hid (res = zR 21 v' l r keys) := ⟨_, qI rfl⟩
    have CV1 : Hid (∀ w2, zb [] W10 w2 → Calls Tryz.prog 12 #[.agg #[.int .i64 kd, .int .i64 nm, .string st, .slice p1 i1 d1, .slice p2 i2 d2, .slice a m c], .agg #[.slice ra r.keys.length rc, .int .i64 r.thr], .slice a2 keys.length c2] w2 fun e w' => (∃ q d, e = .returned (.slice q res.length d) ∧ yC w' (.slice q res.length d) res) ∧ zb [] w2 w') := qI (fun w2 hk => by
     have h1 := bM (Gu.o w2 hk) (HT.o.kept0 (Ge.o.then hk)) (Gz.o.kept0 (Ge.o.then hk)) (Jc.o w2 hk) (Jd.o w2 hk)
     rw [← Gh.o] at h1
     have h2 : vJ [.int .i64 kd, .int .i64 nm, .string st, .slice p1 i1 d1, .slice p2 i2 d2] a l.length c = [.int .i64 kd, .int .i64 nm, .string st, .slice p1 i1 d1, .slice p2 i2 d2, .slice a m c] := by rw [HM.o]; rfl
     rw [h2] at h1
     exact h1)
    have CV2 : Hid (∀ w2, zb [] W10 w2 → Calls Tryz.prog 12 #[.agg #[.int .i64 kd, .int .i64 nm, .string st, .slice p1 i1 d1, .slice p2 i2 d2, .slice a9 (m + m) c9], .agg #[.slice ra r.keys.length rc, .int .i64 r.thr], .slice a2 keys.length c2] w2 fun e w' => (∃ q d, e = .returned (.slice q res.length d) ∧ yC w' (.slice q res.length d) res) ∧ zb [] w2 w') := qI (fun w2 hk => by
     have h1 := bM (Jr.o w2 hk) (HT.o.kept0 (Ge.o.then hk)) (Gz.o.kept0 (Ge.o.then hk)) (Jc.o w2 hk) (Jd.o w2 hk)
     rw [valid_once (by rw [HM.o]; omega), ← Gh.o] at h1
     have h2 : vJ [.int .i64 kd, .int .i64 nm, .string st, .slice p1 i1 d1, .slice p2 i2 d2] a9 (l.reverse ++ l).length c9 = [.int .i64 kd, .int .i64 nm, .string st, .slice p1 i1 d1, .slice p2 i2 d2, .slice a9 (m + m) c9] := by rw [Gx.o]; rfl
     rw [h2] at h1
     exact h1)
    have CSM : Hid (∀ w2 q5 e5 q9 e9, yC w2 (.slice q5 res.length e5) res → yC w2 (.slice q9 res.length e9) res → Calls Tryz.prog 11 #[.slice q5 res.length e5, .slice q9 res.length e9] w2 fun e w' => e = .returned (.bool true) ∧ zb [] w2 w') := qI (fun w2 q5 e5 q9 e9 h1 h2 => J7 h1 h2 (by have := validL_len v' l r keys; rw [← Gh.o] at this; omega))
    have Gc := qI Gn.o.box
    clear hrep hsm hrn hkn h8n Gu Jr Jc Jd Gh Gx Jj Jk Gy HZ HV Ji Gl HM Jl HB HT Gz Gn Gq Ga CLG Ja Gm Gs Gj
    generalize r.keys.length = rn at Gg CV1 CV2 ⊢
    generalize r.thr = th at Gg CV1 CV2 ⊢
    generalize keys.length = kn at CV1 CV2 ⊢
    have b0 := za (o := 0) Gb.o rfl
    have b1 := za (o := 1) Gb.o rfl
    have b2 := za (o := 2) Gb.o rfl
    have b3 := za (o := 3) Gb.o rfl
    have b4 := za (o := 4) Gb.o rfl
    have b5 := za (o := 5) Gb.o rfl
    have f0 := za (o := 0) Gc.o rfl
    have f1 := za (o := 1) Gc.o rfl
    have f2 := za (o := 2) Gc.o rfl
    have f3 := za (o := 3) Gc.o rfl
    have f4 := za (o := 4) Gc.o rfl
    have f5 := za (o := 5) Gc.o rfl
    have q0 := za (o := 0) Gg.o rfl
    have q1 := za (o := 1) Gg.o rfl
    refine zX (n := 58) 12 [zg.is (.bool true),
     zg.is (.bool true),
     zg.is (.agg #[.int .i64 kd, .int .i64 nm, .string st, .slice p1 i1 d1, .slice p2 i2 d2, .slice a m c]),
     zg.is (.agg #[.slice ra rn rc, .int .i64 th]),
     zg.is (.slice a2 kn c2),
     ZT res,
     zg.is (.agg #[.int .i64 kd, .int .i64 nm, .string st, .slice p1 i1 d1, .slice p2 i2 d2, .slice a9 (m + m) c9]),
     zg.is (.agg #[.slice ra rn rc, .int .i64 th]),
     zg.is (.slice a2 kn c2),
     ZT res,
     zg.is (.bool true),
     zg.is (.bool true)] (by kernel_rfl) rfl (by kernel_rfl) (fun x => by simp only [List.map, yI, Act.put, List.setIfInBounds_toArray, List.set_cons_zero, List.set_cons_succ]; rfl) ?_ ?_
    ·refine ⟨fun x w2 hkw b hd => ?_, fun x w2 hkw b hd => ?_, fun x w2 hkw b hd => ?_, fun x w2 hkw b hd => ?_, fun x w2 hkw b hd => ?_, fun x w2 hkw b hd => ?_, fun x w2 hkw b hd => ?_, fun x w2 hkw b hd => ?_, fun x w2 hkw b hd => ?_, fun x w2 hkw b hd => ?_, fun x w2 hkw b hd => ?_, fun x w2 hkw b hd => ?_, trivial⟩
     ·have CX := CLL.o w2 (Ge.o.then hkw)
      go_wp2_with (go_at_call 8; refine CX.mono ?_; rintro e w5 ⟨rfl, hk5⟩; have Je := qI hk5; clear hk5)
      exact ⟨rfl, Je.o⟩
     ·have d0 : x 0 = _ := hd 0 (by kernel_rfl)
      go_wp2_with fail
      exact ⟨rfl, zb.refl _ _⟩
     ·have d1 : x 1 = _ := hd 1 (by kernel_rfl)
      have y0 := hkw.cell b0 (by simp)
      have y1 := hkw.cell b1 (by simp)
      have y2 := hkw.cell b2 (by simp)
      have y3 := hkw.cell b3 (by simp)
      have y4 := hkw.cell b4 (by simp)
      have y5 := hkw.cell b5 (by simp)
      go_wp2_with fail
      exact ⟨rfl, zb.refl _ _⟩
     ·have d1 : x 1 = _ := hd 1 (by kernel_rfl)
      have y0 := hkw.cell q0 (by simp)
      have y1 := hkw.cell q1 (by simp)
      go_wp2_with fail
      exact ⟨rfl, zb.refl _ _⟩
     ·have d1 : x 1 = _ := hd 1 (by kernel_rfl)
      go_wp2_with fail
      exact ⟨rfl, zb.refl _ _⟩
     ·have d1 : x 1 = _ := hd 1 (by kernel_rfl)
      have d2 : x 2 = _ := hd 2 (by kernel_rfl)
      have d3 : x 3 = _ := hd 3 (by kernel_rfl)
      have d4 : x 4 = _ := hd 4 (by kernel_rfl)
      have CX := CV1.o w2 hkw
      go_wp2_with (go_at_call 12; refine CX.mono ?_; rintro e w9 ⟨⟨q9, e9, rfl, ht9⟩, hk9⟩; have Jf := qI ht9; have Jg := qI hk9; clear ht9 hk9)
      exact ⟨⟨q9, e9, rfl, Jf.o⟩, Jg.o⟩
     ·have d1 : x 1 = _ := hd 1 (by kernel_rfl)
      have y0 := hkw.cell f0 (by simp)
      have y1 := hkw.cell f1 (by simp)
      have y2 := hkw.cell f2 (by simp)
      have y3 := hkw.cell f3 (by simp)
      have y4 := hkw.cell f4 (by simp)
      have y5 := hkw.cell f5 (by simp)
      go_wp2_with fail
      exact ⟨rfl, zb.refl _ _⟩
     ·have d1 : x 1 = _ := hd 1 (by kernel_rfl)
      have y0 := hkw.cell q0 (by simp)
      have y1 := hkw.cell q1 (by simp)
      go_wp2_with fail
      exact ⟨rfl, zb.refl _ _⟩
     ·have d1 : x 1 = _ := hd 1 (by kernel_rfl)
      go_wp2_with fail
      exact ⟨rfl, zb.refl _ _⟩
     ·have d1 : x 1 = _ := hd 1 (by kernel_rfl)
      have d6 : x 6 = _ := hd 6 (by kernel_rfl)
      have d7 : x 7 = _ := hd 7 (by kernel_rfl)
      have d8 : x 8 = _ := hd 8 (by kernel_rfl)
      have CX := CV2.o w2 hkw
      go_wp2_with (go_at_call 12; refine CX.mono ?_; rintro e w9 ⟨⟨q9, e9, rfl, ht9⟩, hk9⟩; have Jf := qI ht9; have Jg := qI hk9; clear ht9 hk9)
      exact ⟨⟨q9, e9, rfl, Jf.o⟩, Jg.o⟩
     ·have d1 : x 1 = _ := hd 1 (by kernel_rfl)
      obtain ⟨q5, e5, d5, t5⟩ := hd 5 (by kernel_rfl)
      obtain ⟨q9, e9, d9, t9⟩ := hd 9 (by kernel_rfl)
      have CX := CSM.o w2 q5 e5 q9 e9 t5 t9
      clear t5 t9
      go_wp2_with (go_at_call 11; refine CX.mono ?_; rintro e w5 ⟨rfl, hk5⟩; have Je := qI hk5; clear hk5)
      exact ⟨rfl, Je.o⟩
     ·have d1 : x 1 = _ := hd 1 (by kernel_rfl)
      have d10 : x 10 = _ := hd 10 (by kernel_rfl)
      go_wp2_with fail
      exact ⟨rfl, zb.refl _ _⟩
    ·intro x w7 hkw b7 hd hwin
     have d11 : x 11 = _ := hd 11 (by decide)
     have Jh := qI hkw
     clear hd hwin hkw
     change wpList _ _ _ [_] _ _
     go_wp2_with fail
     go_ret
     exact ⟨congrArg Ending.returned (show x 11 = _ from d11), Ge.o.then Jh.o⟩
theorem ZK : Tryz.prog.cellsOf 3 = 1 := by kernel_rfl
theorem j9 : Tryz.prog.cellsOf 9 = 1 := by kernel_rfl
theorem cellsVals : Tryz.prog.cellsOf 22 = 1 := by kernel_rfl
theorem cellsPairs : Tryz.prog.cellsOf 23 = 1 := by kernel_rfl
theorem QR : Tryz.prog.cellsOf 25 = 5 := by kernel_rfl
theorem KL : Tryz.prog.cellsOf 132 = 6 := by kernel_rfl
section
variable {H : Type} {enc : TypeId × Value → H} {w : World} {held : Bool}
theorem v8 {P : Program} {e : TypeId} : ∀ {l : List (DataW H)} {d : DataW H} {k : Nat}, d ∈ l → k ∈ d.weights P e → k ∈ DataW.weightsAll P e l
 | [], _, _, h, _ => by cases h
 | a :: l, d, k, h, hk => by
  rw [DataW.weightsAll, List.mem_append]
  rcases List.mem_cons.1 h with rfl | h
  ·exact .inl hk
  ·exact .inr (v8 h hk)
theorem xy {P : Program} {t : TypeId} {fs : Array Field} {xs : List (DataW H × List MemPlace)} (h : P.underlying t = some (.struct fs)) {j : Nat} {tt : TypeId} {y : DataW H × List MemPlace} {k : Nat} (ht : (fs.toList.map (·.type))[j]? = some tt) (hy : xs[j]? = some y) (hk : k ∈ y.1.weights P tt) : k ∈ (DataW.agg (xs.map (·.1)) : DataW H).weights P t := by
 rw [DataW.weights, h]
 exact DataW.weights_mem_each (j := j) ht (by rw [List.getElem?_map, hy]; rfl) k hk
theorem jT {P : Program} {t e size : Nat} (ht : P.underlying t = some (.slice e)) (hc : P.cellsOf e = size) (hpos : 0 < size) {fuel : Nat} {v : Value} {x : DataW H × List MemPlace} {B : Nat}
  (h : DataW.trod enc P w 0 (fun _ => true) held fuel t [v] = some x) (hw : ∀ k, k ∈ x.1.weights P t → k ≤ B) (hb : 0 < P.bytesOf e) :
  ∃ n xs, Slc w size v n xs ∧ n ≤ B ∧ (n = 0 ∨ ∃ m, fuel = m + 1 ∧ ∀ i, i < n → ∃ y, DataW.trod enc P w 0 (fun _ => true) held m e ((xs.drop (i * size)).take size) = some y ∧ ∀ k, k ∈ y.1.weights P e → k ≤ B) := by
 rcases DataW.trod_slice ht h with ⟨hcs, _⟩ | ⟨a, len, cap, elems, rest, m, hfuel, hcs, hxe, _, hl, hm, hel, hx, _⟩
 ·obtain rfl : v = .slice none 0 0 := by simpa using hcs
  exact ⟨0, [], yV _ _, Nat.zero_le _, .inl rfl⟩
 ·obtain rfl : v = .slice (some a) len cap := by simpa using hcs
  rw [hc] at hx
  by_cases h0 : len = 0
  ·subst h0
   exact ⟨0, [], ⟨by simp, .inr (.inl ⟨rfl, a, cap, rfl, hm⟩)⟩, Nat.zero_le _, .inl rfl⟩
  ·rw [hxe] at hw
   have hwe : (DataW.slice (elems.map (·.1)) (rest.map (·.1)) : DataW H).weights P t = ((elems.map (·.1)).length + (rest.map (·.1)).length) * P.bytesOf e :: (DataW.weightsAll P e (elems.map (·.1)) ++ DataW.weightsAll P e (rest.map (·.1))) := by
    rw [DataW.weights, ht]
   simp only at hw
   rw [hwe] at hw
   have hlenB : len ≤ B := by
    have h1 := hw _ (List.mem_cons_self ..)
    rw [List.length_map, List.length_map, hel] at h1
    have h2 : (len + rest.length) * 1 ≤ (len + rest.length) * P.bytesOf e := Nat.mul_le_mul_left _ hb
    omega
   have hx' : ∀ i, i < len → ∃ cs', w.cells? 0 (a.add (i * size)) size = some cs' ∧ ∃ y, DataW.trod enc P w 0 (fun _ => true) held m e cs' = some y ∧ ∀ k, k ∈ y.1.weights P e → k ≤ B := by
    intro i hi
    have h1 := hx i hi
    rw [List.getElem?_eq_getElem (by omega)] at h1
    obtain ⟨cs', h2, h3⟩ := Option.bind_eq_some_iff.1 h1
    exact ⟨cs', h2, _, h3, fun k hk => hw k (List.mem_cons_of_mem _ (List.mem_append_left _ (v8 (List.mem_map_of_mem (List.getElem_mem (by omega))) hk)))⟩
   have hcell : ∀ j, j < len * size → ∃ u, w.cell? (a.add j) = some u := by
    intro j hj
    have hi : j / size < len := Nat.div_lt_of_lt_mul (by rw [Nat.mul_comm]; exact hj)
    obtain ⟨cs', h1, _⟩ := hx' _ hi
    obtain ⟨_, h2, h3⟩ := World.cells?_some h1
    have hr := Nat.mod_lt j hpos
    have h4 := h3 _ hr
    rw [Deep.add_add, show j / size * size + j % size = j by rw [Nat.mul_comm]; exact Nat.div_add_mod j size] at h4
    rw [h4]
    exact ⟨cs'[j % size], by simp [h2, hr]⟩
   have hpos2 : 0 < len * size := Nat.mul_pos (by omega) hpos
   obtain ⟨u0, hu0⟩ := hcell 0 hpos2
   obtain ⟨g, o, spot⟩ := a
   have hspot : spot = none := by simpa [Addr.add] using World.cell?_spot hu0
   subst hspot
   have hlt : g < w.heap.size := by
    rcases Nat.lt_or_ge g w.heap.size with h | h
    ·exact h
    ·exfalso
     simp [World.cell?, Addr.add, Array.getElem?_eq_none h] at hu0
   refine ⟨len, (List.range (len * size)).map fun j => (w.cell? ⟨g, o + j, none⟩).getD (.bool false), ⟨by simp, .inr (.inr ⟨g, o, cap, rfl, hl, hm, ⟨?_, hlt⟩⟩)⟩, hlenB, .inr ⟨m, hfuel, ?_⟩⟩
   ·intro j u hu
    rw [List.getElem?_map] at hu
    by_cases hj : j < len * size
    ·obtain ⟨u', hu'⟩ := hcell j hj
     rw [jM] at hu'
     simp [hj, hu'] at hu
     rw [hu', hu]
    ·simp [hj] at hu
   ·intro i hi
    obtain ⟨cs', h1, h2⟩ := hx' i (by omega)
    obtain ⟨_, h3, h4⟩ := World.cells?_some h1
    have hle : i * size + size ≤ len * size := by
     have := Nat.mul_le_mul_right size (show i + 1 ≤ len by omega)
     rw [Nat.add_mul, Nat.one_mul] at this
     exact this
    have e1 : (((List.range (len * size)).map fun j => (w.cell? ⟨g, o + j, none⟩).getD (.bool false)).drop (i * size)).take size = cs' := by
     apply List.ext_getElem?
     intro r
     by_cases hr : r < size
     ·have h5 := h4 r hr
      rw [Deep.add_add, jM] at h5
      rw [List.getElem?_take, if_pos hr, List.getElem?_drop, List.getElem?_map, List.getElem?_range (by omega)]
      simp only [Option.map_some]
      rw [h5]
      simp [h3, hr]
     ·rw [List.getElem?_eq_none (by rw [List.length_take]; omega), List.getElem?_eq_none (by omega)]
    rw [e1]
    exact h2
def bO : Value → UInt8
 | .int _ k => UInt8.ofNat k.toNat
 | _ => 0
theorem byteOfV_wf {k : Int} (h : (Lit.int .u8 k).wf = true) : bv (bO (.int .u8 k)) = .int .u8 k := by
 have h1 := bounds_u8 h
 unfold bv bO
 congr 1
 simp only [UInt8.toNat_ofNat']
 omega
theorem KQ {xs : List Value} {i : Nat} (hi : i < xs.length) : (xs.drop (i * 1)).take 1 = [xs[i]] := by
 rw [Nat.mul_one, List.drop_eq_getElem_cons hi]
 rfl
theorem Qb {α : Type} {l : List α} (h : l.length = 5) : ∃ a b c d e, l = [a, b, c, d, e] := by
 match l, h with
 | [a, b, c, d, e], _ => exact ⟨a, b, c, d, e, rfl⟩
theorem list_sixV {α : Type} {l : List α} (h : l.length = 6) : ∃ a b c d e f, l = [a, b, c, d, e, f] := by
 match l, h with
 | [a, b, c, d, e, f], _ => exact ⟨a, b, c, d, e, f, rfl⟩
theorem texts_up {B : Nat} : ∀ (n : Nat) (v : V n), qj B n v → qj B (n + 1) (up n v)
 | 0, v, _ => nomatch v
 | n + 1, (v : VS (V n)), ⟨⟨h1, h2, h3⟩, h4, h5⟩ => by
  refine ⟨⟨h1, ?_, ?_⟩, ?_, ?_⟩
  ·show (v.l.map _).length ≤ B; rw [List.length_map]; exact h2
  ·show (v.m.map _).length ≤ B; rw [List.length_map]; exact h3
  ·intro p hp
   obtain ⟨q, hq, rfl⟩ := List.mem_map.1 hp
   exact h4 q hq
  ·intro x hx
   have hx' : x ∈ (VS.map (up n) v).kids := hx
   rw [VS.kids_map] at hx'
   obtain ⟨y, hy, rfl⟩ := List.mem_map.1 hx'
   exact texts_up n y (h5 y hy)
theorem jJ.up {n B : Nat} {S : Nat → Prop} {cs : List Value} {v : V n} (h : jJ n B S w cs v) : jJ (n + 1) B S w cs (Go.Proofs.YtibnfbglanpoiaaGreatDoor.up n v) := ⟨h.1.up, texts_up n v h.2⟩
def qd (size : Nat) (xs : List Value) (n : Nat) : List (List Value) := (List.range n).map fun i => (xs.drop (i * size)).take size
theorem vY {size : Nat} : ∀ (n : Nat) (xs : List Value), xs.length = n * size → (qd size xs n).flatten = xs
 | 0, xs, h => by
  rw [Nat.zero_mul] at h
  rw [List.eq_nil_of_length_eq_zero h]
  rfl
 | n + 1, xs, h => by
  have h' : (xs.drop size).length = n * size := by rw [List.length_drop, h, Nat.add_mul, Nat.one_mul]; omega
  have ih := vY n (xs.drop size) h'
  unfold qd at ih ⊢
  rw [List.range_succ_eq_map, List.map_cons, List.flatten_cons, Nat.zero_mul, List.drop_zero, List.map_map]
  have e : ((fun i => (xs.drop (i * size)).take size) ∘ Nat.succ) = fun i => ((xs.drop size).drop (i * size)).take size := by
   funext i
   simp only [Function.comp, List.drop_drop]
   rw [show Nat.succ i * size = size + i * size by rw [Nat.succ_mul]; omega]
  rw [e, ih]
  exact List.take_append_drop size xs
def pairF (c : List Value) : ByteArray × List Value := (match c.head? with | some (.string s) => s | _ => ⟨#[]⟩, c.tail)
theorem trod_value {B : Nat} : ∀ (fuel : Nat) {cs : List Value} {x : DataW H × List MemPlace}, DataW.trod enc Tryz.prog w 0 (fun _ => true) held fuel 25 cs = some x → (∀ k, k ∈ x.1.weights Tryz.prog 25 → k ≤ B) → ∃ v : V fuel, jJ fuel B (fun g => g < w.heap.size) w cs v := by
 intro fuel
 induction fuel using Nat.strongRecOn with
 | ind fuel IH =>
  intro cs x h hw
  obtain ⟨xs, n, hfu, hxe, hl, hlen, hf⟩ := DataW.trod_struct underlying25 h
  subst hfu
  rw [QR] at hl
  obtain ⟨c0, c1, c2, c3, c4, rfl⟩ := Qb hl
  obtain ⟨y0, y1, y2, y3, y4, rfl⟩ := Qb hlen
  have h0 : DataW.trod enc Tryz.prog w 0 (fun _ => true) held n 3 (([c0, c1, c2, c3, c4].drop 0).take (Tryz.prog.cellsOf 3)) = some y0 := hf 0 _ rfl
  have h1 : DataW.trod enc Tryz.prog w 0 (fun _ => true) held n 3 (([c0, c1, c2, c3, c4].drop 1).take (Tryz.prog.cellsOf 3)) = some y1 := hf 1 _ rfl
  have h2 : DataW.trod enc Tryz.prog w 0 (fun _ => true) held n 9 (([c0, c1, c2, c3, c4].drop 2).take (Tryz.prog.cellsOf 9)) = some y2 := hf 2 _ rfl
  have h3 : DataW.trod enc Tryz.prog w 0 (fun _ => true) held n 22 (([c0, c1, c2, c3, c4].drop 3).take (Tryz.prog.cellsOf 22)) = some y3 := hf 3 _ rfl
  have h4 : DataW.trod enc Tryz.prog w 0 (fun _ => true) held n 23 (([c0, c1, c2, c3, c4].drop 4).take (Tryz.prog.cellsOf 23)) = some y4 := hf 4 _ rfl
  rw [ZK] at h0 h1
  rw [j9] at h2
  rw [cellsVals] at h3
  rw [cellsPairs] at h4
  have hwf : ∀ (j : Nat) (tt : TypeId) (y : DataW H × List MemPlace), ([3, 3, 9, 22, 23] : List TypeId)[j]? = some tt → [y0, y1, y2, y3, y4][j]? = some y → ∀ k, k ∈ y.1.weights Tryz.prog tt → k ≤ B := by
   intro j tt y ht hy k hk
   refine hw k ?_
   rw [hxe]
   exact xy underlying25 ht hy hk
  obtain ⟨i, e0, _, w0⟩ := DataW.trod_int underlying3 (x := y0) h0
  obtain ⟨j, e1, _, w1⟩ := DataW.trod_int underlying3 (x := y1) h1
  obtain ⟨s, e2, f2, -⟩ := DataW.trod_string underlying9 (x := y2) h2
  have w2 : s.size ≤ B := by
   have h9 := hwf 2 _ y2 rfl rfl s.data.toList.length (by rw [f2]; show _ ∈ DataW.weights Tryz.prog 9 (.lit (.string s.data.toList)); simp [DataW.weights])
   simpa using h9
  have hL := jT (v := c3) (x := y3) underlying22 QR (by decide) h3 (hwf 3 _ y3 rfl rfl) (by rw [show Tryz.prog.bytesOf 25 = 80 by kernel_rfl]; decide)
  have hM := jT (v := c4) (x := y4) underlying23 KL (by decide) h4 (hwf 4 _ y4 rfl rfl) (by rw [show Tryz.prog.bytesOf 132 = 96 by kernel_rfl]; decide)
  simp only [List.drop_zero, List.drop_succ_cons, List.take_succ_cons, List.take_zero, List.cons.injEq, and_true] at e0 e1 e2
  subst e0 e1 e2
  obtain ⟨nl, xl, sl, ml, hl⟩ := hL
  obtain ⟨nm, xm, sm, mm, hm⟩ := hM
  have gl : ∃ zl : List (V n), zG (jJ n B (fun g => g < w.heap.size) w) (qd 5 xl nl) zl := by
   refine zG.pick (R := fun (c : List Value) (k : Nat) => ∃ z : V n, jJ n B (fun g => g < w.heap.size) w c z) _ (List.range nl) ⟨by simp [qd], ?_⟩ (fun _ _ _ r => r)
   intro q c k hc hk
   have hq : q < nl := by
    have := (List.getElem?_eq_some_iff.1 hk).1
    simpa using this
   unfold qd at hc
   rw [List.getElem?_map, List.getElem?_range hq] at hc
   simp only [Option.map_some, Option.some.injEq] at hc
   subst hc
   rcases hl with h0 | ⟨m, hm, hl⟩
   ·omega
   obtain ⟨y, hy, hwy⟩ := hl q hq
   obtain ⟨z, hz⟩ := IH m (by omega) hy hwy
   subst hm
   exact ⟨_, hz.up⟩
  have gm : ∃ zm : List (ByteArray × V n), zG (fun c (z : ByteArray × V n) => (c = .string z.1 :: c.tail ∧ jJ n B (fun g => g < w.heap.size) w c.tail z.2) ∧ z.1.size ≤ B) (qd 6 xm nm) zm := by
   refine zG.pick (R := fun (c : List Value) (k : Nat) => ∃ z : ByteArray × V n, (c = .string z.1 :: c.tail ∧ jJ n B (fun g => g < w.heap.size) w c.tail z.2) ∧ z.1.size ≤ B) _ (List.range nm) ⟨by simp [qd], ?_⟩ (fun _ _ _ r => r)
   intro q c k hc hk
   have hq : q < nm := by
    have := (List.getElem?_eq_some_iff.1 hk).1
    simpa using this
   unfold qd at hc
   rw [List.getElem?_map, List.getElem?_range hq] at hc
   simp only [Option.map_some, Option.some.injEq] at hc
   subst hc
   rcases hm with h0 | ⟨m, hm', hm⟩
   ·omega
   obtain ⟨y, hy, hwy⟩ := hm q hq
   obtain ⟨ys, n2, hf2, hye, hl2, hlen2, hg2⟩ := DataW.trod_struct underlying132 hy
   rw [KL] at hl2
   revert hl2 hg2
   generalize (xm.drop (q * 6)).take 6 = c6
   intro hl2 hg2
   obtain ⟨d0, d1, d2, d3, d4, d5, rfl⟩ := list_sixV hl2
   obtain ⟨z0, z1, rfl⟩ : ∃ z0 z1, ys = [z0, z1] := by
    match ys, hlen2 with
    | [a, b], _ => exact ⟨a, b, rfl⟩
   have k0 : DataW.trod enc Tryz.prog w 0 (fun _ => true) held n2 9 (([d0, d1, d2, d3, d4, d5].drop 0).take (Tryz.prog.cellsOf 9)) = some z0 := hg2 0 _ rfl
   have k1 : DataW.trod enc Tryz.prog w 0 (fun _ => true) held n2 25 (([d0, d1, d2, d3, d4, d5].drop 1).take (Tryz.prog.cellsOf 25)) = some z1 := hg2 1 _ rfl
   rw [j9] at k0
   rw [QR] at k1
   have hwp : ∀ (j : Nat) (tt : TypeId) (y' : DataW H × List MemPlace), ([9, 25] : List TypeId)[j]? = some tt → [z0, z1][j]? = some y' → ∀ k, k ∈ y'.1.weights Tryz.prog tt → k ≤ B := by
    intro j tt y' ht hy' k hk
    refine hwy k ?_
    rw [hye]
    exact xy underlying132 ht hy' hk
   obtain ⟨s2, q0, f2', -⟩ := DataW.trod_string underlying9 (x := z0) k0
   simp only [List.drop_zero, List.take_succ_cons, List.take_zero, List.cons.injEq, and_true] at q0
   subst q0
   have q2 : s2.size ≤ B := by
    have h9 := hwp 0 _ z0 rfl rfl s2.data.toList.length (by rw [f2']; show _ ∈ DataW.weights Tryz.prog 9 (.lit (.string s2.data.toList)); simp [DataW.weights])
    simpa using h9
   have k1' : DataW.trod enc Tryz.prog w 0 (fun _ => true) held n2 25 [d1, d2, d3, d4, d5] = some z1 := k1
   obtain ⟨z, hz⟩ := IH n2 (by omega) k1' (hwp 1 _ z1 rfl rfl)
   subst hf2
   subst hm'
   exact ⟨(s2, Go.Proofs.YtibnfbglanpoiaaGreatDoor.up _ (Go.Proofs.YtibnfbglanpoiaaGreatDoor.up _ z)), ⟨rfl, hz.up.up⟩, q2⟩
  obtain ⟨zl, al⟩ := gl
  obtain ⟨zm, am⟩ := gm
  have el : zl.length = nl := by rw [← al.1]; simp [qd]
  have em : zm.length = nm := by rw [← am.1]; simp [qd]
  have getl : ∀ x, x ∈ zl → qj B n x := fun x hx => by
   obtain ⟨j, hj, rfl⟩ := List.getElem_of_mem hx
   exact (al.2 j _ _ (List.getElem?_eq_getElem (by rw [al.1]; exact hj)) (List.getElem?_eq_getElem hj)).2
  have getm : ∀ p, p ∈ zm → qj B n p.2 ∧ p.1.size ≤ B := fun x hx => by
   obtain ⟨j, hj, rfl⟩ := List.getElem_of_mem hx
   have := am.2 j _ _ (List.getElem?_eq_getElem (by rw [am.1]; exact hj)) (List.getElem?_eq_getElem hj)
   exact ⟨this.1.2.2, this.2⟩
  have hfix : ∀ c, c ∈ qd 6 xm nm → yF (pairF c) = c := fun c hc => by
   obtain ⟨j, hj, rfl⟩ := List.getElem_of_mem hc
   have h5 := (am.2 j _ _ (List.getElem?_eq_getElem hj) (List.getElem?_eq_getElem (by rw [← am.1]; exact hj))).1.1
   rw [h5]
   rfl
  have hcm : zU ((qd 6 xm nm).map pairF) = xm := by
   rw [qh, List.map_map]
   have e : (qd 6 xm nm).map (yF ∘ pairF) = qd 6 xm nm := by
    conv => rhs; rw [← List.map_id (qd 6 xm nm)]
    exact List.map_congr_left fun c hc => hfix c hc
   rw [e]
   exact vY nm xm sm.1
  have hcl : (qd 5 xl nl).flatten = xl := vY nl xl sl.1
  refine ⟨(⟨i, j, s, zl, zm⟩ : VS (V n)), ⟨c3, c4, qd 5 xl nl, (qd 6 xm nm).map pairF, {
   cells := rfl
   slcl := by rw [el, hcl]; exact sl
   alll := al.mono fun _ _ _ r => r.1
   slcm := by rw [em, hcm]; exact sm
   allm := ?_
   inl := fun g hg => sl.lt hg
   inm := fun g hg => sm.lt hg
   wfk := w0
   wfn := w1 }⟩, ⟨w2, by rw [el]; exact ml, by rw [em]; exact mm⟩, fun p hp => (getm p hp).2, fun x hx => ?_⟩
  ·refine ⟨by rw [List.length_map]; exact am.1, ?_⟩
   intro q c z hc hz
   rw [List.getElem?_map, Option.map_eq_some_iff] at hc
   obtain ⟨c', hc', rfl⟩ := hc
   have h5 := (am.2 q c' z hc' hz).1
   refine ⟨?_, h5.2.1⟩
   rw [h5.1]
   rfl
  ·rcases List.mem_append.1 hx with hx | hx
   ·exact getl x hx
   ·obtain ⟨p, hp, rfl⟩ := List.mem_map.1 hx
    exact (getm p hp).1
end
def strOfV : Value → ByteArray
 | .string s => s
 | _ => ⟨#[]⟩
section
variable {H : Type} {enc : TypeId × Value → H} {w : World} {held : Bool}
theorem trod_textsV {fuel : Nat} {v : Value} {x : DataW H × List MemPlace} (h : DataW.trod enc Tryz.prog w 0 (fun _ => true) held fuel 29 [v] = some x) {B : Nat} (hw : ∀ k, k ∈ x.1.weights Tryz.prog 29 → k ≤ B) : ∃ l : List ByteArray, yC w v l ∧ l.length ≤ B ∧ ∀ s, s ∈ l → s.size ≤ B := by
 obtain ⟨n, xs, h1, h2, h3⟩ := jT underlying29 j9 (by decide) h hw (by rw [show Tryz.prog.bytesOf 9 = 16 by kernel_rfl]; decide)
 have hlen : xs.length = n := by simpa using h1.1
 have hx : ∀ i (hi : i < xs.length), ∃ s : ByteArray, xs[i] = .string s ∧ s.size ≤ B := by
  intro i hi
  rcases h3 with h0 | ⟨m, _, h3⟩
  ·omega
  obtain ⟨y, hy, hwy⟩ := h3 i (by omega)
  rw [KQ hi] at hy
  obtain ⟨s, hs, fs, -⟩ := DataW.trod_string underlying9 hy
  have hs' : xs[i] = .string s := by simpa using hs
  have h9 := hwy s.data.toList.length (by rw [fs]; show _ ∈ DataW.weights Tryz.prog 9 (.lit (.string s.data.toList)); simp [DataW.weights])
  exact ⟨s, hs', by simpa using h9⟩
 have e : (xs.map strOfV).map Value.string = xs := by
  apply List.ext_getElem (by simp)
  intro i hi hi'
  obtain ⟨s, hs, -⟩ := hx i hi'
  simp only [List.getElem_map]
  rw [hs]
  rfl
 refine ⟨xs.map strOfV, ?_, by simpa [hlen] using h2, fun s hs => ?_⟩
 ·unfold yC
  rw [e, List.length_map, hlen]
  exact h1
 ·obtain ⟨u, hu, rfl⟩ := List.mem_map.1 hs
  obtain ⟨i, hi, rfl⟩ := List.getElem_of_mem hu
  obtain ⟨s, hs2, hb⟩ := hx i hi
  rw [hs2]
  exact hb
theorem jb {α : Type} {l : List α} (h : l.length = 2) : ∃ a b, l = [a, b] := by
 rcases l with _ | ⟨a, _ | ⟨b, _ | ⟨c, l⟩⟩⟩ <;> simp at h
 exact ⟨a, b, rfl⟩
theorem trod_role {fuel : Nat} {cs : List Value} {x : DataW H × List MemPlace} (h : DataW.trod enc Tryz.prog w 0 (fun _ => true) held fuel 31 cs = some x) {B : Nat} (hw : ∀ k, k ∈ x.1.weights Tryz.prog 31 → k ≤ B) : ∃ (r : qJ) (a : Option Addr) (c : Nat), cs = [.slice a r.keys.length c, .int .i64 r.thr] ∧ yC w (.slice a r.keys.length c) r.keys ∧ r.keys.length ≤ B ∧ ∀ s, s ∈ r.keys → s.size ≤ B := by
 obtain ⟨xs, n, hfu, hxe, hl, hlen, hf⟩ := DataW.trod_struct underlying31 h
 rw [show Tryz.prog.cellsOf 31 = 2 by kernel_rfl] at hl
 obtain ⟨c0, c1, rfl⟩ := jb hl
 obtain ⟨y0, y1, rfl⟩ := jb hlen
 have h0 : DataW.trod enc Tryz.prog w 0 (fun _ => true) held n 29 (([c0, c1].drop 0).take (Tryz.prog.cellsOf 29)) = some y0 := hf 0 _ rfl
 have h1 : DataW.trod enc Tryz.prog w 0 (fun _ => true) held n 3 (([c0, c1].drop 1).take (Tryz.prog.cellsOf 3)) = some y1 := hf 1 _ rfl
 rw [show Tryz.prog.cellsOf 29 = 1 by kernel_rfl] at h0
 rw [ZK] at h1
 obtain ⟨l, ht, hb, hs⟩ := trod_textsV (v := c0) (x := y0) h0 (fun k hk => hw k (by rw [hxe]; exact xy (j := 0) (y := y0) underlying31 rfl rfl hk))
 obtain ⟨i, e1, _, w1⟩ := DataW.trod_int underlying3 (x := y1) h1
 simp at e1
 subst e1
 obtain ⟨a, c, rfl, -, -⟩ := ht.form
 exact ⟨⟨l, i⟩, a, c, rfl, ht, hb, hs⟩
end
section
variable {H : Type} {enc : TypeId × Value → H} {w : World} {held : Bool}
theorem trod_key {fuel : Nat} {cs : List Value} {x : DataW H × List MemPlace} (h : DataW.trod enc Tryz.prog w 0 (fun _ => true) held fuel 47 cs = some x) : ∃ k : zM, cs = kH k ∧ (qW k.bits ∧ k.root.length = 32) := by
 obtain ⟨xs, n, hfu, hxe, hl, hlen, hf⟩ := DataW.trod_struct underlying47 h
 rw [show Tryz.prog.cellsOf 47 = 34 by kernel_rfl] at hl
 rcases cs with _ | ⟨c0, _ | ⟨c1, l⟩⟩
 ·cases hl
 ·cases hl
 have hll : l.length = 32 := by simpa using hl
 rcases xs with _ | ⟨y0, _ | ⟨y1, _ | ⟨y2, ys⟩⟩⟩
 ·cases hlen
 ·cases hlen
 ·cases hlen
 have h0 : DataW.trod enc Tryz.prog w 0 (fun _ => true) held n 3 (((c0 :: c1 :: l).drop 0).take (Tryz.prog.cellsOf 3)) = some y0 := hf 0 _ rfl
 have h1 : DataW.trod enc Tryz.prog w 0 (fun _ => true) held n 3 (((c0 :: c1 :: l).drop 1).take (Tryz.prog.cellsOf 3)) = some y1 := hf 1 _ rfl
 have h2 : DataW.trod enc Tryz.prog w 0 (fun _ => true) held n 45 (((c0 :: c1 :: l).drop 2).take (Tryz.prog.cellsOf 45)) = some y2 := hf 2 _ rfl
 rw [ZK] at h0 h1
 rw [show Tryz.prog.cellsOf 45 = 32 by kernel_rfl, show (c0 :: c1 :: l).drop 2 = l from rfl, List.take_of_length_le (by omega)] at h2
 obtain ⟨b, e0, _, w0⟩ := DataW.trod_int underlying3 (x := y0) h0
 obtain ⟨g, e1, _, w1⟩ := DataW.trod_int underlying3 (x := y1) h1
 obtain rfl : c0 = .int .i64 b := by simpa using e0
 obtain rfl : c1 = .int .i64 g := by simpa using e1
 obtain ⟨zs, m, _, _, _, hzs, hi⟩ := DataW.trod_array underlying45 h2
 rw [show Tryz.prog.cellsOf 5 = 1 by kernel_rfl] at hi
 have e : (l.map bO).map bv = l := by
  apply List.ext_getElem (by simp)
  intro i q1 q2
  have q3 := hi i (by omega)
  rw [KQ q2, List.getElem?_eq_getElem (by omega)] at q3
  obtain ⟨z, e2, _, w2⟩ := DataW.trod_int underlying5 q3
  have e3 : l[i] = .int .u8 z := by simpa using e2
  simp only [List.getElem_map]
  rw [e3]
  exact byteOfV_wf w2
 refine ⟨⟨b, g, l.map bO⟩, ?_, ?_, ?_⟩
 ·show _ = Value.int .i64 b :: .int .i64 g :: (l.map bO).map bv
  rw [e]
 ·unfold Lit.wf at w0
  simp only [Bool.and_eq_true, decide_eq_true_eq] at w0
  exact ⟨w0.1, w0.2⟩
 ·show (l.map bO).length = 32
  rw [List.length_map, hll]
end
end Go.Proofs.YtibnfbglanpoiaaGreatDoor

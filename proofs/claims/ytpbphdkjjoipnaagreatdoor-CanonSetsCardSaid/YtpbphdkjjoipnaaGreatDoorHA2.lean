/- Parts of one proof, merged: XWD XWE XWF. -/
import Derived.Test.YtpbphdkjjoipnaaGreatDoorHA1
import Derived.Test.YtpbphdkjjoipnaaGreatDoorHY
import Derived.Test.YtpbphdkjjoipnaaGreatDoorHC
import Derived.Test.YtpbphdkjjoipnaaGreatDoorHA
import Derived.Test.YtpbphdkjjoipnaaGreatDoorHJ
set_option linter.all false
set_option maxHeartbeats 12800000
set_option maxRecDepth 10000
set_option linter.unusedVariables false
set_option linter.unusedSimpArgs false
set_option linter.unnecessarySimpa false
namespace Go.Proofs.YtpbphdkjjoipnaaGreatDoor
open Go.Proofs.Tryz
open Go.RowKit
def JL {n : Nat} (S : Nat → Prop) (g o : Nat) (v : VS (V n)) (s : List UInt8) (e : Ending) (w' : World) : Prop := match yX v s with
 | none => e = .returned (.pointer none)
 | some u => ∃ g1 o1, e = .returned (.pointer (some ⟨g1, o1, none⟩)) ∧ qy n S w' g1 o1 u ∧ ZK w' g o v s g1 o1
theorem vc {n : Nat} {S : Nat → Prop} {g o : Nat} {v : VS (V n)} {s : List UInt8} {w' : World} (h : yX v s = none) : JL S g o v s (.returned (.pointer none)) w' := by unfold JL; rw [h]
theorem Ku {n : Nat} {S : Nat → Prop} {g o : Nat} {v : VS (V n)} {s : List UInt8} {u : V n} {w' : World} {g1 o1 : Nat} (h : yX v s = some u) (p : qy n S w' g1 o1 u) (q : ZK w' g o v s g1 o1) : JL S g o v s (.returned (.pointer (some ⟨g1, o1, none⟩))) w' := by unfold JL; rw [h]; exact ⟨g1, o1, rfl, p, q⟩
def ko {m : Nat} (S : Nat → Prop) (g o : Nat) (v : V m) (L : List (List UInt8)) (e : Ending) (w' : World) : Prop := match atV m v L with
 | none => e = .returned (.pointer none)
 | some u => ∃ g1 o1, e = .returned (.pointer (some ⟨g1, o1, none⟩)) ∧ qy u.1 S w' g1 o1 u.2 ∧ xw m w' g o v L g1 o1
theorem path_none {m : Nat} {S : Nat → Prop} {g o : Nat} {v : V m} {L : List (List UInt8)} {w' : World} (h : atV m v L = none) : ko S g o v L (.returned (.pointer none)) w' := by unfold ko; rw [h]
theorem path_some {m m' : Nat} {S : Nat → Prop} {g o : Nat} {v : V m} {L : List (List UInt8)} {u : V m'} {w' : World} {g1 o1 : Nat} (h : atV m v L = some ⟨m', u⟩) (p : qy m' S w' g1 o1 u) (q : xw m w' g o v L g1 o1) : ko S g o v L (.returned (.pointer (some ⟨g1, o1, none⟩))) w' := by unfold ko; rw [h]; exact ⟨g1, o1, rfl, p, q⟩
theorem at_nil {m : Nat} (v : V m) : atV m v [] = some ⟨m, v⟩ := by
 cases m with
 | zero => exact nomatch v
 | succ m => rfl
theorem path_nil {m : Nat} {w : World} {g o : Nat} (v : V m) : xw m w g o v [] g o := by
 cases m with
 | zero => exact nomatch v
 | succ m => exact ⟨rfl, rfl⟩
section
variable {n : Nat} {S : Nat → Prop} {w : World} {g o : Nat} {v : VS (V n)}
set_option maxRecDepth 100000 in
theorem withinK_any (hp : qy (n + 1) S w g o v) (s : ByteArray) (hs : s.size ≤ 1000000) (ht : yK w) (he : qB w) (hl : v.l.length ≤ 1000000 ∧ v.m.length ≤ 1000000) :
  Calls Tryz.prog 91 #[.pointer (some ⟨g, o, none⟩), .string s] w fun e w' => JL S g o v s.data.toList e w' ∧ zb [] w w' := by
 obtain ⟨k, nm, st, a, b, h0, h1, h2, h3, h4, h5⟩ := hp
 obtain ⟨vl, vm, lcs, mcs, hr⟩ := h5.open_
 have hc := hr.cells
 simp only [List.cons.injEq, Value.int.injEq, true_and, Value.string.injEq, and_true] at hc
 obtain ⟨rfl, rfl, rfl, rfl, rfl⟩ := hc
 obtain ⟨pl, cl, pm, cm, rfl, rfl, -⟩ := hr.forms
 have HR := qI hr
 have Gn := qI hl
 have Gt : Hid (∃ lcs mcs, ya (Rep n S (w.alloc (.cells #[.string s] 9))) S (w.alloc (.cells #[.string s] 9)) [.int .i64 v.kind, .int .i64 v.num, .string v.s, .slice pl v.l.length cl, .slice pm v.m.length cm] v (.slice pl v.l.length cl) (.slice pm v.m.length cm) lcs mcs) := qI (by
  obtain ⟨vl', vm', l', m', h'⟩ := (h5.kept0 ((zb.refl [] w).alloc (.cells #[.string s] 9))).open_
  have hc := h'.cells
  simp only [List.cons.injEq, true_and, and_true] at hc
  obtain ⟨rfl, rfl⟩ := hc
  exact ⟨l', m', h'⟩)
 have Ge : Hid (zb [] w (w.alloc (.cells #[.string s] 9))) := qI ((zb.refl [] w).alloc _)
 have HB : Hid ((w.alloc (.cells #[.string s] 9)).heap[w.heap.size]? = some (.cells #[.string s] 9 (0, 0))) := qI (zn rfl)
 have CI : Hid (∀ w1, zb [] w w1 → Calls Tryz.prog 133 #[.string s] w1 fun e w' => e = .returned (.int .i64 (jf s.data.toList)) ∧ zb [] w1 w') := qI (fun w1 q => J7 (ht.kept0 q) (he.kept0 q) s hs)
 have HC : Hid (∀ w1, zb [] w w1 → w1.cell? ⟨g, o, none⟩ = some (.int .i64 v.kind) ∧ w1.cell? ⟨g, o + 3, none⟩ = some (.slice pl v.l.length cl) ∧ w1.cell? ⟨g, o + 4, none⟩ = some (.slice pm v.m.length cm)) := qI (fun w1 q => ⟨q.cell h0 (by simp), q.cell h3 (by simp), q.cell h4 (by simp)⟩)
 clear hr hl ht he h0 h1 h2 h3 h4 h5 hs
 obtain ⟨x0, x3, x4⟩ := HC.o _ Ge.o
 by_cases k5 : v.kind = 5
 ·have y0 := za (o := 0) (v := .string s) HB.o rfl
  obtain ⟨f1, f2⟩ := yg (a := v.kind) (b := 5) k5
  have Gf := qI k5
  clear k5
  go_enter func91, ntmps91
  go_wp2_with fail
  refine (CI.o _ Ge.o).mono ?_
  rintro e w1 ⟨rfl, hk1⟩
  have Ga := qI (Ge.o.then hk1)
  clear x0 x3 x4 y0
  obtain ⟨x0, x3, x4⟩ := HC.o _ Ga.o
  clear hk1
  by_cases hi0 : 0 ≤ jf s.data.toList
  ·obtain ⟨i, hi⟩ := Int.eq_ofNat_of_zero_le hi0
   have HD : Hid (Lib.decDigits i = s.data.toList) := qI (by have := idx_ge hi0; rw [hi] at this; exact this)
   rw [hi]
   clear hi0 hi
   by_cases hil : i < v.l.length
   ·have hilI : (i : Int) < v.l.length := by omega
    have Gc := qI (kid_list Gf.o hil HD.o)
    obtain ⟨g1, o1, c1, kd, nm, st, a1, b1, e1, c0, c1, c2, c3, c4, hrp⟩ := HR.o.at_l Ga.o i hil
    simp only [Value.slice.injEq] at e1
    obtain ⟨rfl, -, rfl⟩ := e1
    have Gk : Hid (ZK w1 g o v s.data.toList g1 (o1 + i * 5)) := qI ⟨i, o1, _, _, ZE Gf.o hil HD.o, .inl ⟨Gf.o, x3, rfl⟩⟩
    have HP : Hid (qy n S w1 g1 (o1 + i * 5) v.l[i]) := qI ⟨kd, nm, st, a1, b1, c0, c1, c2, c3, c4, hrp⟩
    clear c0 c1 c2 c3 c4 hrp
    go_wp2_with fail
    go_ret
    exact ⟨Ku Gc.o HP.o Gk.o, Ga.o⟩
   ·have hilI : ¬ (i : Int) < v.l.length := by omega
    have HN : Hid (yX v s.data.toList = none) := qI (qh (xH Gf.o (fun j hj e => by
     have := Zo (e.trans HD.o.symm)
     omega)))
    clear hil
    go_wp2_with fail
    go_ret
    exact ⟨vc HN.o, Ga.o⟩
  ·have hi1 : ¬ 0 ≤ jf s.data.toList := hi0
   have HN : Hid (yX v s.data.toList = none) := qI (qh (xH Gf.o (fun j hj e => by
    have h9 := idx_of (by have := Gn.o.1; omega) e
    omega)))
   clear hi0
   revert hi1
   generalize jf s.data.toList = r
   intro hi1
   go_wp2_with fail
   go_ret
   exact ⟨vc HN.o, Ga.o⟩
 obtain ⟨f1, f2⟩ := zt (a := v.kind) (b := 5) k5
 by_cases k6 : v.kind = 6
 rotate_left
 ·obtain ⟨f3, f4⟩ := zt (a := v.kind) (b := 6) k6
  have HN : Hid (yX v s.data.toList = none) := qI (qh (bz k5 k6))
  clear k5 k6
  go_enter func91, ntmps91
  go_wp2_with fail
  go_ret
  exact ⟨vc HN.o, Ge.o⟩
 obtain ⟨f3, f4⟩ := yg (a := v.kind) (b := 6) k6
 have Gg := qI k6
 obtain ⟨l', m', hr0⟩ := Gt.o
 have CX := qI (KC (w := w.alloc (.cells #[.string s] 9)) hr0 (za (o := 0) (v := .string s) HB.o rfl) Gn.o.2)
 have hmf : ∀ w1 : World, (Instr.makeFunc (.func 135) #[] #[.pointer (some ⟨w.heap.size, 0, none⟩)]).run Tryz.prog w1 = .ok (.func (.func 135) #[] #[.pointer (some ⟨w.heap.size, 0, none⟩)]) w1 := fun _ => rfl
 clear k5 k6 hr0
 go_enter func91, ntmps91
 go_wp2_with fail
 refine CX.o.mono ?_
 rintro e w1 ⟨⟨r, rfl, hix⟩, hk1⟩
 have Ga := qI (Ge.o.then hk1)
 clear x0 x3 x4 hk1
 obtain ⟨x0, x3, x4⟩ := HC.o _ Ga.o
 rcases hix with ⟨rfl, hno⟩ | ⟨i, hi, rfl, hki, hno⟩
 ·have HN : Hid (yX v s.data.toList = none) := qI (qh (qF Gg.o hno))
  clear hno
  go_wp2_with fail
  go_ret
  exact ⟨vc HN.o, Ga.o⟩
 ·have Gc := qI (kid_map Gg.o hi hki hno)
  obtain ⟨g1, o1, c1, kd, nm, st, a1, b1, e1, -, c0, c1, c2, c3, c4, hrp⟩ := HR.o.at_m Ga.o i hi
  simp only [Value.slice.injEq] at e1
  obtain ⟨rfl, -, rfl⟩ := e1
  have Gk : Hid (ZK w1 g o v s.data.toList g1 (o1 + i * 6 + 1)) := qI ⟨i, o1, _, _, jV Gg.o hi hki hno, .inr ⟨Gg.o, x4, rfl⟩⟩
  have HP : Hid (qy n S w1 g1 (o1 + i * 6 + 1) v.m[i].2) := qI ⟨kd, nm, st, a1, b1, c0, by rw [Nat.add_assoc]; exact c1, by rw [Nat.add_assoc]; exact c2, by rw [Nat.add_assoc]; exact c3, by rw [Nat.add_assoc]; exact c4, hrp⟩
  clear c0 c1 c2 c3 c4 hrp hno hki
  have hiI : (i : Int) < v.m.length := by omega
  go_wp2_with fail
  go_ret
  exact ⟨Ku Gc.o HP.o Gk.o, Ga.o⟩
end
section
variable {m : Nat} {S : Nat → Prop} {w : World} {g o : Nat} {v : V m} {a : Option Addr} {n c : Nat} {la : List ByteArray}
set_option maxRecDepth 100000 in
theorem walkP_any (hp : qy m S w g o v) (ha : Slc w 1 (.slice a n c) n (zL la)) (hn : n ≤ 1000000) (hs : ∀ x, x ∈ la → x.size ≤ 1000000) (hsm : zZ m v) (ht : yK w) (he : qB w) :
  Calls Tryz.prog 63 #[.pointer (some ⟨g, o, none⟩), .slice a n c] w fun e w' => ko S g o v (la.map (·.data.toList)) e w' ∧ zb [] w w' := by
 have HP := qI hp
 have HA := qI ha
 have Gp := qI (bc ha)
 have Gu := qI hs
 have Gv := qI hsm
 have HT := qI ht
 have HE := qI he
 have hnI : (n : Int) ≤ 1000000 := by omega
 clear hp ha hn hs hsm ht he
 go_enter func63, ntmps63
 go_wp2_with fail
 go_loopw [0, 9] (fun p i wr => ∃ k : Nat, i = .int .i64 k ∧ k ≤ n ∧ zb [] w wr ∧ ∃ m' g' o', p = .pointer (some ⟨g', o', none⟩) ∧ ∃ u : V m', qy m' S wr g' o' u ∧ zZ m' u ∧ atV m v ((la.take k).map (·.data.toList)) = some ⟨m', u⟩ ∧ xw m wr g o v ((la.take k).map (·.data.toList)) g' o') (fun _ i _ => n - (intOf i).toNat)
 case atStart => exact ⟨0, rfl, Nat.zero_le _, zb.refl _ _, m, g, o, rfl, v, HP.o, Gv.o, by rw [List.take_zero]; exact at_nil v, by rw [List.take_zero]; exact path_nil v⟩
 case round =>
  obtain ⟨k, rfl, hk, hkw, m', g', o', rfl, u, hpu, hsu, hat, hpath⟩ := hrel
  have Gh := qI hkw
  have Gq := qI hpu
  have Gr := qI hsu
  have Gi := qI hat
  have Gb := qI hpath
  by_cases hlt : k < n
  rotate_left
  ·obtain rfl : k = n := by omega
   have hltI : ¬ (k : Int) < k := by omega
   have HF : Hid (atV m v (la.map (·.data.toList)) = some ⟨m', u⟩ ∧ xw m wr g o v (la.map (·.data.toList)) g' o') := qI (by
    have h1 := Gi.o
    have h2 := Gb.o
    rw [List.take_of_length_le (by rw [Gp.o]; exact Nat.le_refl _)] at h1 h2
    exact ⟨h1, h2⟩)
   clear hlt hk hkw hpu hsu hat hpath
   go_wp2_with fail
   go_ret
   exact ⟨path_some HF.o.1 Gq.o HF.o.2, Gh.o⟩
  have hltI : (k : Int) < n := by omega
  have hka : k < la.length := by rw [Gp.o]; exact hlt
  obtain ⟨ga, oa, rfl, q0⟩ := jQ (HA.o.kept0 hkw) hka
  have Gl : Hid (la[k].size ≤ 1000000) := qI (Gu.o _ (List.getElem_mem hka))
  have Gj : Hid ((la.take (k + 1)).map (·.data.toList) = (la.take k).map (·.data.toList) ++ [la[k].data.toList]) := qI (by rw [List.take_succ_eq_append_getElem hka, List.map_append]; rfl)
  have Gd : Hid (∃ r, la.map (·.data.toList) = (la.take k).map (·.data.toList) ++ la[k].data.toList :: r) := qI ⟨(la.drop (k + 1)).map (·.data.toList), by
   have h := congrArg (List.map (fun x => x.data.toList)) (List.take_append_drop k la)
   rw [List.drop_eq_getElem_cons hka, List.map_append] at h
   exact h.symm⟩
  have Gs := qI hlt
  cases m' with
  | zero => exact nomatch u
  | succ m' =>
  clear hlt hk hkw hpu hsu hat hpath
  revert q0 Gl Gj Gd
  generalize la[k] = X
  intro q0 Gl Gj Gd
  clear hka
  have CW := qI (withinK_any (v := u) Gq.o X Gl.o (HT.o.kept0 Gh.o) (HE.o.kept0 Gh.o) (jM Gr.o))
  go_wp2_with fail
  refine CW.o.mono ?_
  rintro e w1 ⟨hwent, hk1⟩
  have Ga := qI (Gh.o.then hk1)
  have Gm := qI hk1
  clear hk1 q0
  unfold JL at hwent
  cases hkd : yX (α := V m') u X.data.toList with
  | none =>
   rw [hkd] at hwent
   obtain rfl := hwent
   have HF : Hid (atV m v (la.map (·.data.toList)) = none) := qI (by
    obtain ⟨r, hr⟩ := Gd.o
    rw [hr, at_app _ _ _ _ Gi.o]
    exact vE hkd)
   go_wp2_with fail
   go_ret
   exact ⟨path_none HF.o, Ga.o⟩
  | some x =>
   rw [hkd] at hwent
   obtain ⟨g2, o2, rfl, hp2, hka2⟩ := hwent
   have Gw := qI hp2
   have Gx := qI (Gr.o.kid (kid_mem hkd))
   have Gy : Hid (atV m v ((la.take (k + 1)).map (·.data.toList)) = some ⟨m', x⟩) := qI (by
    rw [Gj.o, at_app _ _ _ _ Gi.o]
    exact (xx hkd).trans (at_nil x))
   have Gz : Hid (xw m w1 g o v ((la.take (k + 1)).map (·.data.toList)) g2 o2) := qI (by
    rw [Gj.o]
    exact xw.snoc (Gb.o.kept0 Gm.o) Gi.o hkd hka2)
   clear hp2 hkd hka2
   go_wp2_with fail
   case roundEnd => exact ⟨⟨k + 1, by go_num, by have := Gs.o; omega, Ga.o, m', g2, o2, rfl, x, Gw.o, Gx.o, Gy.o, Gz.o⟩, by have := Gs.o; simp [intOf]; omega⟩
end
theorem slc_front {P : Program} {t e size bytes : Nat} {z : Value} (T : kg P t e size bytes z) {w : World} {v : Value} {n : Nat} {xs : List Value} (h : Slc w size v n xs) (k : Nat) (hk : k ≤ n) :
  ∃ a c, (∀ W, (Instr.slice t v none (some (.int .i64 k)) none).run P W = .ok (.slice a k c) W) ∧ Slc w size (.slice a k c) k (xs.take (k * size)) := by
 obtain ⟨v', -, -, h3, h4, -⟩ := h.cut T 0 k (Nat.zero_le _) hk
 obtain ⟨a, c, rfl, -, -⟩ := h4.form
 rw [Nat.sub_zero, Nat.zero_mul, List.drop_zero] at h4
 refine ⟨a, c, fun W => ?_, h4⟩
 have := h3 rfl W
 rwa [Nat.sub_zero] at this
theorem Z4 {w : World} {g o : Nat} {a b c d e : Value} (h : Row w g o [a, b, c, d, e]) : w.cell? ⟨g, o, none⟩ = some a ∧ w.cell? ⟨g, o + 1, none⟩ = some b ∧ w.cell? ⟨g, o + 2, none⟩ = some c ∧ w.cell? ⟨g, o + 3, none⟩ = some d ∧ w.cell? ⟨g, o + 4, none⟩ = some e :=
 ⟨h.cells 0 _ rfl, h.cells 1 _ rfl, h.cells 2 _ rfl, h.cells 3 _ rfl, h.cells 4 _ rfl⟩
theorem xP {w : World} {g : Nat} {cur : Array Value} {e : Nat} (h : w.heap[g]? = some (.cells cur e (0, 0))) (p : Nat) : w.cell? ⟨g, p, none⟩ = cur[p]? := cell_of_row w g p cur e (0, 0) h
theorem turned_store {w : World} {g1 o1 : Nat} {cur : Array Value} {e : Nat} {cs' cs : List Value} {S' : Nat → Prop} (hb : w.heap[g1]? = some (.cells cur e (0, 0))) (hrow : Row w g1 o1 cs') (h5 : cs'.length = 5) (hc : cs.length = 5) :
  Ky w g1 o1 S' [g1] (w.setCells g1 o1 cs) ∧ Row (w.setCells g1 o1 cs) g1 o1 cs := by
 obtain ⟨cur', h1, h2, h3⟩ := jq g1 cs o1 w cur hb
 have hsz : o1 + 5 ≤ cur.size := by
  have := hrow.cells 4 cs'[4] (List.getElem?_eq_getElem (by omega))
  rw [xP hb] at this
  have := (Array.getElem?_eq_some_iff.1 this).1
  omega
 refine ⟨⟨kh _ _ _ _, fun b hb => .inr (by simpa using hb), fun p hp => ?_⟩, fun j u hu => ?_, lt_of_block h1⟩
 ·rw [xP h1, xP hb]
  by_cases hlt : p < cur.size
  ·rw [h3 p hlt, if_neg (by omega)]
  ·rw [Array.getElem?_eq_none (by omega), Array.getElem?_eq_none (by omega)]
 ·have hj : j < cs.length := (List.getElem?_eq_some_iff.1 hu).1
  rw [xP h1, h3 _ (by omega), if_pos (by omega), Nat.add_sub_cancel_left]
  exact hu
theorem Q8 {w w2 : World} {g1 o1 q : Nat} {cur : Array Value} {e : Nat} {S' : Nat → Prop} {X : List Nat} {u : Value} (hb : w.heap[g1]? = some (.cells cur e (0, 0))) (hk : zb X w w2) (hX : ∀ b, b ∈ X → S' b ∨ b = g1) (hb2 : w2.heap[g1]? = some (.cells (cur.setIfInBounds (o1 + q) u) e (0, 0))) (hq : q < 5) : Ky w g1 o1 S' X w2 := by
 refine ⟨hk, hX, fun p hp => ?_⟩
 rw [xP hb2, xP hb, Array.getElem?_setIfInBounds, if_neg (by omega)]
theorem row_one {w w2 : World} {g1 o1 : Nat} {cur : Array Value} {e : Nat} {a b c d f u : Value} (hb : w.heap[g1]? = some (.cells cur e (0, 0))) (hrow : Row w g1 o1 [a, b, c, d, f]) :
  (w2.heap[g1]? = some (.cells (cur.setIfInBounds (o1 + 4) u) e (0, 0)) → Row w2 g1 o1 [a, b, c, d, u]) ∧ (w2.heap[g1]? = some (.cells (cur.setIfInBounds (o1 + 3) u) e (0, 0)) → Row w2 g1 o1 [a, b, c, u, f]) := by
 have hall : ∀ j z, [a, b, c, d, f][j]? = some z → cur[o1 + j]? = some z := fun j z hz => by
  have := hrow.cells j z hz
  rwa [xP hb] at this
 have hsz : o1 + 4 < cur.size := (Array.getElem?_eq_some_iff.1 (hall 4 f rfl)).1
 constructor
 ·intro hb2
  refine ⟨fun j z hz => ?_, lt_of_block hb2⟩
  rw [xP hb2, Array.getElem?_setIfInBounds]
  have hj : j < 5 := (List.getElem?_eq_some_iff.1 hz).1
  by_cases h4 : j = 4
  ·subst h4
   rw [if_pos rfl, if_pos hsz]
   exact hz
  ·rw [if_neg (by omega)]
   have : j = 0 ∨ j = 1 ∨ j = 2 ∨ j = 3 := by omega
   rcases this with rfl | rfl | rfl | rfl <;> exact hall _ _ hz
 ·intro hb2
  refine ⟨fun j z hz => ?_, lt_of_block hb2⟩
  rw [xP hb2, Array.getElem?_setIfInBounds]
  have hj : j < 5 := (List.getElem?_eq_some_iff.1 hz).1
  by_cases h4 : j = 3
  ·subst h4
   rw [if_pos rfl, if_pos (by omega)]
   exact hz
  ·rw [if_neg (by omega)]
   have : j = 0 ∨ j = 1 ∨ j = 2 ∨ j = 4 := by omega
   rcases this with rfl | rfl | rfl | rfl <;> exact hall _ _ hz
theorem KH {w : World} {g1 g6 p n size e e' : Nat} {cur : Array Value} {ls : List (List Value)} {c : List Value} {d : Nat} {u : Value} (hb : w.heap[g1]? = some (.cells cur e (0, 0))) (hr : w.ownsRow 0 e' size (.slice (some ⟨g6, 0, none⟩) (n + 1) d) (n + 1) ls.flatten)
  (hls : ∀ x, x ∈ ls → x.length = size) (hn : ls.length = n + 1) (hc : c.length = size) (hne : g1 ≠ g6) :
  (w.there g6 (n * size) size ∧ (w.setCells g6 (n * size) c).heap[g1]? = some (.cells cur e (0, 0)) ∧ (w.setCell ⟨g1, p, none⟩ u).there g6 (n * size) size) ∧
  ∀ wF, (wF = (w.setCells g6 (n * size) c).setCell ⟨g1, p, none⟩ u ∨ wF = (w.setCell ⟨g1, p, none⟩ u).setCells g6 (n * size) c) →
   zb [g1, g6] w wF ∧ wF.heap[g1]? = some (.cells (cur.setIfInBounds p u) e (0, 0)) ∧ wF.ownsRow 0 e' size (.slice (some ⟨g6, 0, none⟩) (n + 1) d) (n + 1) (ls.set n c).flatten := by
 obtain ⟨r1, r2, r3⟩ := yn (i := n) (g := g6) (c := c) hr hls rfl hn (Nat.lt_succ_self _) hc
 have hk1 : zb [g1] w (w.setCell ⟨g1, p, none⟩ u) := (zb.refl [g1] w).setCell (.inl (by simp)) _
 have hr2 := zh hr hk1 (fun i hi hx => by simp [Value.ownBlock] at hi hx; exact hne (by rw [← hx, ← hi]))
 obtain ⟨s1, s2, s3⟩ := yn (i := n) (g := g6) (c := c) hr2 hls rfl hn (Nat.lt_succ_self _) hc
 have hb1 := r3.heap hb (by simpa using hne)
 refine ⟨⟨r2, hb1, s2⟩, ?_⟩
 rintro wF (rfl | rfl)
 ·have hk2 : zb [g1] (w.setCells g6 (n * size) c) ((w.setCells g6 (n * size) c).setCell ⟨g1, p, none⟩ u) := (zb.refl [g1] _).setCell (.inl (by simp)) _
  exact ⟨(r3.mono (by simp)).trans' (hk2.mono (by simp)), zf hb1 rfl, zh r1 hk2 (fun i hi hx => by simp [Value.ownBlock] at hi hx; exact hne (by rw [← hx, ← hi]))⟩
 ·exact ⟨(hk1.mono (by simp)).trans' (s3.mono (by simp)), s3.heap (zf hb rfl) (by simpa using hne), s1⟩
section
variable {k m : Nat} {x : V k} {u : VS (V m)} {S' T : Nat → Prop} {w w2 : World} {X : List Nat} {vl vm v' : Value} {lcs : List (List Value)} {mcs : List (ByteArray × List Value)} {cx : List Value} {s : List UInt8}
theorem add_rep_m (h2 : w.ownsRow 0 25 5 vl u.l.length lcs.flatten) (h4 : lcs.length = u.l.length) (h5 : mcs.map (fun p => p.1) = u.m.map (fun p => p.1)) (h6 : ∀ g, vl.ownBlock = some g → S' g)
  (h8 : z7 (fun Q c x => xb m Q w c x) (fun g => S' g ∧ vl.ownBlock ≠ some g ∧ vm.ownBlock ≠ some g) (lcs ++ mcs.map (fun p => p.2)) u.kids) (h9 : (Lit.int .i64 u.kind).wf = true) (h10 : (Lit.int .i64 u.num).wf = true)
  (hk : zb X w w2) (hX : ∀ b, b ∈ X → ¬ S' b ∨ vm.ownBlock = some b) (hlm : ∀ b, vl.ownBlock = some b → vm.ownBlock ≠ some b) (hrow : w2.ownsRow 0 60 6 v' (u.m.length + 1) (zQ (mcs ++ [(zg s, cx)]))) (hx : Rep k T w2 cx x) (hST : ∀ b, S' b → T b) (hv' : ∀ b, v'.ownBlock = some b → T b) :
  Rep (k + (m + 1)) T w2 [.int .i64 u.kind, .int .i64 u.num, .string u.s, vl, v'] (⟨u.kind, u.num, u.s, u.l.map (zV k m), u.m.map (fun p => (p.1, zV k m p.2)) ++ [(zg s, upK x m)]⟩ : VS (V (k + m))) := by
 have hkid : ∀ (Q : Nat → Prop) (c : List Value) (z : V m), (∀ g, Q g → S' g ∧ vl.ownBlock ≠ some g ∧ vm.ownBlock ≠ some g) → xb m Q w c z → Rep (k + m) T w2 c (zV k m z) := fun Q c z hq r =>
  (((xb.rep r).kept hk (fun b hb hqb => by
   rcases hX b hb with h | h
   ·exact h (hq b hqb).1
   ·exact (hq b hqb).2.2 h)).mono (fun b _ hqb => hST b (hq b hqb).1)).lift
 refine ⟨vl, v', lcs, mcs ++ [(zg s, cx)], {
  cells := rfl
  slcl := ?_
  alll := ⟨by simp [h4], fun j c z hc hz => ?_⟩
  slcm := ?_
  allm := yc.snoc ⟨by simp [jg h5], fun j p q hp hq => ?_⟩ ⟨rfl, hx.upK m⟩
  inl := fun b hb => hST b (h6 b (zz hb))
  inm := fun b hb => hv' b (zz hb)
  wfk := h9
  wfn := h10 }⟩
 ·have := (Slc.of_row h2).kept hk (fun b hb hx => by
   rcases hX b hx with h | h
   ·exact h (h6 b (zz hb))
   ·exact hlm b (zz hb) h)
  show Slc w2 5 vl (u.l.map _).length _
  rw [List.length_map]; exact this
 ·rw [List.getElem?_map, Option.map_eq_some_iff] at hz
  obtain ⟨z, hz, rfl⟩ := hz
  obtain ⟨a1, a2⟩ := vI (mcs := mcs) h4 (List.getElem?_eq_some_iff.1 hz).1
  obtain ⟨Q, q1, q2⟩ := h8.one j c z (a1.trans hc) (a2.trans hz)
  exact hkid Q c z q1 q2
 ·have := Slc.of_row hrow
  show Slc w2 6 v' (u.m.map _ ++ _).length _
  rw [List.length_append, List.length_map]; exact this
 ·rw [List.getElem?_map, Option.map_eq_some_iff] at hq
  obtain ⟨q, hq, rfl⟩ := hq
  obtain ⟨a1, a2⟩ := vj (v := u) (mcs := mcs) h4 j
  obtain ⟨Q, q1, q2⟩ := h8.one _ p.2 q.2 (a1.trans (by rw [hp]; rfl)) (a2.trans (by rw [hq]; rfl))
  exact ⟨vi h5 hp hq, hkid Q p.2 q.2 q1 q2⟩
theorem add_rep_l (h3 : w.ownsRow 0 60 6 vm u.m.length (zQ mcs)) (h4 : lcs.length = u.l.length) (h5 : mcs.map (fun p => p.1) = u.m.map (fun p => p.1)) (h7 : ∀ g, vm.ownBlock = some g → S' g)
  (h8 : z7 (fun Q c x => xb m Q w c x) (fun g => S' g ∧ vl.ownBlock ≠ some g ∧ vm.ownBlock ≠ some g) (lcs ++ mcs.map (fun p => p.2)) u.kids) (h9 : (Lit.int .i64 u.kind).wf = true) (h10 : (Lit.int .i64 u.num).wf = true)
  (hk : zb X w w2) (hX : ∀ b, b ∈ X → ¬ S' b ∨ vl.ownBlock = some b) (hlm : ∀ b, vl.ownBlock = some b → vm.ownBlock ≠ some b) (hrow : w2.ownsRow 0 25 5 v' (u.l.length + 1) (lcs ++ [cx]).flatten) (hx : Rep k T w2 cx x) (hST : ∀ b, S' b → T b) (hv' : ∀ b, v'.ownBlock = some b → T b) :
  Rep (k + (m + 1)) T w2 [.int .i64 u.kind, .int .i64 u.num, .string u.s, v', vm] (⟨u.kind, u.num, u.s, u.l.map (zV k m) ++ [upK x m], u.m.map (fun p => (p.1, zV k m p.2))⟩ : VS (V (k + m))) := by
 have hkid : ∀ (Q : Nat → Prop) (c : List Value) (z : V m), (∀ g, Q g → S' g ∧ vl.ownBlock ≠ some g ∧ vm.ownBlock ≠ some g) → xb m Q w c z → Rep (k + m) T w2 c (zV k m z) := fun Q c z hq r =>
  (((xb.rep r).kept hk (fun b hb hqb => by
   rcases hX b hb with h | h
   ·exact h (hq b hqb).1
   ·exact (hq b hqb).2.1 h)).mono (fun b _ hqb => hST b (hq b hqb).1)).lift
 refine ⟨v', vm, lcs ++ [cx], mcs, {
  cells := rfl
  slcl := ?_
  alll := yc.snoc ⟨by simp [h4], fun j c z hc hz => ?_⟩ (hx.upK m)
  slcm := ?_
  allm := ⟨by simp [jg h5], fun j p q hp hq => ?_⟩
  inl := fun b hb => hv' b (zz hb)
  inm := fun b hb => hST b (h7 b (zz hb))
  wfk := h9
  wfn := h10 }⟩
 ·have := Slc.of_row hrow
  show Slc w2 5 v' (u.l.map _ ++ _).length _
  rw [List.length_append, List.length_map]; exact this
 ·rw [List.getElem?_map, Option.map_eq_some_iff] at hz
  obtain ⟨z, hz, rfl⟩ := hz
  obtain ⟨a1, a2⟩ := vI (mcs := mcs) h4 (List.getElem?_eq_some_iff.1 hz).1
  obtain ⟨Q, q1, q2⟩ := h8.one j c z (a1.trans hc) (a2.trans hz)
  exact hkid Q c z q1 q2
 ·have := (Slc.of_row h3).kept hk (fun b hb hx => by
   rcases hX b hx with h | h
   ·exact h (h7 b (zz hb))
   ·exact hlm b h (zz hb))
  show Slc w2 6 vm (u.m.map _).length _
  rw [List.length_map]; exact this
 ·rw [List.getElem?_map, Option.map_eq_some_iff] at hq
  obtain ⟨q, hq, rfl⟩ := hq
  obtain ⟨a1, a2⟩ := vj (v := u) (mcs := mcs) h4 j
  obtain ⟨Q, q1, q2⟩ := h8.one _ p.2 q.2 (a1.trans (by rw [hp]; rfl)) (a2.trans (by rw [hq]; rfl))
  exact ⟨vi h5 hp hq, hkid Q p.2 q.2 q1 q2⟩
end
theorem Qy {l : List Value} (h : ∀ u, u ∈ l → u.oneCell' = true) : l.toArray.all (fun u => u.oneCell') = true := Array.all_eq_true_iff_forall_mem.2 (fun u hu => h u (by simpa using hu))
def zv5 : List Value := [.int .i64 0, .int .i64 0, .string ⟨#[]⟩, .slice none 0 0, .slice none 0 0]
def zp6 : List Value := [.string ⟨#[]⟩, .int .i64 0, .int .i64 0, .string ⟨#[]⟩, .slice none 0 0, .slice none 0 0]
theorem JS : ∀ (n : Nat) (v : V n) (q : List (List UInt8)) (u : Sigma V), atV n v q = some u → zZ n v → zZ u.1 u.2
 | 0, v, _, _, _, _ => nomatch v
 | n + 1, v, [], u, h, hs => by
  have e : u = ⟨n + 1, v⟩ := (Option.some.inj (show some (⟨n + 1, v⟩ : Sigma V) = some u from h)).symm
  subst e; exact hs
 | n + 1, (v : VS (V n)), s :: r, u, h, hs => by
  cases hk : yX (α := V n) v s with
  | none => rw [vE hk] at h; cases h
  | some x =>
   rw [xx hk] at h
   exact JS n x r u h (hs.kid (kid_mem hk))
theorem lcs_five {m : Nat} {u : VS (V m)} {w : World} {P : Nat → Prop} {lcs : List (List Value)} {mcs : List (ByteArray × List Value)} (h4 : lcs.length = u.l.length) (h8 : z7 (fun Q c x => xb m Q w c x) P (lcs ++ mcs.map (fun p => p.2)) u.kids) : ∀ z, z ∈ lcs → z.length = 5 := by
 intro d hd
 obtain ⟨j, hj, rfl⟩ := List.getElem_of_mem hd
 have hj2 : j < u.l.length := by omega
 obtain ⟨a1, a2⟩ := vI (mcs := mcs) h4 hj2
 obtain ⟨Q', -, z⟩ := h8.one j lcs[j] u.l[j] (a1.trans (List.getElem?_eq_getElem hj)) (a2.trans (List.getElem?_eq_getElem hj2))
 exact (xb.rep z).len
theorem mcs_five {m : Nat} {u : VS (V m)} {w : World} {P : Nat → Prop} {lcs : List (List Value)} {mcs : List (ByteArray × List Value)} (h4 : lcs.length = u.l.length) (h5 : mcs.map (fun p => p.1) = u.m.map (fun p => p.1)) (h8 : z7 (fun Q c x => xb m Q w c x) P (lcs ++ mcs.map (fun p => p.2)) u.kids) : ∀ p, p ∈ mcs → p.2.length = 5 := by
 intro d hd
 obtain ⟨j, hj, rfl⟩ := List.getElem_of_mem hd
 have hj2 : j < u.m.length := by have := jg h5; omega
 obtain ⟨a1, a2⟩ := vj (v := u) (mcs := mcs) h4 j
 obtain ⟨Q', -, z⟩ := h8.one (u.l.length + j) mcs[j].2 u.m[j].2 (a1.trans (by rw [List.getElem?_eq_getElem hj]; rfl)) (a2.trans (by rw [List.getElem?_eq_getElem hj2]; rfl))
 exact (xb.rep z).len
def vJ {n k : Nat} (S T : Nat → Prop) (w : World) (g : Nat) (v : V n) (x : V k) (L : List (List UInt8)) (e : Ending) (w' : World) : Prop := match yZ x n v L with
 | none => e = .returned (.bool false) ∧ zb [] w w'
 | some y => e = .returned (.bool true) ∧ ∃ X, zb X w w' ∧ (∀ b, b ∈ X → b = g ∨ S b) ∧ ∃ cs, Row w' g 0 cs ∧ Rep (k + n) (fun b => S b ∨ T b ∨ w.heap.size ≤ b) w' cs y
theorem bg {n k : Nat} {S T : Nat → Prop} {w : World} {g : Nat} {v : V n} {x : V k} {L : List (List UInt8)} {w' : World} (h : yZ x n v L = none) (q : zb [] w w') : vJ S T w g v x L (.returned (.bool false)) w' := by unfold vJ; rw [h]; exact ⟨rfl, q⟩
theorem bs {n k : Nat} {S T : Nat → Prop} {w : World} {g : Nat} {v : V n} {x : V k} {L : List (List UInt8)} {w' : World} {y : V (k + n)} {X : List Nat} {cs : List Value} (h : yZ x n v L = some y) (q : zb X w w') (hX : ∀ b, b ∈ X → b = g ∨ S b) (hr : Row w' g 0 cs) (hrep : Rep (k + n) (fun b => S b ∨ T b ∨ w.heap.size ≤ b) w' cs y) : vJ S T w g v x L (.returned (.bool true)) w' := by unfold vJ; rw [h]; exact ⟨rfl, X, q, hX, cs, hr, hrep⟩
theorem go_path {m : Nat} {S : Nat → Prop} {g o : Nat} {v : V m} {L : List (List UInt8)} {e : Ending} {w' : World} (h : ko S g o v L e w') : (atV m v L = none ∧ e = .returned (.pointer none)) ∨ ∃ m' u g1 o1, atV m v L = some ⟨m', u⟩ ∧ e = .returned (.pointer (some ⟨g1, o1, none⟩)) ∧ xw m w' g o v L g1 o1 := by
 unfold ko at h
 cases ha : atV m v L with
 | none => rw [ha] at h; exact .inl ⟨rfl, h⟩
 | some u =>
  rw [ha] at h
  obtain ⟨g1, o1, h1, -, h3⟩ := h
  exact .inr ⟨u.1, u.2, g1, o1, rfl, h1, h3⟩
structure Place (n : Nat) (S : Nat → Prop) (w : World) (g : Nat) (v : V n) (L : List (List UInt8)) (g1 o1 m : Nat) (u : V m) (S' : Nat → Prop) (k1 m1 : Int) (s1 : ByteArray) (vl vm : Value) (cur : Array Value) (e : Nat) : Prop where
 own : xb m S' w [.int .i64 k1, .int .i64 m1, .string s1, vl, vm] u
 row : Row w g1 o1 [.int .i64 k1, .int .i64 m1, .string s1, vl, vm]
 blk : w.heap[g1]? = some (.cells cur e (0, 0))
 sub : ∀ b, S' b → S b
 no : ¬ S' g1
 at_ : g1 = g ∨ S g1
 turn : ∀ {k : Nat} (f : (m : Nat) → V m → Option (V (k + m))) (u2 : V (k + m)) {X : List Nat} {w2 : World} {cs2 : List Value} {T : Nat → Prop}, f m u = some u2 → Ky w g1 o1 S' X w2 → Row w2 g1 o1 cs2 → Rep (k + m) T w2 cs2 u2 → (∀ b, S b → T b) →
   ∃ y cs3, modV f n v L = some y ∧ Row w2 g 0 cs3 ∧ Rep (k + n) T w2 cs3 y
theorem place_of {n : Nat} {S : Nat → Prop} {w : World} {g : Nat} {v : V n} {L : List (List UInt8)} {g1 o1 m : Nat} {u : V m} (h : Focus n S w g 0 v L g1 o1 m u) : ∃ S' k1 m1 s1 vl vm cur e, Place n S w g v L g1 o1 m u S' k1 m1 s1 vl vm cur e := by
 obtain ⟨S', cs', f1, f2, ⟨cur, e, f3⟩, f4, f5, f6, f7⟩ := h
 obtain ⟨k1, m1, s1, vl, vm, rfl⟩ := f1.rep.five
 exact ⟨S', k1, m1, s1, vl, vm, cur, e, f1, f2, f3, f4, f5, by
  rcases f6 with ⟨h, -⟩ | h
  ·exact .inl h
  ·exact .inr h, f7⟩
theorem put_m {n k m : Nat} {S T : Nat → Prop} {w w2 w5 w6 wF : World} {g g1 o1 g6 d6 : Nat} {v : V n} {x : V k} {L : List (List UInt8)} {u : VS (V m)} {S' : Nat → Prop} {vl vm : Value} {cur : Array Value} {e : Nat} {s : List UInt8} {cx : List Value} {lcs : List (List Value)} {mcs : List (ByteArray × List Value)}
  (P : Place n S w2 g v L g1 o1 (m + 1) u S' u.kind u.num u.s vl vm cur e) (k6 : u.kind = 6)
  (h2 : w2.ownsRow 0 25 5 vl u.l.length lcs.flatten) (h3 : w2.ownsRow 0 60 6 vm u.m.length (zQ mcs)) (h4 : lcs.length = u.l.length) (h5 : mcs.map (fun p => p.1) = u.m.map (fun p => p.1)) (h6 : ∀ g, vl.ownBlock = some g → S' g) (h7 : ∀ g, vm.ownBlock = some g → S' g)
  (h8 : z7 (fun Q c x => xb m Q w2 c x) (fun g => S' g ∧ vl.ownBlock ≠ some g ∧ vm.ownBlock ≠ some g) (lcs ++ mcs.map (fun p => p.2)) u.kids) (h9 : (Lit.int .i64 u.kind).wf = true) (h10 : (Lit.int .i64 u.num).wf = true)
  (hx : Rep k T w cx x) (hTS : ∀ b, T b → ¬ S b ∧ b ≠ g ∧ b < w.heap.size) (hw2 : zb [] w w2) (hw5 : zb [] w2 w5) (hw6 : zb vm.ownBlock.toList w5 w6) (hwF : zb [g1, g6] w6 wF) (hg6 : vm.ownBlock = some g6 ∨ g6 = w5.heap.size)
  (hbF : wF.heap[g1]? = some (.cells (cur.setIfInBounds (o1 + 4) (.slice (some ⟨g6, 0, none⟩) (u.m.length + 1) d6)) e (0, 0)))
  (hrow : wF.ownsRow 0 60 6 (.slice (some ⟨g6, 0, none⟩) (u.m.length + 1) d6) (u.m.length + 1) (zQ (mcs ++ [(zg s, cx)])))
  (ha : atV n v L = some ⟨m + 1, u⟩) (hn : atV n v (L ++ [s]) = none) : vJ S T w g v x (L ++ [s]) (.returned (.bool true)) wF := by
 have hlm : ∀ b, vl.ownBlock = some b → vm.ownBlock ≠ some b := fun b hb hb2 => by
  have := (yu h2 hb).symm.trans (yu h3 hb2)
  exact absurd this (by decide)
 have hg5 : vm.ownBlock = some g6 ∨ w2.heap.size ≤ g6 := hg6.imp id (fun h => by have := hw5.size; omega)
 have hK : zb (g1 :: vm.ownBlock.toList) w2 wF := ((hw5.mono (Y := g1 :: vm.ownBlock.toList) (by simp)).trans' (hw6.mono (fun i hi => List.mem_cons_of_mem _ hi))).trans hwF (fun i hi => by
  simp only [List.mem_cons, List.not_mem_nil, or_false] at hi
  rcases hi with rfl | rfl
  ·exact .inl (List.mem_cons_self ..)
  ·rcases hg5 with h | h
   ·exact .inl (by rw [h]; simp)
   ·exact .inr h)
 have hX : ∀ b, b ∈ g1 :: vm.ownBlock.toList → S' b ∨ b = g1 := fun b hb => by
  rcases List.mem_cons.1 hb with h | h
  ·exact .inr h
  ·exact .inl (h7 b (Option.mem_toList.1 h))
 have hXS : ∀ b, b ∈ g1 :: vm.ownBlock.toList → b = g ∨ S b := fun b hb => by
  rcases hX b hb with h | rfl
  ·exact .inr (P.sub b h)
  ·exact P.at_
 have ht := Q8 (S' := S') (q := 4) P.blk hK hX hbF (by decide)
 have hr2 := (row_one (w2 := wF) P.blk P.row).1 hbF
 have hxF : Rep k (fun b => S b ∨ T b ∨ w.heap.size ≤ b) wF cx x := (hx.move (hw2.mono (Y := []) (by simp)) (T := T) (fun b _ h => ⟨by simp, h⟩)).move hK (fun b _ h => ⟨fun hb => by
  obtain ⟨t1, t2, -⟩ := hTS b h
  rcases hXS b hb with h | h
  ·exact t2 h
  ·exact t1 h, .inr (.inl h)⟩)
 have hrep := add_rep_m (m := m) (x := x) (u := u) (S' := S') (T := fun b => S b ∨ T b ∨ w.heap.size ≤ b) (w := w2) (w2 := wF) (vl := vl) (vm := vm) (s := s) (cx := cx) h2 h4 h5 h6 h8 h9 h10 hK (fun b hb => by
  rcases List.mem_cons.1 hb with h | h
  ·subst h; exact .inl P.no
  ·exact .inr (Option.mem_toList.1 h)) hlm hrow hxF (fun b hb => .inl (P.sub b hb)) (fun b hb => by
  have hbb : b = g6 := by simpa [Value.ownBlock, eq_comm] using hb
  subst hbb
  rcases hg5 with h | h
  ·exact .inl (P.sub _ (h7 _ h))
  ·exact .inr (.inr (by have := hw2.size; omega)))
 have hadd : Qs x s (m + 1) u = some (⟨u.kind, u.num, u.s, u.l.map (zV k m), u.m.map (fun p => (p.1, zV k m p.2)) ++ [(zg s, upK x m)]⟩ : VS (V (k + m))) := by
  show (if u.kind = 6 then _ else _) = _
  rw [if_pos k6]
  rfl
 obtain ⟨y, cs3, y1, y2, y3⟩ := P.turn (Qs x s) _ hadd ht hr2 hrep (fun b hb => .inl hb)
 exact bs (by rw [ZJ n v L ha hn, y1]) ((hw2.mono (Y := g1 :: vm.ownBlock.toList) (by simp)).trans' hK) hXS y2 y3
theorem put_l {n k m : Nat} {S T : Nat → Prop} {w w2 w5 w6 wF : World} {g g1 o1 g6 d6 : Nat} {v : V n} {x : V k} {L : List (List UInt8)} {u : VS (V m)} {S' : Nat → Prop} {vl vm : Value} {cur : Array Value} {e : Nat} {s : List UInt8} {cx : List Value} {lcs : List (List Value)} {mcs : List (ByteArray × List Value)}
  (P : Place n S w2 g v L g1 o1 (m + 1) u S' u.kind u.num u.s vl vm cur e) (k5 : u.kind = 5) (hs : s = [45])
  (h2 : w2.ownsRow 0 25 5 vl u.l.length lcs.flatten) (h3 : w2.ownsRow 0 60 6 vm u.m.length (zQ mcs)) (h4 : lcs.length = u.l.length) (h5 : mcs.map (fun p => p.1) = u.m.map (fun p => p.1)) (h6 : ∀ g, vl.ownBlock = some g → S' g) (h7 : ∀ g, vm.ownBlock = some g → S' g)
  (h8 : z7 (fun Q c x => xb m Q w2 c x) (fun g => S' g ∧ vl.ownBlock ≠ some g ∧ vm.ownBlock ≠ some g) (lcs ++ mcs.map (fun p => p.2)) u.kids) (h9 : (Lit.int .i64 u.kind).wf = true) (h10 : (Lit.int .i64 u.num).wf = true)
  (hx : Rep k T w cx x) (hTS : ∀ b, T b → ¬ S b ∧ b ≠ g ∧ b < w.heap.size) (hw2 : zb [] w w2) (hw5 : zb [] w2 w5) (hw6 : zb vl.ownBlock.toList w5 w6) (hwF : zb [g1, g6] w6 wF) (hg6 : vl.ownBlock = some g6 ∨ g6 = w5.heap.size)
  (hbF : wF.heap[g1]? = some (.cells (cur.setIfInBounds (o1 + 3) (.slice (some ⟨g6, 0, none⟩) (u.l.length + 1) d6)) e (0, 0)))
  (hrow : wF.ownsRow 0 25 5 (.slice (some ⟨g6, 0, none⟩) (u.l.length + 1) d6) (u.l.length + 1) (lcs ++ [cx]).flatten)
  (ha : atV n v L = some ⟨m + 1, u⟩) (hn : atV n v (L ++ [s]) = none) : vJ S T w g v x (L ++ [s]) (.returned (.bool true)) wF := by
 have hlm : ∀ b, vl.ownBlock = some b → vm.ownBlock ≠ some b := fun b hb hb2 => by
  have := (yu h2 hb).symm.trans (yu h3 hb2)
  exact absurd this (by decide)
 have hg5 : vl.ownBlock = some g6 ∨ w2.heap.size ≤ g6 := hg6.imp id (fun h => by have := hw5.size; omega)
 have hK : zb (g1 :: vl.ownBlock.toList) w2 wF := ((hw5.mono (Y := g1 :: vl.ownBlock.toList) (by simp)).trans' (hw6.mono (fun i hi => List.mem_cons_of_mem _ hi))).trans hwF (fun i hi => by
  simp only [List.mem_cons, List.not_mem_nil, or_false] at hi
  rcases hi with rfl | rfl
  ·exact .inl (List.mem_cons_self ..)
  ·rcases hg5 with h | h
   ·exact .inl (by rw [h]; simp)
   ·exact .inr h)
 have hX : ∀ b, b ∈ g1 :: vl.ownBlock.toList → S' b ∨ b = g1 := fun b hb => by
  rcases List.mem_cons.1 hb with h | h
  ·exact .inr h
  ·exact .inl (h6 b (Option.mem_toList.1 h))
 have hXS : ∀ b, b ∈ g1 :: vl.ownBlock.toList → b = g ∨ S b := fun b hb => by
  rcases hX b hb with h | rfl
  ·exact .inr (P.sub b h)
  ·exact P.at_
 have ht := Q8 (S' := S') (q := 3) P.blk hK hX hbF (by decide)
 have hr2 := (row_one (w2 := wF) P.blk P.row).2 hbF
 have hxF : Rep k (fun b => S b ∨ T b ∨ w.heap.size ≤ b) wF cx x := (hx.move (hw2.mono (Y := []) (by simp)) (T := T) (fun b _ h => ⟨by simp, h⟩)).move hK (fun b _ h => ⟨fun hb => by
  obtain ⟨t1, t2, -⟩ := hTS b h
  rcases hXS b hb with h | h
  ·exact t2 h
  ·exact t1 h, .inr (.inl h)⟩)
 have hrep := add_rep_l (m := m) (x := x) (u := u) (S' := S') (T := fun b => S b ∨ T b ∨ w.heap.size ≤ b) (w := w2) (w2 := wF) (vl := vl) (vm := vm) (cx := cx) h3 h4 h5 h7 h8 h9 h10 hK (fun b hb => by
  rcases List.mem_cons.1 hb with h | h
  ·subst h; exact .inl P.no
  ·exact .inr (Option.mem_toList.1 h)) hlm hrow hxF (fun b hb => .inl (P.sub b hb)) (fun b hb => by
  have hbb : b = g6 := by simpa [Value.ownBlock, eq_comm] using hb
  subst hbb
  rcases hg5 with h | h
  ·exact .inl (P.sub _ (h6 _ h))
  ·exact .inr (.inr (by have := hw2.size; omega)))
 have hadd : Qs x s (m + 1) u = some (⟨u.kind, u.num, u.s, u.l.map (zV k m) ++ [upK x m], u.m.map (fun p => (p.1, zV k m p.2))⟩ : VS (V (k + m))) := by
  show (if u.kind = 6 then _ else if u.kind = 5 ∧ s = [45] then _ else _) = _
  rw [if_neg (by omega), if_pos ⟨k5, hs⟩]
  rfl
 obtain ⟨y, cs3, y1, y2, y3⟩ := P.turn (Qs x s) _ hadd ht hr2 hrep (fun b hb => .inl hb)
 exact bs (by rw [ZJ n v L ha hn, y1]) ((hw2.mono (Y := g1 :: vl.ownBlock.toList) (by simp)).trans' hK) hXS y2 y3
theorem put_x {n k m : Nat} {S T : Nat → Prop} {w w2 : World} {g g1 o1 : Nat} {v : V n} {x : V k} {L : List (List UInt8)} {u : V m} {S' : Nat → Prop} {k1 m1 : Int} {s1 : ByteArray} {vl vm : Value} {cur : Array Value} {e : Nat} {cx : List Value}
  (P : Place n S w2 g v L g1 o1 m u S' k1 m1 s1 vl vm cur e) (hx : Rep k T w cx x) (hTS : ∀ b, T b → ¬ S b ∧ b ≠ g ∧ b < w.heap.size) (hw2 : zb [] w w2) (ha : atV n v L = some ⟨m, u⟩) : vJ S T w g v x L (.returned (.bool true)) (w2.setCells g1 o1 cx) := by
 obtain ⟨ht, hr2⟩ := turned_store (S' := S') P.blk P.row rfl hx.len
 have hXS : ∀ b, b ∈ [g1] → b = g ∨ S b := fun b hb => by
  simp only [List.mem_cons, List.not_mem_nil, or_false] at hb
  subst hb
  exact P.at_
 have hxF : Rep k (fun b => S b ∨ T b ∨ w.heap.size ≤ b) (w2.setCells g1 o1 cx) cx x := (hx.move (hw2.mono (Y := []) (by simp)) (T := T) (fun b _ h => ⟨by simp, h⟩)).move ht.1 (fun b _ h => ⟨fun hb => by
  obtain ⟨t1, t2, -⟩ := hTS b h
  rcases hXS b hb with h | h
  ·exact t2 h
  ·exact t1 h, .inr (.inl h)⟩)
 obtain ⟨y, cs3, y1, y2, y3⟩ := P.turn (fun m _ => some (upK x m)) _ rfl ht hr2 (hxF.upK m) (fun b hb => .inl hb)
 exact bs (by rw [set_at n v L ha, y1]) ((hw2.mono (Y := [g1]) (by simp)).trans' ht.1) hXS y2 y3
end Go.Proofs.YtpbphdkjjoipnaaGreatDoor

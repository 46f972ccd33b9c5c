/- Parts of one proof, merged: XKA XKB XKC XK3A XK3B XK3C XKG XKM XKN XKO XKP XKQ XSp. -/
import Derived.Test.YtpbphdkjjoipnaaGreatDoorHA
import Derived.Deep.DeepCutAuto
import Derived.Deep.CutBlock
import Derived.Test.YtpbphdkjjoipnaaGreatDoorHB
import Derived.WalkSpells
import Derived.IntWalk
import Derived.Laws.BytesArg
import Derived.Laws.Cover1
import Derived.Shelf.SlSortCmp.NoneTotal
import Derived.Deep.MidRow
set_option linter.all false
set_option maxHeartbeats 12800000
set_option maxRecDepth 10000
set_option linter.unusedVariables false
set_option linter.unusedSimpArgs false
set_option linter.unnecessarySimpa false
namespace Go.Proofs.YtpbphdkjjoipnaaGreatDoor
open Go.Proofs.Tryz
open Go.RowKit
structure z6 (w : World) (g : Nat) (k m : Int) (s : ByteArray) (a b : Value) : Prop where
 c0 : w.cell? ⟨g, 0, none⟩ = some (.int .i64 k)
 c1 : w.cell? ⟨g, 1, none⟩ = some (.int .i64 m)
 c2 : w.cell? ⟨g, 2, none⟩ = some (.string s)
 c3 : w.cell? ⟨g, 3, none⟩ = some a
 c4 : w.cell? ⟨g, 4, none⟩ = some b
theorem yb (w : World) (k m : Int) (s : ByteArray) (a b : Value) (t : Nat) : z6 (w.alloc (.cells #[.int .i64 k, .int .i64 m, .string s, a, b] t)) w.heap.size k m s a b := by
 have hb := heap_alloc_new w (.cells #[.int .i64 k, .int .i64 m, .string s, a, b] t)
 exact ⟨za hb rfl, za hb rfl, za hb rfl, za hb rfl, za hb rfl⟩
theorem z6.kept {w w' : World} {g : Nat} {k m : Int} {s : ByteArray} {a b : Value} (h : z6 w g k m s a b) {X : List Nat} (hk : zb X w w') (hX : g ∉ X) : z6 w' g k m s a b :=
 ⟨hk.cell h.c0 hX, hk.cell h.c1 hX, hk.cell h.c2 hX, hk.cell h.c3 hX, hk.cell h.c4 hX⟩
theorem z6.kept0 {w w' : World} {g : Nat} {k m : Int} {s : ByteArray} {a b : Value} (h : z6 w g k m s a b) (hk : zb [] w w') : z6 w' g k m s a b := h.kept hk (by simp)
def BB : Nat := 1125899906842624
theorem QH {n d : Nat} {v : V n} (h : x9 BB n v) (hd : d ≤ 21) : zF n d v ≤ 50000000000000000 := by
 have h1 := large_le (B := BB) n d v h
 have h2 : (22 - d) * (20000 + 2 * BB) ≤ 22 * (20000 + 2 * BB) := Nat.mul_le_mul_right _ (by omega)
 have h3 : BB = 1125899906842624 := rfl
 rw [h3] at h1 h2
 omega
def kZ (n : Nat) : Prop := ∀ (v : V n) {S : Nat → Prop} {w : World} {cs : List Value} {d : Nat}, Rep n S w cs v → x9 BB n v → d ≤ 21 →
    Calls Tryz.prog 37 #[.agg cs.toArray, .int .i64 d] w fun e w' => e = .returned (.int .i64 (zF n d v)) ∧ zb [] w w'
set_option maxHeartbeats 16000000 in
theorem KQ {n : Nat} (known : kZ n) : kZ (n + 1) := fun (v : VS (V n)) {S} {w} {cs} {d} h ht hd => by
  obtain ⟨vl, vm, lcs, mcs, h⟩ := h
  obtain ⟨a, c, b, e, rfl, rfl, rfl⟩ := h.forms
  have H := qI h
  have HT := qI ht
  have IH := qI known
  have heq : Hid (zF (n + 1) d v = if 20 < d ∨ 3000 < v.l.length + v.m.length then 10000 else goL (qg (zF n (d + 1))) (goL (zF n (d + 1)) (1 + v.s.size / 10) v.l) v.m) := qI rfl
  have hbox := yb w v.kind v.num v.s (.slice a v.l.length c) (.slice b v.m.length e) 25
  obtain ⟨⟨ht1, ht2, ht3⟩, -, -⟩ := ht
  simp only [BB] at ht1 ht2 ht3
  have hsum : IntKind.i64.wrap ((v.l.length : Int) + v.m.length) = (v.l.length : Int) + v.m.length := by
   rw [IntKind.wrap_i64] <;> omega
  clear h
  obtain ⟨c0, c1, c2, c3, c4⟩ := hbox
  by_cases hd20 : 20 < d
  ·have hd' : (20 : Int) < d := by omega
   go_enter func37, ntmps37
   go_wp2_with fail
   go_ret
   rw [heq.o, if_pos (.inl hd20)]
   exact ⟨rfl, (zb.refl _ w).alloc _⟩
  by_cases hmany : 3000 < v.l.length + v.m.length
  ·have hd' : (d : Int) ≤ 20 := by omega
   have hm' : (3000 : Int) < (v.l.length : Int) + v.m.length := by omega
   go_enter func37, ntmps37
   go_wp2_with fail
   go_ret
   rw [heq.o, if_pos (.inr hmany)]
   exact ⟨rfl, (zb.refl _ w).alloc _⟩
  have heq := qI (heq.o.trans (if_neg (by omega)))
  have hd' : (d : Int) ≤ 20 := by omega
  have hm' : (v.l.length : Int) + v.m.length ≤ 3000 := by omega
  have hquo : ((v.s.size : Int)).tdiv 10 = ((v.s.size / 10 : Nat) : Int) := by rw [Int.tdiv_eq_ediv_of_nonneg (by omega)]; omega
  go_enter func37, ntmps37
  go_upto_block 0 with fail
  go_cut [5, 6] from 25 to 45 (fun x i wr => (∃ k : Nat, i = .int .i64 k) ∧ ∃ X : Nat, x = .int .i64 X ∧ X ≤ 60000000000000000 ∧ X = goL (zF n (d + 1)) (1 + v.s.size / 10) v.l ∧ zb [] (w.alloc (.cells #[.int .i64 v.kind, .int .i64 v.num, .string v.s, .slice a v.l.length c, .slice b v.m.length e] 25)) wr)
  case first =>
   go_wp2_with fail
   go_loopw [5, 6] (fun x i wr => ∃ k X : Nat, i = .int .i64 k ∧ k ≤ v.l.length ∧ x = .int .i64 X ∧ X ≤ 60000000000000000 ∧ goL (zF n (d + 1)) X (v.l.drop k) = goL (zF n (d + 1)) (1 + v.s.size / 10) v.l ∧ zb [] (w.alloc (.cells #[.int .i64 v.kind, .int .i64 v.num, .string v.s, .slice a v.l.length c, .slice b v.m.length e] 25)) wr) (fun _ i _ => v.l.length - (intOf i).toNat)
   case atStart => exact ⟨0, 1 + v.s.size / 10, rfl, Nat.zero_le _, by go_num, by omega, rfl, zb.refl _ _⟩
   case round =>
    obtain ⟨k, X, rfl, hk, rfl, hX, hg, hkr⟩ := hrel
    have Gj := qI (((zb.refl [] w).alloc _).trans' hkr)
    obtain ⟨b0, b1, b2, b3, b4⟩ := (yb w v.kind v.num v.s (.slice a v.l.length c) (.slice b v.m.length e) 25).kept0 hkr
    have Ga := qI hkr
    clear c0 c1 c2 c3 c4 hkr
    by_cases hgo : k < v.l.length ∧ X ≤ 6000
    ·obtain ⟨hlt, hx⟩ := hgo
     have hltI : (k : Int) < v.l.length := by omega
     have hxI : (X : Int) ≤ 6000 := by omega
     obtain ⟨g, o, cap, kd, nm, st, a1, b1', he, q0, q1, q2, q3, q4, hr⟩ := H.o.at_l Gj.o k hlt
     simp only [Value.slice.injEq] at he
     obtain ⟨rfl, -, rfl⟩ := he
     have hkT := HT.o.2.2 _ (xY (List.getElem_mem hlt))
     have cl := IH.o v.l[k] (d := d + 1) hr hkT (by omega)
     rw [show ((d + 1 : Nat) : Int) = (d : Int) + 1 from rfl] at cl
     have CL := qI cl
     have hY := QH (d := d + 1) hkT (by omega)
     have HD : Hid (goL (zF n (d + 1)) (X + zF n (d + 1) v.l[k]) (v.l.drop (k + 1)) = goL (zF n (d + 1)) (1 + v.s.size / 10) v.l) := qI (by
      rw [← hg, List.drop_eq_getElem_cons hlt]
      conv => rhs; unfold goL
      rw [if_pos hx])
     clear cl hr hkT hg
     revert CL hY HD
     generalize zF n (d + 1) v.l[k] = Y
     intro CL hY HD
     go_wp2_with (go_at_call 37; refine CL.o.mono ?_; rintro e w2 ⟨rfl, hk2⟩)
     case roundEnd => exact ⟨⟨k + 1, X + Y, by go_num, by omega, by go_num, by omega, HD.o, Ga.o.then hk2⟩, by simp [intOf]; omega⟩
    ·have hXe : X = goL (zF n (d + 1)) (1 + v.s.size / 10) v.l := by
      rw [← hg]
      rcases Nat.lt_or_ge k v.l.length with h1 | h1
      ·exact (goL_stop _ (by omega) _).symm
      ·rw [List.drop_eq_nil_iff.2 h1]; rfl
     have hsp : ((k : Int) < v.l.length ∧ (6000 : Int) < X) ∨ (v.l.length : Int) ≤ k := by omega
     clear hg hgo
     have HX := qI hXe
     clear hXe
     rcases hsp with ⟨s1, s2⟩ | s1
     all_goals
      go_wp2_with fail
      go_meet
      exact ⟨⟨k, rfl⟩, X, rfl, hX, HX.o, Ga.o⟩
  case rest =>
    obtain ⟨⟨k, rfl⟩, X, rfl, hX, hXe, hkr⟩ := hcut
    have HX := qI hXe
    have Ga := qI hkr
    clear hXe hkr c0 c1 c2 c3 c4
    obtain ⟨b0, b1, b2, b3, b4⟩ := (yb w v.kind v.num v.s (.slice a v.l.length c) (.slice b v.m.length e) 25).kept0 Ga.o
    have Gj := qI (((zb.refl [] w).alloc _).trans' Ga.o)
    go_wp2_with fail
    go_loopw [5, 7] (fun x i wr => ∃ k Y : Nat, i = .int .i64 k ∧ k ≤ v.m.length ∧ x = .int .i64 Y ∧ Y ≤ 120000000000000000 ∧ goL (qg (zF n (d + 1))) Y (v.m.drop k) = goL (qg (zF n (d + 1))) X v.m ∧ zb [] (w.alloc (.cells #[.int .i64 v.kind, .int .i64 v.num, .string v.s, .slice a v.l.length c, .slice b v.m.length e] 25)) wr) (fun _ i _ => v.m.length - (intOf i).toNat)
    case atStart => exact ⟨0, X, rfl, Nat.zero_le _, rfl, by omega, rfl, Ga.o⟩
    case round =>
     obtain ⟨k2, Y, rfl, hk2, rfl, hY, hg, hkr⟩ := hrel
     clear Ga Gj b0 b1 b2 b3 b4
     have Gj := qI (((zb.refl [] w).alloc _).trans' hkr)
     obtain ⟨b0, b1, b2, b3, b4⟩ := (yb w v.kind v.num v.s (.slice a v.l.length c) (.slice b v.m.length e) 25).kept0 hkr
     have Ga := qI hkr
     clear hkr
     by_cases hgo : k2 < v.m.length ∧ Y ≤ 6000
     ·obtain ⟨hlt, hx⟩ := hgo
      have hltI : (k2 : Int) < v.m.length := by omega
      have hxI : (Y : Int) ≤ 6000 := by omega
      obtain ⟨g, o, cap, kd, nm, st, a1, b1', he, q0, q1, q2, q3, q4, q5, hr⟩ := H.o.at_m Gj.o k2 hlt
      simp only [Value.slice.injEq] at he
      obtain ⟨rfl, -, rfl⟩ := he
      have hkT := HT.o.2.2 _ (xV (List.getElem_mem hlt))
      have hkS := HT.o.2.1 _ (List.getElem_mem hlt)
      simp only [BB] at hkS
      have hZ := QH (d := d + 1) hkT (by omega)
      have HD : Hid (goL (qg (zF n (d + 1))) (Y + qg (zF n (d + 1)) v.m[k2]) (v.m.drop (k2 + 1)) = goL (qg (zF n (d + 1))) X v.m) := qI (by
       rw [← hg, List.drop_eq_getElem_cons hlt]
       conv => rhs; unfold goL
       rw [if_pos hx])
      have Gd := qI hr
      have Jy := qI hkT
      clear hr hkT hg
      unfold qg at HD
      revert q0 Gd Jy hkS hZ HD
      generalize v.m[k2] = pr
      obtain ⟨key, kid⟩ := pr
      intro q0 hkS hZ HD Gd Jy
      simp only at q0 hkS hZ HD Gd Jy
      go_wp2_with fail
      have e0 := zu b4
      have e1 := zu q0
      have CL : ∀ z : Ext wr, Calls Tryz.prog 37 #[.agg #[.int .i64 kd, .int .i64 nm, .string st, a1, b1'], .int .i64 ((d : Int) + 1)] z.w fun e w' => e = .returned (.int .i64 (zF n (d + 1) kid)) ∧ zb [] z.w w' := fun z => IH.o kid (d := d + 1) (Gd.o.kept0 z.k) Jy.o (by omega)
      have e2 := zu q1
      have e3 := zu q2
      have e4 := zu q3
      have e5 := zu q4
      have e6 := zu q5
      revert CL hZ HD
      generalize zF n (d + 1) kid = Z
      intro hZ HD CL
      have hKS : (key.size : Int) ≤ 1125899906842624 := by omega
      refine yd wr (by kernel_rfl) (by kernel_rfl) (zb.refl _ _) ?_
      clear b0 b1 b2 b3 b4 q0 q1 q2 q3 q4 q5
      repeat go_big_quiet_step ((go_at_call 37; exact ext_of (CL _)))
      refine wpQuiet_nil ?_
      intro w2 hk2'
      go_wp2_with fail
      case roundEnd => exact ⟨⟨k2 + 1, Y + (1 + key.size / 10 + Z), by go_num, by omega, by go_num, by omega, HD.o, Ga.o.then hk2'⟩, by simp [intOf]; omega⟩
     ·have hYe : Y = goL (qg (zF n (d + 1))) X v.m := by
       rw [← hg]
       rcases Nat.lt_or_ge k2 v.m.length with h1 | h1
       ·exact (goL_stop _ (by omega) _).symm
       ·rw [List.drop_eq_nil_iff.2 h1]; rfl
      have hsp : ((k2 : Int) < v.m.length ∧ (6000 : Int) < Y) ∨ (v.m.length : Int) ≤ k2 := by omega
      clear hg hgo
      have HY := qI hYe
      clear hYe
      rcases hsp with ⟨t1, t2⟩ | t1
      all_goals
       go_wp2_with fail
       go_ret
       have hfin : zF (n + 1) d v = Y := by
        rw [heq.o, ← HX.o]
        exact HY.o.symm
       rw [hfin]
       exact ⟨rfl, Gj.o⟩
theorem vP : ∀ (n : Nat), kZ n
 | 0 => fun v {_} {_} {_} {_} h _ _ => h.elim
 | n + 1 => KQ (vP n)
theorem large_any : ∀ (n : Nat) (v : V n) {S : Nat → Prop} {w : World} {cs : List Value} {d : Nat}, Rep n S w cs v → x9 BB n v → d ≤ 21 →
  Calls Tryz.prog 37 #[.agg cs.toArray, .int .i64 d] w fun e w' => e = .returned (.int .i64 (zF n d v)) ∧ zb [] w w' := fun n => vP n
theorem bj : kg Tryz.prog 22 25 5 80 (.agg #[.int .i64 0, .int .i64 0, .string ByteArray.empty, .slice none 0 0, .slice none 0 0]) := ⟨underlying22, by kernel_rfl, by kernel_rfl, by decide⟩
theorem kD : kg Tryz.prog 23 60 6 96 (.agg #[.string ByteArray.empty, .int .i64 0, .int .i64 0, .string ByteArray.empty, .slice none 0 0, .slice none 0 0]) := ⟨underlying23, by kernel_rfl, by kernel_rfl, by decide⟩
theorem Rep.one {n : Nat} {S : Nat → Prop} {w : World} {cs : List Value} {v : V n} (h : Rep n S w cs v) : ∀ u ∈ cs, u.oneCell' = true := by
 match n, v, h with
 | n + 1, v, h =>
  obtain ⟨vl, vm, lcs, mcs, h⟩ := h
  obtain ⟨a, c, b, d, _, _, rfl⟩ := h.forms
  intro u hu
  simp only [List.mem_cons, List.not_mem_nil, or_false] at hu
  rcases hu with rfl | rfl | rfl | rfl | rfl <;> rfl
theorem yc.mem_left {α β : Type} {R : α → β → Prop} {xs : List α} {ys : List β} (h : yc R xs ys) {x : α} (hx : x ∈ xs) : ∃ y, y ∈ ys ∧ R x y := by
 obtain ⟨j, hj, rfl⟩ := List.getElem_of_mem hx
 have hj' : j < ys.length := by rw [← h.1]; exact hj
 exact ⟨ys[j], List.getElem_mem hj', h.2 j _ _ (List.getElem?_eq_getElem hj) (List.getElem?_eq_getElem hj')⟩
theorem yc.map_both {α β γ δ : Type} {R : α → β → Prop} {Q : γ → δ → Prop} {f : α → γ} {g : β → δ} {xs : List α} {ys : List β} (h : yc R xs ys) (hf : ∀ x y, R x y → Q (f x) (g y)) : yc Q (xs.map f) (ys.map g) := by
 refine ⟨by simp [h.1], ?_⟩
 intro j x z hx hz
 rw [List.getElem?_map, Option.map_eq_some_iff] at hx hz
 obtain ⟨x, hx, rfl⟩ := hx
 obtain ⟨y, hy, rfl⟩ := hz
 exact hf x y (h.2 j x y hx hy)
theorem flat_one {R : List Value → Prop} {ls : List (List Value)} (h : ∀ c, c ∈ ls → ∀ u ∈ c, u.oneCell' = true) : ∀ u ∈ ls.flatten, u.oneCell' = true := by
 intro u hu
 obtain ⟨c, hc, hu⟩ := List.mem_flatten.1 hu
 exact h c hc u hu
theorem QD {t size g base : Nat} (W : World) (hg : W.heap.size = g) (hb : base ≤ g) : (W.alloc (.cells #[] t)).ownsRow base t size (.slice (some ⟨g, 0, none⟩) 0 0) 0 [] := by
 subst hg
 exact World.ownsRow_made W #[] 0 hb (by decide) (by simp)
def kidsC (lcs : List (List Value)) (mcs : List (ByteArray × List Value)) : List (List Value) := lcs ++ mcs.map (fun p => p.2)
section
variable {n : Nat} {S : Nat → Prop} {w : World} {cs : List Value} {v : VS (V n)} {vl vm : Value} {lcs : List (List Value)} {mcs : List (ByteArray × List Value)}
theorem ya.kids (h : ya (Rep n S w) S w cs v vl vm lcs mcs) : yc (Rep n S w) (kidsC lcs mcs) v.kids :=
 h.alll.app (h.allm.map_both fun _ _ r => r.2)
theorem ya.ones (h : ya (Rep n S w) S w cs v vl vm lcs mcs) : ∀ u ∈ lcs.flatten, u.oneCell' = true :=
 flat_one (R := fun _ => True) fun c hc => by
  obtain ⟨y, _, hr⟩ := h.alll.mem_left hc
  exact hr.one
end
def ZC (n : Nat) (w : World) (x : Value) (vs : List (V n)) : Prop := ∃ lcs, Slc w 5 x vs.length lcs.flatten ∧ yc (Rep n (fun _ => True) w) lcs vs
theorem Slc.at5 {w : World} {x : Value} {m : Nat} {lcs : List (List Value)} (h : Slc w 5 x m lcs.flatten) (h5 : ∀ c, c ∈ lcs → c.length = 5) {j : Nat} (hj : j < lcs.length) {k i : Int} {s : ByteArray} {a b : Value} (e : lcs[j] = [.int .i64 k, .int .i64 i, .string s, a, b]) :
  ∃ g o cap, x = .slice (some ⟨g, o, none⟩) m cap ∧ w.cell? ⟨g, o + j * 5, none⟩ = some (.int .i64 k) ∧ w.cell? ⟨g, o + j * 5 + 1, none⟩ = some (.int .i64 i) ∧ w.cell? ⟨g, o + j * 5 + 2, none⟩ = some (.string s) ∧ w.cell? ⟨g, o + j * 5 + 3, none⟩ = some a ∧ w.cell? ⟨g, o + j * 5 + 4, none⟩ = some b := by
 have hl := qD lcs h5
 have hm := h.1
 rcases h.2 with ⟨_, h0⟩ | ⟨h0, _⟩ | ⟨g, o, cap, hsv, _, _, hrow⟩
 ·omega
 ·omega
 have hc : ∀ i, i < 5 → lcs.flatten[j * 5 + i]? = lcs[j][i]? := fun i hi => yU lcs j i h5 hj hi
 rw [e] at hc
 refine ⟨g, o, cap, hsv, ?_, ?_, ?_, ?_, ?_⟩
 ·exact hrow.cells (j * 5 + 0) _ (hc 0 (by decide))
 all_goals rw [Nat.add_assoc]
 ·exact hrow.cells (j * 5 + 1) _ (hc 1 (by decide))
 ·exact hrow.cells (j * 5 + 2) _ (hc 2 (by decide))
 ·exact hrow.cells (j * 5 + 3) _ (hc 3 (by decide))
 ·exact hrow.cells (j * 5 + 4) _ (hc 4 (by decide))
theorem ZC.kept0 {n : Nat} {w w' : World} {x : Value} {vs : List (V n)} (h : ZC n w x vs) (k : zb [] w w') : ZC n w' x vs := by
 obtain ⟨lcs, h1, h2⟩ := h
 exact ⟨lcs, h1.kept0 k, h2.mono fun _ _ _ r => r.kept0 k⟩
theorem ZC.at {n : Nat} {w : World} {x : Value} {vs : List (V n)} (h : ZC n w x vs) {j : Nat} (hj : j < vs.length) : ∃ g o cap k i s a b, x = .slice (some ⟨g, o, none⟩) vs.length cap ∧ w.cell? ⟨g, o + j * 5, none⟩ = some (.int .i64 k) ∧ w.cell? ⟨g, o + j * 5 + 1, none⟩ = some (.int .i64 i) ∧ w.cell? ⟨g, o + j * 5 + 2, none⟩ = some (.string s) ∧ w.cell? ⟨g, o + j * 5 + 3, none⟩ = some a ∧ w.cell? ⟨g, o + j * 5 + 4, none⟩ = some b ∧ Rep n (fun _ => True) w [.int .i64 k, .int .i64 i, .string s, a, b] vs[j] := by
 obtain ⟨lcs, h1, h2⟩ := h
 have hj' : j < lcs.length := by rw [h2.1]; exact hj
 have hr := h2.2 j _ _ (List.getElem?_eq_getElem hj') (List.getElem?_eq_getElem hj)
 obtain ⟨k, i, s, a, b, e⟩ := hr.five
 obtain ⟨g, o, cap, q, q0, q1, q2, q3, q4⟩ := h1.at5 (fun c hc => by obtain ⟨y, _, r⟩ := h2.mem_left hc; exact r.len) hj' e
 rw [e] at hr
 exact ⟨g, o, cap, k, i, s, a, b, q, q0, q1, q2, q3, q4, hr⟩
theorem kids_any {n : Nat} {v : VS (V n)} {S : Nat → Prop} {w : World} {cs : List Value} (h : Rep (n + 1) S w cs v) (hv : v.l.length + v.m.length ≤ 20000) :
  Calls Tryz.prog 69 #[.agg cs.toArray] w fun e w' => (∃ a c, e = .returned (.slice a v.kids.length c) ∧ ZC n w' (.slice a v.kids.length c) v.kids) ∧ zb [] w w' := by
 obtain ⟨vl, vm, lcs, mcs, h⟩ := h
 obtain ⟨a, c, b, e, rfl, rfl, rfl⟩ := h.forms
 have H := qI h
 have hkl : v.kids.length = v.l.length + v.m.length := by simp [VS.kids]
 have Gp := qI hkl
 have hlv : v.l.length ≤ 20000 := by omega
 have hmv : v.m.length ≤ 20000 := by omega
 have hmv' : (v.m.length : Int) ≤ 20000 := by omega
 have HV := qI hv
 have HB := qI (yb w v.kind v.num v.s (.slice a v.l.length c) (.slice b v.m.length e) 25)
 have Gq := qI (((zb.refl [] w).alloc (.cells #[.int .i64 v.kind, .int .i64 v.num, .string v.s, .slice a v.l.length c, .slice b v.m.length e] 25)))
 obtain ⟨c0, c1, c2, c3, c4⟩ := HB.o
 clear h hkl hv
 have H1 := qI ((zb.refl [] (w.alloc (.cells #[.int .i64 v.kind, .int .i64 v.num, .string v.s, .slice a v.l.length c, .slice b v.m.length e] 25))).alloc (.cells #[] 25))
 have Jb : Hid ((w.alloc (.cells #[.int .i64 v.kind, .int .i64 v.num, .string v.s, .slice a v.l.length c, .slice b v.m.length e] 25)).heap.size = w.heap.size + 1) := qI (by simp)
 have Jc := qI (QD (t := 25) (size := 5) (g := w.heap.size + 1) (base := w.heap.size + 1) (w.alloc (.cells #[.int .i64 v.kind, .int .i64 v.num, .string v.s, .slice a v.l.length c, .slice b v.m.length e] 25)) (by simp) (Nat.le_refl _))
 have Gc := qI ((H.o.slcl.kept0 Gq.o).kept0 H1.o)
 go_enter func69, ntmps69
 go_wp2_with (at_builtin; refine yo bj Jc.o Gc.o H.o.ones (by simp only [maxLen]; omega) (by omega) (by simp) rfl _ _ rfl rfl rfl ?_; intro v' w1 hown1 hk1 _ hb1)
 have Jm := qI hown1
 have Gk := qI (H1.o.trans hk1 (by intro i hi; simp [Value.ownBlock] at hi; exact .inr (by simp [hi])))
 clear hown1 hk1 hb1 Jc Gc c0 c1 c2 c3 c4
 go_loopw [3, 4] (fun o i wr => ∃ k : Nat, i = .int .i64 k ∧ k ≤ v.m.length ∧ wr.ownsRow (w.heap.size + 1) 25 5 o (v.l.length + k) (lcs.flatten ++ ((mcs.take k).map (fun p => p.2)).flatten) ∧ zb [] (w.alloc (.cells #[.int .i64 v.kind, .int .i64 v.num, .string v.s, .slice a v.l.length c, .slice b v.m.length e] 25)) wr) (fun _ i _ => v.m.length - (intOf i).toNat)
 case atStart => exact ⟨0, rfl, Nat.zero_le _, by simpa using Jm.o, Gk.o⟩
 case round =>
  obtain ⟨k, rfl, hk, hown, hkr⟩ := hrel
  have Jn := qI hown
  have Gj := qI (Gq.o.trans' hkr)
  obtain ⟨b0, b1, b2, b3, b4⟩ := HB.o.kept0 hkr
  have Ga := qI hkr
  clear hown hkr
  by_cases hlt : k < v.m.length
  ·have hltI : (k : Int) < v.m.length := by omega
   obtain ⟨g, o, cap, kd, nm, st, a1, b1', he, q0, q1, q2, q3, q4, q5, hr, hx⟩ := H.o.at_mx Gj.o k hlt
   simp only [Value.slice.injEq] at he
   obtain ⟨rfl, -, rfl⟩ := he
   have Mb := qI hr.one
   have hlt' : k < mcs.length := by rw [H.o.lens.2]; exact hlt
   have HX : Hid (mcs[k].2 = [.int .i64 kd, .int .i64 nm, .string st, a1, b1']) := qI (by rw [List.getElem?_eq_getElem hlt'] at hx; rw [Option.some.inj hx])
   have HT : Hid (((mcs.take (k + 1)).map (fun p => p.2)).flatten = ((mcs.take k).map (fun p => p.2)).flatten ++ [.int .i64 kd, .int .i64 nm, .string st, a1, b1']) := qI (by
    rw [List.take_succ_eq_append_getElem hlt', List.map_append, List.flatten_append, ← HX.o]
    simp)
   have Gc := qI (yL wr [.int .i64 kd, .int .i64 nm, .string st, a1, b1'] 5 1 25 wr.heap.size rfl rfl (by decide))
   have Gh := qI ((zb.refl [] wr).alloc (.cells #[.int .i64 kd, .int .i64 nm, .string st, a1, b1'] 25))
   have Jd := qI (zh Jn.o Gh.o (by simp))
   have Jo : Hid (w.heap.size + 1 ≤ (wr.alloc (.cells #[.int .i64 kd, .int .i64 nm, .string st, a1, b1'] 25)).heap.size) := qI (by have h1 := Ga.o.size; have h2 := Jb.o; have h3 := Gh.o.size; omega)
   clear hr hx
   go_wp2_with (at_builtin; refine yo bj Jd.o Gc.o Mb.o (by simp only [maxLen]; omega) (by omega) Jo.o rfl _ _ rfl rfl rfl ?_; intro v' w2 hown2 hk2 _ hb2)
   case roundEnd =>
    refine ⟨⟨k + 1, by go_num, by omega, ?_, ?_⟩, by simp [intOf]; omega⟩
    ·rw [HT.o, ← List.append_assoc, ← Nat.add_assoc]
     exact hown2
    ·refine (Ga.o.then Gh.o).trans hk2 ?_
     intro i hi
     exact .inr (by have := (Jd.o.lt i (Option.mem_toList.1 hi)).1; rw [Jb.o]; exact this)
  ·obtain rfl : k = v.m.length := by omega
   have Jp : Hid (ZC n wr u3 v.kids) := qI ⟨kidsC lcs mcs, by
    have e1 : mcs.take v.m.length = mcs := List.take_of_length_le (by rw [H.o.lens.2]; exact Nat.le_refl _)
    have h1 := Jn.o
    rw [e1] at h1
    rw [Gp.o, kidsC, List.flatten_append]
    exact Slc.of_row h1, (H.o.kids.mono fun _ _ _ r => (r.kept0 Gj.o).mono (fun _ _ _ => trivial))⟩
   obtain ⟨lcs', hs', -⟩ := Jp.o
   obtain ⟨a', c', e', -, -⟩ := hs'.form
   subst e'
   clear hs'
   go_wp2_with fail
   go_ret
   exact ⟨⟨_, _, rfl, Jp.o⟩, Gj.o⟩
theorem maxL_snoc (l : List Nat) (x : Nat) : xG (l ++ [x]) = max (xG l) x := by
 rw [KO]; simp [xG]
theorem yQ {α β : Type} (f : α → β) (l : List α) (k : Nat) (h : k < l.length) : (l.take (k + 1)).map f = (l.take k).map f ++ [f l[k]] := by
 rw [List.take_succ_eq_append_getElem h, List.map_append]; rfl
theorem kN : ∀ (n : Nat) (v : V n), zG n v ≤ n
 | 0, v => nomatch v
 | n + 1, (v : VS (V n)) => by
  show 1 + xG (v.kids.map (zG n)) ≤ n + 1
  have : xG (v.kids.map (zG n)) ≤ n := jr.2 (fun x hx => by
   obtain ⟨y, _, rfl⟩ := List.mem_map.1 hx
   exact kN n y)
  omega
theorem zZ.few {n : Nat} {v : VS (V n)} (h : zZ (n + 1) v) : v.l.length + v.m.length ≤ 20000 := by
 have := Q7 v; have := h.1; omega
def kW (n : Nat) : Prop := ∀ (v : V n) {S : Nat → Prop} {w : World} {cs : List Value}, Rep n S w cs v → zZ n v → n ≤ 100 →
    Calls Tryz.prog 41 #[.agg cs.toArray] w fun e w' => e = .returned (.int .i64 (zG n v)) ∧ zb [] w w'
theorem KY {n : Nat} (known : kW n) : kW (n + 1) := fun (v : VS (V n)) {S} {w} {cs} h hs hn => by
  have Gd := qI h
  have Gr := qI hs
  obtain ⟨vl, vm, lcs, mcs, h⟩ := h
  obtain ⟨a, c, b, e, rfl, rfl, rfl⟩ := h.forms
  have IH := qI known
  have Jz : Hid (∀ x, x ∈ v.kids → zG n x ≤ n) := qI fun x _ => kN n x
  have Gy : Hid (zG (n + 1) v = 1 + xG (v.kids.map (zG n))) := qI rfl
  have HB := qI (yb w v.kind v.num v.s (.slice a v.l.length c) (.slice b v.m.length e) 25)
  have Gq := qI (((zb.refl [] w).alloc (.cells #[.int .i64 v.kind, .int .i64 v.num, .string v.s, .slice a v.l.length c, .slice b v.m.length e] 25)))
  have Gp : Hid (v.kids.length ≤ 20000) := qI (by have := hs.few; simp only [VS.kids, List.length_append, List.length_map]; omega)
  obtain ⟨c0, c1, c2, c3, c4⟩ := HB.o
  clear h hs
  have Jq := qI (kids_any (Gd.o.kept0 Gq.o) Gr.o.few)
  go_enter func41, ntmps41
  go_wp2_with (go_at_call 69; refine Jq.o.mono ?_; rintro e w1 ⟨⟨ak, ck, rfl, hva⟩, hk1⟩)
  have Jf := qI hva
  have Gk := qI (Gq.o.then hk1)
  clear hva hk1 c0 c1 c2 c3 c4 Jq
  have hkl := Gp.o
  revert Jf Jz Gy Gp hkl
  have Gl : Hid (∀ x, x ∈ v.kids → zZ n x) := qI fun x hx => Gr.o.kid hx
  revert Gl
  generalize v.kids = kids
  intro Gl Jz Gy Gp Jf hkl
  go_loopw [3, 5] (fun m i wr => ∃ k : Nat, i = .int .i64 k ∧ k ≤ kids.length ∧ m = .int .i64 (xG ((kids.take k).map (zG n))) ∧ zb [] w1 wr) (fun _ i _ => kids.length - (intOf i).toNat)
  case atStart => exact ⟨0, rfl, Nat.zero_le _, rfl, zb.refl _ _⟩
  case round =>
   obtain ⟨k, rfl, hk, rfl, hkr⟩ := hrel
   have Ga := qI hkr
   clear hkr
   by_cases hlt : k < kids.length
   ·have hltI : (k : Int) < kids.length := by omega
    obtain ⟨g, o, cap, kd, nm, st, a1, b1, he, q0, q1, q2, q3, q4, hr⟩ := (Jf.o.kept0 Ga.o).at hlt
    simp only [Value.slice.injEq] at he
    obtain ⟨rfl, -, rfl⟩ := he
    have CL := qI (IH.o kids[k] hr (Gl.o _ (List.getElem_mem hlt)) (by omega))
    have hd := Jz.o kids[k] (List.getElem_mem hlt)
    have HT : Hid (xG ((kids.take (k + 1)).map (zG n)) = max (xG ((kids.take k).map (zG n))) (zG n kids[k])) := qI (by rw [yQ _ _ _ hlt, maxL_snoc])
    clear hr
    revert CL hd HT
    generalize zG n kids[k] = D
    generalize xG ((kids.take k).map (zG n)) = M
    intro CL hd HT
    by_cases hgt : M < D
    ·have hgtI : (M : Int) < D := by omega
     go_wp2_with (go_at_call 41; refine CL.o.mono ?_; rintro e w2 ⟨rfl, hk2⟩)
     case roundEnd =>
      refine ⟨⟨k + 1, by go_num, by omega, ?_, Ga.o.then hk2⟩, by simp [intOf]; omega⟩
      rw [HT.o, Nat.max_eq_right (Nat.le_of_lt hgt)]
    ·have hgtI : ¬ (M : Int) < D := by omega
     go_wp2_with (go_at_call 41; refine CL.o.mono ?_; rintro e w2 ⟨rfl, hk2⟩)
     case roundEnd =>
      refine ⟨⟨k + 1, by go_num, by omega, ?_, Ga.o.then hk2⟩, by simp [intOf]; omega⟩
      rw [HT.o, Nat.max_eq_left (by omega)]
   ·obtain rfl : k = kids.length := by omega
    rw [List.take_length]
    have hM : xG (kids.map (zG n)) ≤ n := jr.2 (fun x hx => by
     obtain ⟨y, hy, rfl⟩ := List.mem_map.1 hx
     exact Jz.o y hy)
    revert hM Gy
    generalize xG (kids.map (zG n)) = M
    intro Gy hM
    go_wp2_with fail
    go_ret
    rw [Gy.o]
    exact ⟨by simp; omega, Gk.o.then Ga.o⟩
theorem vK : ∀ (n : Nat), kW n
 | 0 => fun v {_} {_} {_} h _ _ => h.elim
 | n + 1 => KY (vK n)
theorem depth_any : ∀ (n : Nat) (v : V n) {S : Nat → Prop} {w : World} {cs : List Value}, Rep n S w cs v → zZ n v → n ≤ 100 →
  Calls Tryz.prog 41 #[.agg cs.toArray] w fun e w' => e = .returned (.int .i64 (zG n v)) ∧ zb [] w w' := fun n => vK n
def kU (n : Nat) : Prop := ∀ (v : V n) {S : Nat → Prop} {w : World} {cs : List Value}, Rep n S w cs v → zZ n v →
    Calls Tryz.prog 42 #[.agg cs.toArray] w fun e w' => e = .returned (.int .i64 (ze n v)) ∧ zb [] w w'
theorem KR {n : Nat} (known : kU n) : kU (n + 1) := fun (v : VS (V n)) {S} {w} {cs} h hs => by
  have Gd := qI h
  have Gr := qI hs
  obtain ⟨vl, vm, lcs, mcs, h⟩ := h
  obtain ⟨a, c, b, e, rfl, rfl, rfl⟩ := h.forms
  have IH := qI known
  have Gy : Hid (ze (n + 1) v = 1 + (v.kids.map (ze n)).sum) := qI rfl
  have HC : Hid (1 + (v.kids.map (ze n)).sum ≤ 20000) := qI hs.1
  have HB := qI (yb w v.kind v.num v.s (.slice a v.l.length c) (.slice b v.m.length e) 25)
  have Gq := qI (((zb.refl [] w).alloc (.cells #[.int .i64 v.kind, .int .i64 v.num, .string v.s, .slice a v.l.length c, .slice b v.m.length e] 25)))
  have Gp : Hid (v.kids.length ≤ 20000) := qI (by have := hs.few; simp only [VS.kids, List.length_append, List.length_map]; omega)
  obtain ⟨c0, c1, c2, c3, c4⟩ := HB.o
  clear h hs
  have Jq := qI (kids_any (Gd.o.kept0 Gq.o) Gr.o.few)
  go_enter func42, ntmps42
  go_wp2_with (go_at_call 69; refine Jq.o.mono ?_; rintro e w1 ⟨⟨ak, ck, rfl, hva⟩, hk1⟩)
  have Jf := qI hva
  have Gk := qI (Gq.o.then hk1)
  clear hva hk1 c0 c1 c2 c3 c4 Jq
  have hkl := Gp.o
  revert Jf HC Gy Gp hkl
  have Gl : Hid (∀ x, x ∈ v.kids → zZ n x) := qI fun x hx => Gr.o.kid hx
  revert Gl
  generalize v.kids = kids
  intro Gl Gy HC Gp Jf hkl
  go_loopw [3, 5] (fun m i wr => ∃ k : Nat, i = .int .i64 k ∧ k ≤ kids.length ∧ m = .int .i64 (1 + ((kids.take k).map (ze n)).sum : Nat) ∧ zb [] w1 wr) (fun _ i _ => kids.length - (intOf i).toNat)
  case atStart => exact ⟨0, rfl, Nat.zero_le _, rfl, zb.refl _ _⟩
  case round =>
   obtain ⟨k, rfl, hk, rfl, hkr⟩ := hrel
   have Ga := qI hkr
   clear hkr
   by_cases hlt : k < kids.length
   ·have hltI : (k : Int) < kids.length := by omega
    obtain ⟨g, o, cap, kd, nm, st, a1, b1, he, q0, q1, q2, q3, q4, hr⟩ := (Jf.o.kept0 Ga.o).at hlt
    simp only [Value.slice.injEq] at he
    obtain ⟨rfl, -, rfl⟩ := he
    have CL := qI (IH.o kids[k] hr (Gl.o _ (List.getElem_mem hlt)))
    have HT : Hid (1 + ((kids.take (k + 1)).map (ze n)).sum = (1 + ((kids.take k).map (ze n)).sum) + ze n kids[k]) := qI (by rw [yQ _ _ _ hlt, List.sum_append]; simp; omega)
    have hle : (1 + ((kids.take k).map (ze n)).sum) + ze n kids[k] ≤ 20000 := by
     rw [← HT.o]
     have h1 : (kids.map (ze n)).sum = ((kids.take (k + 1)).map (ze n)).sum + ((kids.drop (k + 1)).map (ze n)).sum := by
      rw [← List.sum_append, ← List.map_append, List.take_append_drop]
     have := HC.o
     omega
    clear hr
    revert CL hle HT
    generalize ze n kids[k] = D
    generalize 1 + ((kids.take k).map (ze n)).sum = M
    intro CL HT hle
    go_wp2_with (go_at_call 42; refine CL.o.mono ?_; rintro e w2 ⟨rfl, hk2⟩)
    case roundEnd =>
     refine ⟨⟨k + 1, by go_num, by omega, ?_, Ga.o.then hk2⟩, by simp [intOf]; omega⟩
     rw [HT.o]
     go_num
   ·obtain rfl : k = kids.length := by omega
    rw [List.take_length]
    go_wp2_with fail
    go_ret
    rw [Gy.o]
    exact ⟨rfl, Gk.o.then Ga.o⟩
theorem vN : ∀ (n : Nat), kU n
 | 0 => fun v {_} {_} {_} h _ => h.elim
 | n + 1 => KR (vN n)
theorem count_any : ∀ (n : Nat) (v : V n) {S : Nat → Prop} {w : World} {cs : List Value}, Rep n S w cs v → zZ n v →
  Calls Tryz.prog 42 #[.agg cs.toArray] w fun e w' => e = .returned (.int .i64 (ze n v)) ∧ zb [] w w' := fun n => vN n
theorem jG {a b : Bool} (h : a = b) : Ending.returned (.bool a) = .returned (.bool b) := by rw [h]
theorem ret_int {k : IntKind} {a b : Int} (h : a = b) : Ending.returned (.int k a) = .returned (.int k b) := by rw [h]
theorem gb_at (s : ByteArray) (k : Nat) (h : k < s.size) : (gb s.data.toList k : Int) = (s[k].toNat : Int) := by
 unfold gb
 have h' : k < s.data.toList.length := by simpa using h
 rw [List.getD_eq_getElem?_getD, List.getElem?_eq_getElem h']
 rfl
theorem bq (s : ByteArray) (i j : Nat) (hj : j ≤ s.size) : (s.extract i j).data.toList = (s.data.toList.take j).drop i := by
 rw [ByteArray.data_extract, Array.toList_extract, List.extract_eq_take_drop, List.drop_take]
theorem jX (s : ByteArray) (i : Nat) : (s.extract i s.size).data.toList = s.data.toList.drop i := by
 rw [bq s i s.size (Nat.le_refl _), List.take_of_length_le (by simp)]
theorem may_any (c : Int) (w : World) : Calls Tryz.prog 140 #[.int .i64 c] w fun e w' => e = .returned (.bool (Yv c)) ∧ w = w' := by
 by_cases h0 : 0 ≤ c
 ·by_cases h1 : c ≤ 1114111
  ·by_cases h2 : c < 55296
   ·have HM : Hid (true = Yv c) := qI (by unfold Yv; simp [h0, h1, h2])
    go_enter func140, ntmps140
    go_wp2_with fail
    go_ret
    exact ⟨jG HM.o, rfl⟩
   ·have HM : Hid (decide (57343 < c) = Yv c) := qI (by unfold Yv; simp [h0, h1, h2])
    go_enter func140, ntmps140
    go_wp2_with fail
    go_ret
    exact ⟨jG HM.o, rfl⟩
  ·have HM : Hid (Yv c = false) := qI (by unfold Yv; simp; omega)
   go_enter func140, ntmps140
   go_wp2_with fail
   go_ret
   exact ⟨jG HM.o.symm, rfl⟩
 ·have HM : Hid (Yv c = false) := qI (by unfold Yv; simp; omega)
  go_enter func140, ntmps140
  go_wp2_with fail
  go_ret
  exact ⟨jG HM.o.symm, rfl⟩
theorem zt {a b : Int} (h : a ≠ b) : (a == b) = false ∧ (a != b) = true := by simp [h]
theorem qK {a b : Nat} (h : a ≠ b) : ((a : Int) == (b : Int)) = false ∧ ((a : Int) != (b : Int)) = true := zt (by omega)
theorem toList_inj {a b : ByteArray} (h : a.toList = b.toList) : a = b := by
 rw [ByteArray.toList_eq, ByteArray.toList_eq] at h
 cases a; cases b
 simp only [ByteArray.mk.injEq] at *
 exact Array.toList_inj.1 h
theorem xM {a b : ByteArray} (h : a ≠ b) : (a.toList == b.toList) = false ∧ (a.toList != b.toList) = true := by
 have : a.toList ≠ b.toList := fun e => h (toList_inj e)
 simp [this]
theorem qo {a b : ByteArray} (h : a = b) : (a.toList == b.toList) = true ∧ (a.toList != b.toList) = false := by
 subst h; simp
theorem yg {a b : Int} (h : a = b) : (a == b) = true ∧ (a != b) = false := by simp [h]
theorem vv {a b : Nat} (h : a = b) : ((a : Int) == (b : Int)) = true ∧ ((a : Int) != (b : Int)) = false := by simp [h]
def yN (s : ByteArray) (n : Nat) : Nat → Int
 | 0 => 0
 | 1 => (gb s.data.toList 0 : Int) - (if n = 2 then 192 else if n = 3 then 224 else 240)
 | k + 2 => 64 * yN s n (k + 1) + gb s.data.toList (k + 1) - 128
theorem codeAt_bd (s : ByteArray) (n k : Nat) (hk : k ≤ 4) : -100000000 ≤ yN s n k ∧ yN s n k ≤ 100000000 := by
 have g0 := vS s.data.toList 0
 have g1 := vS s.data.toList 1
 have g2 := vS s.data.toList 2
 have g3 := vS s.data.toList 3
 have hb : (0 : Int) ≤ (if n = 2 then 192 else if n = 3 then 224 else 240) ∧ (if n = 2 then 192 else if n = 3 then 224 else 240 : Int) ≤ 240 := by
  split
  ·omega
  ·split <;> omega
 match k, hk with
 | 0, _ => simp only [yN]; omega
 | 1, _ => simp only [yN]; omega
 | 2, _ => simp only [yN, Nat.zero_add]; omega
 | 3, _ => simp only [yN, Nat.zero_add, Nat.reduceAdd]; omega
 | 4, _ => simp only [yN, Nat.zero_add, Nat.reduceAdd]; omega
theorem codeAt_all (s : ByteArray) (n : Nat) (h : n = 2 ∨ n = 3 ∨ n = 4) : yN s n n = qP s.data.toList n := by
 rcases h with rfl | rfl | rfl
 ·simp only [yN, qP, Nat.zero_add, Nat.reduceAdd]; simp
 ·simp only [yN, qP, Nat.zero_add, Nat.reduceAdd]; simp
 ·simp only [yN, qP, Nat.zero_add, Nat.reduceAdd]; simp
theorem codeAt_one (s : ByteArray) (n : Nat) : yN s n 1 = (gb s.data.toList 0 : Int) - (if n = 2 then 192 else if n = 3 then 224 else 240) := rfl
theorem codeAt_next (s : ByteArray) (n k : Nat) (h : 1 ≤ k) : yN s n (k + 1) = 64 * yN s n k + gb s.data.toList k - 128 := by
 match k, h with
 | k + 1, _ => rfl
theorem code_any (s : ByteArray) (n : Nat) (h1 : 1 ≤ n) (h4 : n ≤ 4) (hs : n ≤ s.size) (hmax : s.size ≤ 281474976710656) (w : World) :
  Calls Tryz.prog 139 #[.string s, .int .i64 n] w fun e w' => e = .returned (.int .i64 (qP s.data.toList n)) ∧ w = w' := by
 have h0 : 0 < s.size := by omega
 have G0 := qI (gb_at s 0 h0)
 have hb0 : (s[0].toNat : Int) ≤ 255 := by have := s[0].toNat_lt; omega
 have hc : n = 1 ∨ n = 2 ∨ n = 3 ∨ n = 4 := by omega
 rcases hc with rfl | hc
 ·have HZ : Hid (qP s.data.toList 1 = (s[0].toNat : Int)) := qI (by rw [← G0.o]; rfl)
  clear h1 h4
  go_enter func139, ntmps139
  go_wp2_with fail
  go_ret
  rw [HZ.o]
  exact ⟨rfl, rfl⟩
 ·have HZ := qI (codeAt_all s n hc)
  have HB : Hid (∀ k, k ≤ 4 → -100000000 ≤ yN s n k ∧ yN s n k ≤ 100000000) := qI (codeAt_bd s n)
  have f1 := (qK (a := n) (b := 1) (by omega)).1
  have Mp : Hid (((((n : Int) == 2) = true ∧ yN s n 1 = (s[0].toNat : Int) - 192) ∨ (((n : Int) == 2) = false ∧ ((n : Int) == 3) = true ∧ yN s n 1 = (s[0].toNat : Int) - 224) ∨
    (((n : Int) == 2) = false ∧ ((n : Int) == 3) = false ∧ ((n : Int) == 4) = true ∧ yN s n 1 = (s[0].toNat : Int) - 240))) := qI (by
   rw [codeAt_one, G0.o]
   rcases hc with rfl | rfl | rfl <;> simp)
  clear hc
  rcases Mp.o with ⟨g1, hx⟩ | ⟨g1, g2, hx⟩ | ⟨g1, g2, g3, hx⟩
  all_goals
   have HX := qI hx
   clear hx
   go_enter func139, ntmps139
   go_wp2_with fail
   go_loop [5, 6] (fun x i => ∃ k : Nat, 1 ≤ k ∧ k ≤ n ∧ i = .int .i64 k ∧ x = .int .i64 (yN s n k)) (fun _ i => n - (intOf i).toNat)
   case atStart => exact ⟨1, by omega, by omega, rfl, by rw [HX.o]⟩
   case round =>
    obtain ⟨k, hk1, hk, rfl, rfl⟩ := hrel
    have hb := HB.o k (by omega)
    by_cases hlt : k < n
    ·have hltI : (k : Int) < n := by omega
     have hks : k < s.size := by omega
     have hbk : (s[k].toNat : Int) ≤ 255 := by have := s[k].toNat_lt; omega
     have HN : Hid (yN s n (k + 1) = 64 * yN s n k + (s[k].toNat : Int) - 128) := qI (by rw [codeAt_next s n k hk1, gb_at s k hks])
     revert hb HN
     generalize yN s n k = X
     intro hb HN
     go_wp2_with fail
     go_round
     case rel => exact ⟨k + 1, by omega, by omega, by go_num, by rw [HN.o]⟩
     case measure => simp [intOf]; omega
    ·obtain rfl : k = n := by omega
     go_wp2_with fail
     go_ret
     exact ⟨ret_int HZ.o, rfl⟩
theorem jB (n : Nat) (h : n < 256) : bv (UInt8.ofNat n) = .int .u8 n := by
 unfold bv
 congr 1
 have : (UInt8.ofNat n).toNat = n := by simp [UInt8.toNat_ofNat']; omega
 rw [this]
def qt (c : Int) : List Value :=
 if c < 128 then [.int .u8 c] else if c < 2048 then [.int .u8 (192 + c / 64), .int .u8 (128 + c % 64)]
 else if c < 65536 then [.int .u8 (224 + c / 4096), .int .u8 (128 + c / 64 % 64), .int .u8 (128 + c % 64)]
 else [.int .u8 (240 + c / 262144), .int .u8 (128 + c / 4096 % 64), .int .u8 (128 + c / 64 % 64), .int .u8 (128 + c % 64)]
theorem zaj (c : Int) (h0 : 0 ≤ c) (h11 : c ≤ 1114111) (w : World) :
  Calls Tryz.prog 141 #[.int .i64 c] w fun e w' => e = .returned (.slice (some ⟨w.heap.size, 0, none⟩) (qt c).length (qt c).length) ∧ w' = w.alloc (.cells (qt c).toArray 5) := by
 by_cases h1 : c < 128
 ·have HZ : Hid (qt c = [.int .u8 c]) := qI (by unfold qt; rw [if_pos h1])
  go_enter func141, ntmps141
  go_wp2_with fail
  go_ret
  rw [HZ.o]
  exact ⟨rfl, rfl⟩
 by_cases h2 : c < 2048
 ·have HZ : Hid (qt c = [.int .u8 (192 + c / 64), .int .u8 (128 + c % 64)]) := qI (by unfold qt; rw [if_neg h1, if_pos h2])
  go_enter func141, ntmps141
  go_wp2_with fail
  go_ret
  rw [HZ.o]
  exact ⟨rfl, rfl⟩
 by_cases h3 : c < 65536
 ·have HZ : Hid (qt c = [.int .u8 (224 + c / 4096), .int .u8 (128 + c / 64 % 64), .int .u8 (128 + c % 64)]) := qI (by unfold qt; rw [if_neg h1, if_neg h2, if_pos h3])
  go_enter func141, ntmps141
  go_wp2_with fail
  go_ret
  rw [HZ.o]
  exact ⟨rfl, rfl⟩
 ·have HZ : Hid (qt c = [.int .u8 (240 + c / 262144), .int .u8 (128 + c / 4096 % 64), .int .u8 (128 + c / 64 % 64), .int .u8 (128 + c % 64)]) := qI (by unfold qt; rw [if_neg h1, if_neg h2, if_neg h3])
  go_enter func141, ntmps141
  go_wp2_with fail
  go_ret
  rw [HZ.o]
  exact ⟨rfl, rfl⟩
theorem Qi (m : Nat) (hm : m < 55296 ∨ (57344 ≤ m ∧ m ≤ 1114111)) : qt m = (yh m).map bv := by
 rw [xI m hm]
 unfold qt
 by_cases h1 : m < 128
 ·rw [if_pos h1, if_pos (by omega)]
  simp only [List.map_cons, List.map_nil]
  rw [jB _ (by omega)]
 rw [if_neg h1, if_neg (by omega)]
 by_cases h2 : m < 2048
 ·rw [if_pos h2, if_pos (by omega)]
  simp only [List.map_cons, List.map_nil]
  rw [jB _ (by omega), jB _ (by omega)]
  rfl
 rw [if_neg h2, if_neg (by omega)]
 by_cases h3 : m < 65536
 ·rw [if_pos h3, if_pos (by omega)]
  simp only [List.map_cons, List.map_nil]
  rw [jB _ (by omega), jB _ (by omega), jB _ (by omega)]
  rfl
 ·rw [if_neg h3, if_neg (by omega)]
  simp only [List.map_cons, List.map_nil]
  rw [jB _ (by omega), jB _ (by omega), jB _ (by omega), jB _ (by omega)]
  rfl
theorem refBytes_any (m : Nat) (hm : m < 55296 ∨ (57344 ≤ m ∧ m ≤ 1114111)) (w : World) :
  Calls Tryz.prog 141 #[.int .i64 m] w fun e w' => (∃ a c, e = .returned (.slice a (yh m).length c) ∧ xt w' (.slice a (yh m).length c) (yh m)) ∧ zb [] w w' :=
 (zaj m (by omega) (by omega) w).mono fun e w' ⟨h1, h2⟩ => by
  have e1 := Qi m hm
  have e2 : (qt m).length = (yh m).length := by rw [e1, List.length_map]
  rw [e2] at h1
  rw [e1] at h2
  subst h2
  refine ⟨⟨_, _, h1, ?_⟩, (zb.refl _ _).alloc _⟩
  have h4 : (yh m).length ≤ 4 := (xR m hm).2.2.1
  exact yL w ((yh m).map bv) 1 (yh m).length 5 w.heap.size rfl (by simp) (by simp only [maxLen]; omega)
open Go.Lib (decodeL)
theorem zK (l : List UInt8) : (zg l).size = l.length := by simp [zg, ByteArray.size]
theorem xt.toStr {w : World} {v : Value} {l : List UInt8} (h : xt w v l) : (convert 28 9 v).run Tryz.prog w = .ok (.string (zg l)) w := by
 rcases h.2 with ⟨rfl, h0⟩ | ⟨h0, ad, cap, rfl, hm⟩ | ⟨g, o, cap, rfl, hc, hm, hr⟩
 ·have : l = [] := List.eq_nil_of_length_eq_zero h0
  subst this
  have h1 := run_convert_bytes_nil (P := Tryz.prog) w 28 5 underlying28 underlying5 0 0 9 underlying9
  have e1 : zg [] = ByteArray.empty := by rfl
  rw [e1]
  exact h1
 ·have : l = [] := List.eq_nil_of_length_eq_zero h0
  subst this
  have h1 := run_convert_bytes_string (P := Tryz.prog) w 28 9 5 (some ad) 0 cap underlying28 underlying5 underlying9
  rw [h1]
  rfl
 ·have h1 := run_convert_bytes_arg (P := Tryz.prog) w 28 5 underlying28 underlying5 g o l.length cap (l.map fun b => (b.toNat : Int)) (by simp) (fun i hi => by
   rw [hr.at (by simpa using hi)]
   simp [bv, List.getD_eq_getElem?_getD, hi]) 9 underlying9
  have e2 : strOfNums (l.map fun b => (b.toNat : Int)) = zg l := by
   unfold strOfNums zg
   rw [List.map_map]
   have e3 : ((fun n : Int => UInt8.ofNat n.toNat) ∘ fun b : UInt8 => (b.toNat : Int)) = id := funext fun b => by simp
   rw [e3, List.map_id]
  rw [← e2]
  exact h1
theorem refNext_any (s : ByteArray) (hs : s.size ≤ 281474976710656) (w : World) :
  Calls Tryz.prog 99 #[.string s] w fun e w' => e = .returned (.tuple #[.int .i64 (xZ s.data.toList).1, .int .i64 (xZ s.data.toList).2]) ∧ zb [] w w' := by
 have HZ := qI (nextGo_eq s.data.toList)
 have HL : Hid (s.data.toList.length = s.size) := qI (by simp)
 go_enter func99, ntmps99
 go_wp2_with fail
 go_loopw [4] (fun i wr => ∃ k : Nat, 1 ≤ k ∧ k ≤ 5 ∧ i = .int .i64 k ∧ qp (5 - k) k s.data.toList = qp 4 1 s.data.toList ∧ zb [] w wr) (fun i _ => 5 - (intOf i).toNat)
 case atStart => exact ⟨1, by omega, by omega, rfl, rfl, zb.refl _ _⟩
 case round =>
  obtain ⟨k, hk1, hk5, rfl, hg, hkr⟩ := hrel
  have HG := qI hg
  have Ga := qI hkr
  clear hg hkr
  by_cases hgo : k ≤ 4 ∧ k ≤ s.size
  ·obtain ⟨h4, hks⟩ := hgo
   have h4I : (k : Int) ≤ 4 := by omega
   have hksI : (k : Int) ≤ s.size := by omega
   have hg2 : qp (5 - k) k s.data.toList = if Yv (qP s.data.toList k) = true ∧ yh (qP s.data.toList k).toNat = s.data.toList.take k then (qP s.data.toList k, k) else qp (5 - (k + 1)) (k + 1) s.data.toList := by
    rw [show 5 - k = (5 - (k + 1)) + 1 by omega]
    conv => lhs; unfold qp
    rw [if_pos ⟨h4, by rw [HL.o]; exact hks⟩]
   have Jr := qI hg2
   have CC := qI (code_any s k hk1 h4 hks hs wr)
   have HT : Hid ((s.extract 0 k).data.toList = s.data.toList.take k) := qI (by rw [bq s 0 k hks]; simp)
   clear hg2
   revert Jr CC
   generalize qP s.data.toList k = c
   intro Jr CC
   cases hmay : Yv c with
   | false =>
    have HM := qI hmay
    clear hmay
    go_wp2_with (go_at_call 139; refine CC.o.mono ?_; rintro e w2 ⟨rfl, rfl⟩)
    refine yd wr (by kernel_rfl) (by kernel_rfl) (zb.refl _ _) ?_
    repeat go_big_quiet_step ((go_at_call 140; exact Z3 ((may_any c _).mono (by rw [HM.o]; exact fun _ _ h => h))))
    refine wpQuiet_nil ?_
    intro w2 hk2
    go_wp2_with fail
    case roundEnd =>
     refine ⟨⟨k + 1, by omega, by omega, by go_num, ?_, Ga.o.then hk2⟩, by simp [intOf]; omega⟩
     rw [← HG.o, Jr.o, if_neg (by rw [HM.o]; simp)]
   | true =>
    obtain ⟨m, rfl, hm⟩ := Z6.1 hmay
    have HM := qI hmay
    have Mq := qI hm
    clear hmay hm
    go_wp2_with (go_at_call 139; refine CC.o.mono ?_; rintro e w2 ⟨rfl, rfl⟩)
    refine zk (n := 11) (fun w' : World => zb [] wr w') 11 (by kernel_rfl) (by kernel_rfl) ?_
    change zR _ _ _ _ _ _ _ _ _ wr.drew
    have hSS : (fun w' : World => zb [] wr w') wr.drew := (zb.refl _ _).drew
    revert hSS
    generalize wr.drew = W
    intro hSS
    refine zx ?_
    intro O R hO hR
    have hQp : ∀ c a (d : Nat) v w, R (.panic c) (a.put (some d) v) w → R (.panic c) a w := by subst hR; exact fun _ _ _ _ _ h => h
    refine qT 0 ?_ hO rfl rfl (by kernel_rfl) hQp (fun w hSw => ?_) hSS ?_
    rotate_left
    ·go_simp; try with_reducible rfl
    try simp only [zA,zN,zB,zC,zD]
    refine qO 1 hO rfl (by kernel_rfl) (fun K hK => ?_)
    go_simp
    refine Calls.mono (may_any _ _) ?_
    rintro e w2 ⟨rfl, rfl⟩
    rw [HM.o]
    refine hK _ _ (.inr hSS) ?_
    clear hK K
    try simp only [zA,zN,zB,zC,zD]
    refine qT 2 ?_ hO rfl rfl (by kernel_rfl) hQp (fun w hSw => ?_) hSS ?_
    rotate_left
    ·go_simp; try with_reducible rfl
    try simp only [zA,zN,zB,zC,zD]
    refine qT 3 ?_ hO rfl rfl (by kernel_rfl) hQp (fun w hSw => ?_) hSS ?_
    rotate_left
    ·go_simp; try with_reducible rfl
    try simp only [zA,zN,zB,zC,zD]
    refine qT 6 ?_ hO rfl rfl (by kernel_rfl) hQp (fun w hSw => ?_) hSS ?_
    rotate_left
    ·go_simp; try with_reducible rfl
    try simp only [zA,zN,zB,zC,zD]
    refine qT 7 ?_ hO rfl rfl (by kernel_rfl) hQp (fun w hSw => ?_) hSS ?_
    rotate_left
    ·go_simp; try with_reducible rfl
    try simp only [zA,zN,zB,zC,zD]
    refine qT 8 ?_ hO rfl rfl (by kernel_rfl) hQp (fun w hSw => ?_) hSS ?_
    rotate_left
    ·go_simp; try with_reducible rfl
    try simp only [zA,zN,zB,zC,zD]
    refine qO 4 hO rfl (by kernel_rfl) (fun K hK => ?_)
    go_simp
    refine Calls.mono (refBytes_any m Mq.o _) ?_
    rintro e w2 ⟨⟨ab, cb, rfl, hb⟩, hk2⟩
    have cv : (convert 28 9 (.slice ab (yh m).length cb)).run Tryz.prog w2 = .ok (.string (zg (yh m))) w2 := xt.toStr hb
    have hS2 : (fun w' : World => zb [] wr w') w2 := zb.trans' hSS hk2
    refine hK _ _ (.inr hS2) ?_
    clear hK K
    try simp only [zA,zN,zB,zC,zD]
    clear hSS
    have hSS := hS2
    clear hS2 hb
    refine qO 5 hO rfl (by kernel_rfl) (fun K hK => ?_)
    go_simp
    refine hK _ _ (.inr hSS) ?_
    clear hK K
    try simp only [zA,zN,zB,zC,zD]
    clear cv
    by_cases heq : yh m = s.data.toList.take k
    ·have ft : ((zg (yh m)).toList == (s.extract 0 k).toList) = true := (qo (qR (by rw [zq, HT.o, heq]))).1
     have Js : Hid (qp (5 - k) k s.data.toList = ((m : Int), k)) := qI (by rw [Jr.o, if_pos ⟨HM.o, by rw [Int.toNat_natCast]; exact heq⟩])
     clear heq
     refine qT 9 ?_ hO rfl rfl (by kernel_rfl) hQp (fun w hSw => ?_) hSS ?_
     rotate_left
     ·go_simp; try with_reducible rfl
     try simp only [zA,zN,zB,zC,zD]
     refine qT 10 ?_ hO rfl rfl (by kernel_rfl) hQp (fun w hSw => ?_) hSS ?_
     rotate_left
     ·go_simp; try with_reducible rfl
     try simp only [zA,zN,zB,zC,zD]
     refine zv hO (by kernel_rfl) ?_ _
     subst hR
     try clear hQp hO O
     go_wp2_with fail
     go_ret2
     rw [← HZ.o, ← HG.o, Js.o]
     exact ⟨rfl, Ga.o.then hSS⟩
    ·have ft : ((zg (yh m)).toList == (s.extract 0 k).toList) = false := (xM (fun e => heq (by rw [← HT.o, ← e, zq]))).1
     have Js : Hid (qp (5 - k) k s.data.toList = qp (5 - (k + 1)) (k + 1) s.data.toList) := qI (by rw [Jr.o, if_neg (fun e => heq (by have := e.2; rw [Int.toNat_natCast] at this; exact this))])
     clear heq
     refine qT 9 ?_ hO rfl rfl (by kernel_rfl) hQp (fun w hSw => ?_) hSS ?_
     rotate_left
     ·go_simp; try with_reducible rfl
     try simp only [zA,zN,zB,zC,zD]
     refine qT 10 ?_ hO rfl rfl (by kernel_rfl) hQp (fun w hSw => ?_) hSS ?_
     rotate_left
     ·go_simp; try with_reducible rfl
     try simp only [zA,zN,zB,zC,zD]
     refine zv hO (by kernel_rfl) ?_ _
     subst hR
     try clear hQp hO O
     go_wp2_with fail
     case roundEnd => exact ⟨⟨k + 1, by omega, by omega, by go_num, by rw [← HG.o, Js.o], Ga.o.then hSS⟩, by simp [intOf]; omega⟩
  ·have Js : Hid (xZ s.data.toList = (-1, 0)) := qI (by
    rw [← HZ.o, ← HG.o]
    rcases (by omega : k = 5 ∨ (k ≤ 4 ∧ s.size < k)) with rfl | ⟨h1, h2⟩
    ·rfl
    ·rw [show 5 - k = (4 - k) + 1 by omega]
     unfold qp
     rw [if_neg (by rw [HL.o]; omega)])
   rcases (by omega : (5 : Int) ≤ k ∨ ((k : Int) ≤ 4 ∧ (s.size : Int) < k)) with h1 | ⟨h1, h2⟩
   all_goals
    go_wp2_with fail
    go_ret2
    rw [Js.o]
    exact ⟨rfl, Ga.o⟩
theorem next_valid {l : List UInt8} (h : l ≠ []) : ((xZ l).2 = 0 ∧ Lib.validD l = false) ∨ (1 ≤ (xZ l).2 ∧ (xZ l).2 ≤ l.length ∧ Lib.validD l = Lib.validD (l.drop (xZ l).2)) := by
 by_cases hb : (decodeL l).1 = 65533 ∧ (decodeL l).2 = 1
 ·refine .inl ⟨?_, ?_⟩
  ·unfold xZ; rw [if_pos (.inr hb)]
  ·rw [Lib.validD_step l h, if_pos hb]
 ·have D := kG h hb
  have e : xZ l = (((decodeL l).1 : Int), (decodeL l).2) := by unfold xZ; rw [if_neg (by rintro (q | q); exact h q; exact hb q)]
  refine .inr ⟨?_, ?_, ?_⟩
  ·rw [e]; exact D.pos
  ·rw [e]; exact D.le
  ·rw [e, Lib.validD_step l h, if_neg hb]
theorem vt (s : ByteArray) (hs : s.size ≤ 281474976710656) (w : World) :
  Calls Tryz.prog 70 #[.string s] w fun e w' => e = .returned (.bool (zX s)) ∧ zb [] w w' := by
 go_enter func70, ntmps70
 go_wp2_with fail
 go_loopw [0] (fun x wr => ∃ t : ByteArray, x = .string t ∧ t.size ≤ s.size ∧ zX t = zX s ∧ zb [] w wr) (fun x _ => match x with | .string t => t.size | _ => 0)
 case atStart => exact ⟨s, rfl, Nat.le_refl _, rfl, zb.refl _ _⟩
 case round =>
  obtain ⟨t, rfl, ht, hg, hkr⟩ := hrel
  have HG := qI hg
  have Ga := qI hkr
  clear hg hkr
  by_cases h0 : 0 < t.size
  ·have h0I : (0 : Int) < t.size := by omega
   have hlen : t.data.toList.length = t.size := by simp
   have hne : t.data.toList ≠ [] := fun e => by rw [e] at hlen; simp only [List.length_nil] at hlen; omega
   have CN := qI (refNext_any t (by omega) wr)
   have hv := next_valid hne
   have HX : Hid (∀ i, (t.extract i t.size).data.toList = t.data.toList.drop i) := qI (jX t)
   unfold zX at HG
   rw [hlen] at hv
   clear hne hlen
   revert CN hv
   generalize xZ t.data.toList = r
   obtain ⟨c, k⟩ := r
   intro CN hv
   simp only at CN hv
   rcases hv with ⟨rfl, hv⟩ | ⟨hk1, hk2, hv⟩
   ·have HF : Hid (zX s = false) := qI (by unfold zX; rw [← HG.o, hv])
    clear hv
    go_wp2_with (go_at_call 99; refine CN.o.mono ?_; rintro e w2 ⟨rfl, hk2⟩)
    go_ret
    rw [HF.o]
    exact ⟨rfl, Ga.o.then hk2⟩
   ·have hk1I : (1 : Int) ≤ k := by omega
    have hk2I : (k : Int) ≤ t.size := by omega
    have fk := (qK (a := k) (b := 0) (by omega)).1
    have HV := qI hv
    clear hv
    go_wp2_with (go_at_call 99; refine CN.o.mono ?_; rintro e w2 ⟨rfl, hk2⟩)
    case roundEnd =>
     refine ⟨⟨t.extract k t.size, rfl, by simp; omega, ?_, Ga.o.then hk2⟩, by simp; omega⟩
     unfold zX
     rw [HX.o, ← HV.o, HG.o]
  ·have h1 : t.size = 0 := by omega
   have HF : Hid (zX s = true) := qI (by
    rw [← HG.o]
    have : t.data.toList = [] := List.eq_nil_of_length_eq_zero (by simpa using h1)
    unfold zX
    rw [this]
    rfl)
   have h0' : ¬ (0 : Int) < t.size := by omega
   clear h1
   go_wp2_with fail
   go_ret
   rw [HF.o]
   exact ⟨rfl, Ga.o⟩
def qj (k m : Int) (s : ByteArray) (a b : Value) : Array Value := #[.int .i64 k, .int .i64 m, .string s, a, b]
def yS : (n : Nat) → Nat → World → List Value → V n → Prop
 | 0, _, _, _, _ => False
 | n + 1, B, w, cs, (v : VS (V n)) => ∃ vl vm lcs mcs, cs = [.int .i64 v.kind, .int .i64 v.num, .string v.s, vl, vm] ∧
     w.ownsRow B 25 5 vl v.l.length lcs.flatten ∧ yc (Rep n (fun g => B ≤ g ∧ vl.ownBlock ≠ some g ∧ vm.ownBlock ≠ some g) w) lcs v.l ∧
     w.ownsRow B 60 6 vm v.m.length (zQ mcs) ∧ yc (jj (Rep n (fun g => B ≤ g ∧ vl.ownBlock ≠ some g ∧ vm.ownBlock ≠ some g) w)) mcs v.m ∧
     (Lit.int .i64 v.kind).wf = true ∧ (Lit.int .i64 v.num).wf = true
theorem yS.rep : ∀ {n : Nat} {B : Nat} {w : World} {cs : List Value} {v : V n}, yS n B w cs v → Rep n (fun g => B ≤ g) w cs v
 | 0, _, _, _, _, h => h.elim
 | n + 1, B, w, cs, v, h => by
  obtain ⟨vl, vm, lcs, mcs, h1, h2, h3, h4, h5, h6, h7⟩ := h
  exact ⟨vl, vm, lcs, mcs, {
   cells := h1
   slcl := Slc.of_row h2
   alll := h3.mono fun _ _ _ r => r.mono (fun _ _ q => q.1)
   slcm := Slc.of_row h4
   allm := h5.mono fun _ _ _ r => ⟨r.1, r.2.mono (fun _ _ q => q.1)⟩
   inl := fun g hg => (h2.lt g (zz hg)).1
   inm := fun g hg => (h4.lt g (zz hg)).1
   wfk := h6
   wfn := h7 }⟩
theorem yc.snoc {α β : Type} {R : α → β → Prop} {xs : List α} {ys : List β} {x : α} {y : β} (h : yc R xs ys) (hr : R x y) : yc R (xs ++ [x]) (ys ++ [y]) := h.app ((yc.nil R).cons hr)
def z7 {α : Type} (R : (Nat → Prop) → List Value → α → Prop) : (Nat → Prop) → List (List Value) → List α → Prop
 | _, [], [] => True
 | P, c :: cs, x :: xs => ∃ Q : Nat → Prop, (∀ g, Q g → P g) ∧ R Q c x ∧ z7 R (fun g => P g ∧ ¬ Q g) cs xs
 | _, _, _ => False
def xb : (n : Nat) → (Nat → Prop) → World → List Value → V n → Prop
 | 0, _, _, _, _ => False
 | n + 1, S, w, cs, (v : VS (V n)) => ∃ vl vm lcs mcs, cs = [.int .i64 v.kind, .int .i64 v.num, .string v.s, vl, vm] ∧
     w.ownsRow 0 25 5 vl v.l.length lcs.flatten ∧ w.ownsRow 0 60 6 vm v.m.length (zQ mcs) ∧ lcs.length = v.l.length ∧ mcs.map (fun p => p.1) = v.m.map (fun p => p.1) ∧
     (∀ g, vl.ownBlock = some g → S g) ∧ (∀ g, vm.ownBlock = some g → S g) ∧
     z7 (fun Q c x => xb n Q w c x) (fun g => S g ∧ vl.ownBlock ≠ some g ∧ vm.ownBlock ≠ some g) (lcs ++ mcs.map (fun p => p.2)) v.kids ∧
     (Lit.int .i64 v.kind).wf = true ∧ (Lit.int .i64 v.num).wf = true
section
variable {α : Type} {R R' : (Nat → Prop) → List Value → α → Prop}
theorem z7.mono : ∀ {P P' : Nat → Prop} {cs : List (List Value)} {xs : List α}, z7 R P cs xs → (∀ g, P g → P' g) → z7 R P' cs xs
 | _, _, [], [], _, _ => trivial
 | P, P', c :: cs, x :: xs, ⟨Q, h1, h2, h3⟩, h => ⟨Q, fun g q => h g (h1 g q), h2, z7.mono h3 (fun g q => ⟨h g q.1, q.2⟩)⟩
 | _, _, [], _ :: _, h, _ => h.elim
 | _, _, _ :: _, [], h, _ => h.elim
theorem z7.imp : ∀ {P : Nat → Prop} {cs : List (List Value)} {xs : List α}, z7 R P cs xs → (∀ Q c x, (∀ g, Q g → P g) → R Q c x → R' Q c x) → z7 R' P cs xs
 | _, [], [], _, _ => trivial
 | P, c :: cs, x :: xs, ⟨Q, h1, h2, h3⟩, h => ⟨Q, h1, h Q c x h1 h2, z7.imp h3 (fun Q' c x hq r => h Q' c x (fun g q => (hq g q).1) r)⟩
 | _, [], _ :: _, h, _ => h.elim
 | _, _ :: _, [], h, _ => h.elim
theorem z7.app : ∀ {P Q : Nat → Prop} {cs ds : List (List Value)} {xs ys : List α}, z7 R P cs xs → z7 R Q ds ys → (∀ g, Q g → ¬ P g) → z7 R (fun g => P g ∨ Q g) (cs ++ ds) (xs ++ ys)
 | P, Q, [], ds, [], ys, _, hr, _ => hr.mono (fun _ q => .inr q)
 | P, Q, d :: cs, ds, y :: xs, ys, ⟨Q1, h1, h2, h3⟩, hr, hd => ⟨Q1, fun g q => .inl (h1 g q), h2, (z7.app h3 hr (fun g q p => hd g q p.1)).mono (fun g q => by
   rcases q with q | q
   ·exact ⟨.inl q.1, q.2⟩
   ·exact ⟨.inr q, fun q1 => hd g q (h1 g q1)⟩)⟩
 | _, _, [], _, _ :: _, _, h, _, _ => h.elim
 | _, _, _ :: _, _, [], _, h, _, _ => h.elim
theorem z7.snoc {P Q : Nat → Prop} {cs : List (List Value)} {xs : List α} {c : List Value} {x : α} (h : z7 R P cs xs) (hr : R Q c x) (hd : ∀ g, Q g → ¬ P g) : z7 R (fun g => P g ∨ Q g) (cs ++ [c]) (xs ++ [x]) :=
 h.app (Q := Q) ⟨Q, fun _ q => q, hr, trivial⟩ hd
theorem z7.len : ∀ {P : Nat → Prop} {cs : List (List Value)} {xs : List α}, z7 R P cs xs → cs.length = xs.length
 | _, [], [], _ => rfl
 | P, c :: cs, x :: xs, ⟨Q, h1, h2, h3⟩ => by rw [List.length_cons, List.length_cons, z7.len h3]
 | _, [], _ :: _, h => h.elim
 | _, _ :: _, [], h => h.elim
theorem z7.one : ∀ {P : Nat → Prop} {cs : List (List Value)} {xs : List α}, z7 R P cs xs → ∀ (i : Nat) (c : List Value) (x : α), cs[i]? = some c → xs[i]? = some x → ∃ Q : Nat → Prop, (∀ g, Q g → P g) ∧ R Q c x
 | _, [], [], _, i, _, _, h, _ => by simp at h
 | P, d :: cs, y :: xs, ⟨Q, h1, h2, h3⟩, i, c, x, hc, hx => by
  cases i with
  | zero => simp at hc hx; subst hc; subst hx; exact ⟨Q, h1, h2⟩
  | succ i =>
   obtain ⟨Q', q1, q2⟩ := z7.one h3 i c x (by simpa using hc) (by simpa using hx)
   exact ⟨Q', fun g q => (q1 g q).1, q2⟩
 | _, [], _ :: _, h, _, _, _, _, _ => h.elim
 | _, _ :: _, [], h, _, _, _, _, _ => h.elim
theorem z7.get : ∀ {P : Nat → Prop} {cs : List (List Value)} {xs : List α}, z7 R P cs xs → ∀ (i : Nat) (c : List Value) (x : α), cs[i]? = some c → xs[i]? = some x →
  ∃ Q : Nat → Prop, (∀ g, Q g → P g) ∧ R Q c x ∧ ∀ (j : Nat) (d : List Value) (y : α), j ≠ i → cs[j]? = some d → xs[j]? = some y → ∃ Q' : Nat → Prop, (∀ g, Q' g → P g ∧ ¬ Q g) ∧ R Q' d y
 | _, [], [], _, i, _, _, h, _ => by simp at h
 | P, d :: cs, y :: xs, ⟨Q, h1, h2, h3⟩, i, c, x, hc, hx => by
  cases i with
  | zero =>
   simp at hc hx; subst hc; subst hx
   refine ⟨Q, h1, h2, fun j d' y' hj hd hy => ?_⟩
   cases j with
   | zero => exact absurd rfl hj
   | succ j => exact z7.one h3 j d' y' (by simpa using hd) (by simpa using hy)
  | succ i =>
   obtain ⟨Q', q1, q2, q3⟩ := z7.get h3 i c x (by simpa using hc) (by simpa using hx)
   refine ⟨Q', fun g q => (q1 g q).1, q2, fun j d' y' hj hd hy => ?_⟩
   cases j with
   | zero =>
    simp at hd hy; subst hd; subst hy
    exact ⟨Q, fun g q => ⟨h1 g q, fun q' => (q1 g q').2 q⟩, h2⟩
   | succ j =>
    obtain ⟨Q2, r1, r2⟩ := q3 j d' y' (by omega) (by simpa using hd) (by simpa using hy)
    exact ⟨Q2, fun g q => ⟨(r1 g q).1.1, (r1 g q).2⟩, r2⟩
 | _, [], _ :: _, h, _, _, _, _, _ => h.elim
 | _, _ :: _, [], h, _, _, _, _, _ => h.elim
end
theorem xb.kept : ∀ {n : Nat} {S : Nat → Prop} {X : List Nat} {w w' : World} {cs : List Value} {v : V n}, xb n S w cs v → zb X w w' → (∀ k, k ∈ X → ¬ S k) → xb n S w' cs v
 | 0, _, _, _, _, _, _, h, _, _ => h.elim
 | n + 1, S, X, w, w', cs, v, h, k, hX => by
  obtain ⟨vl, vm, lcs, mcs, h1, h2, h3, h4, h5, h6, h7, h8, h9⟩ := h
  exact ⟨vl, vm, lcs, mcs, h1, zh h2 k (fun g hg hx => hX g hx (h6 g hg)), zh h3 k (fun g hg hx => hX g hx (h7 g hg)), h4, h5, h6, h7,
   h8.imp (fun Q c x hq r => xb.kept r k (fun b hb q => hX b hb (hq b q).1)), h9⟩
theorem xb.kept0 {n : Nat} {S : Nat → Prop} {w w' : World} {cs : List Value} {v : V n} (h : xb n S w cs v) (k : zb [] w w') : xb n S w' cs v := h.kept k (by simp)
theorem vI {α : Type} {v : VS α} {lcs : List (List Value)} {mcs : List (ByteArray × List Value)} (h4 : lcs.length = v.l.length) {i : Nat} (hi : i < v.l.length) : (lcs ++ mcs.map (fun p => p.2))[i]? = lcs[i]? ∧ v.kids[i]? = v.l[i]? := by
 unfold VS.kids
 rw [List.getElem?_append_left (by omega), List.getElem?_append_left hi]
 exact ⟨rfl, rfl⟩
theorem vj {α : Type} {v : VS α} {lcs : List (List Value)} {mcs : List (ByteArray × List Value)} (h4 : lcs.length = v.l.length) (i : Nat) : (lcs ++ mcs.map (fun p => p.2))[v.l.length + i]? = (mcs[i]?).map (fun p => p.2) ∧ v.kids[v.l.length + i]? = (v.m[i]?).map (fun p => p.2) := by
 unfold VS.kids
 rw [List.getElem?_append_right (by omega), List.getElem?_append_right (by omega), h4, Nat.add_sub_cancel_left, List.getElem?_map, List.getElem?_map]
 exact ⟨rfl, rfl⟩
theorem jg {α : Type} {v : VS α} {mcs : List (ByteArray × List Value)} (h5 : mcs.map (fun p => p.1) = v.m.map (fun p => p.1)) : mcs.length = v.m.length := by
 have := congrArg List.length h5
 simpa using this
theorem vi {α : Type} {v : VS α} {mcs : List (ByteArray × List Value)} (h5 : mcs.map (fun p => p.1) = v.m.map (fun p => p.1)) {j : Nat} {p : ByteArray × List Value} {q : ByteArray × α} (hp : mcs[j]? = some p) (hq : v.m[j]? = some q) : p.1 = q.1 := by
 have := congrArg (fun l => l[j]?) h5
 simp only [List.getElem?_map, hp, hq, Option.map_some, Option.some.injEq] at this
 exact this
theorem xb.rep : ∀ {n : Nat} {S : Nat → Prop} {w : World} {cs : List Value} {v : V n}, xb n S w cs v → Rep n S w cs v
 | 0, _, _, _, _, h => h.elim
 | n + 1, S, w, cs, v, h => by
  obtain ⟨vl, vm, lcs, mcs, h1, h2, h3, h4, h5, h6, h7, h8, h9, h10⟩ := h
  exact ⟨vl, vm, lcs, mcs, {
   cells := h1
   slcl := Slc.of_row h2
   alll := ⟨h4, fun j c x hc hx => by
    have hj : j < (VS.l (α := V n) v).length := (List.getElem?_eq_some_iff.1 hx).1
    obtain ⟨e1, e2⟩ := vI (mcs := mcs) h4 hj
    obtain ⟨Q, q1, q2⟩ := h8.one j c x (e1.trans hc) (e2.trans hx)
    exact (xb.rep q2).mono (fun g _ q => (q1 g q).1)⟩
   slcm := Slc.of_row h3
   allm := ⟨jg h5, fun j p q hp hq => ⟨vi h5 hp hq, by
    obtain ⟨e1, e2⟩ := vj (v := v) (mcs := mcs) h4 j
    obtain ⟨Q, q1, q2⟩ := h8.one _ p.2 q.2 (e1.trans (by rw [hp]; rfl)) (e2.trans (by rw [hq]; rfl))
    exact (xb.rep q2).mono (fun g _ q => (q1 g q).1)⟩⟩
   inl := fun g hg => h6 g (zz hg)
   inm := fun g hg => h7 g (zz hg)
   wfk := h9
   wfn := h10 }⟩
structure CloneDL {n : Nat} (W : World) (b3 : Nat) (v : VS (V n)) (k : Nat) (wr : World) (vl : Value) (lcs : List (List Value)) : Prop where
 blk : wr.heap[b3]? = some (.cells (qj v.kind v.num v.s vl (.slice none 0 0)) 25 (0, 0))
 row : wr.ownsRow W.heap.size 25 5 vl k lcs.flatten
 all : z7 (fun Q c x => xb n Q wr c x) (fun g => W.heap.size ≤ g ∧ g < wr.heap.size ∧ vl.ownBlock ≠ some g) lcs (v.l.take k)
 kept : zb [b3] W wr
structure CloneDM {n : Nat} (W : World) (b3 : Nat) (v : VS (V n)) (vl : Value) (k : Nat) (wr : World) (vm : Value) (mcs : List (ByteArray × List Value)) : Prop where
 blk : wr.heap[b3]? = some (.cells (qj v.kind v.num v.s vl vm) 25 (0, 0))
 row : wr.ownsRow W.heap.size 60 6 vm k (zQ mcs)
 all : z7 (fun Q c x => xb n Q wr c x) (fun g => W.heap.size ≤ g ∧ g < wr.heap.size ∧ vm.ownBlock ≠ some g) (mcs.map (fun p => p.2)) ((v.m.take k).map (fun p => p.2))
 keys : mcs.map (fun p => p.1) = (v.m.take k).map (fun p => p.1)
 kept : zb [b3] W wr
def bu (n : Nat) : Prop := ∀ (v : V n) {S : Nat → Prop} {w : World} {cs : List Value}, Rep n S w cs v → zZ n v →
    Calls Tryz.prog 60 #[.agg cs.toArray] w fun e w' => (∃ cs' : List Value, e = .returned (.agg cs'.toArray) ∧ xb n (fun g => w.heap.size ≤ g ∧ g < w'.heap.size) w' cs' v) ∧ zb [] w w'
theorem cloneD_step {n : Nat} (known : bu n) : bu (n + 1) := fun (v : VS (V n)) {S} {w} {cs} h hs => by
  have Gd := qI h
  have Gr := qI hs
  obtain ⟨vl, vm, lcs, mcs, h⟩ := h
  obtain ⟨a, c, b, e, rfl, rfl, rfl⟩ := h.forms
  have H := qI h
  have IH := qI known
  have hlv : v.l.length ≤ 20000 := by have := hs.few; omega
  have hmv : v.m.length ≤ 20000 := by have := hs.few; omega
  obtain ⟨W0, Gs⟩ : ∃ W0, Hid (W0 = ((w.alloc (.cells #[.int .i64 v.kind, .int .i64 v.num, .string v.s, .slice a v.l.length c, .slice b v.m.length e] 25)).alloc (.cells #[.int .i64 0, .int .i64 0, .string ⟨#[]⟩, .slice none 0 0, .slice none 0 0] 25)).alloc (.cells #[.int .i64 v.kind, .int .i64 v.num, .string v.s, .slice none 0 0, .slice none 0 0] 25)) := ⟨_, qI rfl⟩
  have Jb : Hid (W0.heap.size = w.heap.size + 3) := qI (by rw [Gs.o]; simp)
  have Gq : Hid (zb [] w W0) := qI (by rw [Gs.o]; exact (((zb.refl [] w).alloc _).alloc _).alloc _)
  have Mr : Hid (W0.heap[w.heap.size]? = some (.cells (qj v.kind v.num v.s (.slice a v.l.length c) (.slice b v.m.length e)) 25 (0, 0))) := qI (by
   rw [Gs.o]; exact (((zb.refl [] _).alloc _).alloc _).heap (zn rfl) (by simp))
  have Ma : Hid (W0.heap[w.heap.size + 1]? = some (.cells #[.int .i64 0, .int .i64 0, .string ⟨#[]⟩, .slice none 0 0, .slice none 0 0] 25 (0, 0))) := qI (by
   rw [Gs.o]; exact ((zb.refl [] _).alloc _).heap (zn (by simp)) (by simp))
  have Ms : Hid (W0.heap[w.heap.size + 1 + 1]? = some (.cells (qj v.kind v.num v.s (.slice none 0 0) (.slice none 0 0)) 25 (0, 0))) := qI (by
   rw [Gs.o]; exact zn (by simp))
  obtain ⟨c0, c1, c2, c3, c4⟩ := yb w v.kind v.num v.s (.slice a v.l.length c) (.slice b v.m.length e) 25
  clear h hs
  go_enter func60, ntmps60
  go_wp2_with fail
  rw [← Gs.o]
  clear c0 c1 c2 c3 c4
  go_loopw [14] (fun i wr => ∃ (k : Nat) (vl : Value) (lcs' : List (List Value)), i = .int .i64 k ∧ k ≤ v.l.length ∧ CloneDL W0 (w.heap.size + 1 + 1) v k wr vl lcs') (fun i _ => v.l.length - (intOf i).toNat)
  case atStart =>
   exact ⟨0, .slice none 0 0, [], rfl, Nat.zero_le _, {
    blk := Ms.o
    row := World.ownsRow_nil _ _ _ _
    all := trivial
    kept := zb.refl _ _ }⟩
  case round =>
   obtain ⟨k, vk, lk, rfl, hk, hc⟩ := hrel
   have HC := qI hc
   have Gj : Hid (zb [] w wr) := qI (Gq.o.trans hc.kept (by intro i hi; simp at hi; subst hi; exact .inr (by omega)))
   clear hc
   by_cases hlt : k < v.l.length
   ·have hltI : (k : Int) < v.l.length := by omega
    obtain ⟨g, o, cap, kd, nm, st, a1, b1, he, q0, q1, q2, q3, q4, hr⟩ := H.o.at_l Gj.o k hlt
    simp only [Value.slice.injEq] at he
    obtain ⟨rfl, -, rfl⟩ := he
    obtain ⟨ak, ck, rfl, -, -⟩ := (Slc.of_row HC.o.row).form
    obtain ⟨p1, i1, d1, p2, i2, d2, rfl, rfl⟩ := hr.sl
    have HR := qI hr
    have Gl := qI (Gr.o.kid (xY (List.getElem_mem hlt)))
    have hb3 := HC.o.blk
    have f3 := za (o := 3) hb3 rfl
    clear hr hb3
    go_wp2_with fail
    have g3 := ((zb.refl [] wr).alloc (.cells #[.int .i64 kd, .int .i64 nm, .string st, .slice p1 i1 d1, .slice p2 i2 d2] 25)).cell f3 (by simp)
    obtain ⟨e0, e1, e2, e3, e4⟩ := yb wr kd nm st (.slice p1 i1 d1) (.slice p2 i2 d2) 25
    have Gk := qI ((zb.refl [] wr).alloc (.cells #[.int .i64 kd, .int .i64 nm, .string st, .slice p1 i1 d1, .slice p2 i2 d2] 25))
    have HE := qI (yb wr kd nm st (.slice p1 i1 d1) (.slice p2 i2 d2) 25)
    have hlt3 := HC.o.row.lt
    have hb3l : w.heap.size + 1 + 1 < wr.heap.size := lt_of_block HC.o.blk
    have Gz := qI hlt3
    clear hlt3 e0 e1 e2 e3 e4 q0 q1 q2 q3 q4
    refine zk (n := 8) (fun w' : World => w'.cell? ⟨w.heap.size + 1 + 1, 3, none⟩ = some (.slice ak k ck) ∧ z6 w' wr.heap.size kd nm st (.slice p1 i1 d1) (.slice p2 i2 d2)) 7 (by kernel_rfl) (by kernel_rfl) ?_
    have hSS : (fun w' : World => w'.cell? ⟨w.heap.size + 1 + 1, 3, none⟩ = some (.slice ak k ck) ∧ z6 w' wr.heap.size kd nm st (.slice p1 i1 d1) (.slice p2 i2 d2)) ((wr.alloc (.cells #[.int .i64 kd, .int .i64 nm, .string st, .slice p1 i1 d1, .slice p2 i2 d2] 25)).drew) := ⟨g3, HE.o.kept0 (zb.refl _ _).drew⟩
    have Gh : Hid (zb [] wr ((wr.alloc (.cells #[.int .i64 kd, .int .i64 nm, .string st, .slice p1 i1 d1, .slice p2 i2 d2] 25)).drew)) := qI Gk.o.drew
    have Ge : Hid (((wr.alloc (.cells #[.int .i64 kd, .int .i64 nm, .string st, .slice p1 i1 d1, .slice p2 i2 d2] 25)).drew).heap.size = wr.heap.size + 1) := qI (by simp)
    change zR _ _ _ _ _ _ _ _ _ ((wr.alloc (.cells #[.int .i64 kd, .int .i64 nm, .string st, .slice p1 i1 d1, .slice p2 i2 d2] 25)).drew)
    clear HE Gk g3
    revert hSS Gh Ge
    generalize (wr.alloc (.cells #[.int .i64 kd, .int .i64 nm, .string st, .slice p1 i1 d1, .slice p2 i2 d2] 25)).drew = W2
    intro hSS Gh Ge
    refine zx ?_
    intro O R hO hR
    have hQp : ∀ c a (d : Nat) v w, R (.panic c) (a.put (some d) v) w → R (.panic c) a w := by subst hR; exact fun _ _ _ _ _ h => h
    refine qT 0 ?_ hO rfl rfl (by kernel_rfl) hQp (fun w hSw => ?_) hSS ?_
    rotate_left
    ·go_simp; try with_reducible rfl
    try simp only [zA,zN,zB,zC,zD]
    refine qT 1 ?_ hO rfl rfl (by kernel_rfl) hQp (fun w hSw => ?_) hSS ?_
    rotate_left
    ·have s3 := hSw.1; go_simp; try with_reducible rfl
    try simp only [zA,zN,zB,zC,zD]
    refine qT 2 ?_ hO rfl rfl (by kernel_rfl) hQp (fun w hSw => ?_) hSS ?_
    rotate_left
    ·obtain ⟨s0, s1, s2, s3, s4⟩ := hSw.2; go_simp; try with_reducible rfl
    try simp only [zA,zN,zB,zC,zD]
    refine qO 3 hO rfl (by kernel_rfl) (fun K hK => ?_)
    go_simp
    refine Calls.mono (IH.o v.l[k] (HR.o.kept0 Gh.o) Gl.o) ?_
    rintro e w3 ⟨⟨cs', rfl, hown⟩, hk3⟩
    have hrep := hown.rep
    obtain ⟨k3, m3, s3, l3, r3, rfl⟩ := hrep.five
    obtain ⟨p3, i3, d3, p4, i4, d4, rfl, rfl⟩ := hrep.sl
    have Gt := qI hrep
    have Mc := qI hown
    have Gg := qI (Gh.o.trans' hk3)
    have hS3 : (fun w' : World => w'.cell? ⟨w.heap.size + 1 + 1, 3, none⟩ = some (.slice ak k ck) ∧ z6 w' wr.heap.size kd nm st (.slice p1 i1 d1) (.slice p2 i2 d2)) w3 := ⟨hk3.cell hSS.1 (by simp), hSS.2.kept0 hk3⟩
    have hsz3 := hk3.size
    clear hown hrep hk3
    refine hK _ _ (.inr hS3) ?_
    clear hK K
    try simp only [zA,zN,zB,zC,zD]
    clear hSS
    have hSS := hS3
    clear hS3
    refine qO 4 hO rfl (by kernel_rfl) (fun K hK => ?_)
    go_simp
    have Gf := qI ((zb.refl [] w3).alloc (.cells #[.int .i64 k3, .int .i64 m3, .string s3, .slice p3 i3 d3, .slice p4 i4 d4] 25))
    have Gc := qI (yL w3 [.int .i64 k3, .int .i64 m3, .string s3, .slice p3 i3 d3, .slice p4 i4 d4] 5 1 25 w3.heap.size rfl rfl (by decide))
    have hS4 : (fun w' : World => w'.cell? ⟨w.heap.size + 1 + 1, 3, none⟩ = some (.slice ak k ck) ∧ z6 w' wr.heap.size kd nm st (.slice p1 i1 d1) (.slice p2 i2 d2)) (w3.alloc (.cells #[.int .i64 k3, .int .i64 m3, .string s3, .slice p3 i3 d3, .slice p4 i4 d4] 25)) := ⟨Gf.o.cell hSS.1 (by simp), hSS.2.kept0 Gf.o⟩
    have Gm : Hid ((w3.alloc (.cells #[.int .i64 k3, .int .i64 m3, .string s3, .slice p3 i3 d3, .slice p4 i4 d4] 25)).heap.size = w3.heap.size + 1) := qI (by simp)
    refine hK _ _ (.inr hS4) ?_
    clear hK K
    try simp only [zA,zN,zB,zC,zD]
    clear hSS
    have hSS := hS4
    clear hS4
    revert hSS Gf Gc Gm
    generalize w3.alloc (.cells #[.int .i64 k3, .int .i64 m3, .string s3, .slice p3 i3 d3, .slice p4 i4 d4] 25) = w4
    intro Gf Gc Gm hSS
    have Gu := qI (zh HC.o.row (Gg.o.trans' Gf.o) (by simp))
    have Jg := qI hsz3
    clear hsz3
    refine qO 5 hO rfl (by kernel_rfl) (fun K hK => ?_)
    refine yp bj Gu.o Gc.o Gt.o.one (by simp only [maxLen]; omega) (by omega) (by have h1 := (Gg.o.trans' Gf.o).size; have h2 := HC.o.kept.size; omega) (.tmp 19) (.tmp 22) rfl rfl rfl ?_
    intro b5 d5 w5 hown5 hk5 hg5
    have hS5 : (fun w' : World => w'.cell? ⟨w.heap.size + 1 + 1, 3, none⟩ = some (.slice ak k ck) ∧ z6 w' wr.heap.size kd nm st (.slice p1 i1 d1) (.slice p2 i2 d2)) w5 := by
     refine ⟨hk5.cell hSS.1 (by intro hx; have := (Gz.o _ (Option.mem_toList.1 hx)).1; have h2 := Jb.o; simp at this; omega), hSS.2.kept hk5 (by intro hx; have := (Gz.o _ (Option.mem_toList.1 hx)).2; omega)⟩
    refine hK _ _ (.inr hS5) ?_
    clear hK K
    try simp only [zA,zN,zB,zC,zD]
    clear hSS
    have hSS := hS5
    clear hS5
    have Gi := qI hown5
    have Gv := qI hk5
    have Md := qI hg5
    clear hown5 hk5 hg5
    refine qO 6 hO rfl (by kernel_rfl) (fun K hK => ?_)
    go_simp
    refine hK _ _ (.inr hSS) ?_
    clear hK K
    try simp only [zA,zN,zB,zC,zD]
    have Jh : Hid (w5.heap[w.heap.size + 1 + 1]? = some (.cells (qj v.kind v.num v.s (.slice ak k ck) (.slice none 0 0)) 25 (0, 0))) := qI (Gv.o.heap ((Gg.o.trans' Gf.o).heap HC.o.blk (by simp)) (by intro hx; have := (Gz.o _ (Option.mem_toList.1 hx)).1; have h2 := Jb.o; omega))
    have hc5 := za (o := 3) Jh.o rfl
    have hf5 := zc (o := 3) Jh.o
    refine qO 7 hO rfl (by kernel_rfl) (fun K hK => ?_)
    go_simp
    refine hK _ _ (.inl rfl) ?_
    clear hK K
    try simp only [zA,zN,zB,zC,zD]
    refine zv hO (by kernel_rfl) ?_ _
    subst hR
    try clear hQp hO O
    clear hc5 hf5 hSS
    go_wp2_with fail
    case roundEnd =>
     have hz := Jb.o
     have hz2 := Ge.o
     have hz3 := Jg.o
     have hz4 := Gm.o
     have hlo := Gz.o
     have KX : zb ((w.heap.size + 1 + 1) :: (Value.slice ak k ck).ownBlock.toList) w4 (w5.setCell ⟨w.heap.size + 1 + 1, 3, none⟩ (.slice b5 (k + 1) d5)) := (Gv.o.mono (Y := (w.heap.size + 1 + 1) :: (Value.slice ak k ck).ownBlock.toList) (fun i hi => List.mem_cons_of_mem _ hi)).setCell (p := ⟨w.heap.size + 1 + 1, 3, none⟩) (.inl (List.mem_cons_self ..)) _
     have hz5 : ∀ g, (Value.slice b5 (k + 1) d5).ownBlock = some g → (Value.slice ak k ck).ownBlock = some g ∨ g = w4.heap.size := fun g hg => by
      rcases Md.o with h | h
      ·exact .inl (by rw [← h]; exact hg)
      ·exact .inr (by rw [hg] at h; exact Option.some.inj h)
     refine ⟨⟨k + 1, _, lk ++ [[.int .i64 k3, .int .i64 m3, .string s3, .slice p3 i3 d3, .slice p4 i4 d4]], by go_num, by omega, {
      blk := zf Jh.o rfl
      row := ?_
      all := ?_
      kept := ?_ }⟩, by simp [intOf]; omega⟩
     ·rw [List.flatten_append]
      simp only [List.flatten_cons, List.flatten_nil, List.append_nil]
      exact zh Gi.o ((zb.refl [w.heap.size + 1 + 1] w5).setCell (.inl (by simp)) _) (by
       intro g hg hx
       simp at hx
       have := (Gi.o.lt g hg).1
       omega)
     ·rw [List.take_succ_eq_append_getElem hlt]
      have KA := (((Gg.o.trans' Gf.o).mono (Y := (w.heap.size + 1 + 1) :: (Value.slice ak k ck).ownBlock.toList) (by simp)).trans' KX)
      have KB := ((Gf.o.mono (Y := (w.heap.size + 1 + 1) :: (Value.slice ak k ck).ownBlock.toList) (by simp)).trans' KX)
      have hs1 := KX.size
      refine ((HC.o.all.imp (fun Q c x hq r => r.kept KA (fun b hb hqb => ?_))).snoc (Mc.o.kept KB (fun b hb hqb => ?_)) (fun g q p => ?_)).mono (fun g q => ?_)
      ·obtain ⟨h0, h1, h2⟩ := hq b hqb
       rcases List.mem_cons.1 hb with rfl | hb
       ·omega
       ·exact h2 (Option.mem_toList.1 hb)
      ·rcases List.mem_cons.1 hb with rfl | hb
       ·have := HC.o.kept.size; omega
       ·have := (hlo b (Option.mem_toList.1 hb)).2; omega
      ·omega
      ·have hz0 := HC.o.kept.size
       rcases q with ⟨h0, h1, h2⟩ | ⟨h0, h1⟩
       ·refine ⟨h0, by omega, fun h3 => ?_⟩
        rcases hz5 g h3 with h4 | h4
        ·exact h2 h4
        ·omega
       ·refine ⟨by omega, by omega, fun h3 => ?_⟩
        rcases hz5 g h3 with h4 | h4
        ·have := (hlo g h4).2; omega
        ·omega
     ·exact ((HC.o.kept.then (Gg.o.trans' Gf.o)).trans Gv.o (fun i hi => .inr (hlo i (Option.mem_toList.1 hi)).1)).setCell (.inl (by simp)) _
   ·obtain rfl : k = v.l.length := by omega
    obtain ⟨WL, rfl⟩ : ∃ x, x = wr := ⟨_, rfl⟩
    have Je := qI HC.o
    have Jt := qI Gj.o
    have Gn : Hid (w.heap.size + 3 ≤ WL.heap.size) := qI (by have h1 := HC.o.kept.size; have h2 := Jb.o; omega)
    have Mt : Hid (WL.heap[w.heap.size]? = some (.cells (qj v.kind v.num v.s (.slice a v.l.length c) (.slice b v.m.length e)) 25 (0, 0))) := qI (HC.o.kept.heap Mr.o (by simp; omega))
    obtain ⟨vL, rfl⟩ : ∃ x, x = vk := ⟨_, rfl⟩
    obtain ⟨lL, rfl⟩ : ∃ x, x = lk := ⟨_, rfl⟩
    have hb4 := za (o := 4) (v := .slice b v.m.length e) Mt.o rfl
    go_wp2_with fail
    clear hb4 HC Gj
    go_loopw [29] (fun i wr => ∃ (k : Nat) (vm : Value) (mc : List (ByteArray × List Value)), i = .int .i64 k ∧ k ≤ v.m.length ∧ CloneDM WL (w.heap.size + 1 + 1) v vL k wr vm mc) (fun i _ => v.m.length - (intOf i).toNat)
    case atStart =>
     exact ⟨0, .slice none 0 0, [], rfl, Nat.zero_le _, {
      blk := Je.o.blk
      row := World.ownsRow_nil _ _ _ _
      all := trivial
      keys := rfl
      kept := zb.refl _ _ }⟩
    case round =>
     obtain ⟨k, vk, lk, rfl, hk, hc⟩ := hrel
     have HC := qI hc
     have Gj : Hid (zb [] w wr) := qI (Jt.o.trans hc.kept (by intro i hi; simp at hi; subst hi; exact .inr (by omega)))
     clear hc
     by_cases hlt : k < v.m.length
     ·have hltI : (k : Int) < v.m.length := by omega
      obtain ⟨g, o, cap, kd, nm, st, a1, b1, he, q0, q1, q2, q3, q4, q5, hr⟩ := H.o.at_m Gj.o k hlt
      simp only [Value.slice.injEq] at he
      obtain ⟨rfl, -, rfl⟩ := he
      obtain ⟨ak, ck, rfl, -, -⟩ := (Slc.of_row HC.o.row).form
      obtain ⟨p1, i1, d1, p2, i2, d2, rfl, rfl⟩ := hr.sl
      have HR := qI hr
      have Gl := qI (Gr.o.kid (xV (List.getElem_mem hlt)))
      have hb3 := HC.o.blk
      have f3 := za (o := 4) hb3 rfl
      clear hr hb3
      generalize hkey : v.m[k].1 = key at q0
      have Me := qI hkey
      clear hkey
      go_wp2_with fail
      have g3 := ((zb.refl [] wr).alloc (.cells #[.string key, .int .i64 kd, .int .i64 nm, .string st, .slice p1 i1 d1, .slice p2 i2 d2] 60)).cell f3 (by simp)
      have Gk := qI ((zb.refl [] wr).alloc (.cells #[.string key, .int .i64 kd, .int .i64 nm, .string st, .slice p1 i1 d1, .slice p2 i2 d2] 60))
      have HE := qI (pbox_at (w := wr) rfl key kd nm st (.slice p1 i1 d1) (.slice p2 i2 d2) 60)
      have hlt3 := HC.o.row.lt
      have hb3l : w.heap.size + 1 + 1 < wr.heap.size := lt_of_block HC.o.blk
      have Gz := qI hlt3
      clear hlt3 q0 q1 q2 q3 q4 q5
      refine zk (n := 12) (fun w' : World => w'.cell? ⟨w.heap.size + 1 + 1, 4, none⟩ = some (.slice ak k ck) ∧ kz w' wr.heap.size key kd nm st (.slice p1 i1 d1) (.slice p2 i2 d2)) 11 (by kernel_rfl) (by kernel_rfl) ?_
      have hSS : (fun w' : World => w'.cell? ⟨w.heap.size + 1 + 1, 4, none⟩ = some (.slice ak k ck) ∧ kz w' wr.heap.size key kd nm st (.slice p1 i1 d1) (.slice p2 i2 d2)) ((wr.alloc (.cells #[.string key, .int .i64 kd, .int .i64 nm, .string st, .slice p1 i1 d1, .slice p2 i2 d2] 60)).drew) := ⟨g3, HE.o.kept0 (zb.refl _ _).drew⟩
      have Gh : Hid (zb [] wr ((wr.alloc (.cells #[.string key, .int .i64 kd, .int .i64 nm, .string st, .slice p1 i1 d1, .slice p2 i2 d2] 60)).drew)) := qI Gk.o.drew
      have Ge : Hid (((wr.alloc (.cells #[.string key, .int .i64 kd, .int .i64 nm, .string st, .slice p1 i1 d1, .slice p2 i2 d2] 60)).drew).heap.size = wr.heap.size + 1) := qI (by simp)
      change zR _ _ _ _ _ _ _ _ _ ((wr.alloc (.cells #[.string key, .int .i64 kd, .int .i64 nm, .string st, .slice p1 i1 d1, .slice p2 i2 d2] 60)).drew)
      clear HE Gk g3
      revert hSS Gh Ge
      generalize (wr.alloc (.cells #[.string key, .int .i64 kd, .int .i64 nm, .string st, .slice p1 i1 d1, .slice p2 i2 d2] 60)).drew = W2
      intro hSS Gh Ge
      refine zx ?_
      intro O R hO hR
      have hQp : ∀ c a (d : Nat) v w, R (.panic c) (a.put (some d) v) w → R (.panic c) a w := by subst hR; exact fun _ _ _ _ _ h => h
      refine qT 0 ?_ hO rfl rfl (by kernel_rfl) hQp (fun w hSw => ?_) hSS ?_
      rotate_left
      ·go_simp; try with_reducible rfl
      try simp only [zA,zN,zB,zC,zD]
      refine qT 1 ?_ hO rfl rfl (by kernel_rfl) hQp (fun w hSw => ?_) hSS ?_
      rotate_left
      ·have s3 := hSw.1; go_simp; try with_reducible rfl
      try simp only [zA,zN,zB,zC,zD]
      refine qT 2 ?_ hO rfl rfl (by kernel_rfl) hQp (fun w hSw => ?_) hSS ?_
      rotate_left
      ·obtain ⟨s0, s1, s2, s3, s4, s5⟩ := hSw.2; go_simp; try with_reducible rfl
      try simp only [zA,zN,zB,zC,zD]
      refine qT 3 ?_ hO rfl rfl (by kernel_rfl) hQp (fun w hSw => ?_) hSS ?_
      rotate_left
      ·obtain ⟨s0, s1, s2, s3, s4, s5⟩ := hSw.2; go_simp; try with_reducible rfl
      try simp only [zA,zN,zB,zC,zD]
      refine qT 4 ?_ hO rfl rfl (by kernel_rfl) hQp (fun w hSw => ?_) hSS ?_
      rotate_left
      ·obtain ⟨s0, s1, s2, s3, s4, s5⟩ := hSw.2; go_simp; try with_reducible rfl
      try simp only [zA,zN,zB,zC,zD]
      refine qT 5 ?_ hO rfl rfl (by kernel_rfl) hQp (fun w hSw => ?_) hSS ?_
      rotate_left
      ·obtain ⟨s0, s1, s2, s3, s4, s5⟩ := hSw.2; go_simp; try with_reducible rfl
      try simp only [zA,zN,zB,zC,zD]
      refine qO 6 hO rfl (by kernel_rfl) (fun K hK => ?_)
      go_simp
      refine Calls.mono (IH.o v.m[k].2 (HR.o.kept0 Gh.o) Gl.o) ?_
      rintro e w3 ⟨⟨cs', rfl, hown⟩, hk3⟩
      have hrep := hown.rep
      obtain ⟨k3, m3, s3, l3, r3, rfl⟩ := hrep.five
      obtain ⟨p3, i3, d3, p4, i4, d4, rfl, rfl⟩ := hrep.sl
      have Gt := qI hrep
      have Mc := qI hown
      have Gg := qI (Gh.o.trans' hk3)
      have hS3 : (fun w' : World => w'.cell? ⟨w.heap.size + 1 + 1, 4, none⟩ = some (.slice ak k ck) ∧ kz w' wr.heap.size key kd nm st (.slice p1 i1 d1) (.slice p2 i2 d2)) w3 := ⟨hk3.cell hSS.1 (by simp), hSS.2.kept0 hk3⟩
      have hsz3 := hk3.size
      clear hown hrep hk3
      refine hK _ _ (.inr hS3) ?_
      clear hK K
      try simp only [zA,zN,zB,zC,zD]
      clear hSS
      have hSS := hS3
      clear hS3
      refine qO 7 hO rfl (by kernel_rfl) (fun K hK => ?_)
      go_simp
      refine hK _ _ (.inr hSS) ?_
      clear hK K
      try simp only [zA,zN,zB,zC,zD]
      refine qO 8 hO rfl (by kernel_rfl) (fun K hK => ?_)
      go_simp
      have Gf := qI ((zb.refl [] w3).alloc (.cells #[.string key, .int .i64 k3, .int .i64 m3, .string s3, .slice p3 i3 d3, .slice p4 i4 d4] 60))
      have Gc := qI (yL w3 [.string key, .int .i64 k3, .int .i64 m3, .string s3, .slice p3 i3 d3, .slice p4 i4 d4] 6 1 60 w3.heap.size rfl rfl (by decide))
      have hS4 : (fun w' : World => w'.cell? ⟨w.heap.size + 1 + 1, 4, none⟩ = some (.slice ak k ck) ∧ kz w' wr.heap.size key kd nm st (.slice p1 i1 d1) (.slice p2 i2 d2)) (w3.alloc (.cells #[.string key, .int .i64 k3, .int .i64 m3, .string s3, .slice p3 i3 d3, .slice p4 i4 d4] 60)) := ⟨Gf.o.cell hSS.1 (by simp), hSS.2.kept0 Gf.o⟩
      have Gm : Hid ((w3.alloc (.cells #[.string key, .int .i64 k3, .int .i64 m3, .string s3, .slice p3 i3 d3, .slice p4 i4 d4] 60)).heap.size = w3.heap.size + 1) := qI (by simp)
      refine hK _ _ (.inr hS4) ?_
      clear hK K
      try simp only [zA,zN,zB,zC,zD]
      clear hSS
      have hSS := hS4
      clear hS4
      revert hSS Gf Gc Gm
      generalize w3.alloc (.cells #[.string key, .int .i64 k3, .int .i64 m3, .string s3, .slice p3 i3 d3, .slice p4 i4 d4] 60) = w4
      intro Gf Gc Gm hSS
      have Gu := qI (zh HC.o.row (Gg.o.trans' Gf.o) (by simp))
      have Jg := qI hsz3
      clear hsz3
      refine qO 9 hO rfl (by kernel_rfl) (fun K hK => ?_)
      refine yp kD Gu.o Gc.o (by intro u hu; rcases List.mem_cons.1 hu with rfl | hu <;> first | rfl | exact Gt.o.one u hu) (by simp only [maxLen]; omega) (by omega) (by have h1 := (Gg.o.trans' Gf.o).size; have h2 := HC.o.kept.size; omega) (.tmp 34) (.tmp 41) rfl rfl rfl ?_
      intro b5 d5 w5 hown5 hk5 hg5
      have hS5 : (fun w' : World => w'.cell? ⟨w.heap.size + 1 + 1, 4, none⟩ = some (.slice ak k ck) ∧ kz w' wr.heap.size key kd nm st (.slice p1 i1 d1) (.slice p2 i2 d2)) w5 := by
       refine ⟨hk5.cell hSS.1 (by intro hx; have := (Gz.o _ (Option.mem_toList.1 hx)).1; have h2 := Gn.o; simp at this; omega), hSS.2.kept hk5 (by intro hx; have := (Gz.o _ (Option.mem_toList.1 hx)).2; omega)⟩
      refine hK _ _ (.inr hS5) ?_
      clear hK K
      try simp only [zA,zN,zB,zC,zD]
      clear hSS
      have hSS := hS5
      clear hS5
      have Gi := qI hown5
      have Gv := qI hk5
      have Md := qI hg5
      clear hown5 hk5 hg5
      refine qO 10 hO rfl (by kernel_rfl) (fun K hK => ?_)
      go_simp
      refine hK _ _ (.inr hSS) ?_
      clear hK K
      try simp only [zA,zN,zB,zC,zD]
      have Jh : Hid (w5.heap[w.heap.size + 1 + 1]? = some (.cells (qj v.kind v.num v.s vL (.slice ak k ck)) 25 (0, 0))) := qI (Gv.o.heap ((Gg.o.trans' Gf.o).heap HC.o.blk (by simp)) (by intro hx; have := (Gz.o _ (Option.mem_toList.1 hx)).1; have h2 := Gn.o; omega))
      have hc5 := za (o := 4) Jh.o rfl
      have hf5 := zc (o := 4) Jh.o
      refine qO 11 hO rfl (by kernel_rfl) (fun K hK => ?_)
      go_simp
      refine hK _ _ (.inl rfl) ?_
      clear hK K
      try simp only [zA,zN,zB,zC,zD]
      refine zv hO (by kernel_rfl) ?_ _
      subst hR
      try clear hQp hO O
      clear hc5 hf5 hSS
      go_wp2_with fail
      case roundEnd =>
       have hz := Gn.o
       have hz2 := Ge.o
       have hz3 := Jg.o
       have hz4 := Gm.o
       have hlo := Gz.o
       have KX : zb ((w.heap.size + 1 + 1) :: (Value.slice ak k ck).ownBlock.toList) w4 (w5.setCell ⟨w.heap.size + 1 + 1, 4, none⟩ (.slice b5 (k + 1) d5)) := (Gv.o.mono (Y := (w.heap.size + 1 + 1) :: (Value.slice ak k ck).ownBlock.toList) (fun i hi => List.mem_cons_of_mem _ hi)).setCell (p := ⟨w.heap.size + 1 + 1, 4, none⟩) (.inl (List.mem_cons_self ..)) _
       have hz5 : ∀ g, (Value.slice b5 (k + 1) d5).ownBlock = some g → (Value.slice ak k ck).ownBlock = some g ∨ g = w4.heap.size := fun g hg => by
        rcases Md.o with h | h
        ·exact .inl (by rw [← h]; exact hg)
        ·exact .inr (by rw [hg] at h; exact Option.some.inj h)
       refine ⟨⟨k + 1, _, lk ++ [(key, [.int .i64 k3, .int .i64 m3, .string s3, .slice p3 i3 d3, .slice p4 i4 d4])], by go_num, by omega, {
        blk := zf Jh.o rfl
        row := ?_
        all := ?_
        keys := ?_
        kept := ?_ }⟩, by simp [intOf]; omega⟩
       ·rw [show zQ (lk ++ [(key, [.int .i64 k3, .int .i64 m3, .string s3, .slice p3 i3 d3, .slice p4 i4 d4])]) = zQ lk ++ [.string key, .int .i64 k3, .int .i64 m3, .string s3, .slice p3 i3 d3, .slice p4 i4 d4] by simp [zQ, zM]]
        exact zh Gi.o ((zb.refl [w.heap.size + 1 + 1] w5).setCell (.inl (by simp)) _) (by
         intro g hg hx
         simp at hx
         have := (Gi.o.lt g hg).1
         omega)
       ·rw [List.take_succ_eq_append_getElem hlt, List.map_append, List.map_append]
        have KA := (((Gg.o.trans' Gf.o).mono (Y := (w.heap.size + 1 + 1) :: (Value.slice ak k ck).ownBlock.toList) (by simp)).trans' KX)
        have KB := ((Gf.o.mono (Y := (w.heap.size + 1 + 1) :: (Value.slice ak k ck).ownBlock.toList) (by simp)).trans' KX)
        have hs1 := KX.size
        refine ((HC.o.all.imp (fun Q c x hq r => r.kept KA (fun b hb hqb => ?_))).snoc (Mc.o.kept KB (fun b hb hqb => ?_)) (fun g q p => ?_)).mono (fun g q => ?_)
        ·obtain ⟨h0, h1, h2⟩ := hq b hqb
         rcases List.mem_cons.1 hb with rfl | hb
         ·omega
         ·exact h2 (Option.mem_toList.1 hb)
        ·rcases List.mem_cons.1 hb with rfl | hb
         ·have := HC.o.kept.size; omega
         ·have := (hlo b (Option.mem_toList.1 hb)).2; omega
        ·omega
        ·have hz0 := HC.o.kept.size
         rcases q with ⟨h0, h1, h2⟩ | ⟨h0, h1⟩
         ·refine ⟨h0, by omega, fun h3 => ?_⟩
          rcases hz5 g h3 with h4 | h4
          ·exact h2 h4
          ·omega
         ·refine ⟨by omega, by omega, fun h3 => ?_⟩
          rcases hz5 g h3 with h4 | h4
          ·have := (hlo g h4).2; omega
          ·omega
       ·rw [List.take_succ_eq_append_getElem hlt, List.map_append, List.map_append, HC.o.keys]
        simp [Me.o]
       ·exact ((HC.o.kept.then (Gg.o.trans' Gf.o)).trans Gv.o (fun i hi => .inr (hlo i (Option.mem_toList.1 hi)).1)).setCell (.inl (by simp)) _
     ·obtain rfl : k = v.m.length := by omega
      have hbc := HC.o.blk
      have d0 := za (o := 0) (v := .int .i64 v.kind) hbc rfl
      have d1 := za (o := 1) (v := .int .i64 v.num) hbc rfl
      have d2 := za (o := 2) (v := .string v.s) hbc rfl
      have d3 := za (o := 3) (v := vL) hbc rfl
      have d4 := za (o := 4) (v := vk) hbc rfl
      have hbr := HC.o.kept.heap (Je.o.kept.heap Ma.o (by simp)) (by simp)
      obtain ⟨aL, cL, rfl, -, -⟩ := (Slc.of_row Je.o.row).form
      obtain ⟨aM, cM, rfl, -, -⟩ := (Slc.of_row HC.o.row).form
      have r0 := za (o := 0) (v := .int .i64 0) hbr rfl
      have r1 := za (o := 1) (v := .int .i64 0) hbr rfl
      have r2 := za (o := 2) (v := .string ⟨#[]⟩) hbr rfl
      have r3 := za (o := 3) (v := .slice none 0 0) hbr rfl
      have r4 := za (o := 4) (v := .slice none 0 0) hbr rfl
      have s0 := zc (o := 0) hbr
      have s1 := zc (o := 1) hbr
      have s2 := zc (o := 2) hbr
      have s3 := zc (o := 3) hbr
      have s4 := zc (o := 4) hbr
      clear hbc hbr
      go_wp2_with fail
      have KF : zb [w.heap.size + 1] wr (((((wr.setCell ⟨w.heap.size + 1, 0, none⟩ (.int .i64 v.kind)).setCell ⟨w.heap.size + 1, 1, none⟩ (.int .i64 v.num)).setCell ⟨w.heap.size + 1, 2, none⟩ (.string v.s)).setCell ⟨w.heap.size + 1, 3, none⟩ (.slice aL v.l.length cL)).setCell ⟨w.heap.size + 1, 4, none⟩ (.slice aM v.m.length cM)) :=
       (((((zb.refl _ _).setCell (p := ⟨w.heap.size + 1, 0, none⟩) (.inl (by simp)) _).setCell (p := ⟨w.heap.size + 1, 1, none⟩) (.inl (by simp)) _).setCell (p := ⟨w.heap.size + 1, 2, none⟩) (.inl (by simp)) _).setCell (p := ⟨w.heap.size + 1, 3, none⟩) (.inl (by simp)) _).setCell (p := ⟨w.heap.size + 1, 4, none⟩) (.inl (by simp)) _
      have hbf := zf (v := .slice aM v.m.length cM) (i := 4) (zf (v := .slice aL v.l.length cL) (i := 3) (zf (v := .string v.s) (i := 2) (zf (v := .int .i64 v.num) (i := 1) (zf (v := .int .i64 v.kind) (i := 0) (HC.o.kept.heap (Je.o.kept.heap Ma.o (by simp)) (by simp)) rfl) rfl) rfl) rfl) rfl
      have x0 := za (o := 0) (v := .int .i64 v.kind) hbf rfl
      have x1 := za (o := 1) (v := .int .i64 v.num) hbf rfl
      have x2 := za (o := 2) (v := .string v.s) hbf rfl
      have x3 := za (o := 3) (v := .slice aL v.l.length cL) hbf rfl
      have x4 := za (o := 4) (v := .slice aM v.m.length cM) hbf rfl
      clear hbf d0 d1 d2 d3 d4 r0 r1 r2 r3 r4 s0 s1 s2 s3 s4
      revert KF x0 x1 x2 x3 x4
      generalize ((((wr.setCell ⟨w.heap.size + 1, 0, none⟩ (.int .i64 v.kind)).setCell ⟨w.heap.size + 1, 1, none⟩ (.int .i64 v.num)).setCell ⟨w.heap.size + 1, 2, none⟩ (.string v.s)).setCell ⟨w.heap.size + 1, 3, none⟩ (.slice aL v.l.length cL)).setCell ⟨w.heap.size + 1, 4, none⟩ (.slice aM v.m.length cM) = WF
      intro KF x0 x1 x2 x3 x4
      have hzl := Gn.o
      have hz0 := Jb.o
      have hLlt := Je.o.row.lt
      have hMlt := HC.o.row.lt
      have hkl := HC.o.kept.size
      have KLM : zb [w.heap.size + 1, w.heap.size + 1 + 1] WL WF := (HC.o.kept.mono (by simp)).trans' (KF.mono (by simp))
      refine bodyPost_ret (v := .agg #[.int .i64 v.kind, .int .i64 v.num, .string v.s, .slice aL v.l.length cL, .slice aM v.m.length cM]) (by simp [results, results60, go_sem, x0, x1, x2, x3, x4]) rfl ⟨⟨[.int .i64 v.kind, .int .i64 v.num, .string v.s, .slice aL v.l.length cL, .slice aM v.m.length cM], rfl, _, _, lL, lk, rfl, ?_, ?_, ?_, ?_, ?_, ?_, ?_, H.o.wfk, H.o.wfn⟩, ?_⟩
      ·exact y8 (zh Je.o.row KLM (fun g hg hx => by have := hLlt g hg; simp at hx; omega)) (fun _ _ => Nat.zero_le _)
      ·exact y8 (zh HC.o.row KF (fun g hg hx => by have := hMlt g hg; simp at hx; omega)) (fun _ _ => Nat.zero_le _)
      ·have := Je.o.all.len
       rwa [List.take_length] at this
      ·have := HC.o.keys
       rwa [List.take_length] at this
      ·intro g hg
       have := hLlt g hg
       have := KLM.size
       exact ⟨by omega, by omega⟩
      ·intro g hg
       have := hMlt g hg
       have := KF.size
       exact ⟨by omega, by omega⟩
      ·have h1 := Je.o.all
       have h2 := HC.o.all
       rw [List.take_length] at h1 h2
       have hs1 := KLM.size
       have hs2 := KF.size
       refine (z7.app (h1.imp (fun Q c x hq r => r.kept KLM (fun b hb hqb => ?_))) (h2.imp (fun Q c x hq r => r.kept KF (fun b hb hqb => ?_))) (fun g q p => ?_)).mono (fun g q => ?_)
       ·have := hq b hqb
        simp at hb
        omega
       ·have := hq b hqb
        simp at hb
        omega
       ·omega
       ·rcases q with ⟨h0, h1, h2⟩ | ⟨h0, h1, h2⟩
        ·exact ⟨⟨by omega, by omega⟩, h2, fun h4 => by have := (hMlt g h4).1; omega⟩
        ·exact ⟨⟨by omega, by omega⟩, fun h4 => by have := (hLlt g h4).2; omega, h2⟩
      ·exact Jt.o.trans KLM (fun i hi => by simp at hi; omega)
theorem Kg : ∀ (n : Nat), bu n
 | 0 => fun v {_} {_} {_} h _ => h.elim
 | n + 1 => cloneD_step (Kg n)
theorem Zm : ∀ (n : Nat) (v : V n) {S : Nat → Prop} {w : World} {cs : List Value}, Rep n S w cs v → zZ n v →
  Calls Tryz.prog 60 #[.agg cs.toArray] w fun e w' => (∃ cs' : List Value, e = .returned (.agg cs'.toArray) ∧ xb n (fun g => w.heap.size ≤ g ∧ g < w'.heap.size) w' cs' v) ∧ zb [] w w' := fun n => Kg n
theorem xb.own : ∀ {n : Nat} {S : Nat → Prop} {B : Nat} {w : World} {cs : List Value} {v : V n}, xb n S w cs v → (∀ g, S g → B ≤ g) → yS n B w cs v
 | 0, _, _, _, _, _, h, _ => h.elim
 | n + 1, S, B, w, cs, v, h, hS => by
  obtain ⟨vl, vm, lcs, mcs, h1, h2, h3, h4, h5, h6, h7, h8, h9⟩ := h
  refine ⟨vl, vm, lcs, mcs, h1, y8 h2 (fun g hg => hS g (h6 g hg)), ⟨h4, fun j c x hc hx => ?_⟩, y8 h3 (fun g hg => hS g (h7 g hg)), ⟨jg h5, fun j p q hp hq => ⟨vi h5 hp hq, ?_⟩⟩, h9⟩
  ·have hj : j < (VS.l (α := V n) v).length := (List.getElem?_eq_some_iff.1 hx).1
   obtain ⟨e1, e2⟩ := vI (mcs := mcs) h4 hj
   obtain ⟨Q, q1, q2⟩ := h8.one j c x (e1.trans hc) (e2.trans hx)
   exact (xb.rep q2).mono (fun g _ q => ⟨hS g (q1 g q).1, (q1 g q).2⟩)
  ·obtain ⟨e1, e2⟩ := vj (v := v) (mcs := mcs) h4 j
   obtain ⟨Q, q1, q2⟩ := h8.one _ p.2 q.2 (e1.trans (by rw [hp]; rfl)) (e2.trans (by rw [hq]; rfl))
   exact (xb.rep q2).mono (fun g _ q => ⟨hS g (q1 g q).1, (q1 g q).2⟩)
theorem JW : ∀ (n : Nat) (v : V n) {S : Nat → Prop} {w : World} {cs : List Value}, Rep n S w cs v → zZ n v →
  Calls Tryz.prog 60 #[.agg cs.toArray] w fun e w' => (∃ cs' : List Value, e = .returned (.agg cs'.toArray) ∧ yS n w.heap.size w' cs' v) ∧ zb [] w w' := fun n v {_} {_} {_} h hs => (Zm n v h hs).mono fun _ _ ⟨⟨cs', e, ho⟩, hk⟩ => ⟨⟨cs', e, ho.own (fun _ hg => hg.1)⟩, hk⟩
open Go.Sort (grow flatK size_flatK get_flatK putRowK HoldsK)
theorem Z0 : ∀ (l m : List UInt8), Op.bytesLess l m = decide (l < m)
 | [], [] => by simp [Op.bytesLess]
 | _ :: _, [] => by simp [Op.bytesLess]
 | [], _ :: _ => by simp [Op.bytesLess]
 | a :: x, b :: y => by
  have ih := Z0 x y
  unfold Op.bytesLess
  rw [ih, Bool.eq_iff_iff]
  simp only [Bool.or_eq_true, Bool.and_eq_true, decide_eq_true_eq, beq_iff_eq, List.cons_lt_cons_iff]
theorem yc.perm {α β : Type} {R : α → β → Prop} : ∀ {xs xs' : List α} {ys : List β}, yc R xs ys → xs'.Perm xs → ∃ ys', ys'.Perm ys ∧ yc R xs' ys' := by
 intro xs xs' ys h hp
 induction hp generalizing ys with
 | nil => exact ⟨ys, List.Perm.refl _, h⟩
 | cons x _ ih =>
  match ys, h with
  | [], h => exact absurd h.1 (by simp)
  | y :: ys, h =>
   obtain ⟨zs, h1, h2⟩ := ih (ys := ys) ⟨by simpa using h.1, fun j a b ha hb => h.2 (j + 1) a b (by simpa using ha) (by simpa using hb)⟩
   exact ⟨y :: zs, h1.cons y, h2.cons (h.2 0 _ _ rfl rfl)⟩
 | swap x z l =>
  match ys, h with
  | [], h => exact absurd h.1 (by simp)
  | [_], h => exact absurd h.1 (by simp)
  | y1 :: y2 :: ys, h =>
   refine ⟨y2 :: y1 :: ys, List.Perm.swap .., ?_⟩
   have h0 : yc R l ys := ⟨by simpa using h.1, fun j a b ha hb => h.2 (j + 2) a b (by simpa using ha) (by simpa using hb)⟩
   exact yc.cons (h.2 1 _ _ rfl rfl) (yc.cons (h.2 0 _ _ rfl rfl) h0)
 | trans _ _ ih1 ih2 =>
  obtain ⟨z1, p1, h1⟩ := ih2 h
  obtain ⟨z2, p2, h2⟩ := ih1 h1
  exact ⟨z2, p2.trans p1, h2⟩
theorem flat_set {size : Nat} (ls : List (List Value)) (i : Nat) (c : List Value) (h : ∀ x, x ∈ ls → x.length = size) (hc : c.length = size) (j : Nat) :
  (ls.set i c).flatten[j]? = if i < ls.length ∧ i * size ≤ j ∧ j < i * size + size then c[j - i * size]? else ls.flatten[j]? := by
 induction ls generalizing i j with
 | nil => simp
 | cons x ls ih =>
  have hx := h x (List.mem_cons_self ..)
  cases i with
  | zero =>
   simp only [List.set_cons_zero, List.flatten_cons, Nat.zero_mul, Nat.zero_le, true_and, Nat.zero_add, Nat.sub_zero, List.length_cons, Nat.zero_lt_succ]
   by_cases hj : j < size
   ·rw [if_pos hj, List.getElem?_append_left (by omega)]
   ·rw [if_neg hj, List.getElem?_append_right (by omega), List.getElem?_append_right (by omega), hc, hx]
  | succ i =>
   simp only [List.set_cons_succ, List.flatten_cons, List.length_cons]
   have e : (i + 1) * size = i * size + size := by rw [Nat.add_mul, Nat.one_mul]
   by_cases hj : j < size
   ·rw [List.getElem?_append_left (by omega), List.getElem?_append_left (by omega), if_neg (by omega)]
   ·rw [List.getElem?_append_right (by omega), List.getElem?_append_right (by omega), ih i (fun y hy => h y (List.mem_cons_of_mem _ hy)), hx, e]
    by_cases q : i < ls.length ∧ i * size ≤ j - size ∧ j - size < i * size + size
    ·rw [if_pos q, if_pos (by omega), show j - (i * size + size) = j - size - i * size by omega]
    ·rw [if_neg q, if_neg (by omega)]
theorem yn {w : World} {base e size n : Nat} {v : Value} {ls : List (List Value)} {i g : Nat} {c : List Value} (h : w.ownsRow base e size v n ls.flatten) (hls : ∀ x, x ∈ ls → x.length = size) (hv : v.ownBlock = some g) (hn : ls.length = n) (hi : i < n) (hc : c.length = size) :
  (w.setCells g (i * size) c).ownsRow base e size v n (ls.set i c).flatten ∧ w.there g (i * size) size ∧ zb [g] w (w.setCells g (i * size) c) := by
 obtain ⟨h1, h2⟩ := h
 rcases h2 with ⟨rfl, _⟩ | ⟨g', cap, cur, rfl, hb, hh, hcap, hm, hs, ht⟩
 ·simp [Value.ownBlock] at hv
 ·simp [Value.ownBlock] at hv
  subst hv
  have hfl := qD ls hls
  have hsz : (i + 1) * size ≤ cap * size := Nat.mul_le_mul_right size (by omega)
  rw [Nat.add_mul, Nat.one_mul] at hsz
  have hnc : n * size ≤ cap * size := Nat.mul_le_mul_right size hcap
  have hin : (i + 1) * size ≤ n * size := Nat.mul_le_mul_right size (by omega)
  rw [Nat.add_mul, Nat.one_mul] at hin
  obtain ⟨cur', q1, q2, q3⟩ := jq g' c (i * size) w cur hh
  refine ⟨⟨?_, .inr ⟨g', cap, cur', rfl, hb, q1, hcap, hm, by rw [q2]; exact hs, ?_⟩⟩, ?_, kh _ _ _ _⟩
  ·rw [qD (size := size) _ (fun x hx => by
    rcases List.mem_or_eq_of_mem_set hx with hx | rfl
    ·exact hls x hx
    ·exact hc), List.length_set, hn]
  ·apply List.ext_getElem?
   intro j
   rw [flat_set ls i c hls hc, List.getElem?_take]
   by_cases hj : j < n * size
   ·rw [if_pos hj, Array.getElem?_toList, q3 j (by omega), hc]
    by_cases q : i * size ≤ j ∧ j < i * size + size
    ·rw [if_pos q, if_pos ⟨by omega, q⟩]
    ·rw [if_neg q, if_neg (fun q' => q q'.2), ← ht, List.getElem?_take, if_pos hj, Array.getElem?_toList]
   ·rw [if_neg hj, if_neg (by omega), List.getElem?_eq_none (by rw [hfl, hn]; omega)]
  ·intro j hj
   have hl : i * size + j < cur.size := by omega
   have hcell : w.cell? ⟨g', i * size + j, none⟩ = some cur[i * size + j] := za hh (by simp [hl])
   exact ⟨by rw [hcell]; rfl, zc hh⟩
section
variable {α : Type} [Inhabited α]
theorem sort_world (enc : α → List Value) (k : Nat) {w : World} {g e : Nat} {cur : Array Value} (hh : w.heap[g]? = some (.cells cur e (0, 0))) (m : Nat) (d : Array α) (os : Array Obj) (hs : d.size * k ≤ cur.size) :
  zb [g] w (sortWorldK enc k w g 0 m d os) ∧ ∃ cur', (sortWorldK enc k w g 0 m d os).heap[g]? = some (.cells cur' e (0, 0)) ∧ cur'.size = cur.size ∧ ∀ t, t < cur.size → cur'[t]? = if t < d.size * k then some (enc d[t / k]!)[t % k]! else cur[t]? := by
 have hg := lt_of_block hh
 have h0 : ∀ j, (sortWorldK enc k w g 0 m d os).heap[j]? = if j < w.heap.size then (w.heap.modify g (Sort.onCells (Sort.putCells id 0 (flatK enc k d))))[j]? else os[j - w.heap.size]? := by
  intro j
  show ((w.heap.modify g (Sort.onCells (Sort.putCells id 0 (flatK enc k d)))) ++ os)[j]? = _
  rw [Array.getElem?_append, Array.size_modify]
 refine ⟨⟨rfl, rfl, rfl, ?_, ?_⟩, Sort.putCells id 0 (flatK enc k d) cur, ?_, by simp [Sort.putCells], ?_⟩
 ·show w.heap.size ≤ ((w.heap.modify g (Sort.onCells (Sort.putCells id 0 (flatK enc k d)))) ++ os).size
  rw [Array.size_append, Array.size_modify]; omega
 ·intro j hj hx
  rw [h0, if_pos hj, Array.getElem?_modify, if_neg (by simp at hx; omega)]
 ·rw [h0, if_pos hg, Array.getElem?_modify, if_pos rfl, hh]
  rfl
 ·intro t ht
  simp only [Sort.putCells, Array.getElem?_mapIdx, Nat.zero_le, true_and, Nat.zero_add, Nat.sub_zero, size_flatK, id]
  rw [Array.getElem?_eq_getElem ht]
  by_cases q : t < d.size * k
  ·rw [if_pos q, Option.map_some, if_pos q, get_flatK enc k d t q]
  ·rw [if_neg q, Option.map_some, if_neg q]
end
def bY (a b : ByteArray) : Int := if ltB a b = true then -1 else if ltB b a = true then 1 else 0
theorem less_eq (a b : ByteArray) : Op.bytesLess a.toList b.toList = ltB a b := by
 rw [ByteArray.toList_eq, ByteArray.toList_eq, Z0]
 rfl
theorem jm (a b : ByteArray) (w : World) : Calls Tryz.prog 109 #[.string a, .string b] w fun e w' => e = .returned (.int .i64 (bY a b)) ∧ w = w' := by
 by_cases h1 : ltB a b = true
 ·have f1 : Op.bytesLess a.toList b.toList = true := by rw [less_eq]; exact h1
  have HF : Hid (bY a b = -1) := qI (by unfold bY; rw [if_pos h1])
  clear h1
  go_enter func109, ntmps109
  go_wp2
  go_ret
  rw [HF.o]
  exact ⟨rfl, rfl⟩
 have f1 : Op.bytesLess a.toList b.toList = false := by rw [less_eq]; simpa using h1
 by_cases h2 : ltB b a = true
 ·have hne : a ≠ b := fun e => by subst e; exact h1 h2
  have f2 := (xM hne).1
  have HF : Hid (bY a b = 1) := qI (by unfold bY; rw [if_neg h1, if_pos h2])
  clear h1 h2 hne
  go_enter func109, ntmps109
  go_wp2
  go_ret
  rw [HF.o]
  exact ⟨rfl, rfl⟩
 ·have he : a = b := ltB_none h1 h2
  have f2 := (qo he).1
  have HF : Hid (bY a b = 0) := qI (by unfold bY; rw [if_neg h1, if_neg h2])
  clear h1 h2 he
  go_enter func109, ntmps109
  go_wp2
  go_ret
  rw [HF.o]
  exact ⟨rfl, rfl⟩
structure PC where
 key : ByteArray
 k : Int
 m : Int
 s : ByteArray
 p : Option Addr
 i : Nat
 c : Nat
 q : Option Addr
 j : Nat
 d : Nat
instance pcInh : Inhabited PC := ⟨⟨⟨#[]⟩, 0, 0, ⟨#[]⟩, none, 0, 0, none, 0, 0⟩⟩
def PC.cs (x : PC) : List Value := [.int .i64 x.k, .int .i64 x.m, .string x.s, .slice x.p x.i x.c, .slice x.q x.j x.d]
def PC.enc (x : PC) : List Value := .string x.key :: x.cs
def PC.cf (x y : PC) : Int := bY x.key y.key
theorem PC.enc_len (x : PC) : x.enc.length = 6 := rfl
theorem PC.enc_one (x : PC) : ∀ v ∈ x.enc, v.oneCell' = true := by
 intro v hv
 simp only [PC.enc, PC.cs, List.mem_cons, List.not_mem_nil, or_false] at hv
 rcases hv with rfl | rfl | rfl | rfl | rfl | rfl <;> rfl
theorem byKey_any (x y : PC) (w : World) : Calls Tryz.prog 113 #[.agg x.enc.toArray, .agg y.enc.toArray] w fun e w' => e = .returned (.int .i64 (x.cf y)) ∧ w' = grow (w.drewN 0) #[.cells x.enc.toArray 60, .cells y.enc.toArray 60] := by
 obtain ⟨key, k, m, s, p, i, c, q, j, d⟩ := x
 obtain ⟨key', k', m', s', p', i', c', q', j', d'⟩ := y
 have HW : Hid (grow (w.drewN 0) #[.cells #[.string key, .int .i64 k, .int .i64 m, .string s, .slice p i c, .slice q j d] 60, .cells #[.string key', .int .i64 k', .int .i64 m', .string s', .slice p' i' c', .slice q' j' d'] 60] = (w.alloc (.cells #[.string key, .int .i64 k, .int .i64 m, .string s, .slice p i c, .slice q j d] 60)).alloc (.cells #[.string key', .int .i64 k', .int .i64 m', .string s', .slice p' i' c', .slice q' j' d'] 60)) := qI (by
  rw [Sort.alloc_eq_grow, Sort.alloc_eq_grow, Sort.grow_grow]; rfl)
 show Calls Tryz.prog 113 #[.agg #[.string key, .int .i64 k, .int .i64 m, .string s, .slice p i c, .slice q j d], .agg #[.string key', .int .i64 k', .int .i64 m', .string s', .slice p' i' c', .slice q' j' d']] w fun e w' => e = .returned (.int .i64 (bY key key')) ∧ w' = grow (w.drewN 0) #[.cells #[.string key, .int .i64 k, .int .i64 m, .string s, .slice p i c, .slice q j d] 60, .cells #[.string key', .int .i64 k', .int .i64 m', .string s', .slice p' i' c', .slice q' j' d'] 60]
 rw [HW.o]
 go_enter func113, ntmps113
 go_wp2_with (go_at_call 109; refine (jm key key' _).mono ?_; rintro e w2 ⟨rfl, rfl⟩)
 go_ret
 exact ⟨rfl, rfl⟩
theorem ltOf_key (x y : PC) : ltOf PC.cf x y = ltB x.key y.key := by
 unfold ltOf PC.cf bY
 by_cases h1 : ltB x.key y.key = true
 ·rw [if_pos h1, h1]; rfl
 ·rw [if_neg h1]
  have h1' : ltB x.key y.key = false := by simpa using h1
  rw [h1']
  split <;> rfl
theorem swo_keys : Sort.SWO (ltOf PC.cf) := by
 have e := ltOf_key
 refine ⟨fun x => ?_, fun x y z h1 h2 => ?_, fun x y z h1 h2 => ?_⟩
 ·rw [e]; unfold ltB; simp
 ·rw [e] at h1 h2 ⊢
  unfold ltB at *
  rw [decide_eq_true_iff] at *
  exact List.lt_trans h1 h2
 ·rw [e] at h1 h2 ⊢
  unfold ltB at *
  rw [decide_eq_false_iff_not] at *
  rw [List.not_lt] at *
  exact List.le_trans h2 h1
theorem agg_pair (w : World) : (isAgg 60).run Tryz.prog w = .ok true w := isAgg60 w
theorem size_pair (w : World) : (Go.sizeOf 60).run Tryz.prog w = .ok 6 w := sizeOf60 w
theorem enter_byKey : ∀ (args : Array Value) (w : World), (callFunc 113 args).run Tryz.prog w = .ok (.enter 113 args) w := enters_of func113 (by kernel_rfl) rfl
theorem enc_get (ds : List PC) (t : Nat) (h : t < ds.length * 6) : (ds.flatMap PC.enc)[t]? = some (((ds[t / 6]'(by omega)).enc)[t % 6]!) := by
 have h1 : ds.flatMap PC.enc = (ds.map PC.enc).flatten := by simp [List.flatMap]
 have h2 := yU (size := 6) (ds.map PC.enc) (t / 6) (t % 6) (by intro c hc; obtain ⟨x, _, rfl⟩ := List.mem_map.1 hc; rfl) (by simp; omega) (by omega)
 have e : t / 6 * 6 + t % 6 = t := by omega
 rw [e] at h2
 rw [h1, h2, List.getElem_map]
 have hl : t % 6 < (ds[t / 6]'(by omega)).enc.length := by rw [PC.enc_len]; omega
 rw [List.getElem?_eq_getElem hl]
 congr 1
 exact (getElem!_pos (ds[t / 6]'(by omega)).enc (t % 6) hl).symm
theorem ZB (ds : List PC) : (ds.flatMap PC.enc).length = ds.length * 6 := by
 induction ds with
 | nil => rfl
 | cons x ds ih => rw [List.flatMap_cons, List.length_append, ih, PC.enc_len, List.length_cons]; omega
theorem JD {w : World} {B g n cap : Nat} {ms : List PC} (hrow : w.ownsRow B 60 6 (.slice (some ⟨g, 0, none⟩) n cap) n (ms.flatMap PC.enc)) (hn : ms.length = n) (h63 : n ≤ 1000000) :
  Calls Tryz.prog 112 #[.slice (some ⟨g, 0, none⟩) n cap, .func (.func 113) #[] #[]] w fun e w' =>
   e = .returned (.tuple #[]) ∧ ∃ ds : List PC, ds.Perm ms ∧ ds.Pairwise (fun x y => ltB y.key x.key = false) ∧ w'.ownsRow B 60 6 (.slice (some ⟨g, 0, none⟩) n cap) n (ds.flatMap PC.enc) ∧ zb [g] w w' := by
 subst hn
 obtain ⟨hl, hr⟩ := hrow
 obtain ⟨cur, hb, hh, hc, hm, hs, ht⟩ : ∃ cur, B ≤ g ∧ w.heap[g]? = some (.cells cur 60 (0, 0)) ∧ ms.length ≤ cap ∧ cap ≤ maxLen ∧ cur.size = cap * 6 ∧ cur.toList.take (ms.length * 6) = ms.flatMap PC.enc := by
  rcases hr with ⟨h, _⟩ | ⟨g', cap', cur, hv, r1, r2, r3, r4, r5, r6⟩
  ·cases h
  ·simp only [Value.slice.injEq, Option.some.injEq, Addr.mk.injEq, and_true, true_and] at hv
   obtain ⟨rfl, rfl⟩ := hv
   exact ⟨cur, r1, r2, r3, r4, r5, r6⟩
 have hmc : ms.length * 6 ≤ cap * 6 := Nat.mul_le_mul_right 6 hc
 have hH : HoldsK PC.enc 6 w g 0 ms.toArray := by
  intro j hj
  rw [size_flatK] at hj
  have hj' : j < ms.length * 6 := by simpa using hj
  rw [get_flatK _ _ _ _ hj, Nat.zero_add]
  have h1 : cur[j]? = some ((ms[j / 6]'(by omega)).enc[j % 6]!) := by
   rw [← enc_get ms j hj', ← ht, List.getElem?_take, if_pos hj', Array.getElem?_toList]
  refine ⟨?_, zc hh⟩
  rw [za hh h1]
  have h2 : j / 6 < ms.toArray.size := by simp; omega
  rw [getElem!_pos ms.toArray (j / 6) h2]
  simp
 have hcmp : CmpLays Tryz.prog 113 #[] PC.enc 6 PC.cf g 0 ms.toArray.size w := by
  intro m os dk _ x y
  exact (byKey_any x y _).mono fun e w' ⟨h1, h2⟩ => ⟨h1, 0, _, h2⟩
 refine (AnyQ.slices_SortFunc Tryz.shSort 6 agg_pair size_pair PC.enc PC.enc_len PC.enc_one PC.cf swo_keys 113 #[] g 0 cap ms.toArray w enter_byKey hcmp hH (lt_of_block hh) (by simp; omega)).mono ?_
 rintro e w' ⟨rfl, d', m, os, hp, hsrt, rfl⟩
 obtain ⟨p1, _, p3⟩ := hp
 have hsz : d'.size = ms.length := by simpa using p1
 obtain ⟨q1, cur', q2, q3, q4⟩ := sort_world PC.enc 6 hh m d' os (by rw [hsz, hs]; exact hmc)
 have hperm : d'.toList.Perm ms := by
  have h1 : (d'.extract 0 ms.toArray.size) = d' := by rw [← p1]; exact Array.extract_size
  have h2 : (ms.toArray.extract 0 ms.toArray.size) = ms.toArray := Array.extract_size
  rw [h1, h2] at p3
  simpa using p3
 refine ⟨rfl, d'.toList, hperm, ?_, ⟨?_, .inr ⟨g, cap, cur', rfl, hb, q2, hc, hm, by rw [q3]; exact hs, ?_⟩⟩, q1⟩
 ·rw [List.pairwise_iff_getElem]
  intro i j hi hj hij
  have hi' : i < d'.size := by simpa using hi
  have hj' : j < d'.size := by simpa using hj
  have h1 := hsrt i j (Nat.zero_le _) hij (by rw [← p1]; exact hj')
  rw [getElem!_pos d' i hi', getElem!_pos d' j hj'] at h1
  have h2 : ltOf PC.cf d'[j] d'[i] = ltB d'[j].key d'[i].key := ltOf_key _ _
  rw [h2] at h1
  simpa using h1
 ·rw [ZB, Array.length_toList, hsz]
 ·apply List.ext_getElem?
  intro t
  rw [List.getElem?_take]
  by_cases h1 : t < ms.length * 6
  ·rw [if_pos h1, Array.getElem?_toList, q4 t (by omega), if_pos (by rw [hsz]; exact h1), enc_get d'.toList t (by rw [Array.length_toList, hsz]; exact h1)]
   have h2 : t / 6 < d'.size := by omega
   rw [getElem!_pos d' (t / 6) h2]
   simp
  ·rw [if_neg h1, List.getElem?_eq_none (by rw [ZB, Array.length_toList, hsz]; omega)]
theorem row_cells {w : World} {base e size n o g : Nat} {v : Value} {xs c : List Value} (h : w.ownsRow base e size v n xs) (hv : v.ownBlock = some g) (ho : o + c.length ≤ n * size) :
  (∃ ys, (w.setCells g o c).ownsRow base e size v n ys ∧ ys.length = xs.length ∧ ∀ j, ys[j]? = if o ≤ j ∧ j < o + c.length then c[j - o]? else xs[j]?) ∧ w.there g o c.length ∧ zb [g] w (w.setCells g o c) := by
 obtain ⟨h1, h2⟩ := h
 rcases h2 with ⟨rfl, _⟩ | ⟨g', cap, cur, rfl, hb, hh, hcap, hm, hs, ht⟩
 ·simp [Value.ownBlock] at hv
 ·simp [Value.ownBlock] at hv
  subst hv
  have hnc : n * size ≤ cap * size := Nat.mul_le_mul_right size hcap
  obtain ⟨cur', q1, q2, q3⟩ := jq g' c o w cur hh
  have hget : ∀ j, (cur'.toList.take (n * size))[j]? = if o ≤ j ∧ j < o + c.length then c[j - o]? else xs[j]? := by
   intro j
   rw [List.getElem?_take]
   by_cases hj : j < n * size
   ·rw [if_pos hj, Array.getElem?_toList, q3 j (by omega)]
    by_cases q : o ≤ j ∧ j < o + c.length
    ·rw [if_pos q, if_pos q]
    ·rw [if_neg q, if_neg q, ← ht, List.getElem?_take, if_pos hj, Array.getElem?_toList]
   ·rw [if_neg hj, if_neg (by omega), List.getElem?_eq_none (by omega)]
  have hlen : (cur'.toList.take (n * size)).length = n * size := by rw [List.length_take, Array.length_toList, q2, hs]; omega
  refine ⟨⟨cur'.toList.take (n * size), ⟨hlen, .inr ⟨g', cap, cur', rfl, hb, q1, hcap, hm, by rw [q2]; exact hs, rfl⟩⟩, by rw [hlen, h1], hget⟩, ?_, kh _ _ _ _⟩
  intro j hj
  have hl : o + j < cur.size := by omega
  have hcell : w.cell? ⟨g', o + j, none⟩ = some cur[o + j] := za hh (by simp [hl])
  exact ⟨by rw [hcell]; rfl, zc hh⟩
theorem take_set {α β : Type} (f : α → β) (g : α → β) (l : List α) (k : Nat) (h : k < l.length) : ((l.take k).map f ++ (l.drop k).map g).set k (f l[k]) = (l.take (k + 1)).map f ++ (l.drop (k + 1)).map g := by
 rw [yQ f l k h, List.drop_eq_getElem_cons h, List.map_cons, List.set_append]
 have e : ((l.take k).map f).length = k := by simp; omega
 rw [if_neg (by omega), e, Nat.sub_self, List.set_cons_zero, List.append_assoc]
 rfl
theorem JX {α β : Type} (f : α → β) (g : α → β) (l : List α) (k : Nat) (h : k < l.length) : ((l.take k).map f ++ (l.drop k).map g)[k]? = some (g l[k]) := by
 have e : ((l.take k).map f).length = k := by simp; omega
 rw [List.getElem?_append_right (by omega), e, Nat.sub_self, List.drop_eq_getElem_cons h]
 rfl
theorem right_nodup {n : Nat} {v : VS (V n)} (h : zj (n + 1) v = true) : (v.m.map (fun p => p.1)).Nodup := by
 rcases kR (kL h) with q | q | q | q | q | q
 ·rw [q.2.2.2.2]; exact List.nodup_nil
 ·rw [q.2.2.2.2]; exact List.nodup_nil
 ·rw [q.2.2.2.2]; exact List.nodup_nil
 ·rw [q.2.2.2.2]; exact List.nodup_nil
 ·rw [q.2.2.2]; exact List.nodup_nil
 ·have := q.2.2.2.2
  unfold yE at this
  rw [Bool.and_eq_true, decide_eq_true_iff] at this
  exact this.2
theorem pcs_of {n : Nat} {S : Nat → Prop} {w : World} : ∀ {mcs : List (ByteArray × List Value)} {ms : List (ByteArray × V n)}, yc (jj (Rep n S w)) mcs ms → ∃ ds : List PC, mcs = ds.map (fun x => (x.key, x.cs)) ∧ zQ mcs = ds.flatMap PC.enc := by
 intro mcs
 induction mcs with
 | nil => intro ms _; exact ⟨[], rfl, rfl⟩
 | cons p mcs ih =>
  intro ms h
  match ms, h with
  | [], h => exact absurd h.1 (by simp)
  | q :: ms, h =>
   obtain ⟨ds, h1, h2⟩ := ih (ms := ms) ⟨by simpa using h.1, fun j a b ha hb => h.2 (j + 1) a b (by simpa using ha) (by simpa using hb)⟩
   have hr := (h.2 0 p q rfl rfl).2
   obtain ⟨key, cs⟩ := p
   obtain ⟨k, m, s, a, b, e⟩ := hr.five
   simp only at e
   subst e
   obtain ⟨p1, i, c, q1, j, d, rfl, rfl⟩ := hr.sl
   refine ⟨⟨key, k, m, s, p1, i, c, q1, j, d⟩ :: ds, by rw [List.map_cons, h1]; rfl, ?_⟩
   rw [List.flatMap_cons, ← h2]
   rfl
theorem Slc.at6 {w : World} {x : Value} {m : Nat} {ms : List (ByteArray × List Value)} (h : Slc w 6 x m (zQ ms)) (h6 : ∀ c, c ∈ ms.map zM → c.length = 6) {j : Nat} (hj : j < ms.length) {k i : Int} {s : ByteArray} {a b : Value} (e : ms[j].2 = [.int .i64 k, .int .i64 i, .string s, a, b]) :
  ∃ g o cap, x = .slice (some ⟨g, o, none⟩) m cap ∧ w.cell? ⟨g, o + j * 6, none⟩ = some (.string ms[j].1) ∧ w.cell? ⟨g, o + j * 6 + 1, none⟩ = some (.int .i64 k) ∧ w.cell? ⟨g, o + j * 6 + 2, none⟩ = some (.int .i64 i) ∧ w.cell? ⟨g, o + j * 6 + 3, none⟩ = some (.string s) ∧ w.cell? ⟨g, o + j * 6 + 4, none⟩ = some a ∧ w.cell? ⟨g, o + j * 6 + 5, none⟩ = some b := by
 rw [zP] at h
 have hl := qD (ms.map zM) h6
 rw [List.length_map] at hl
 have hm := h.1
 rcases h.2 with ⟨_, h0⟩ | ⟨h0, _⟩ | ⟨g, o, cap, hsv, _, _, hrow⟩
 ·omega
 ·omega
 have hc : ∀ i, i < 6 → (ms.map zM).flatten[j * 6 + i]? = (zM ms[j])[i]? := fun i hi => by
  rw [yU (ms.map zM) j i h6 (by simpa using hj) hi, List.getElem_map]
 have e2 : zM ms[j] = [.string ms[j].1, .int .i64 k, .int .i64 i, .string s, a, b] := by
  show Value.string ms[j].1 :: ms[j].2 = _
  rw [e]
 rw [e2] at hc
 refine ⟨g, o, cap, hsv, ?_, ?_, ?_, ?_, ?_, ?_⟩
 ·exact hrow.cells (j * 6 + 0) _ (hc 0 (by decide))
 all_goals rw [Nat.add_assoc]
 ·exact hrow.cells (j * 6 + 1) _ (hc 1 (by decide))
 ·exact hrow.cells (j * 6 + 2) _ (hc 2 (by decide))
 ·exact hrow.cells (j * 6 + 3) _ (hc 3 (by decide))
 ·exact hrow.cells (j * 6 + 4) _ (hc 4 (by decide))
 ·exact hrow.cells (j * 6 + 5) _ (hc 5 (by decide))
theorem pair_set {ms : List (ByteArray × List Value)} (h6 : ∀ c, c ∈ ms.map zM → c.length = 6) {k : Nat} (hk : k < ms.length) {c ys : List Value} (hc : c.length = 5)
  (hy : ∀ j, ys[j]? = if k * 6 + 1 ≤ j ∧ j < k * 6 + 1 + c.length then c[j - (k * 6 + 1)]? else (zQ ms)[j]?) : ys = zQ (ms.set k (ms[k].1, c)) := by
 apply List.ext_getElem?
 intro j
 rw [hy j, zP, zP, List.map_set, flat_set (size := 6) (ms.map zM) k (zM (ms[k].1, c)) h6 (by simp [zM, hc]), List.length_map, hc]
 by_cases q : k * 6 + 1 ≤ j ∧ j < k * 6 + 1 + 5
 ·rw [if_pos q, if_pos ⟨hk, by omega, by omega⟩]
  show _ = (Value.string ms[k].1 :: c)[j - k * 6]?
  rw [show j - k * 6 = (j - (k * 6 + 1)) + 1 by omega, List.getElem?_cons_succ]
 ·rw [if_neg q]
  by_cases q2 : j = k * 6
  ·subst q2
   rw [if_pos ⟨hk, by omega, by omega⟩, Nat.sub_self]
   have := yU (size := 6) (ms.map zM) k 0 h6 (by simpa using hk) (by decide)
   rw [Nat.add_zero] at this
   rw [this, List.getElem_map]
   rfl
  ·rw [if_neg (by omega)]
structure SortL {n : Nat} (B : Nat) (W2 : World) (v : VS (V n)) (vl vm : Value) (k : Nat) (wr : World) (ls : List (List Value)) : Prop where
 row : wr.ownsRow B 25 5 vl v.l.length ls.flatten
 all : yc (Rep n (fun g => B ≤ g ∧ vl.ownBlock ≠ some g ∧ vm.ownBlock ≠ some g) wr) ls ((v.l.take k).map (zH n) ++ (v.l.drop k).map id)
 kept : zb vl.ownBlock.toList W2 wr
structure SortM {n : Nat} (B : Nat) (W2 : World) (v : VS (V n)) (vl vm : Value) (k : Nat) (wr : World) (ms : List (ByteArray × List Value)) : Prop where
 row : wr.ownsRow B 60 6 vm v.m.length (zQ ms)
 all : yc (jj (Rep n (fun g => B ≤ g ∧ vl.ownBlock ≠ some g ∧ vm.ownBlock ≠ some g) wr)) ms ((v.m.take k).map (fun p => (p.1, zH n p.2)) ++ (v.m.drop k).map id)
 kept : zb vm.ownBlock.toList W2 wr
theorem Rep.conv {n : Nat} {S : Nat → Prop} {w : World} {cs : List Value} {v : V n} (h : Rep n S w cs v) : ∃ k m s p i c q j d, cs = [.int .i64 k, .int .i64 m, .string s, .slice p i c, .slice q j d] := by
 obtain ⟨k, m, s, a, b, rfl⟩ := h.five
 obtain ⟨p, i, c, q, j, d, rfl, rfl⟩ := h.sl
 exact ⟨k, m, s, p, i, c, q, j, d, rfl⟩
theorem sortAny {w : World} {B n cap : Nat} {a : Option Addr} {ms : List PC} (hrow : w.ownsRow B 60 6 (.slice a n cap) n (ms.flatMap PC.enc)) (h63 : n ≤ 1000000) :
  Calls Tryz.prog 112 #[.slice a n cap, .func (.func 113) #[] #[]] w fun e w' =>
   e = .returned (.tuple #[]) ∧ ∃ ds : List PC, ds.Perm ms ∧ ds.Pairwise (fun x y => ltB y.key x.key = false) ∧ w'.ownsRow B 60 6 (.slice a n cap) n (ds.flatMap PC.enc) ∧ zb (Value.slice a n cap).ownBlock.toList w w' := by
 have hl : ms.length = n := by have := hrow.1; rw [ZB] at this; omega
 cases a with
 | none =>
  have h0 : n = 0 ∧ cap = 0 := by
   rcases hrow.2 with ⟨h, h1⟩ | ⟨g, cap', cur, hv, _⟩
   ·simp only [Value.slice.injEq] at h; exact ⟨h.2.1, h.2.2⟩
   ·simp only [Value.slice.injEq] at hv; cases hv.1
  obtain ⟨rfl, rfl⟩ := h0
  have : ms = [] := List.eq_nil_of_length_eq_zero hl
  subst this
  exact (AnyF.slices_SortFunc_none Tryz.shSort none 0 _ w).mono fun e w' ⟨h1, h2⟩ => ⟨h1, [], List.Perm.refl _, List.Pairwise.nil, by rw [h2]; exact hrow, by rw [h2]; exact zb.refl _ _⟩
 | some ad =>
  have had : ∃ g, ad = ⟨g, 0, none⟩ := by
   rcases hrow.2 with ⟨h, h1⟩ | ⟨g, cap', cur, hv, _⟩
   ·simp only [Value.slice.injEq] at h; cases h.1
   ·simp only [Value.slice.injEq, Option.some.injEq] at hv; exact ⟨g, hv.1⟩
  obtain ⟨g, rfl⟩ := had
  exact (JD hrow hl h63).mono fun e w' ⟨h1, ds, h2, h3, h4, h5⟩ => ⟨h1, ds, h2, h3, h4, by simpa [Value.ownBlock] using h5⟩
theorem sorted_pairs {n : Nat} {R : List Value → V n → Prop} {ds ms : List PC} {xs : List (ByteArray × V n)} (h : yc (jj R) (ms.map (fun x => (x.key, x.cs))) xs) (hp : ds.Perm ms) (hs : ds.Pairwise (fun x y => ltB y.key x.key = false)) (hn : (xs.map (fun p => p.1)).Nodup) :
  yc (jj R) (ds.map (fun x => (x.key, x.cs))) (xs.mergeSort leK) := by
 obtain ⟨ys, h1, h2⟩ := h.perm (hp.map _)
 have hkeys : ∀ i (hi : i < ds.length) (hi' : i < ys.length), ys[i].1 = ds[i].key := fun i hi hi' => by
  have := (h2.2 i _ ys[i] (List.getElem?_eq_getElem (by simpa using hi)) (List.getElem?_eq_getElem hi')).1
  simpa using this.symm
 have hlen : ds.length = ys.length := by simpa using h2.1
 have hsrt : ys.Pairwise (fun x y => leK x y = true) := by
  rw [List.pairwise_iff_getElem]
  intro i j hi hj hij
  have h3 := (List.pairwise_iff_getElem.1 hs) i j (by omega) (by omega) hij
  unfold ltB at h3
  rw [decide_eq_false_iff_not, List.not_lt] at h3
  unfold leK
  rw [decide_eq_true_iff, hkeys i (by omega) hi, hkeys j (by omega) hj]
  exact h3
 have hnd : (ys.map (fun p => p.1)).Nodup := (h1.map (fun p : ByteArray × V n => p.1)).nodup_iff.2 hn
 have he : ys = xs.mergeSort leK := Ze (h1.trans (List.mergeSort_perm xs leK).symm) hsrt (List.pairwise_mergeSort YO Y0 xs) hnd
 rw [← he]
 exact h2
def kw (n : Nat) : Prop := ∀ (v : V n) {S : Nat → Prop} {w : World} {cs : List Value}, Rep n S w cs v → zZ n v → zj n v = true →
    Calls Tryz.prog 77 #[.agg cs.toArray] w fun e w' => (∃ cs' : List Value, e = .returned (.agg cs'.toArray) ∧ yS n w.heap.size w' cs' (zH n v)) ∧ zb [] w w'
theorem Qr {n : Nat} (known : kw n) : kw (n + 1) := fun (v : VS (V n)) {S} {w} {cs} h hs hrt => by
  have Gr := qI hs
  have Mm := qI hrt
  have Mu := qI (right_nodup hrt)
  have IH := qI known
  have hlv : v.l.length ≤ 20000 := by have := hs.few; omega
  have hmv : v.m.length ≤ 20000 := by have := hs.few; omega
  obtain ⟨kd, nm, st, a, ca, ea, b, cb, eb, rfl⟩ := h.conv
  obtain ⟨W0, Gs⟩ : ∃ W0, Hid (W0 = (w.alloc (.cells #[.int .i64 kd, .int .i64 nm, .string st, .slice a ca ea, .slice b cb eb] 25)).alloc (.cells #[.int .i64 0, .int .i64 0, .string ⟨#[]⟩, .slice none 0 0, .slice none 0 0] 25)) := ⟨_, qI rfl⟩
  have Ja : Hid (W0.heap.size = w.heap.size + 2) := qI (by rw [Gs.o]; simp)
  have Gq : Hid (zb [] w W0) := qI (by rw [Gs.o]; exact ((zb.refl [] w).alloc _).alloc _)
  have Ma : Hid (W0.heap[w.heap.size + 1]? = some (.cells #[.int .i64 0, .int .i64 0, .string ⟨#[]⟩, .slice none 0 0, .slice none 0 0] 25 (0, 0))) := qI (by
   rw [Gs.o]; exact zn (by simp))
  have CC := qI (JW (n + 1) v (h.kept0 Gq.o) hs)
  clear h hs hrt
  go_enter func77, ntmps77
  go_wp2_with fail
  rw [← Gs.o]
  refine CC.o.mono ?_
  rintro e w1 ⟨⟨cs', rfl, hown⟩, hk1⟩
  have Gd := qI hown.rep
  obtain ⟨vl, vm, lcs, mcs, rfl, hrl, hal, hrm, ham, hwk, hwn⟩ := hown
  obtain ⟨al, cl, rfl, -, -⟩ := (Slc.of_row hrl).form
  obtain ⟨am, cm, rfl, -, -⟩ := (Slc.of_row hrm).form
  have Ju := qI hrl
  have Mv := qI hal
  have Jl := qI hrm
  have Mw := qI ham
  have Mn := qI (And.intro hwk hwn)
  have Gk := qI hk1
  clear hrl hal hrm ham hwk hwn hk1 CC
  obtain ⟨W2, Jv⟩ : ∃ W2, Hid (W2 = w1.alloc (.cells #[.int .i64 v.kind, .int .i64 v.num, .string v.s, .slice al v.l.length cl, .slice am v.m.length cm] 25)) := ⟨_, qI rfl⟩
  have Gh : Hid (zb [] w1 W2) := qI (by rw [Jv.o]; exact (zb.refl [] w1).alloc _)
  have Mf : Hid (z6 W2 w1.heap.size v.kind v.num v.s (.slice al v.l.length cl) (.slice am v.m.length cm)) := qI (by rw [Jv.o]; exact yb _ _ _ _ _ _ _)
  have Ge : Hid (W2.heap.size = w1.heap.size + 1) := qI (by rw [Jv.o]; simp)
  obtain ⟨c0, c1, c2, c3, c4⟩ := Mf.o
  rw [Jv.o] at c0 c1 c2 c3 c4
  go_wp2_with fail
  rw [← Jv.o]
  clear c0 c1 c2 c3 c4
  have Mx : Hid (SortL W0.heap.size W2 v (.slice al v.l.length cl) (.slice am v.m.length cm) 0 W2 lcs) := qI {
   row := zh Ju.o Gh.o (by simp)
   all := by simpa using Mv.o.mono fun _ _ _ r => r.kept0 Gh.o
   kept := zb.refl _ _ }
  go_loopw [11] (fun i wr => ∃ (k : Nat) (ls : List (List Value)), i = .int .i64 k ∧ k ≤ v.l.length ∧ SortL W0.heap.size W2 v (.slice al v.l.length cl) (.slice am v.m.length cm) k wr ls) (fun i _ => v.l.length - (intOf i).toNat)
  case atStart => exact ⟨0, _, rfl, Nat.zero_le _, Mx.o⟩
  case round =>
   obtain ⟨k, ls, rfl, hk, hsl⟩ := hrel
   have Gb := qI hsl
   clear hsl
   by_cases hlt : k < v.l.length
   ·have hltI : (k : Int) < v.l.length := by omega
    obtain ⟨g, rfl, hgB, hgl⟩ : ∃ g, al = some ⟨g, 0, none⟩ ∧ W0.heap.size ≤ g ∧ g < w1.heap.size := by
     rcases Ju.o.2 with ⟨_, h0⟩ | ⟨g, cap, cur, hv, r1, r2, _⟩
     ·omega
     ·simp only [Value.slice.injEq] at hv
      exact ⟨g, hv.1, r1, lt_of_block r2⟩
    have hlsl : ls.length = v.l.length := by rw [Gb.o.all.1]; simp; omega
    have hk' : k < ls.length := by omega
    have hrep := Gb.o.all.2 k ls[k] v.l[k] (List.getElem?_eq_getElem hk') (JX (zH n) id v.l k hlt)
    obtain ⟨xk, xm, xs, xp, xi, xc, xq, xj, xd, ex⟩ := hrep.conv
    obtain ⟨g', o', cap', hsv, q0, q1, q2, q3, q4⟩ := (Slc.of_row Gb.o.row).at5 (fun c hc => by obtain ⟨y, _, r⟩ := Gb.o.all.mem_left hc; exact r.len) hk' ex
    simp only [Value.slice.injEq, Option.some.injEq, Addr.mk.injEq, and_true, true_and] at hsv
    obtain ⟨⟨rfl, rfl⟩, -⟩ := hsv
    rw [ex] at hrep
    have Mg := qI hrep
    have Jw : Hid (zb [g] W2 wr) := qI (by have := Gb.o.kept; simpa [Value.ownBlock] using this)
    have hgne : g ≠ w1.heap.size := by omega
    have y3 := (Mf.o.kept Jw.o (by simpa using Ne.symm hgne)).c3
    have Gl := qI (Gr.o.kid (xY (List.getElem_mem hlt)))
    have Mh := qI (qZ Mm.o (xY (List.getElem_mem hlt)))
    clear hrep
    rw [Nat.zero_add] at q0 q1 q2 q3 q4
    go_wp2_with fail
    refine zk (n := 11) (fun w' : World => w'.cell? ⟨w1.heap.size, 3, none⟩ = some (.slice (some ⟨g, 0, none⟩) v.l.length cl) ∧ w'.cell? ⟨g, k * 5, none⟩ = some (.int .i64 xk) ∧ w'.cell? ⟨g, k * 5 + 1, none⟩ = some (.int .i64 xm) ∧ w'.cell? ⟨g, k * 5 + 2, none⟩ = some (.string xs) ∧ w'.cell? ⟨g, k * 5 + 3, none⟩ = some (.slice xp xi xc) ∧ w'.cell? ⟨g, k * 5 + 4, none⟩ = some (.slice xq xj xd)) 10 (by kernel_rfl) (by kernel_rfl) ?_
    change zR _ _ _ _ _ _ _ _ _ wr.drew
    have hSS : (fun w' : World => w'.cell? ⟨w1.heap.size, 3, none⟩ = some (.slice (some ⟨g, 0, none⟩) v.l.length cl) ∧ w'.cell? ⟨g, k * 5, none⟩ = some (.int .i64 xk) ∧ w'.cell? ⟨g, k * 5 + 1, none⟩ = some (.int .i64 xm) ∧ w'.cell? ⟨g, k * 5 + 2, none⟩ = some (.string xs) ∧ w'.cell? ⟨g, k * 5 + 3, none⟩ = some (.slice xp xi xc) ∧ w'.cell? ⟨g, k * 5 + 4, none⟩ = some (.slice xq xj xd)) wr.drew := ⟨y3, q0, q1, q2, q3, q4⟩
    have Gw : Hid (zb [] wr wr.drew) := qI (zb.refl _ _).drew
    clear y3 q0 q1 q2 q3 q4
    revert hSS Gw
    generalize wr.drew = WD
    intro hSS Gw
    refine zx ?_
    intro O R hO hR
    have hQp : ∀ c a (d : Nat) v w, R (.panic c) (a.put (some d) v) w → R (.panic c) a w := by subst hR; exact fun _ _ _ _ _ h => h
    refine qT 0 ?_ hO rfl rfl (by kernel_rfl) hQp (fun w hSw => ?_) hSS ?_
    rotate_left
    ·obtain ⟨s0, s1, s2, s3, s4, s5⟩ := hSw; go_simp; try with_reducible rfl
    try simp only [zA,zN,zB,zC,zD]
    refine qT 1 ?_ hO rfl rfl (by kernel_rfl) hQp (fun w hSw => ?_) hSS ?_
    rotate_left
    ·obtain ⟨s0, s1, s2, s3, s4, s5⟩ := hSw; go_simp; try with_reducible rfl
    try simp only [zA,zN,zB,zC,zD]
    refine qT 2 ?_ hO rfl rfl (by kernel_rfl) hQp (fun w hSw => ?_) hSS ?_
    rotate_left
    ·obtain ⟨s0, s1, s2, s3, s4, s5⟩ := hSw; go_simp; try with_reducible rfl
    try simp only [zA,zN,zB,zC,zD]
    refine qT 3 ?_ hO rfl rfl (by kernel_rfl) hQp (fun w hSw => ?_) hSS ?_
    rotate_left
    ·obtain ⟨s0, s1, s2, s3, s4, s5⟩ := hSw; go_simp; try with_reducible rfl
    try simp only [zA,zN,zB,zC,zD]
    refine qT 4 ?_ hO rfl rfl (by kernel_rfl) hQp (fun w hSw => ?_) hSS ?_
    rotate_left
    ·obtain ⟨s0, s1, s2, s3, s4, s5⟩ := hSw; go_simp; try with_reducible rfl
    try simp only [zA,zN,zB,zC,zD]
    refine qT 5 ?_ hO rfl rfl (by kernel_rfl) hQp (fun w hSw => ?_) hSS ?_
    rotate_left
    ·obtain ⟨s0, s1, s2, s3, s4, s5⟩ := hSw; go_simp; try with_reducible rfl
    try simp only [zA,zN,zB,zC,zD]
    refine qT 6 ?_ hO rfl rfl (by kernel_rfl) hQp (fun w hSw => ?_) hSS ?_
    rotate_left
    ·obtain ⟨s0, s1, s2, s3, s4, s5⟩ := hSw; go_simp; try with_reducible rfl
    try simp only [zA,zN,zB,zC,zD]
    refine qT 7 ?_ hO rfl rfl (by kernel_rfl) hQp (fun w hSw => ?_) hSS ?_
    rotate_left
    ·obtain ⟨s0, s1, s2, s3, s4, s5⟩ := hSw; go_simp; try with_reducible rfl
    try simp only [zA,zN,zB,zC,zD]
    refine qO 8 hO rfl (by kernel_rfl) (fun K hK => ?_)
    go_simp
    refine Calls.mono (IH.o v.l[k] (Mg.o.kept0 Gw.o) Gl.o Mh.o) ?_
    rintro e w3 ⟨⟨c3, rfl, hown3⟩, hk3⟩
    have Ji := qI hown3.rep
    have Gg := qI (Gw.o.then hk3)
    have hS3 : (fun w' : World => w'.cell? ⟨w1.heap.size, 3, none⟩ = some (.slice (some ⟨g, 0, none⟩) v.l.length cl) ∧ w'.cell? ⟨g, k * 5, none⟩ = some (.int .i64 xk) ∧ w'.cell? ⟨g, k * 5 + 1, none⟩ = some (.int .i64 xm) ∧ w'.cell? ⟨g, k * 5 + 2, none⟩ = some (.string xs) ∧ w'.cell? ⟨g, k * 5 + 3, none⟩ = some (.slice xp xi xc) ∧ w'.cell? ⟨g, k * 5 + 4, none⟩ = some (.slice xq xj xd)) w3 := ⟨hk3.cell hSS.1 (by simp), hk3.cell hSS.2.1 (by simp), hk3.cell hSS.2.2.1 (by simp), hk3.cell hSS.2.2.2.1 (by simp), hk3.cell hSS.2.2.2.2.1 (by simp), hk3.cell hSS.2.2.2.2.2 (by simp)⟩
    have Jj : Hid (wr.heap.size ≤ WD.heap.size ∧ WD.heap.size ≤ w3.heap.size) := qI ⟨Gw.o.size, hk3.size⟩
    clear hown3 hk3
    refine hK _ _ (.inr hS3) ?_
    clear hK K
    try simp only [zA,zN,zB,zC,zD]
    clear hSS
    have hSS := hS3
    clear hS3
    refine qO 9 hO rfl (by kernel_rfl) (fun K hK => ?_)
    go_simp
    refine hK _ _ (.inr hSS) ?_
    clear hK K
    try simp only [zA,zN,zB,zC,zD]
    have hlen3 : c3.length = 5 := Ji.o.len
    have hls5 : ∀ x, x ∈ ls → x.length = 5 := fun c hc => by obtain ⟨y, _, r⟩ := Gb.o.all.mem_left hc; exact r.len
    obtain ⟨hro, hth, hkg⟩ := yn (i := k) (g := g) (c := c3) (zh Gb.o.row Gg.o (by simp)) hls5 rfl hlsl hlt hlen3
    have Mi := qI hro
    have Jk := qI hkg
    clear hro hkg hls5
    refine qO 10 hO rfl (by kernel_rfl) (fun K hK => ?_)
    refine wp_store_mid 25 (.tmp 23) (.tmp 22) rfl g (k * 5) c3.toArray rfl rfl (by rw [List.size_toArray, hlen3]; exact hth) (by rw [List.size_toArray, hlen3]; kernel_rfl) (all_oneCell_toArray Ji.o.one) ?_
    refine hK _ _ (.inl rfl) ?_
    clear hK K
    try simp only [zA,zN,zB,zC,zD]
    refine zv hO (by kernel_rfl) ?_ _
    subst hR
    try clear hQp hO O
    clear hth hSS hlen3
    go_wp2_with fail
    case roundEnd =>
     have hzW := Ja.o
     have hz2 := Ge.o
     have hzx := Jw.o.size
     have hzd := Jj.o
     refine ⟨⟨k + 1, ls.set k c3, by go_num, by omega, {
      row := Mi.o
      all := ?_
      kept := ?_ }⟩, by simp [intOf]; omega⟩
     ·rw [← take_set (zH n) id v.l k hlt]
      refine yc.set (Gb.o.all.mono fun c y _ r => r.move ((Gg.o.mono (by simp)).trans' Jk.o) ?_) k (Ji.o.move Jk.o ?_)
      ·intro i hi ⟨h1, h2, h3⟩
       exact ⟨by intro hx; simp at hx; subst hx; exact h2 rfl, h1, h2, h3⟩
      ·intro i hi h1
       have hmlt := Jl.o.lt
       refine ⟨by intro hx; simp at hx; omega, by omega, ?_, ?_⟩
       ·intro hx; simp [Value.ownBlock] at hx; omega
       ·intro hx; have := (hmlt i hx).2; omega
     ·have h1 := (Gb.o.kept.then Gg.o).trans Jk.o (by intro i hi; simp at hi; subst hi; exact .inl (by simp [Value.ownBlock]))
      exact h1
   ·obtain rfl : k = v.l.length := by omega
    obtain ⟨WL, rfl⟩ : ∃ x, x = wr := ⟨_, rfl⟩
    obtain ⟨lsF, rfl⟩ : ∃ x, x = ls := ⟨_, rfl⟩
    have Gx := qI Gb.o
    have hblk : Hid (∀ i, i ∈ (Value.slice al v.l.length cl).ownBlock.toList → W0.heap.size ≤ i ∧ i < w1.heap.size ∧ kind w1 i = 25 + 2) := qI fun i hi => ⟨(Ju.o.lt i (Option.mem_toList.1 hi)).1, (Ju.o.lt i (Option.mem_toList.1 hi)).2, yu Ju.o (Option.mem_toList.1 hi)⟩
    have hmblk : Hid (∀ i, (Value.slice am v.m.length cm).ownBlock = some i → W0.heap.size ≤ i ∧ i < w1.heap.size ∧ kind w1 i = 60 + 2) := qI fun i hi => ⟨(Jl.o.lt i hi).1, (Jl.o.lt i hi).2, yu Jl.o hi⟩
    have Gp : Hid (zb (Value.slice al v.l.length cl).ownBlock.toList w1 WL) := qI ((Gh.o.mono (by simp)).trans' Gx.o.kept)
    have Gn : Hid (W2.heap.size ≤ WL.heap.size) := qI Gx.o.kept.size
    have hb3l := Mf.o.kept Gx.o.kept (by intro hx; have := hblk.o _ hx; omega)
    have Jx := qI hb3l
    have Mj : Hid (SortM W0.heap.size WL v (.slice al v.l.length cl) (.slice am v.m.length cm) 0 WL mcs) := qI {
     row := zh Jl.o Gp.o (fun i hi hx => by have h1 := (hmblk.o i hi).2.2; have h2 := (hblk.o i hx).2.2; rw [h1] at h2; exact absurd h2 (by decide))
     all := by simpa using Mw.o.mono fun _ _ _ r => ⟨r.1, r.2.move Gp.o (fun i hi ⟨h1, h2, h3⟩ => ⟨fun hx => h2 (Option.mem_toList.1 hx), h1, h2, h3⟩)⟩
     kept := zb.refl _ _ }
    obtain ⟨c0, c1, c2, c3, c4⟩ := hb3l
    clear Gb
    go_wp2_with fail
    clear c0 c1 c2 c3 c4
    go_loopw [28] (fun i wr => ∃ (k : Nat) (ms : List (ByteArray × List Value)), i = .int .i64 k ∧ k ≤ v.m.length ∧ SortM W0.heap.size WL v (.slice al v.l.length cl) (.slice am v.m.length cm) k wr ms) (fun i _ => v.m.length - (intOf i).toNat)
    case atStart => exact ⟨0, _, rfl, Nat.zero_le _, Mj.o⟩
    case round =>
     obtain ⟨k, ls, rfl, hk, hsl⟩ := hrel
     have Gb := qI hsl
     clear hsl
     by_cases hlt : k < v.m.length
     ·have hltI : (k : Int) < v.m.length := by omega
      obtain ⟨g, rfl, hgB, hgl⟩ : ∃ g, am = some ⟨g, 0, none⟩ ∧ W0.heap.size ≤ g ∧ g < w1.heap.size := by
       rcases Jl.o.2 with ⟨_, h0⟩ | ⟨g, cap, cur, hv, r1, r2, _⟩
       ·omega
       ·simp only [Value.slice.injEq] at hv
        exact ⟨g, hv.1, r1, lt_of_block r2⟩
      have hlsl : ls.length = v.m.length := by rw [Gb.o.all.1]; simp; omega
      have hk' : k < ls.length := by omega
      have hpr := Gb.o.all.2 k ls[k] v.m[k] (List.getElem?_eq_getElem hk') (JX (fun p : ByteArray × V n => (p.1, zH n p.2)) id v.m k hlt)
      obtain ⟨xk, xm, xs, xp, xi, xc, xq, xj, xd, ex⟩ := hpr.2.conv
      have h66 : ∀ c, c ∈ ls.map zM → c.length = 6 := fun c hc => by
       obtain ⟨p, hp, rfl⟩ := List.mem_map.1 hc
       obtain ⟨y, _, r⟩ := Gb.o.all.mem_left hp
       simp [zM, r.2.len]
      obtain ⟨g', o', cap', hsv, -, q0, q1, q2, q3, q4⟩ := (Slc.of_row Gb.o.row).at6 h66 hk' ex
      simp only [Value.slice.injEq, Option.some.injEq, Addr.mk.injEq, and_true, true_and] at hsv
      obtain ⟨⟨rfl, rfl⟩, -⟩ := hsv
      have hrep := hpr.2
      rw [ex] at hrep
      have Mg := qI hrep
      have Mk := qI hpr.1
      have Jw : Hid (zb [g] WL wr) := qI (by have := Gb.o.kept; simpa [Value.ownBlock] using this)
      have hgne : g ≠ w1.heap.size := by omega
      have y3 := (Jx.o.kept Jw.o (by simpa using Ne.symm hgne)).c4
      have Gl := qI (Gr.o.kid (xV (List.getElem_mem hlt)))
      have Mh := qI (qZ Mm.o (xV (List.getElem_mem hlt)))
      have H66 := qI h66
      clear hrep hpr h66
      rw [Nat.zero_add] at q0 q1 q2 q3 q4
      go_wp2_with fail
      refine zk (n := 13) (fun w' : World => w'.cell? ⟨w1.heap.size, 4, none⟩ = some (.slice (some ⟨g, 0, none⟩) v.m.length cm) ∧ w'.cell? ⟨g, k * 6 + 1, none⟩ = some (.int .i64 xk) ∧ w'.cell? ⟨g, k * 6 + 2, none⟩ = some (.int .i64 xm) ∧ w'.cell? ⟨g, k * 6 + 3, none⟩ = some (.string xs) ∧ w'.cell? ⟨g, k * 6 + 4, none⟩ = some (.slice xp xi xc) ∧ w'.cell? ⟨g, k * 6 + 5, none⟩ = some (.slice xq xj xd)) 12 (by kernel_rfl) (by kernel_rfl) ?_
      change zR _ _ _ _ _ _ _ _ _ wr.drew
      have hSS : (fun w' : World => w'.cell? ⟨w1.heap.size, 4, none⟩ = some (.slice (some ⟨g, 0, none⟩) v.m.length cm) ∧ w'.cell? ⟨g, k * 6 + 1, none⟩ = some (.int .i64 xk) ∧ w'.cell? ⟨g, k * 6 + 2, none⟩ = some (.int .i64 xm) ∧ w'.cell? ⟨g, k * 6 + 3, none⟩ = some (.string xs) ∧ w'.cell? ⟨g, k * 6 + 4, none⟩ = some (.slice xp xi xc) ∧ w'.cell? ⟨g, k * 6 + 5, none⟩ = some (.slice xq xj xd)) wr.drew := ⟨y3, q0, q1, q2, q3, q4⟩
      have Gw : Hid (zb [] wr wr.drew) := qI (zb.refl _ _).drew
      clear y3 q0 q1 q2 q3 q4
      revert hSS Gw
      generalize wr.drew = WD
      intro hSS Gw
      refine zx ?_
      intro O R hO hR
      have hQp : ∀ c a (d : Nat) v w, R (.panic c) (a.put (some d) v) w → R (.panic c) a w := by subst hR; exact fun _ _ _ _ _ h => h
      refine qT 0 ?_ hO rfl rfl (by kernel_rfl) hQp (fun w hSw => ?_) hSS ?_
      rotate_left
      ·obtain ⟨s0, s1, s2, s3, s4, s5⟩ := hSw; go_simp; try with_reducible rfl
      try simp only [zA,zN,zB,zC,zD]
      refine qT 1 ?_ hO rfl rfl (by kernel_rfl) hQp (fun w hSw => ?_) hSS ?_
      rotate_left
      ·obtain ⟨s0, s1, s2, s3, s4, s5⟩ := hSw; go_simp; try with_reducible rfl
      try simp only [zA,zN,zB,zC,zD]
      refine qT 2 ?_ hO rfl rfl (by kernel_rfl) hQp (fun w hSw => ?_) hSS ?_
      rotate_left
      ·obtain ⟨s0, s1, s2, s3, s4, s5⟩ := hSw; go_simp; try with_reducible rfl
      try simp only [zA,zN,zB,zC,zD]
      refine qT 3 ?_ hO rfl rfl (by kernel_rfl) hQp (fun w hSw => ?_) hSS ?_
      rotate_left
      ·obtain ⟨s0, s1, s2, s3, s4, s5⟩ := hSw; go_simp; try with_reducible rfl
      try simp only [zA,zN,zB,zC,zD]
      refine qT 4 ?_ hO rfl rfl (by kernel_rfl) hQp (fun w hSw => ?_) hSS ?_
      rotate_left
      ·obtain ⟨s0, s1, s2, s3, s4, s5⟩ := hSw; go_simp; try with_reducible rfl
      try simp only [zA,zN,zB,zC,zD]
      refine qT 5 ?_ hO rfl rfl (by kernel_rfl) hQp (fun w hSw => ?_) hSS ?_
      rotate_left
      ·obtain ⟨s0, s1, s2, s3, s4, s5⟩ := hSw; go_simp; try with_reducible rfl
      try simp only [zA,zN,zB,zC,zD]
      refine qT 6 ?_ hO rfl rfl (by kernel_rfl) hQp (fun w hSw => ?_) hSS ?_
      rotate_left
      ·obtain ⟨s0, s1, s2, s3, s4, s5⟩ := hSw; go_simp; try with_reducible rfl
      try simp only [zA,zN,zB,zC,zD]
      refine qT 7 ?_ hO rfl rfl (by kernel_rfl) hQp (fun w hSw => ?_) hSS ?_
      rotate_left
      ·obtain ⟨s0, s1, s2, s3, s4, s5⟩ := hSw; go_simp; try with_reducible rfl
      try simp only [zA,zN,zB,zC,zD]
      refine qT 8 ?_ hO rfl rfl (by kernel_rfl) hQp (fun w hSw => ?_) hSS ?_
      rotate_left
      ·obtain ⟨s0, s1, s2, s3, s4, s5⟩ := hSw; go_simp; try with_reducible rfl
      try simp only [zA,zN,zB,zC,zD]
      refine qO 9 hO rfl (by kernel_rfl) (fun K hK => ?_)
      go_simp
      refine Calls.mono (IH.o v.m[k].2 (Mg.o.kept0 Gw.o) Gl.o Mh.o) ?_
      rintro e w3 ⟨⟨c3, rfl, hown3⟩, hk3⟩
      have Ji := qI hown3.rep
      have Gg := qI (Gw.o.then hk3)
      have hS3 : (fun w' : World => w'.cell? ⟨w1.heap.size, 4, none⟩ = some (.slice (some ⟨g, 0, none⟩) v.m.length cm) ∧ w'.cell? ⟨g, k * 6 + 1, none⟩ = some (.int .i64 xk) ∧ w'.cell? ⟨g, k * 6 + 2, none⟩ = some (.int .i64 xm) ∧ w'.cell? ⟨g, k * 6 + 3, none⟩ = some (.string xs) ∧ w'.cell? ⟨g, k * 6 + 4, none⟩ = some (.slice xp xi xc) ∧ w'.cell? ⟨g, k * 6 + 5, none⟩ = some (.slice xq xj xd)) w3 := ⟨hk3.cell hSS.1 (by simp), hk3.cell hSS.2.1 (by simp), hk3.cell hSS.2.2.1 (by simp), hk3.cell hSS.2.2.2.1 (by simp), hk3.cell hSS.2.2.2.2.1 (by simp), hk3.cell hSS.2.2.2.2.2 (by simp)⟩
      have Jj : Hid (wr.heap.size ≤ WD.heap.size ∧ WD.heap.size ≤ w3.heap.size) := qI ⟨Gw.o.size, hk3.size⟩
      clear hown3 hk3
      refine hK _ _ (.inr hS3) ?_
      clear hK K
      try simp only [zA,zN,zB,zC,zD]
      clear hSS
      have hSS := hS3
      clear hS3
      refine qO 10 hO rfl (by kernel_rfl) (fun K hK => ?_)
      go_simp
      refine hK _ _ (.inr hSS) ?_
      clear hK K
      try simp only [zA,zN,zB,zC,zD]
      refine qO 11 hO rfl (by kernel_rfl) (fun K hK => ?_)
      go_simp
      refine hK _ _ (.inr hSS) ?_
      clear hK K
      try simp only [zA,zN,zB,zC,zD]
      have hlen3 : c3.length = 5 := Ji.o.len
      have hbnd : k * 6 + 1 + c3.length ≤ v.m.length * 6 := by rw [hlen3]; omega
      obtain ⟨⟨ys, hro, -, hys⟩, hth, hkg⟩ := row_cells (g := g) (o := k * 6 + 1) (c := c3) (zh Gb.o.row Gg.o (by simp)) rfl hbnd
      have hye := pair_set H66.o hk' hlen3 hys
      subst hye
      have Mi := qI hro
      have Jk := qI hkg
      clear hro hkg hys hbnd
      refine qO 12 hO rfl (by kernel_rfl) (fun K hK => ?_)
      refine wp_store_mid 25 (.tmp 42) (.tmp 40) rfl g (k * 6 + 1) c3.toArray rfl rfl (by rw [List.size_toArray]; exact hth) (by rw [List.size_toArray, hlen3]; kernel_rfl) (all_oneCell_toArray Ji.o.one) ?_
      refine hK _ _ (.inl rfl) ?_
      clear hK K
      try simp only [zA,zN,zB,zC,zD]
      refine zv hO (by kernel_rfl) ?_ _
      subst hR
      try clear hQp hO O
      clear hth hSS hlen3
      go_wp2_with fail
      case roundEnd =>
       have hzW := Ja.o
       have hz2 := Ge.o
       have hzl := Gn.o
       have hzx := Jw.o.size
       have hzd := Jj.o
       refine ⟨⟨k + 1, ls.set k (ls[k].1, c3), by go_num, by omega, {
        row := Mi.o
        all := ?_
        kept := ?_ }⟩, by simp [intOf]; omega⟩
       ·rw [← take_set (fun p : ByteArray × V n => (p.1, zH n p.2)) id v.m k hlt]
        refine yc.set (Gb.o.all.mono fun c y _ r => ⟨r.1, r.2.move ((Gg.o.mono (by simp)).trans' Jk.o) ?ga⟩) k ⟨Mk.o, Ji.o.move Jk.o ?gb⟩
        case ga =>
         intro i hi ⟨h1, h2, h3⟩
         exact ⟨by intro hx; simp at hx; subst hx; exact h3 rfl, h1, h2, h3⟩
        case gb =>
         intro i hi h1
         refine ⟨by intro hx; simp at hx; omega, by omega, ?_, ?_⟩
         ·intro hx; have := hblk.o i (Option.mem_toList.2 hx); omega
         ·intro hx; simp [Value.ownBlock] at hx; omega
       ·exact (Gb.o.kept.then Gg.o).trans Jk.o (by intro i hi; simp at hi; subst hi; exact .inl (by simp [Value.ownBlock]))
     ·obtain rfl : k = v.m.length := by omega
      obtain ⟨ds0, hls, henc⟩ := pcs_of Gb.o.all
      have CS := qI (sortAny (ms := ds0) (by rw [← henc]; exact Gb.o.row) (by omega))
      have My := qI hls
      have hb3f := Jx.o.kept Gb.o.kept (by intro hx; have := hmblk.o _ (Option.mem_toList.1 hx); omega)
      have Ml := qI hb3f
      have c4 := hb3f.c4
      clear hls henc hb3f
      go_wp2_with fail
      refine CS.o.mono ?_
      rintro e w5 ⟨rfl, ds, hdp, hds, hrow5, hk5⟩
      have Mz := qI hdp
      have Ya := qI hds
      have Yb := qI hrow5
      have Gv := qI hk5
      clear hdp hds hrow5 hk5 c4
      obtain ⟨c0, c1, c2, c3, c4⟩ := Ml.o.kept Gv.o (by intro hx; have := hmblk.o _ (Option.mem_toList.1 hx); omega)
      have Mo : Hid (zb ((Value.slice al v.l.length cl).ownBlock.toList ++ (Value.slice am v.m.length cm).ownBlock.toList) w1 w5) := qI (((Gp.o.mono (fun i hi => List.mem_append_left _ hi)).trans' (Gb.o.kept.mono (fun i hi => List.mem_append_right _ hi))).trans' (Gv.o.mono (fun i hi => List.mem_append_right _ hi)))
      have hbr : w5.heap[w.heap.size + 1]? = some (.cells #[.int .i64 0, .int .i64 0, .string ⟨#[]⟩, .slice none 0 0, .slice none 0 0] 25 (0, 0)) := Mo.o.heap (Gk.o.heap Ma.o (by simp)) (by
       intro hx
       have hz := Ja.o
       rcases List.mem_append.1 hx with hx | hx
       ·have := hblk.o _ hx; omega
       ·have := hmblk.o _ (Option.mem_toList.1 hx); omega)
      have Yc := qI hbr
      have r0 := za (o := 0) (v := .int .i64 0) hbr rfl
      have r1 := za (o := 1) (v := .int .i64 0) hbr rfl
      have r2 := za (o := 2) (v := .string ⟨#[]⟩) hbr rfl
      have r3 := za (o := 3) (v := .slice none 0 0) hbr rfl
      have r4 := za (o := 4) (v := .slice none 0 0) hbr rfl
      have s0 := zc (o := 0) hbr
      have s1 := zc (o := 1) hbr
      have s2 := zc (o := 2) hbr
      have s3 := zc (o := 3) hbr
      have s4 := zc (o := 4) hbr
      clear hbr
      go_wp2_with fail
      have hbf := zf (v := .slice am v.m.length cm) (i := 4) (zf (v := .slice al v.l.length cl) (i := 3) (zf (v := .string v.s) (i := 2) (zf (v := .int .i64 v.num) (i := 1) (zf (v := .int .i64 v.kind) (i := 0) Yc.o rfl) rfl) rfl) rfl) rfl
      have KF : zb [w.heap.size + 1] w5 (((((w5.setCell ⟨w.heap.size + 1, 0, none⟩ (.int .i64 v.kind)).setCell ⟨w.heap.size + 1, 1, none⟩ (.int .i64 v.num)).setCell ⟨w.heap.size + 1, 2, none⟩ (.string v.s)).setCell ⟨w.heap.size + 1, 3, none⟩ (.slice al v.l.length cl)).setCell ⟨w.heap.size + 1, 4, none⟩ (.slice am v.m.length cm)) :=
       (((((zb.refl _ _).setCell (p := ⟨w.heap.size + 1, 0, none⟩) (.inl (by simp)) _).setCell (p := ⟨w.heap.size + 1, 1, none⟩) (.inl (by simp)) _).setCell (p := ⟨w.heap.size + 1, 2, none⟩) (.inl (by simp)) _).setCell (p := ⟨w.heap.size + 1, 3, none⟩) (.inl (by simp)) _).setCell (p := ⟨w.heap.size + 1, 4, none⟩) (.inl (by simp)) _
      have x0 := za (o := 0) (v := .int .i64 v.kind) hbf rfl
      have x1 := za (o := 1) (v := .int .i64 v.num) hbf rfl
      have x2 := za (o := 2) (v := .string v.s) hbf rfl
      have x3 := za (o := 3) (v := .slice al v.l.length cl) hbf rfl
      have x4 := za (o := 4) (v := .slice am v.m.length cm) hbf rfl
      clear hbf c0 c1 c2 c3 c4 r0 r1 r2 r3 r4 s0 s1 s2 s3 s4
      revert KF x0 x1 x2 x3 x4
      generalize ((((w5.setCell ⟨w.heap.size + 1, 0, none⟩ (.int .i64 v.kind)).setCell ⟨w.heap.size + 1, 1, none⟩ (.int .i64 v.num)).setCell ⟨w.heap.size + 1, 2, none⟩ (.string v.s)).setCell ⟨w.heap.size + 1, 3, none⟩ (.slice al v.l.length cl)).setCell ⟨w.heap.size + 1, 4, none⟩ (.slice am v.m.length cm) = WF
      intro KF x0 x1 x2 x3 x4
      have hz0 := Ja.o
      have hz1 := Gk.o.size
      have hz2 := Gh.o.size
      have hzL := Gn.o
      have hzr := Gb.o.kept.size
      have hsame : ∀ i, (Value.slice am v.m.length cm).ownBlock = some i → (Value.slice al v.l.length cl).ownBlock ≠ some i := fun i hi hx => by
       have h1 := (hmblk.o i hi).2.2
       have h2 := (hblk.o i (Option.mem_toList.2 hx)).2.2
       rw [h1] at h2
       exact absurd h2 (by decide)
      have hne : ∀ i, W0.heap.size ≤ i → (Value.slice am v.m.length cm).ownBlock ≠ some i → i ∉ (Value.slice am v.m.length cm).ownBlock.toList ++ [w.heap.size + 1] := fun i h1 h2 hx => by
       rcases List.mem_append.1 hx with hx | hx
       ·exact h2 (Option.mem_toList.1 hx)
       ·simp at hx; omega
      have K5F : zb ((Value.slice am v.m.length cm).ownBlock.toList ++ [w.heap.size + 1]) wr WF := (Gv.o.mono (fun i hi => List.mem_append_left _ hi)).trans' (KF.mono (fun i hi => List.mem_append_right _ hi))
      have KLF : zb ((Value.slice am v.m.length cm).ownBlock.toList ++ [w.heap.size + 1]) WL WF := (Gb.o.kept.mono (fun i hi => List.mem_append_left _ hi)).trans' K5F
      have hall : yc (jj (Rep n (fun g => W0.heap.size ≤ g ∧ (Value.slice al v.l.length cl).ownBlock ≠ some g ∧ (Value.slice am v.m.length cm).ownBlock ≠ some g) wr)) (ds0.map (fun x => (x.key, x.cs))) (v.m.map (xF (zH n))) := by
       have h1 := Gb.o.all
       rw [List.take_length, List.drop_length, List.map_nil, List.append_nil, My.o] at h1
       exact h1
      have hsp := sorted_pairs hall Mz.o Ya.o (by rw [List.map_map]; exact Mu.o)
      have hdl : (ds.map (fun x => (x.key, x.cs))).length = v.m.length := by rw [hsp.1, List.length_mergeSort, List.length_map]
      have hpe : zQ (ds.map (fun x => (x.key, x.cs))) = ds.flatMap PC.enc := by
       unfold zQ
       rw [List.flatMap_map]
       rfl
      have hown : yS (n + 1) w.heap.size WF [.int .i64 v.kind, .int .i64 v.num, .string v.s, .slice al v.l.length cl, .slice am v.m.length cm] (zH (n + 1) v) := by
       rw [jb]
       refine ⟨_, _, lsF, ds.map (fun x => (x.key, x.cs)), rfl, ?h1, ?h2, ?h3, ?h4, Mn.o.1, Mn.o.2⟩
       case h1 =>
        simp only [List.length_map]
        exact y8 (zh Gx.o.row KLF (fun i hi => hne i ((hblk.o i (Option.mem_toList.2 hi)).1) (fun hx => hsame i hx hi))) (fun i hi => by have := (hblk.o i (Option.mem_toList.2 hi)).1; omega)
       case h2 =>
        have h1 := Gx.o.all
        rw [List.take_length, List.drop_length, List.map_nil, List.append_nil] at h1
        exact h1.mono fun _ _ _ r => r.move KLF (fun i _ ⟨q1, q2, q3⟩ => ⟨hne i q1 q3, by omega, q2, q3⟩)
       case h3 =>
        simp only [List.length_mergeSort, List.length_map]
        rw [hpe]
        exact y8 (zh Yb.o KF (fun i hi hx => by have := (hmblk.o i hi).1; simp at hx; omega)) (fun i hi => by have := (hmblk.o i hi).1; omega)
       case h4 =>
        exact hsp.mono fun _ _ _ r => ⟨r.1, r.2.move K5F (fun i _ ⟨q1, q2, q3⟩ => ⟨hne i q1 q3, by omega, q2, q3⟩)⟩
      have hkw : zb [] w WF := ((Gq.o.then Gk.o).trans Mo.o (fun i hi => by
       rcases List.mem_append.1 hi with hi | hi
       ·have := (hblk.o i hi).1; exact .inr (by omega)
       ·have := (hmblk.o i (Option.mem_toList.1 hi)).1; exact .inr (by omega))).trans KF (fun i hi => by simp at hi; exact .inr (by omega))
      exact bodyPost_ret (v := .agg #[.int .i64 v.kind, .int .i64 v.num, .string v.s, .slice al v.l.length cl, .slice am v.m.length cm]) (by simp [results, results77, go_sem, x0, x1, x2, x3, x4]) rfl ⟨⟨_, rfl, hown⟩, hkw⟩
theorem jN : ∀ (n : Nat), kw n
 | 0 => fun v {_} {_} {_} h _ _ => h.elim
 | n + 1 => Qr (jN n)
theorem Zx : ∀ (n : Nat) (v : V n) {S : Nat → Prop} {w : World} {cs : List Value}, Rep n S w cs v → zZ n v → zj n v = true →
  Calls Tryz.prog 77 #[.agg cs.toArray] w fun e w' => (∃ cs' : List Value, e = .returned (.agg cs'.toArray) ∧ yS n w.heap.size w' cs' (zH n v)) ∧ zb [] w w' := fun n => jN n
section
variable {P : Program} {ops : Array Oper} {Q : Exit → Act → World → Prop} {md : Region.Mode} {S : World → Prop} {L : Nat}
end
theorem slc_tail {P : Program} {t e size bytes : Nat} {z : Value} (T : kg P t e size bytes z) {w : World} {v : Value} {n : Nat} {xs : List Value} (h : Slc w size v n xs) (k : Nat) (hk : k ≤ n) :
  ∃ a c, (∀ W, (Instr.slice t v (some (.int .i64 k)) none none).run P W = .ok (.slice a (n - k) c) W) ∧ Slc w size (.slice a (n - k) c) (n - k) (xs.drop (k * size)) := by
 obtain ⟨v', -, h3, -, h4, -⟩ := h.cut T k n hk (Nat.le_refl _)
 obtain ⟨a, c, rfl, -, -⟩ := h4.form
 refine ⟨a, c, h3 rfl, ?_⟩
 have e2 : List.take ((n - k) * size) (List.drop (k * size) xs) = List.drop (k * size) xs := List.take_of_length_le (by rw [List.length_drop, h.1, Nat.sub_mul]; exact Nat.le_refl _)
 rw [e2] at h4
 exact h4
theorem Qh : ∀ (l : List (ByteArray × List Value)) (k : Nat), (∀ p, p ∈ l → p.2.length = 5) → (zQ l).drop (k * 6) = zQ (l.drop k)
 | _, 0, _ => by simp
 | [], k + 1, _ => by simp [zQ]
 | p :: t, k + 1, h => by
  have hp : (zM p).length = 6 := by simp [zM, h p (List.mem_cons_self ..)]
  rw [List.drop_succ_cons]
  show List.drop ((k + 1) * 6) (zM p ++ zQ t) = zQ (t.drop k)
  rw [List.drop_append, List.drop_eq_nil_of_le (by omega), hp, show (k + 1) * 6 - 6 = k * 6 by omega, Qh t k (fun q hq => h q (List.mem_cons_of_mem _ hq)), List.nil_append]
structure InsL {n : Nat} (W : World) (b3 : Nat) (v : VS (V n)) (k : Nat) (wr : World) (vl : Value) (lcs : List (List Value)) : Prop where
 blk : wr.heap[b3]? = some (.cells (qj v.kind v.num v.s vl (.slice none 0 0)) 25 (0, 0))
 row : wr.ownsRow W.heap.size 25 5 vl k lcs.flatten
 all : yc (Rep n (fun g => W.heap.size ≤ g ∧ vl.ownBlock ≠ some g) wr) lcs ((v.l.take k).map (zH n))
 kept : zb [b3] W wr
structure InsM {n : Nat} (W : World) (b3 : Nat) (v : VS (V n)) (vl : Value) (k : Nat) (wr : World) (vm : Value) (mcs : List (ByteArray × List Value)) (ms : List (ByteArray × V n)) : Prop where
 blk : wr.heap[b3]? = some (.cells (qj v.kind v.num v.s vl vm) 25 (0, 0))
 row : wr.ownsRow W.heap.size 60 6 vm ms.length (zQ mcs)
 all : yc (jj (Rep n (fun g => W.heap.size ≤ g ∧ vm.ownBlock ≠ some g) wr)) mcs ms
 kept : zb [b3] W wr
 ord : ms.Pairwise (fun x y => leK x y = true)
 perm : ms.Perm ((v.m.take k).map (xF (zH n)))
 lim : ms.length = k
end Go.Proofs.YtpbphdkjjoipnaaGreatDoor

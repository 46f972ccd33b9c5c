/- Parts of one proof, merged: XKH XKI XKJ XKR XKL. -/
import Derived.Test.YtpbphdkjjoipnaaGreatDoorHD
import Derived.Test.YtpbphdkjjoipnaaGreatDoorHC
import Derived.Deep.DeepCutAuto
import Derived.Deep.CutBlock
set_option linter.all false
set_option maxHeartbeats 12800000
set_option maxRecDepth 10000
set_option linter.unusedVariables false
set_option linter.unusedSimpArgs false
set_option linter.unnecessarySimpa false
namespace Go.Proofs.YtpbphdkjjoipnaaGreatDoor
open Go.Proofs.Tryz
open Go.RowKit
theorem keys_any {n : Nat} {v : VS (V n)} {S : Nat → Prop} {w : World} {cs : List Value} {vl : Value} {b : Option Addr} {e : Nat} {lcs : List (List Value)} {mcs : List (ByteArray × List Value)}
  (h : ya (Rep n S w) S w cs v vl (.slice b v.m.length e) lcs mcs) (hm : v.m.length ≤ 20000) (hk : ∀ p, p ∈ v.m → p.1.size ≤ 400000) (ht : yK w) :
  Calls Tryz.prog 178 #[.slice b v.m.length e] w fun e w' => e = .returned (.bool (yE v.m)) ∧ zb [] w w' := by
 have H := qI h
 have Gw := qI hk
 have HT := qI ht
 have Gt := qI (keysGo_all v.m)
 obtain ⟨W0, Gi⟩ : ∃ W0, Hid (W0 = w.alloc (.map #[] 0)) := ⟨_, qI rfl⟩
 have Gb : Hid (zb [] w W0) := qI (by rw [Gi.o]; exact (zb.refl _ _).alloc _)
 have Jz : Hid (xN W0 w.heap.size []) := qI (by rw [Gi.o]; exact seen_new rfl)
 clear h hk ht
 have hmm := @run_makeMap Tryz.prog
 go_enter func178, ntmps178
 go_wp2_with fail
 clear hmm
 rw [← Gi.o]
 go_loopw [9] (fun i wr => ∃ k : Nat, i = .int .i64 k ∧ k ≤ v.m.length ∧ xN wr w.heap.size ((v.m.take k).map (fun p => p.1)) ∧ vd ((v.m.take k).map (fun p => p.1)) ((v.m.drop k).map (fun p => p.1)) = vd [] (v.m.map (fun p => p.1)) ∧ zb [] w wr) (fun i _ => v.m.length - (intOf i).toNat)
 case atStart => exact ⟨0, rfl, Nat.zero_le _, Jz.o, rfl, Gb.o⟩
 case round =>
  obtain ⟨k, rfl, hk, hs, hg, hkr⟩ := hrel
  have HS := qI hs
  have HG := qI hg
  have Gd := qI hkr
  clear hs hg hkr
  by_cases hlt : k < v.m.length
  ·have hltI : (k : Int) < v.m.length := by omega
   obtain ⟨g, o, cap, kd, nm, st, a1, b1, he, q0, q1, q2, q3, q4, q5, hr⟩ := H.o.at_m Gd.o k hlt
   simp only [Value.slice.injEq] at he
   obtain ⟨rfl, -, rfl⟩ := he
   obtain ⟨p1, i1, d1, p2, i2, d2, rfl, rfl⟩ := hr.sl
   have hks : v.m[k].1.size ≤ 400000 := Gw.o _ (List.getElem_mem hlt)
   have Gn : Hid ((v.m.take (k + 1)).map (fun p => p.1) = (v.m.take k).map (fun p => p.1) ++ [v.m[k].1]) := qI (yQ _ _ _ hlt)
   have HD : Hid (vd ((v.m.take k).map (fun p => p.1)) ((v.m.drop k).map (fun p => p.1)) = (!(((v.m.take k).map (fun p => p.1)).any (fun x => decide (x = v.m[k].1))) && zX v.m[k].1 && vd ((v.m.take k).map (fun p => p.1) ++ [v.m[k].1]) ((v.m.drop (k + 1)).map (fun p => p.1)))) := qI (by
    conv => lhs; rw [List.drop_eq_getElem_cons hlt]
    rfl)
   have hsl : ((v.m.take k).map (fun p => p.1)).length ≤ 20000 := by rw [List.length_map, List.length_take]; omega
   clear hr
   revert q0 hks Gn HD
   generalize v.m[k].1 = key
   intro q0 hks Gn HD
   have HA := qI ((zb.refl [] wr).alloc (.cells #[.string key, .int .i64 kd, .int .i64 nm, .string st, .slice p1 i1 d1, .slice p2 i2 d2] 60))
   have hlook := (HS.o.kept0 HA.o).look key (by omega)
   have Ma := qI (pbox_at (w := wr) rfl key kd nm st (.slice p1 i1 d1) (.slice p2 i2 d2) 60)
   have CV := qI (Kq (HT.o.kept0 (Gd.o.then HA.o)) key (by omega))
   revert hlook HD CV
   generalize ((v.m.take k).map (fun p => p.1)).any (fun x => decide (x = key)) = r
   generalize zX key = ok
   intro HD hlook CV
   cases r with
   | true =>
    go_wp2_with fail
    go_ret
    rw [← Gt.o, ← HG.o, HD.o]
    exact ⟨by simp, Gd.o.then HA.o⟩
   | false =>
    cases ok with
    | false =>
     go_wp2_with (go_at_call 177; refine CV.o.mono ?_; rintro e w2 ⟨rfl, hk2⟩)
     go_ret
     rw [← Gt.o, ← HG.o, HD.o]
     exact ⟨by simp, (Gd.o.then HA.o).then hk2⟩
    | true =>
     go_wp2_with (go_at_call 177; refine CV.o.mono ?_; rintro e w2 ⟨rfl, hk2⟩; have Gg := qI (HA.o.then hk2); obtain ⟨y0, -, -, -, -, -⟩ := Ma.o.kept0 hk2; obtain ⟨w3, hput, hs3, hk3⟩ := (HS.o.kept0 Gg.o).put key (by omega) (by omega); have Mb := qI hs3; have Gk := qI hk3; clear hk2 hs3 hk3)
     case roundEnd =>
      refine ⟨⟨k + 1, by go_num, by omega, ?_, ?_, ?_⟩, by simp [intOf]; omega⟩
      ·rw [Gn.o]; exact Mb.o
      ·rw [← HG.o, HD.o, Gn.o]; simp
      ·exact (Gd.o.then Gg.o).trans Gk.o (fun i hi => by simp at hi; subst hi; exact .inr (Nat.le_refl _))
  ·obtain rfl : k = v.m.length := by omega
   go_wp2_with fail
   go_ret
   rw [← Gt.o, ← HG.o, List.drop_length]
   exact ⟨rfl, Gd.o⟩
def yJ {α : Type} (v : VS α) (ok : Bool) (m : Int) (s : ByteArray) (l k : Nat) : Prop := zE v = (ok && decide (v.num = m) && decide (v.s = s) && decide (v.l.length = l) && decide (v.m.length = k))
theorem str_beq (a b : ByteArray) : (a.toList == b.toList) = decide (a = b) := by
 by_cases h : a = b
 ·rw [(qo h).1, decide_eq_true h]
 ·rw [(xM h).1, decide_eq_false h]
theorem nat_beq (a b : Nat) : ((a : Int) == (b : Int)) = decide (a = b) := by
 by_cases h : a = b
 ·rw [(vv h).1, decide_eq_true h]
 ·rw [(qK h).1, decide_eq_false h]
theorem plain_1 {α : Type} {v : VS α} (h : v.kind = 1) : yJ v true 0 ⟨#[]⟩ 0 0 := by
 unfold yJ zE jK; simp only [xW]; rw [h]; simp
theorem plain_2 {α : Type} {v : VS α} (h : v.kind = 2) : yJ v (decide (v.num = 0 ∨ v.num = 1)) v.num ⟨#[]⟩ 0 0 := by
 unfold yJ zE jK; simp only [xW]; rw [h]; simp
theorem plain_3 {α : Type} {v : VS α} (h : v.kind = 3) : yJ v (decide (-9007199254740991 ≤ v.num ∧ v.num ≤ 9007199254740991)) v.num ⟨#[]⟩ 0 0 := by
 unfold yJ zE jK; simp only [xW]; rw [h]; simp
theorem plain_4 {α : Type} {v : VS α} (h : v.kind = 4) : yJ v (zX v.s) 0 v.s 0 0 := by
 unfold yJ zE jK; simp only [xW]; rw [h]; simp [Bool.and_assoc]
theorem plain_5 {α : Type} {v : VS α} (h : v.kind = 5) : yJ v true 0 ⟨#[]⟩ v.l.length 0 := by
 unfold yJ zE jK; simp only [xW]; rw [h]; simp
theorem plain_6 {α : Type} {v : VS α} (h : v.kind = 6) : yJ v (yE v.m) 0 ⟨#[]⟩ 0 v.m.length := by
 unfold yJ zE jK; simp only [xW]; rw [h]; simp
theorem plain_else {α : Type} {v : VS α} (h : ¬ (v.kind = 1 ∨ v.kind = 2 ∨ v.kind = 3 ∨ v.kind = 4 ∨ v.kind = 5 ∨ v.kind = 6)) : zE v = false := by
 unfold zE
 rw [if_neg (by omega), if_neg (by omega), if_neg (by omega), if_neg (by omega), if_neg (by omega), if_neg (by omega)]
set_option maxRecDepth 100000 in
theorem plain_any {n : Nat} {v : VS (V n)} {S : Nat → Prop} {w : World} {cs : List Value} (h : Rep (n + 1) S w cs v) (hs : zZ (n + 1) v) (ht : yK w) :
  Calls Tryz.prog 136 #[.agg cs.toArray] w fun e w' => e = .returned (.bool (zE v)) ∧ zb [] w w' := by
 have Gx := qI h
 have Gp := qI hs
 have HT := qI ht
 obtain ⟨vl, vm, lcs, mcs, h⟩ := h
 obtain ⟨a, c, b, e, rfl, rfl, rfl⟩ := h.forms
 have H := qI h
 obtain ⟨W1, Gj⟩ : ∃ W1, Hid (W1 = (w.alloc (.cells #[.int .i64 v.kind, .int .i64 v.num, .string v.s, .slice a v.l.length c, .slice b v.m.length e] 25)).alloc (.cells #[.int .i64 v.kind, .int .i64 0, .string ⟨#[]⟩, .slice none 0 0, .slice none 0 0] 25)) := ⟨_, qI rfl⟩
 have HB : Hid (z6 W1 w.heap.size v.kind v.num v.s (.slice a v.l.length c) (.slice b v.m.length e)) := qI (by rw [Gj.o]; exact (yb w v.kind v.num v.s (.slice a v.l.length c) (.slice b v.m.length e) 25).kept0 ((zb.refl _ _).alloc _))
 have Gb : Hid (zb [] w W1) := qI (by rw [Gj.o]; exact ((zb.refl [] w).alloc _).alloc _)
 have Gl : Hid (W1.heap[w.heap.size + 1]? = some (.cells (qj v.kind 0 ⟨#[]⟩ (.slice none 0 0) (.slice none 0 0)) 25 (0, 0))) := qI (by rw [Gj.o]; exact zn (by simp))
 have hsv : (v.s.size : Int) ≤ 400000 := by have := hs.2; have e : zw (n + 1) v = v.s.size + v.keyBytes + (v.kids.map (zw n)).sum := rfl; omega
 have Gw : Hid (∀ p, p ∈ v.m → p.1.size ≤ 400000) := qI fun p hp => Nat.le_trans (ZG hp) hs.2
 have HM : Hid (v.m.length ≤ 20000) := qI (by have := hs.few; omega)
 have Jc : Hid (∀ {w'}, zb [] w w' → ya (Rep n S w') S w' _ v _ _ lcs mcs) := qI fun k => { cells := h.cells, slcl := h.slcl.kept0 k, alll := h.alll.mono fun _ _ _ r => r.kept0 k, slcm := h.slcm.kept0 k, allm := h.allm.mono fun _ _ _ r => ⟨r.1, r.2.kept0 k⟩, inl := h.inl, inm := h.inm, wfk := h.wfk, wfn := h.wfn }
 obtain ⟨c0, c1, c2, c3, c4⟩ := HB.o
 rw [Gj.o] at c0 c1 c2 c3 c4
 clear h hs ht
 go_enter func136, ntmps136
 go_upto_block 0 with fail
 rw [← Gj.o]
 rw [← Gj.o] at c0 c1 c2 c3 c4
 go_cut [4] from 10 to 58 (fun q wr => ∃ (ok : Bool) (m : Int) (s : ByteArray) (l k : Nat) (al am : Option Addr) (cl cm : Nat), q = .bool ok ∧ zb [w.heap.size + 1] W1 wr ∧ z6 wr (w.heap.size + 1) v.kind m s (.slice al l cl) (.slice am k cm) ∧ Hid (yJ v ok m s l k))
 case first =>
  by_cases k1 : v.kind = 1
  ·have f1 := (yg k1).1
   have Gf := qI (plain_1 k1)
   clear k1
   go_wp2_with fail
   go_meet
   exact ⟨true, 0, ⟨#[]⟩, 0, 0, _, _, _, _, rfl, zb.refl _ _, ⟨za Gl.o rfl, za Gl.o rfl, za Gl.o rfl, za Gl.o rfl, za Gl.o rfl⟩, Gf⟩
  have f1 := (zt k1).1
  by_cases k2 : v.kind = 2
  ·have f2 := (yg k2).1
   have Gf := qI (plain_2 k2)
   by_cases n0 : v.num = 0
   ·have g1 := (yg n0).1
    have Gf : Hid (yJ v true v.num ⟨#[]⟩ 0 0) := qI (by have := Gf.o; rw [decide_eq_true (.inl n0)] at this; exact this)
    clear k1 k2 n0
    go_wp2_with fail
    refine zk (n := 13) (fun w' : World => w'.cell? ⟨w.heap.size, 1, none⟩ = some (.int .i64 v.num)) 12 (by kernel_rfl) (by kernel_rfl) ?_
    change zR _ _ _ _ _ _ _ _ _ W1.drew
    have hSS : (fun w' : World => w'.cell? ⟨w.heap.size, 1, none⟩ = some (.int .i64 v.num)) W1.drew := c1
    have hb2 : W1.drew.heap[w.heap.size + 1]? = some (.cells (qj v.kind 0 ⟨#[]⟩ (.slice none 0 0) (.slice none 0 0)) 25 (0, 0)) := Gl.o
    have Gc : Hid (zb [w.heap.size + 1] W1 W1.drew) := qI (zb.refl _ _).drew
    have Gh : Hid (zb [] w W1.drew) := qI Gb.o.drew
    clear c0 c1 c2 c3 c4
    revert hSS hb2 Gc Gh
    generalize W1.drew = W2
    intro hSS hb2 Gc Gh
    refine zx ?_
    intro O R hO hR
    have hQp : ∀ c a (d : Nat) v w, R (.panic c) (a.put (some d) v) w → R (.panic c) a w := by subst hR; exact fun _ _ _ _ _ h => h
    refine qT 0 ?_ hO rfl rfl (by kernel_rfl) hQp (fun w hSw => ?_) hSS ?_
    rotate_left
    ·go_simp; try with_reducible rfl
    try simp only [zA,zN,zB,zC,zD]
    refine qT 1 ?_ hO rfl rfl (by kernel_rfl) hQp (fun w hSw => ?_) hSS ?_
    rotate_left
    ·go_simp; try with_reducible rfl
    try simp only [zA,zN,zB,zC,zD]
    refine qT 2 ?_ hO rfl rfl (by kernel_rfl) hQp (fun w hSw => ?_) hSS ?_
    rotate_left
    ·go_simp; try with_reducible rfl
    try simp only [zA,zN,zB,zC,zD]
    refine qT 3 ?_ hO rfl rfl (by kernel_rfl) hQp (fun w hSw => ?_) hSS ?_
    rotate_left
    ·go_simp; try with_reducible rfl
    try simp only [zA,zN,zB,zC,zD]
    refine qT 4 ?_ hO rfl rfl (by kernel_rfl) hQp (fun w hSw => ?_) hSS ?_
    rotate_left
    ·go_simp; try with_reducible rfl
    try simp only [zA,zN,zB,zC,zD]
    refine qT 5 ?_ hO rfl rfl (by kernel_rfl) hQp (fun w hSw => ?_) hSS ?_
    rotate_left
    ·go_simp; try with_reducible rfl
    try simp only [zA,zN,zB,zC,zD]
    refine xv (i := 6) (v := undef) hO rfl rfl (by kernel_rfl) (by kernel_rfl) (by kernel_rfl) (by kernel_rfl) hQp (Or.inr ⟨by kernel_rfl, rfl⟩) hSS ?_
    try simp only [zA,zN,zB,zC,zD]
    refine xv (i := 7) (v := undef) hO rfl rfl (by kernel_rfl) (by kernel_rfl) (by kernel_rfl) (by kernel_rfl) hQp (Or.inr ⟨by kernel_rfl, rfl⟩) hSS ?_
    try simp only [zA,zN,zB,zC,zD]
    refine xv (i := 8) (v := undef) hO rfl rfl (by kernel_rfl) (by kernel_rfl) (by kernel_rfl) (by kernel_rfl) hQp (Or.inr ⟨by kernel_rfl, rfl⟩) hSS ?_
    try simp only [zA,zN,zB,zC,zD]
    refine qT 9 ?_ hO rfl rfl (by kernel_rfl) hQp (fun w hSw => ?_) hSS ?_
    rotate_left
    ·go_simp; try with_reducible rfl
    try simp only [zA,zN,zB,zC,zD]
    refine qT 10 ?_ hO rfl rfl (by kernel_rfl) hQp (fun w hSw => ?_) hSS ?_
    rotate_left
    ·go_simp; try with_reducible rfl
    try simp only [zA,zN,zB,zC,zD]
    have hc2 := za (o := 1) hb2 rfl
    have hf2 := zc (o := 1) hb2
    refine qO 11 hO rfl (by kernel_rfl) (fun K hK => ?_)
    go_simp
    have KS := (zb.refl [w.heap.size + 1] W2).setCell (p := ⟨w.heap.size + 1, 1, none⟩) (.inl (by simp)) (.int .i64 v.num)
    have hS2 : (fun w' : World => w'.cell? ⟨w.heap.size, 1, none⟩ = some (.int .i64 v.num)) (W2.setCell ⟨w.heap.size + 1, 1, none⟩ (.int .i64 v.num)) := KS.cell hSS (by simp)
    have hb3 : (W2.setCell ⟨w.heap.size + 1, 1, none⟩ (.int .i64 v.num)).heap[w.heap.size + 1]? = some (.cells #[.int .i64 v.kind, .int .i64 v.num, .string ⟨#[]⟩, .slice none 0 0, .slice none 0 0] 25 (0, 0)) := zf hb2 rfl
    have Ga := qI hb3
    have Gk := qI (Gc.o.trans' KS)
    refine hK _ _ (.inr hS2) ?_
    clear hK K
    try simp only [zA,zN,zB,zC,zD]
    clear hSS hc2 hf2 hb2 hb3 KS
    have hSS := hS2
    clear hS2
    refine qO 12 hO rfl (by kernel_rfl) (fun K hK => ?_)
    go_simp
    refine hK _ _ (.inl rfl) ?_
    clear hK K
    try simp only [zA,zN,zB,zC,zD]
    refine zv hO (by kernel_rfl) ?_ _
    subst hR
    try clear hQp hO O
    go_wp2_with fail
    go_meet
    exact ⟨true, v.num, ⟨#[]⟩, 0, 0, _, _, _, _, rfl, Gk.o, ⟨za Ga.o rfl, za Ga.o rfl, za Ga.o rfl, za Ga.o rfl, za Ga.o rfl⟩, Gf⟩
   have g1 := (zt n0).1
   by_cases n1 : v.num = 1
   ·have g2 := (yg n1).1
    have Gf : Hid (yJ v true v.num ⟨#[]⟩ 0 0) := qI (by have := Gf.o; rw [decide_eq_true (.inr n1)] at this; exact this)
    clear k1 k2 n0 n1
    go_wp2_with fail
    refine zk (n := 13) (fun w' : World => w'.cell? ⟨w.heap.size, 1, none⟩ = some (.int .i64 v.num)) 12 (by kernel_rfl) (by kernel_rfl) ?_
    change zR _ _ _ _ _ _ _ _ _ W1.drew
    have hSS : (fun w' : World => w'.cell? ⟨w.heap.size, 1, none⟩ = some (.int .i64 v.num)) W1.drew := c1
    have hb2 : W1.drew.heap[w.heap.size + 1]? = some (.cells (qj v.kind 0 ⟨#[]⟩ (.slice none 0 0) (.slice none 0 0)) 25 (0, 0)) := Gl.o
    have Gc : Hid (zb [w.heap.size + 1] W1 W1.drew) := qI (zb.refl _ _).drew
    have Gh : Hid (zb [] w W1.drew) := qI Gb.o.drew
    clear c0 c1 c2 c3 c4
    revert hSS hb2 Gc Gh
    generalize W1.drew = W2
    intro hSS hb2 Gc Gh
    refine zx ?_
    intro O R hO hR
    have hQp : ∀ c a (d : Nat) v w, R (.panic c) (a.put (some d) v) w → R (.panic c) a w := by subst hR; exact fun _ _ _ _ _ h => h
    refine qT 0 ?_ hO rfl rfl (by kernel_rfl) hQp (fun w hSw => ?_) hSS ?_
    rotate_left
    ·go_simp; try with_reducible rfl
    try simp only [zA,zN,zB,zC,zD]
    refine qT 1 ?_ hO rfl rfl (by kernel_rfl) hQp (fun w hSw => ?_) hSS ?_
    rotate_left
    ·go_simp; try with_reducible rfl
    try simp only [zA,zN,zB,zC,zD]
    refine qT 2 ?_ hO rfl rfl (by kernel_rfl) hQp (fun w hSw => ?_) hSS ?_
    rotate_left
    ·go_simp; try with_reducible rfl
    try simp only [zA,zN,zB,zC,zD]
    refine qT 3 ?_ hO rfl rfl (by kernel_rfl) hQp (fun w hSw => ?_) hSS ?_
    rotate_left
    ·go_simp; try with_reducible rfl
    try simp only [zA,zN,zB,zC,zD]
    refine qT 4 ?_ hO rfl rfl (by kernel_rfl) hQp (fun w hSw => ?_) hSS ?_
    rotate_left
    ·go_simp; try with_reducible rfl
    try simp only [zA,zN,zB,zC,zD]
    refine qT 5 ?_ hO rfl rfl (by kernel_rfl) hQp (fun w hSw => ?_) hSS ?_
    rotate_left
    ·go_simp; try with_reducible rfl
    try simp only [zA,zN,zB,zC,zD]
    refine qT 6 ?_ hO rfl rfl (by kernel_rfl) hQp (fun w hSw => ?_) hSS ?_
    rotate_left
    ·go_simp; try with_reducible rfl
    try simp only [zA,zN,zB,zC,zD]
    refine qT 7 ?_ hO rfl rfl (by kernel_rfl) hQp (fun w hSw => ?_) hSS ?_
    rotate_left
    ·go_simp; try with_reducible rfl
    try simp only [zA,zN,zB,zC,zD]
    refine qT 8 ?_ hO rfl rfl (by kernel_rfl) hQp (fun w hSw => ?_) hSS ?_
    rotate_left
    ·go_simp; try with_reducible rfl
    try simp only [zA,zN,zB,zC,zD]
    refine qT 9 ?_ hO rfl rfl (by kernel_rfl) hQp (fun w hSw => ?_) hSS ?_
    rotate_left
    ·go_simp; try with_reducible rfl
    try simp only [zA,zN,zB,zC,zD]
    refine qT 10 ?_ hO rfl rfl (by kernel_rfl) hQp (fun w hSw => ?_) hSS ?_
    rotate_left
    ·go_simp; try with_reducible rfl
    try simp only [zA,zN,zB,zC,zD]
    have hc2 := za (o := 1) hb2 rfl
    have hf2 := zc (o := 1) hb2
    refine qO 11 hO rfl (by kernel_rfl) (fun K hK => ?_)
    go_simp
    have KS := (zb.refl [w.heap.size + 1] W2).setCell (p := ⟨w.heap.size + 1, 1, none⟩) (.inl (by simp)) (.int .i64 v.num)
    have hS2 : (fun w' : World => w'.cell? ⟨w.heap.size, 1, none⟩ = some (.int .i64 v.num)) (W2.setCell ⟨w.heap.size + 1, 1, none⟩ (.int .i64 v.num)) := KS.cell hSS (by simp)
    have hb3 : (W2.setCell ⟨w.heap.size + 1, 1, none⟩ (.int .i64 v.num)).heap[w.heap.size + 1]? = some (.cells #[.int .i64 v.kind, .int .i64 v.num, .string ⟨#[]⟩, .slice none 0 0, .slice none 0 0] 25 (0, 0)) := zf hb2 rfl
    have Ga := qI hb3
    have Gk := qI (Gc.o.trans' KS)
    refine hK _ _ (.inr hS2) ?_
    clear hK K
    try simp only [zA,zN,zB,zC,zD]
    clear hSS hc2 hf2 hb2 hb3 KS
    have hSS := hS2
    clear hS2
    refine qO 12 hO rfl (by kernel_rfl) (fun K hK => ?_)
    go_simp
    refine hK _ _ (.inl rfl) ?_
    clear hK K
    try simp only [zA,zN,zB,zC,zD]
    refine zv hO (by kernel_rfl) ?_ _
    subst hR
    try clear hQp hO O
    go_wp2_with fail
    go_meet
    exact ⟨true, v.num, ⟨#[]⟩, 0, 0, _, _, _, _, rfl, Gk.o, ⟨za Ga.o rfl, za Ga.o rfl, za Ga.o rfl, za Ga.o rfl, za Ga.o rfl⟩, Gf⟩
   ·have g2 := (zt n1).1
    have Gf : Hid (yJ v false v.num ⟨#[]⟩ 0 0) := qI (by have := Gf.o; rw [decide_eq_false (by rintro (q | q); exact n0 q; exact n1 q)] at this; exact this)
    clear k1 k2 n0 n1
    go_wp2_with fail
    refine zk (n := 13) (fun w' : World => w'.cell? ⟨w.heap.size, 1, none⟩ = some (.int .i64 v.num)) 12 (by kernel_rfl) (by kernel_rfl) ?_
    change zR _ _ _ _ _ _ _ _ _ W1.drew
    have hSS : (fun w' : World => w'.cell? ⟨w.heap.size, 1, none⟩ = some (.int .i64 v.num)) W1.drew := c1
    have hb2 : W1.drew.heap[w.heap.size + 1]? = some (.cells (qj v.kind 0 ⟨#[]⟩ (.slice none 0 0) (.slice none 0 0)) 25 (0, 0)) := Gl.o
    have Gc : Hid (zb [w.heap.size + 1] W1 W1.drew) := qI (zb.refl _ _).drew
    have Gh : Hid (zb [] w W1.drew) := qI Gb.o.drew
    clear c0 c1 c2 c3 c4
    revert hSS hb2 Gc Gh
    generalize W1.drew = W2
    intro hSS hb2 Gc Gh
    refine zx ?_
    intro O R hO hR
    have hQp : ∀ c a (d : Nat) v w, R (.panic c) (a.put (some d) v) w → R (.panic c) a w := by subst hR; exact fun _ _ _ _ _ h => h
    refine qT 0 ?_ hO rfl rfl (by kernel_rfl) hQp (fun w hSw => ?_) hSS ?_
    rotate_left
    ·go_simp; try with_reducible rfl
    try simp only [zA,zN,zB,zC,zD]
    refine qT 1 ?_ hO rfl rfl (by kernel_rfl) hQp (fun w hSw => ?_) hSS ?_
    rotate_left
    ·go_simp; try with_reducible rfl
    try simp only [zA,zN,zB,zC,zD]
    refine qT 2 ?_ hO rfl rfl (by kernel_rfl) hQp (fun w hSw => ?_) hSS ?_
    rotate_left
    ·go_simp; try with_reducible rfl
    try simp only [zA,zN,zB,zC,zD]
    refine qT 3 ?_ hO rfl rfl (by kernel_rfl) hQp (fun w hSw => ?_) hSS ?_
    rotate_left
    ·go_simp; try with_reducible rfl
    try simp only [zA,zN,zB,zC,zD]
    refine qT 4 ?_ hO rfl rfl (by kernel_rfl) hQp (fun w hSw => ?_) hSS ?_
    rotate_left
    ·go_simp; try with_reducible rfl
    try simp only [zA,zN,zB,zC,zD]
    refine qT 5 ?_ hO rfl rfl (by kernel_rfl) hQp (fun w hSw => ?_) hSS ?_
    rotate_left
    ·go_simp; try with_reducible rfl
    try simp only [zA,zN,zB,zC,zD]
    refine qT 6 ?_ hO rfl rfl (by kernel_rfl) hQp (fun w hSw => ?_) hSS ?_
    rotate_left
    ·go_simp; try with_reducible rfl
    try simp only [zA,zN,zB,zC,zD]
    refine qT 7 ?_ hO rfl rfl (by kernel_rfl) hQp (fun w hSw => ?_) hSS ?_
    rotate_left
    ·go_simp; try with_reducible rfl
    try simp only [zA,zN,zB,zC,zD]
    refine qT 8 ?_ hO rfl rfl (by kernel_rfl) hQp (fun w hSw => ?_) hSS ?_
    rotate_left
    ·go_simp; try with_reducible rfl
    try simp only [zA,zN,zB,zC,zD]
    refine qT 9 ?_ hO rfl rfl (by kernel_rfl) hQp (fun w hSw => ?_) hSS ?_
    rotate_left
    ·go_simp; try with_reducible rfl
    try simp only [zA,zN,zB,zC,zD]
    refine qT 10 ?_ hO rfl rfl (by kernel_rfl) hQp (fun w hSw => ?_) hSS ?_
    rotate_left
    ·go_simp; try with_reducible rfl
    try simp only [zA,zN,zB,zC,zD]
    have hc2 := za (o := 1) hb2 rfl
    have hf2 := zc (o := 1) hb2
    refine qO 11 hO rfl (by kernel_rfl) (fun K hK => ?_)
    go_simp
    have KS := (zb.refl [w.heap.size + 1] W2).setCell (p := ⟨w.heap.size + 1, 1, none⟩) (.inl (by simp)) (.int .i64 v.num)
    have hS2 : (fun w' : World => w'.cell? ⟨w.heap.size, 1, none⟩ = some (.int .i64 v.num)) (W2.setCell ⟨w.heap.size + 1, 1, none⟩ (.int .i64 v.num)) := KS.cell hSS (by simp)
    have hb3 : (W2.setCell ⟨w.heap.size + 1, 1, none⟩ (.int .i64 v.num)).heap[w.heap.size + 1]? = some (.cells #[.int .i64 v.kind, .int .i64 v.num, .string ⟨#[]⟩, .slice none 0 0, .slice none 0 0] 25 (0, 0)) := zf hb2 rfl
    have Ga := qI hb3
    have Gk := qI (Gc.o.trans' KS)
    refine hK _ _ (.inr hS2) ?_
    clear hK K
    try simp only [zA,zN,zB,zC,zD]
    clear hSS hc2 hf2 hb2 hb3 KS
    have hSS := hS2
    clear hS2
    refine qO 12 hO rfl (by kernel_rfl) (fun K hK => ?_)
    go_simp
    refine hK _ _ (.inl rfl) ?_
    clear hK K
    try simp only [zA,zN,zB,zC,zD]
    refine zv hO (by kernel_rfl) ?_ _
    subst hR
    try clear hQp hO O
    go_wp2_with fail
    go_meet
    exact ⟨false, v.num, ⟨#[]⟩, 0, 0, _, _, _, _, rfl, Gk.o, ⟨za Ga.o rfl, za Ga.o rfl, za Ga.o rfl, za Ga.o rfl, za Ga.o rfl⟩, Gf⟩
  have f2 := (zt k2).1
  by_cases k3 : v.kind = 3
  ·have f3 := (yg k3).1
   have Gf := qI (plain_3 k3)
   by_cases n0 : -9007199254740991 ≤ v.num
   ·by_cases n1 : v.num ≤ 9007199254740991
    ·have Gf : Hid (yJ v true v.num ⟨#[]⟩ 0 0) := qI (by have := Gf.o; rw [decide_eq_true ⟨n0, n1⟩] at this; exact this)
     clear k1 k2 k3
     go_wp2_with fail
     refine zk (n := 13) (fun w' : World => w'.cell? ⟨w.heap.size, 1, none⟩ = some (.int .i64 v.num)) 12 (by kernel_rfl) (by kernel_rfl) ?_
     change zR _ _ _ _ _ _ _ _ _ W1.drew
     have hSS : (fun w' : World => w'.cell? ⟨w.heap.size, 1, none⟩ = some (.int .i64 v.num)) W1.drew := c1
     have hb2 : W1.drew.heap[w.heap.size + 1]? = some (.cells (qj v.kind 0 ⟨#[]⟩ (.slice none 0 0) (.slice none 0 0)) 25 (0, 0)) := Gl.o
     have Gc : Hid (zb [w.heap.size + 1] W1 W1.drew) := qI (zb.refl _ _).drew
     have Gh : Hid (zb [] w W1.drew) := qI Gb.o.drew
     clear c0 c1 c2 c3 c4
     revert hSS hb2 Gc Gh
     generalize W1.drew = W2
     intro hSS hb2 Gc Gh
     refine zx ?_
     intro O R hO hR
     have hQp : ∀ c a (d : Nat) v w, R (.panic c) (a.put (some d) v) w → R (.panic c) a w := by subst hR; exact fun _ _ _ _ _ h => h
     refine qT 0 ?_ hO rfl rfl (by kernel_rfl) hQp (fun w hSw => ?_) hSS ?_
     rotate_left
     ·go_simp; try with_reducible rfl
     try simp only [zA,zN,zB,zC,zD]
     refine qT 1 ?_ hO rfl rfl (by kernel_rfl) hQp (fun w hSw => ?_) hSS ?_
     rotate_left
     ·go_simp; try with_reducible rfl
     try simp only [zA,zN,zB,zC,zD]
     refine qT 2 ?_ hO rfl rfl (by kernel_rfl) hQp (fun w hSw => ?_) hSS ?_
     rotate_left
     ·go_simp; try with_reducible rfl
     try simp only [zA,zN,zB,zC,zD]
     refine qT 3 ?_ hO rfl rfl (by kernel_rfl) hQp (fun w hSw => ?_) hSS ?_
     rotate_left
     ·go_simp; try with_reducible rfl
     try simp only [zA,zN,zB,zC,zD]
     refine qT 4 ?_ hO rfl rfl (by kernel_rfl) hQp (fun w hSw => ?_) hSS ?_
     rotate_left
     ·go_simp; try with_reducible rfl
     try simp only [zA,zN,zB,zC,zD]
     refine qT 5 ?_ hO rfl rfl (by kernel_rfl) hQp (fun w hSw => ?_) hSS ?_
     rotate_left
     ·go_simp; try with_reducible rfl
     try simp only [zA,zN,zB,zC,zD]
     refine qT 6 ?_ hO rfl rfl (by kernel_rfl) hQp (fun w hSw => ?_) hSS ?_
     rotate_left
     ·go_simp; try with_reducible rfl
     try simp only [zA,zN,zB,zC,zD]
     refine qT 7 ?_ hO rfl rfl (by kernel_rfl) hQp (fun w hSw => ?_) hSS ?_
     rotate_left
     ·go_simp; try with_reducible rfl
     try simp only [zA,zN,zB,zC,zD]
     refine qT 8 ?_ hO rfl rfl (by kernel_rfl) hQp (fun w hSw => ?_) hSS ?_
     rotate_left
     ·go_simp; try with_reducible rfl
     try simp only [zA,zN,zB,zC,zD]
     refine qT 9 ?_ hO rfl rfl (by kernel_rfl) hQp (fun w hSw => ?_) hSS ?_
     rotate_left
     ·go_simp; try with_reducible rfl
     try simp only [zA,zN,zB,zC,zD]
     refine qT 10 ?_ hO rfl rfl (by kernel_rfl) hQp (fun w hSw => ?_) hSS ?_
     rotate_left
     ·go_simp; try with_reducible rfl
     try simp only [zA,zN,zB,zC,zD]
     have hc2 := za (o := 1) hb2 rfl
     have hf2 := zc (o := 1) hb2
     refine qO 11 hO rfl (by kernel_rfl) (fun K hK => ?_)
     go_simp
     have KS := (zb.refl [w.heap.size + 1] W2).setCell (p := ⟨w.heap.size + 1, 1, none⟩) (.inl (by simp)) (.int .i64 v.num)
     have hS2 : (fun w' : World => w'.cell? ⟨w.heap.size, 1, none⟩ = some (.int .i64 v.num)) (W2.setCell ⟨w.heap.size + 1, 1, none⟩ (.int .i64 v.num)) := KS.cell hSS (by simp)
     have hb3 : (W2.setCell ⟨w.heap.size + 1, 1, none⟩ (.int .i64 v.num)).heap[w.heap.size + 1]? = some (.cells #[.int .i64 v.kind, .int .i64 v.num, .string ⟨#[]⟩, .slice none 0 0, .slice none 0 0] 25 (0, 0)) := zf hb2 rfl
     have Ga := qI hb3
     have Gk := qI (Gc.o.trans' KS)
     refine hK _ _ (.inr hS2) ?_
     clear hK K
     try simp only [zA,zN,zB,zC,zD]
     clear hSS hc2 hf2 hb2 hb3 KS
     have hSS := hS2
     clear hS2
     refine qO 12 hO rfl (by kernel_rfl) (fun K hK => ?_)
     go_simp
     refine hK _ _ (.inl rfl) ?_
     clear hK K
     try simp only [zA,zN,zB,zC,zD]
     refine zv hO (by kernel_rfl) ?_ _
     subst hR
     try clear hQp hO O
     go_wp2_with fail
     go_meet
     exact ⟨true, v.num, ⟨#[]⟩, 0, 0, _, _, _, _, rfl, Gk.o, ⟨za Ga.o rfl, za Ga.o rfl, za Ga.o rfl, za Ga.o rfl, za Ga.o rfl⟩, Gf⟩
    ·have Gf : Hid (yJ v false v.num ⟨#[]⟩ 0 0) := qI (by have := Gf.o; rw [decide_eq_false (fun q => n1 q.2)] at this; exact this)
     have g2 := decide_eq_false n1
     clear k1 k2 k3 n1
     go_wp2_with fail
     refine zk (n := 13) (fun w' : World => w'.cell? ⟨w.heap.size, 1, none⟩ = some (.int .i64 v.num)) 12 (by kernel_rfl) (by kernel_rfl) ?_
     change zR _ _ _ _ _ _ _ _ _ W1.drew
     have hSS : (fun w' : World => w'.cell? ⟨w.heap.size, 1, none⟩ = some (.int .i64 v.num)) W1.drew := c1
     have hb2 : W1.drew.heap[w.heap.size + 1]? = some (.cells (qj v.kind 0 ⟨#[]⟩ (.slice none 0 0) (.slice none 0 0)) 25 (0, 0)) := Gl.o
     have Gc : Hid (zb [w.heap.size + 1] W1 W1.drew) := qI (zb.refl _ _).drew
     have Gh : Hid (zb [] w W1.drew) := qI Gb.o.drew
     clear c0 c1 c2 c3 c4
     revert hSS hb2 Gc Gh
     generalize W1.drew = W2
     intro hSS hb2 Gc Gh
     refine zx ?_
     intro O R hO hR
     have hQp : ∀ c a (d : Nat) v w, R (.panic c) (a.put (some d) v) w → R (.panic c) a w := by subst hR; exact fun _ _ _ _ _ h => h
     refine qT 0 ?_ hO rfl rfl (by kernel_rfl) hQp (fun w hSw => ?_) hSS ?_
     rotate_left
     ·go_simp; try with_reducible rfl
     try simp only [zA,zN,zB,zC,zD]
     refine qT 1 ?_ hO rfl rfl (by kernel_rfl) hQp (fun w hSw => ?_) hSS ?_
     rotate_left
     ·go_simp; try with_reducible rfl
     try simp only [zA,zN,zB,zC,zD]
     refine qT 2 ?_ hO rfl rfl (by kernel_rfl) hQp (fun w hSw => ?_) hSS ?_
     rotate_left
     ·go_simp; try with_reducible rfl
     try simp only [zA,zN,zB,zC,zD]
     refine qT 3 ?_ hO rfl rfl (by kernel_rfl) hQp (fun w hSw => ?_) hSS ?_
     rotate_left
     ·go_simp; try with_reducible rfl
     try simp only [zA,zN,zB,zC,zD]
     refine qT 4 ?_ hO rfl rfl (by kernel_rfl) hQp (fun w hSw => ?_) hSS ?_
     rotate_left
     ·go_simp; try with_reducible rfl
     try simp only [zA,zN,zB,zC,zD]
     refine qT 5 ?_ hO rfl rfl (by kernel_rfl) hQp (fun w hSw => ?_) hSS ?_
     rotate_left
     ·go_simp; try with_reducible rfl
     try simp only [zA,zN,zB,zC,zD]
     refine qT 6 ?_ hO rfl rfl (by kernel_rfl) hQp (fun w hSw => ?_) hSS ?_
     rotate_left
     ·go_simp; try with_reducible rfl
     try simp only [zA,zN,zB,zC,zD]
     refine qT 7 ?_ hO rfl rfl (by kernel_rfl) hQp (fun w hSw => ?_) hSS ?_
     rotate_left
     ·go_simp; try with_reducible rfl
     try simp only [zA,zN,zB,zC,zD]
     refine qT 8 ?_ hO rfl rfl (by kernel_rfl) hQp (fun w hSw => ?_) hSS ?_
     rotate_left
     ·go_simp; try with_reducible rfl
     try simp only [zA,zN,zB,zC,zD]
     refine qT 9 ?_ hO rfl rfl (by kernel_rfl) hQp (fun w hSw => ?_) hSS ?_
     rotate_left
     ·go_simp; try with_reducible rfl
     try simp only [zA,zN,zB,zC,zD]
     refine qT 10 ?_ hO rfl rfl (by kernel_rfl) hQp (fun w hSw => ?_) hSS ?_
     rotate_left
     ·go_simp; try with_reducible rfl
     try simp only [zA,zN,zB,zC,zD]
     have hc2 := za (o := 1) hb2 rfl
     have hf2 := zc (o := 1) hb2
     refine qO 11 hO rfl (by kernel_rfl) (fun K hK => ?_)
     go_simp
     have KS := (zb.refl [w.heap.size + 1] W2).setCell (p := ⟨w.heap.size + 1, 1, none⟩) (.inl (by simp)) (.int .i64 v.num)
     have hS2 : (fun w' : World => w'.cell? ⟨w.heap.size, 1, none⟩ = some (.int .i64 v.num)) (W2.setCell ⟨w.heap.size + 1, 1, none⟩ (.int .i64 v.num)) := KS.cell hSS (by simp)
     have hb3 : (W2.setCell ⟨w.heap.size + 1, 1, none⟩ (.int .i64 v.num)).heap[w.heap.size + 1]? = some (.cells #[.int .i64 v.kind, .int .i64 v.num, .string ⟨#[]⟩, .slice none 0 0, .slice none 0 0] 25 (0, 0)) := zf hb2 rfl
     have Ga := qI hb3
     have Gk := qI (Gc.o.trans' KS)
     refine hK _ _ (.inr hS2) ?_
     clear hK K
     try simp only [zA,zN,zB,zC,zD]
     clear hSS hc2 hf2 hb2 hb3 KS
     have hSS := hS2
     clear hS2
     refine qO 12 hO rfl (by kernel_rfl) (fun K hK => ?_)
     go_simp
     refine hK _ _ (.inl rfl) ?_
     clear hK K
     try simp only [zA,zN,zB,zC,zD]
     refine zv hO (by kernel_rfl) ?_ _
     subst hR
     try clear hQp hO O
     go_wp2_with fail
     go_meet
     exact ⟨false, v.num, ⟨#[]⟩, 0, 0, _, _, _, _, rfl, Gk.o, ⟨za Ga.o rfl, za Ga.o rfl, za Ga.o rfl, za Ga.o rfl, za Ga.o rfl⟩, Gf⟩
   ·have Gf : Hid (yJ v false v.num ⟨#[]⟩ 0 0) := qI (by have := Gf.o; rw [decide_eq_false (fun q => n0 q.1)] at this; exact this)
    have g2 := decide_eq_false n0
    clear k1 k2 k3 n0
    go_wp2_with fail
    refine zk (n := 13) (fun w' : World => w'.cell? ⟨w.heap.size, 1, none⟩ = some (.int .i64 v.num)) 12 (by kernel_rfl) (by kernel_rfl) ?_
    change zR _ _ _ _ _ _ _ _ _ W1.drew
    have hSS : (fun w' : World => w'.cell? ⟨w.heap.size, 1, none⟩ = some (.int .i64 v.num)) W1.drew := c1
    have hb2 : W1.drew.heap[w.heap.size + 1]? = some (.cells (qj v.kind 0 ⟨#[]⟩ (.slice none 0 0) (.slice none 0 0)) 25 (0, 0)) := Gl.o
    have Gc : Hid (zb [w.heap.size + 1] W1 W1.drew) := qI (zb.refl _ _).drew
    have Gh : Hid (zb [] w W1.drew) := qI Gb.o.drew
    clear c0 c1 c2 c3 c4
    revert hSS hb2 Gc Gh
    generalize W1.drew = W2
    intro hSS hb2 Gc Gh
    refine zx ?_
    intro O R hO hR
    have hQp : ∀ c a (d : Nat) v w, R (.panic c) (a.put (some d) v) w → R (.panic c) a w := by subst hR; exact fun _ _ _ _ _ h => h
    refine qT 0 ?_ hO rfl rfl (by kernel_rfl) hQp (fun w hSw => ?_) hSS ?_
    rotate_left
    ·go_simp; try with_reducible rfl
    try simp only [zA,zN,zB,zC,zD]
    refine qT 1 ?_ hO rfl rfl (by kernel_rfl) hQp (fun w hSw => ?_) hSS ?_
    rotate_left
    ·go_simp; try with_reducible rfl
    try simp only [zA,zN,zB,zC,zD]
    refine qT 2 ?_ hO rfl rfl (by kernel_rfl) hQp (fun w hSw => ?_) hSS ?_
    rotate_left
    ·go_simp; try with_reducible rfl
    try simp only [zA,zN,zB,zC,zD]
    refine qT 3 ?_ hO rfl rfl (by kernel_rfl) hQp (fun w hSw => ?_) hSS ?_
    rotate_left
    ·go_simp; try with_reducible rfl
    try simp only [zA,zN,zB,zC,zD]
    refine qT 4 ?_ hO rfl rfl (by kernel_rfl) hQp (fun w hSw => ?_) hSS ?_
    rotate_left
    ·go_simp; try with_reducible rfl
    try simp only [zA,zN,zB,zC,zD]
    refine qT 5 ?_ hO rfl rfl (by kernel_rfl) hQp (fun w hSw => ?_) hSS ?_
    rotate_left
    ·go_simp; try with_reducible rfl
    try simp only [zA,zN,zB,zC,zD]
    refine xv (i := 6) (v := undef) hO rfl rfl (by kernel_rfl) (by kernel_rfl) (by kernel_rfl) (by kernel_rfl) hQp (Or.inr ⟨by kernel_rfl, rfl⟩) hSS ?_
    try simp only [zA,zN,zB,zC,zD]
    refine xv (i := 7) (v := undef) hO rfl rfl (by kernel_rfl) (by kernel_rfl) (by kernel_rfl) (by kernel_rfl) hQp (Or.inr ⟨by kernel_rfl, rfl⟩) hSS ?_
    try simp only [zA,zN,zB,zC,zD]
    refine xv (i := 8) (v := undef) hO rfl rfl (by kernel_rfl) (by kernel_rfl) (by kernel_rfl) (by kernel_rfl) hQp (Or.inr ⟨by kernel_rfl, rfl⟩) hSS ?_
    try simp only [zA,zN,zB,zC,zD]
    refine qT 9 ?_ hO rfl rfl (by kernel_rfl) hQp (fun w hSw => ?_) hSS ?_
    rotate_left
    ·go_simp; try with_reducible rfl
    try simp only [zA,zN,zB,zC,zD]
    refine qT 10 ?_ hO rfl rfl (by kernel_rfl) hQp (fun w hSw => ?_) hSS ?_
    rotate_left
    ·go_simp; try with_reducible rfl
    try simp only [zA,zN,zB,zC,zD]
    have hc2 := za (o := 1) hb2 rfl
    have hf2 := zc (o := 1) hb2
    refine qO 11 hO rfl (by kernel_rfl) (fun K hK => ?_)
    go_simp
    have KS := (zb.refl [w.heap.size + 1] W2).setCell (p := ⟨w.heap.size + 1, 1, none⟩) (.inl (by simp)) (.int .i64 v.num)
    have hS2 : (fun w' : World => w'.cell? ⟨w.heap.size, 1, none⟩ = some (.int .i64 v.num)) (W2.setCell ⟨w.heap.size + 1, 1, none⟩ (.int .i64 v.num)) := KS.cell hSS (by simp)
    have hb3 : (W2.setCell ⟨w.heap.size + 1, 1, none⟩ (.int .i64 v.num)).heap[w.heap.size + 1]? = some (.cells #[.int .i64 v.kind, .int .i64 v.num, .string ⟨#[]⟩, .slice none 0 0, .slice none 0 0] 25 (0, 0)) := zf hb2 rfl
    have Ga := qI hb3
    have Gk := qI (Gc.o.trans' KS)
    refine hK _ _ (.inr hS2) ?_
    clear hK K
    try simp only [zA,zN,zB,zC,zD]
    clear hSS hc2 hf2 hb2 hb3 KS
    have hSS := hS2
    clear hS2
    refine qO 12 hO rfl (by kernel_rfl) (fun K hK => ?_)
    go_simp
    refine hK _ _ (.inl rfl) ?_
    clear hK K
    try simp only [zA,zN,zB,zC,zD]
    refine zv hO (by kernel_rfl) ?_ _
    subst hR
    try clear hQp hO O
    go_wp2_with fail
    go_meet
    exact ⟨false, v.num, ⟨#[]⟩, 0, 0, _, _, _, _, rfl, Gk.o, ⟨za Ga.o rfl, za Ga.o rfl, za Ga.o rfl, za Ga.o rfl, za Ga.o rfl⟩, Gf⟩
  have f3 := (zt k3).1
  by_cases k4 : v.kind = 4
  ·have f4 := (yg k4).1
   have Gf := qI (plain_4 k4)
   clear k1 k2 k3 k4
   go_wp2_with fail
   refine zk (n := 8) (fun w' : World => w'.cell? ⟨w.heap.size, 2, none⟩ = some (.string v.s)) 7 (by kernel_rfl) (by kernel_rfl) ?_
   change zR _ _ _ _ _ _ _ _ _ W1.drew
   have hSS : (fun w' : World => w'.cell? ⟨w.heap.size, 2, none⟩ = some (.string v.s)) W1.drew := c2
   have hb2 : W1.drew.heap[w.heap.size + 1]? = some (.cells (qj v.kind 0 ⟨#[]⟩ (.slice none 0 0) (.slice none 0 0)) 25 (0, 0)) := Gl.o
   have Gc : Hid (zb [w.heap.size + 1] W1 W1.drew) := qI (zb.refl _ _).drew
   have Gh : Hid (zb [] w W1.drew) := qI Gb.o.drew
   clear c0 c1 c2 c3 c4
   revert hSS hb2 Gc Gh
   generalize W1.drew = W2
   intro hSS hb2 Gc Gh
   refine zx ?_
   intro O R hO hR
   have hQp : ∀ c a (d : Nat) v w, R (.panic c) (a.put (some d) v) w → R (.panic c) a w := by subst hR; exact fun _ _ _ _ _ h => h
   refine qT 0 ?_ hO rfl rfl (by kernel_rfl) hQp (fun w hSw => ?_) hSS ?_
   rotate_left
   ·go_simp; try with_reducible rfl
   try simp only [zA,zN,zB,zC,zD]
   refine qT 1 ?_ hO rfl rfl (by kernel_rfl) hQp (fun w hSw => ?_) hSS ?_
   rotate_left
   ·go_simp; try with_reducible rfl
   try simp only [zA,zN,zB,zC,zD]
   refine qT 2 ?_ hO rfl rfl (by kernel_rfl) hQp (fun w hSw => ?_) hSS ?_
   rotate_left
   ·go_simp; try with_reducible rfl
   try simp only [zA,zN,zB,zC,zD]
   refine qT 3 ?_ hO rfl rfl (by kernel_rfl) hQp (fun w hSw => ?_) hSS ?_
   rotate_left
   ·go_simp; try with_reducible rfl
   try simp only [zA,zN,zB,zC,zD]
   refine qT 5 ?_ hO rfl rfl (by kernel_rfl) hQp (fun w hSw => ?_) hSS ?_
   rotate_left
   ·go_simp; try with_reducible rfl
   try simp only [zA,zN,zB,zC,zD]
   refine qO 4 hO rfl (by kernel_rfl) (fun K hK => ?_)
   go_simp
   refine Calls.mono (Kq (HT.o.kept0 Gh.o) v.s (by omega)) ?_; rintro e w3 ⟨rfl, hk3⟩
   have hS2 : (fun w' : World => w'.cell? ⟨w.heap.size, 2, none⟩ = some (.string v.s)) w3 := hk3.cell hSS (by simp)
   have hb3 := hk3.heap hb2 (by simp)
   have Jd := qI (Gc.o.then hk3)
   refine hK _ _ (.inr hS2) ?_
   clear hK K
   try simp only [zA,zN,zB,zC,zD]
   clear hSS hb2 hk3 Gc
   have hSS := hS2
   have hb2 := hb3
   have Gc := Jd
   clear hS2 hb3 Jd
   revert hSS hb2 Gc
   generalize w3 = W2
   intro hSS hb2 Gc
   have hc2 := za (o := 2) hb2 rfl
   have hf2 := zc (o := 2) hb2
   refine qO 6 hO rfl (by kernel_rfl) (fun K hK => ?_)
   go_simp
   have KS := (zb.refl [w.heap.size + 1] W2).setCell (p := ⟨w.heap.size + 1, 2, none⟩) (.inl (by simp)) (.string v.s)
   have hS2 : (fun w' : World => w'.cell? ⟨w.heap.size, 2, none⟩ = some (.string v.s)) (W2.setCell ⟨w.heap.size + 1, 2, none⟩ (.string v.s)) := KS.cell hSS (by simp)
   have hb3 : (W2.setCell ⟨w.heap.size + 1, 2, none⟩ (.string v.s)).heap[w.heap.size + 1]? = some (.cells #[.int .i64 v.kind, .int .i64 0, .string v.s, .slice none 0 0, .slice none 0 0] 25 (0, 0)) := zf hb2 rfl
   have Ga := qI hb3
   have Gk := qI (Gc.o.trans' KS)
   refine hK _ _ (.inr hS2) ?_
   clear hK K
   try simp only [zA,zN,zB,zC,zD]
   clear hSS hc2 hf2 hb2 hb3 KS
   have hSS := hS2
   clear hS2
   refine qO 7 hO rfl (by kernel_rfl) (fun K hK => ?_)
   go_simp
   refine hK _ _ (.inl rfl) ?_
   clear hK K
   try simp only [zA,zN,zB,zC,zD]
   refine zv hO (by kernel_rfl) ?_ _
   subst hR
   try clear hQp hO O
   go_wp2_with fail
   go_meet
   exact ⟨zX v.s, 0, v.s, 0, 0, _, _, _, _, rfl, Gk.o, ⟨za Ga.o rfl, za Ga.o rfl, za Ga.o rfl, za Ga.o rfl, za Ga.o rfl⟩, Gf⟩
  have f4 := (zt k4).1
  by_cases k5 : v.kind = 5
  ·have f5 := (yg k5).1
   have Gf := qI (plain_5 k5)
   have hc2 := za (o := 3) Gl.o rfl
   have hf2 := zc (o := 3) Gl.o
   clear k1 k2 k3 k4 k5
   go_wp2_with fail
   have hb3 : (W1.setCell ⟨w.heap.size + 1, 3, none⟩ (.slice a v.l.length c)).heap[w.heap.size + 1]? = some (.cells #[.int .i64 v.kind, .int .i64 0, .string ⟨#[]⟩, .slice a v.l.length c, .slice none 0 0] 25 (0, 0)) := zf Gl.o rfl
   have Ga := qI hb3
   go_meet
   exact ⟨true, 0, ⟨#[]⟩, v.l.length, 0, _, _, _, _, rfl, (zb.refl [w.heap.size + 1] W1).setCell (p := ⟨w.heap.size + 1, 3, none⟩) (.inl (by simp)) _, ⟨za Ga.o rfl, za Ga.o rfl, za Ga.o rfl, za Ga.o rfl, za Ga.o rfl⟩, Gf⟩
  have f5 := (zt k5).1
  by_cases k6 : v.kind = 6
  ·have f6 := (yg k6).1
   have Gf := qI (plain_6 k6)
   clear k1 k2 k3 k4 k5 k6
   go_wp2_with fail
   refine zk (n := 8) (fun w' : World => w'.cell? ⟨w.heap.size, 4, none⟩ = some (.slice b v.m.length e)) 7 (by kernel_rfl) (by kernel_rfl) ?_
   change zR _ _ _ _ _ _ _ _ _ W1.drew
   have hSS : (fun w' : World => w'.cell? ⟨w.heap.size, 4, none⟩ = some (.slice b v.m.length e)) W1.drew := c4
   have hb2 : W1.drew.heap[w.heap.size + 1]? = some (.cells (qj v.kind 0 ⟨#[]⟩ (.slice none 0 0) (.slice none 0 0)) 25 (0, 0)) := Gl.o
   have Gc : Hid (zb [w.heap.size + 1] W1 W1.drew) := qI (zb.refl _ _).drew
   have Gh : Hid (zb [] w W1.drew) := qI Gb.o.drew
   clear c0 c1 c2 c3 c4
   revert hSS hb2 Gc Gh
   generalize W1.drew = W2
   intro hSS hb2 Gc Gh
   refine zx ?_
   intro O R hO hR
   have hQp : ∀ c a (d : Nat) v w, R (.panic c) (a.put (some d) v) w → R (.panic c) a w := by subst hR; exact fun _ _ _ _ _ h => h
   refine qT 0 ?_ hO rfl rfl (by kernel_rfl) hQp (fun w hSw => ?_) hSS ?_
   rotate_left
   ·go_simp; try with_reducible rfl
   try simp only [zA,zN,zB,zC,zD]
   refine qT 1 ?_ hO rfl rfl (by kernel_rfl) hQp (fun w hSw => ?_) hSS ?_
   rotate_left
   ·go_simp; try with_reducible rfl
   try simp only [zA,zN,zB,zC,zD]
   refine qT 2 ?_ hO rfl rfl (by kernel_rfl) hQp (fun w hSw => ?_) hSS ?_
   rotate_left
   ·go_simp; try with_reducible rfl
   try simp only [zA,zN,zB,zC,zD]
   refine qT 3 ?_ hO rfl rfl (by kernel_rfl) hQp (fun w hSw => ?_) hSS ?_
   rotate_left
   ·go_simp; try with_reducible rfl
   try simp only [zA,zN,zB,zC,zD]
   refine qT 5 ?_ hO rfl rfl (by kernel_rfl) hQp (fun w hSw => ?_) hSS ?_
   rotate_left
   ·go_simp; try with_reducible rfl
   try simp only [zA,zN,zB,zC,zD]
   refine qO 4 hO rfl (by kernel_rfl) (fun K hK => ?_)
   go_simp
   refine Calls.mono (keys_any (Jc.o Gh.o) HM.o Gw.o (HT.o.kept0 Gh.o)) ?_; rintro e w3 ⟨rfl, hk3⟩
   have hS2 : (fun w' : World => w'.cell? ⟨w.heap.size, 4, none⟩ = some (.slice b v.m.length e)) w3 := hk3.cell hSS (by simp)
   have hb3 := hk3.heap hb2 (by simp)
   have Jd := qI (Gc.o.then hk3)
   refine hK _ _ (.inr hS2) ?_
   clear hK K
   try simp only [zA,zN,zB,zC,zD]
   clear hSS hb2 hk3 Gc
   have hSS := hS2
   have hb2 := hb3
   have Gc := Jd
   clear hS2 hb3 Jd
   revert hSS hb2 Gc
   generalize w3 = W2
   intro hSS hb2 Gc
   have hc2 := za (o := 4) hb2 rfl
   have hf2 := zc (o := 4) hb2
   refine qO 6 hO rfl (by kernel_rfl) (fun K hK => ?_)
   go_simp
   have KS := (zb.refl [w.heap.size + 1] W2).setCell (p := ⟨w.heap.size + 1, 4, none⟩) (.inl (by simp)) (.slice b v.m.length e)
   have hS2 : (fun w' : World => w'.cell? ⟨w.heap.size, 4, none⟩ = some (.slice b v.m.length e)) (W2.setCell ⟨w.heap.size + 1, 4, none⟩ (.slice b v.m.length e)) := KS.cell hSS (by simp)
   have hb3 : (W2.setCell ⟨w.heap.size + 1, 4, none⟩ (.slice b v.m.length e)).heap[w.heap.size + 1]? = some (.cells #[.int .i64 v.kind, .int .i64 0, .string ⟨#[]⟩, .slice none 0 0, .slice b v.m.length e] 25 (0, 0)) := zf hb2 rfl
   have Ga := qI hb3
   have Gk := qI (Gc.o.trans' KS)
   refine hK _ _ (.inr hS2) ?_
   clear hK K
   try simp only [zA,zN,zB,zC,zD]
   clear hSS hc2 hf2 hb2 hb3 KS
   have hSS := hS2
   clear hS2
   refine qO 7 hO rfl (by kernel_rfl) (fun K hK => ?_)
   go_simp
   refine hK _ _ (.inl rfl) ?_
   clear hK K
   try simp only [zA,zN,zB,zC,zD]
   refine zv hO (by kernel_rfl) ?_ _
   subst hR
   try clear hQp hO O
   go_wp2_with fail
   go_meet
   exact ⟨yE v.m, 0, ⟨#[]⟩, 0, v.m.length, _, _, _, _, rfl, Gk.o, ⟨za Ga.o rfl, za Ga.o rfl, za Ga.o rfl, za Ga.o rfl, za Ga.o rfl⟩, Gf⟩
  ·have f6 := (zt k6).1
   have HF : Hid (zE v = false) := qI (plain_else (by omega))
   clear k1 k2 k3 k4 k5 k6
   go_wp2_with fail
   go_ret
   rw [HF.o]
   exact ⟨rfl, Gb.o⟩
 case rest =>
  obtain ⟨ok, m, s, l, k, al, am, cl, cm, rfl, hkr, hb, HP⟩ := hcut
  have Gd : Hid (zb [] w wc) := qI (Gb.o.trans hkr (by intro i hi; simp at hi; subst hi; exact .inr (Nat.le_succ _)))
  have hb1 := HB.o.kept hkr (by simp)
  clear c0 c1 c2 c3 c4
  obtain ⟨c0, c1, c2, c3, c4⟩ := hb1
  obtain ⟨d0, d1, d2, d3, d4⟩ := hb
  have t1 : (v.num == m) = decide (v.num = m) := rfl
  have t2 := str_beq v.s s
  have t3 := nat_beq v.l.length l
  have t4 := nat_beq v.m.length k
  clear hkr
  unfold yJ at HP
  revert HP t1 t2 t3 t4
  generalize decide (v.num = m) = q1
  generalize decide (v.s = s) = q2
  generalize decide (v.l.length = l) = q3
  generalize decide (v.m.length = k) = q4
  intro HP t1 t2 t3 t4
  have HF : Hid (zE v = (ok && q1 && q2 && q3 && q4)) := HP
  clear HP
  cases ok
  ·go_wp2_with fail
   go_ret
   rw [HF.o]
   exact ⟨rfl, Gd.o⟩
  cases q1
  ·go_wp2_with fail
   go_ret
   rw [HF.o]
   exact ⟨rfl, Gd.o⟩
  cases q2
  ·go_wp2_with fail
   go_ret
   rw [HF.o]
   exact ⟨rfl, Gd.o⟩
  cases q3
  ·go_wp2_with fail
   go_ret
   rw [HF.o]
   exact ⟨rfl, Gd.o⟩
  ·go_wp2_with fail
   go_ret
   rw [HF.o]
   exact ⟨jG (by simp), Gd.o⟩
def WAt (w : World) (b : Nat) (d c : Nat) (r : Bool) : Prop := w.heap[b]? = some (.cells #[.int .i64 d, .int .i64 c, .bool r] 90 (0, 0))
theorem WAt.kept {w w' : World} {b d c : Nat} {r : Bool} {X : List Nat} (h : WAt w b d c r) (k : zb X w w') (hb : b ∉ X) : WAt w' b d c r := k.heap h hb
structure K1 {n : Nat} (v : VS (V n)) (d c : Nat) (r : Bool) (k : Nat) (ks : List (V n)) (D C : Nat) (R : Bool) : Prop where
 hd : D = max (max d k) (k + xG (ks.map (zG n)))
 hc : C = c + 1 + (ks.map (ze n)).sum
 hr : R = (r || !(zE v && ks.all (zj n)))
theorem K1.snoc {n : Nat} {v : VS (V n)} {d c : Nat} {r : Bool} {k : Nat} {ks : List (V n)} {D C : Nat} {R : Bool} (h : K1 v d c r k ks D C R) (x : V n) (hx : 1 ≤ zG n x) :
  K1 v d c r k (ks ++ [x]) (max D (k + 1 + zG n x - 1)) (C + ze n x) (R || !zj n x) := by
 obtain ⟨h1, h2, h3⟩ := h
 refine ⟨?_, ?_, ?_⟩
 ·rw [h1, List.map_append, KO]
  simp only [List.map_cons, List.map_nil, xG]
  omega
 ·rw [h2, List.map_append, List.sum_append]
  simp only [List.map_cons, List.map_nil, List.sum_cons, List.sum_nil]
  omega
 ·rw [h3, List.all_append]
  simp only [List.all_cons, List.all_nil, Bool.and_true]
  cases r <;> cases zE v <;> cases ks.all (zj n) <;> cases zj n x <;> rfl
theorem K1.all {n : Nat} {v : VS (V n)} {d c : Nat} {r : Bool} {k : Nat} {D C : Nat} {R : Bool} (h : K1 v d c r k v.kids D C R) :
  D = max d (k + zG (n + 1) v - 1) ∧ C = c + ze (n + 1) v ∧ R = (r || !zj (n + 1) v) := by
 obtain ⟨h1, h2, h3⟩ := h
 have e1 : zG (n + 1) v = 1 + xG (v.kids.map (zG n)) := rfl
 have e2 : ze (n + 1) v = 1 + (v.kids.map (ze n)).sum := rfl
 have e3 : zj (n + 1) v = (zE v && v.kids.all (zj n)) := rfl
 exact ⟨by omega, by omega, by rw [h3, e3]⟩
theorem JT : ∀ {n : Nat} (x : V n), 1 ≤ zG n x
 | 0, x => nomatch x
 | n + 1, (x : VS (V n)) => by
  have e1 : zG (n + 1) x = 1 + xG (x.kids.map (zG n)) := rfl
  omega
theorem ya.keptX {n : Nat} {S : Nat → Prop} {w w' : World} {cs : List Value} {v : VS (V n)} {vl vm : Value} {lcs : List (List Value)} {mcs : List (ByteArray × List Value)} {X : List Nat}
  (h : ya (Rep n S w) S w cs v vl vm lcs mcs) (k : zb X w w') (hX : ∀ x, x ∈ X → ¬ S x) : ya (Rep n S w') S w' cs v vl vm lcs mcs :=
 {cells := h.cells
  slcl := h.slcl.kept k (fun g hg hx => hX g hx (h.inl g hg))
  alll := h.alll.mono fun _ _ _ r => Rep.kept r k hX
  slcm := h.slcm.kept k (fun g hg hx => hX g hx (h.inm g hg))
  allm := h.allm.mono fun _ _ _ r => ⟨r.1, Rep.kept r.2 k hX⟩
  inl := h.inl
  inm := h.inm
  wfk := h.wfk
  wfn := h.wfn }
theorem Qm {α : Type} (f : α → Nat) (l : List α) (j : Nat) (h : j < l.length) : ((l.take j).map f).sum + f l[j] ≤ (l.map f).sum := by
 have h1 : (l.map f).sum = ((l.take (j + 1)).map f).sum + ((l.drop (j + 1)).map f).sum := by
  rw [← List.sum_append, ← List.map_append, List.take_append_drop]
 rw [h1, yQ f l j h, List.sum_append]
 simp only [List.sum_cons, List.sum_nil]
 omega
def jE (n : Nat) : Prop := ∀ (v : V n) {S : Nat → Prop} {w : World} {cs : List Value} {Wt : World} {b d c k : Nat} {r : Bool}, Rep n S w cs v → zZ n v → n + k ≤ 1000 → d ≤ 100000 → c + ze n v ≤ 100000 → yK Wt → zb [] Wt w → Wt.heap.size ≤ b → WAt w b d c r → (∀ g, S g → g ≠ b) →
    Calls Tryz.prog 92 #[.pointer (some ⟨b, 0, none⟩), .agg cs.toArray, .int .i64 k] w fun e w' => e = .returned (.tuple #[]) ∧ WAt w' b (max d (k + zG n v - 1)) (c + ze n v) (r || !zj n v) ∧ zb [b] w w'
theorem K9 {n : Nat} (known : jE n) : jE (n + 1) := fun (v : VS (V n)) {S} {w} {cs} {Wt} {b} {d} {c} {k} {r} h hs hn hd hc ht hkt hbt hw hS => by
  have Gx := qI h
  have Gp := qI hs
  have HT := qI ht
  have Jj := qI hkt
  have HW := qI hw
  have Ji := qI hS
  obtain ⟨vl, vm, lcs, mcs, h⟩ := h
  obtain ⟨a, ca, ba, ea, rfl, rfl, rfl⟩ := h.forms
  have H := qI h
  have IH := qI known
  have hlv : v.l.length ≤ 20000 := by have := hs.few; omega
  have hmv : v.m.length ≤ 20000 := by have := hs.few; omega
  have hbl : b < w.heap.size := lt_of_block hw
  obtain ⟨W0, Gi⟩ : ∃ W0, Hid (W0 = w.alloc (.cells #[.int .i64 v.kind, .int .i64 v.num, .string v.s, .slice a v.l.length ca, .slice ba v.m.length ea] 25)) := ⟨_, qI rfl⟩
  have Gb : Hid (zb [] w W0) := qI (by rw [Gi.o]; exact (zb.refl [] w).alloc _)
  have Jk : Hid (z6 W0 w.heap.size v.kind v.num v.s (.slice a v.l.length ca) (.slice ba v.m.length ea)) := qI (by rw [Gi.o]; exact yb w v.kind v.num v.s (.slice a v.l.length ca) (.slice ba v.m.length ea) 25)
  have Gy : Hid (W0.heap[b]? = some (.cells #[.int .i64 d, .int .i64 c, .bool r] 90 (0, 0))) := qI (Gb.o.heap hw (by simp))
  obtain ⟨c0, c1, c2, c3, c4⟩ := Jk.o
  clear h hs ht hkt hw hS
  go_enter func92, ntmps92
  go_upto_region 1 with fail
  rw [← Gi.o]
  have w0 := za (o := 0) (v := .int .i64 d) Gy.o rfl
  have w1 := za (o := 1) (v := .int .i64 c) Gy.o rfl
  have w2 := za (o := 2) (v := .bool r) Gy.o rfl
  have f0 := zc (o := 0) Gy.o
  have f1 := zc (o := 1) Gy.o
  have f2 := zc (o := 2) Gy.o
  go_upto_region 2 with fail
  have Gj := qI (zf (v := .int .i64 ((c : Int) + 1)) (i := 1) Gy.o rfl)
  have Gm : Hid (zb [b] W0 (W0.setCell ⟨b, 1, none⟩ (.int .i64 ((c : Int) + 1)))) := qI ((zb.refl _ _).setCell (.inl (by simp)) _)
  clear w0 w1 w2 f0 f1 f2
  revert Gj Gm
  generalize W0.setCell ⟨b, 1, none⟩ (.int .i64 ((c : Int) + 1)) = W1
  intro Gj Gm
  have w0 := za (o := 0) (v := .int .i64 d) Gj.o rfl
  have w1 := za (o := 1) (v := .int .i64 ((c : Int) + 1)) Gj.o rfl
  have w2 := za (o := 2) (v := .bool r) Gj.o rfl
  have f0 := zc (o := 0) Gj.o
  have f1 := zc (o := 1) Gj.o
  have f2 := zc (o := 2) Gj.o
  go_upto_region 3 with fail
  rw [show max (d : Int) (k : Int) = ((max d k : Nat) : Int) by omega]
  have Ge := qI (zf (v := .int .i64 ((max d k : Nat) : Int)) (i := 0) Gj.o rfl)
  have Gg : Hid (zb [b] W0 (W1.setCell ⟨b, 0, none⟩ (.int .i64 ((max d k : Nat) : Int)))) := qI (Gm.o.setCell (.inl (by simp)) _)
  clear w0 w1 w2 f0 f1 f2 Gj Gm c0 c1 c2 c3 c4
  revert Ge Gg
  generalize W1.setCell ⟨b, 0, none⟩ (.int .i64 ((max d k : Nat) : Int)) = W2
  intro Ge Gg
  have Gz : Hid (zb [b] w W2) := qI ((Gb.o.mono (by simp)).trans' Gg.o)
  have Gu : Hid (Rep (n + 1) S W2 [.int .i64 v.kind, .int .i64 v.num, .string v.s, .slice a v.l.length ca, .slice ba v.m.length ea] v) := qI (Gx.o.kept Gz.o (fun g hg hSg => Ji.o g hSg (by simpa using hg)))
  have Js : Hid (yK W2) := qI (HT.o.kept0 (Jj.o.trans Gz.o (fun i hi => by simp at hi; subst hi; exact .inr hbt)))
  have hbne : w.heap.size ≠ b := by omega
  obtain ⟨c0, c1, c2, c3, c4⟩ := Jk.o.kept Gg.o (by simpa using hbne)
  go_cut [] from 26 to 37 (fun wr => WAt wr b (max d k) (c + 1) (r || !zE v) ∧ zb [b] W0 wr)
  case first =>
   cases r with
   | true =>
    have w0 := za (o := 0) (v := .int .i64 ((max d k : Nat) : Int)) Ge.o rfl
    have w1 := za (o := 1) (v := .int .i64 ((c : Int) + 1)) Ge.o rfl
    have w2 := za (o := 2) (v := .bool true) Ge.o rfl
    have f0 := zc (o := 0) Ge.o
    have f1 := zc (o := 1) Ge.o
    have f2 := zc (o := 2) Ge.o
    go_wp2_with fail
    go_meet
    exact ⟨zf Ge.o rfl, Gg.o.setCell (.inl (by simp)) _⟩
   | false =>
    have CP := qI (plain_any Gu.o Gp.o Js.o)
    have w2 := za (o := 2) (v := .bool false) Ge.o rfl
    go_wp2_with (go_at_call 136; refine CP.o.mono ?_; rintro e w3 ⟨rfl, hk3⟩; have Jl := qI (hk3.heap Ge.o (by simp)); have Gk := qI hk3; clear hk3 w2; have w2 := za (o := 2) (v := .bool false) Jl.o rfl; have f2 := zc (o := 2) Jl.o)
    go_meet
    exact ⟨zf Jl.o (by simp), (Gg.o.then Gk.o).setCell (.inl (by simp)) _⟩
  case rest =>
   obtain ⟨hwc, hkc⟩ := hcut
   clear Ge Gg Gz Gu Js c0 c1 c2 c3 c4
   have Mc := qI hwc
   have Jt : Hid (zb [b] w wc) := qI ((Gb.o.mono (by simp)).trans' hkc)
   have Ju := qI (Jk.o.kept hkc (by simpa using hbne))
   have HX : Hid (∀ {wr}, zb [b] w wr → ya (Rep n S wr) S wr _ v _ _ lcs mcs) := qI fun k => H.o.keptX k (fun x hx hSx => Ji.o x hSx (by simpa using hx))
   have Jv : Hid (ze (n + 1) v = 1 + ((v.l.map (ze n)).sum + (v.m.map (fun p => ze n p.2)).sum)) := qI (by rw [← xT]; rfl)
   have Jm : Hid (K1 v d c r k [] (max d k) (c + 1) (r || !zE v)) := qI ⟨by simp [xG], by simp, by simp⟩
   clear hwc hkc
   obtain ⟨c0, c1, c2, c3, c4⟩ := Ju.o
   go_wp2_with fail
   clear c0 c1 c2 c3 c4
   go_loopw [41] (fun i wr => ∃ (j D C : Nat) (R : Bool), i = .int .i64 j ∧ j ≤ v.l.length ∧ WAt wr b D C R ∧ K1 v d c r k (v.l.take j) D C R ∧ zb [b] wc wr) (fun i _ => v.l.length - (intOf i).toNat)
   case atStart => exact ⟨0, _, _, _, rfl, Nat.zero_le _, Mc.o, Jm.o, zb.refl _ _⟩
   case round =>
    obtain ⟨j, D, C, R, rfl, hj, hwt, hse, hkr⟩ := hrel
    have Gv := qI hwt
    have Gr := qI hse
    have Ja := qI hkr
    have Gd := qI (Jt.o.trans' hkr)
    clear hwt hse hkr
    by_cases hlt : j < v.l.length
    ·have hltI : (j : Int) < v.l.length := by omega
     obtain ⟨g, o, cap, kd, nm, st, a1, b1, he, q0, q1, q2, q3, q4, hr⟩ := (HX.o Gd.o).at_l (zb.refl _ _) j hlt
     simp only [Value.slice.injEq] at he
     obtain ⟨rfl, -, rfl⟩ := he
     obtain ⟨p1, i1, d1, p2, i2, d2, rfl, rfl⟩ := hr.sl
     have hD : D ≤ 100000 := by
      rw [Gr.o.hd]
      have : xG ((v.l.take j).map (zG n)) ≤ n := jr.2 (fun x hx => by obtain ⟨y, _, rfl⟩ := List.mem_map.1 hx; exact kN n y)
      omega
     have hC : C + ze n v.l[j] ≤ 100000 := by
      rw [Gr.o.hc]
      have := Qm (ze n) v.l j hlt
      have := Jv.o
      omega
     have HA := qI ((zb.refl [] wr).alloc (.cells #[.int .i64 kd, .int .i64 nm, .string st, .slice p1 i1 d1, .slice p2 i2 d2] 25))
     have CL := qI (IH.o v.l[j] (hr.kept0 HA.o) (Gp.o.kid (xY (List.getElem_mem hlt))) (k := k + 1) (by omega) hD hC HT.o ((Jj.o.trans Gd.o (fun i hi => by simp at hi; subst hi; exact .inr hbt)).then HA.o) hbt (Gv.o.kept HA.o (by simp)) Ji.o)
     rw [show ((k + 1 : Nat) : Int) = (k : Int) + 1 from rfl] at CL
     have Jb := qI (Gr.o.snoc v.l[j] (JT _))
     have Gn : Hid (v.l.take (j + 1) = v.l.take j ++ [v.l[j]]) := qI (List.take_succ_eq_append_getElem hlt)
     clear hr hD hC
     go_wp2_with (go_at_call 92; refine CL.o.mono ?_; rintro e w2 ⟨rfl, hw2, hk2⟩; have Ge := qI hw2; have Gg := qI hk2; clear hw2 hk2)
     case roundEnd => exact ⟨⟨j + 1, _, _, _, by go_num, by omega, Ge.o, by rw [Gn.o]; exact Jb.o, (Ja.o.then HA.o).trans' Gg.o⟩, by simp [intOf]; omega⟩
    ·obtain rfl : j = v.l.length := by omega
     obtain ⟨c0, c1, c2, c3, c4⟩ := Ju.o.kept Ja.o (by simpa using hbne)
     have Je : Hid (K1 v d c r k (v.l ++ (v.m.take 0).map (fun p => p.2)) D C R) := qI (by have := Gr.o; rw [List.take_length] at this; simpa using this)
     have Jf := qI Gv.o
     have Jg := qI Ja.o
     clear Gr Gv Ja Gd
     go_wp2_with fail
     clear c0 c1 c2 c3 c4
     go_loopw [54] (fun i wr => ∃ (j D C : Nat) (R : Bool), i = .int .i64 j ∧ j ≤ v.m.length ∧ WAt wr b D C R ∧ K1 v d c r k (v.l ++ (v.m.take j).map (fun p => p.2)) D C R ∧ zb [b] wc wr) (fun i _ => v.m.length - (intOf i).toNat)
     case atStart => exact ⟨0, _, _, _, rfl, Nat.zero_le _, Jf.o, Je.o, Jg.o⟩
     case round =>
      obtain ⟨j, D, C, R, rfl, hj, hwt, hse, hkr⟩ := hrel
      clear Je Jf Jg
      have Gv := qI hwt
      have Gr := qI hse
      have Ja := qI hkr
      have Gd := qI (Jt.o.trans' hkr)
      clear hwt hse hkr
      by_cases hlt : j < v.m.length
      ·have hltI : (j : Int) < v.m.length := by omega
       obtain ⟨g, o, cap, kd, nm, st, a1, b1, he, q0, q1, q2, q3, q4, q5, hr⟩ := (HX.o Gd.o).at_m (zb.refl _ _) j hlt
       simp only [Value.slice.injEq] at he
       obtain ⟨rfl, -, rfl⟩ := he
       obtain ⟨p1, i1, d1, p2, i2, d2, rfl, rfl⟩ := hr.sl
       have hD : D ≤ 100000 := by
        rw [Gr.o.hd]
        have : xG ((v.l ++ (v.m.take j).map (fun p => p.2)).map (zG n)) ≤ n := jr.2 (fun x hx => by obtain ⟨y, _, rfl⟩ := List.mem_map.1 hx; exact kN n y)
        omega
       have hC : C + ze n v.m[j].2 ≤ 100000 := by
        rw [Gr.o.hc, List.map_append, List.sum_append, List.map_map]
        have := Qm (fun p : ByteArray × V n => ze n p.2) v.m j hlt
        have := Jv.o
        have e : ((v.m.take j).map (ze n ∘ fun p => p.2)).sum = ((v.m.take j).map (fun p => ze n p.2)).sum := rfl
        omega
       have Gn : Hid (v.l ++ (v.m.take (j + 1)).map (fun p => p.2) = (v.l ++ (v.m.take j).map (fun p => p.2)) ++ [v.m[j].2]) := qI (by rw [yQ _ _ _ hlt, List.append_assoc])
       have Jb := qI (Gr.o.snoc v.m[j].2 (JT _))
       have HA := qI ((zb.refl [] wr).alloc (.cells #[.string v.m[j].1, .int .i64 kd, .int .i64 nm, .string st, .slice p1 i1 d1, .slice p2 i2 d2] 60))
       have CL := qI (IH.o v.m[j].2 (hr.kept0 HA.o) (Gp.o.kid (xV (List.getElem_mem hlt))) (k := k + 1) (by omega) hD hC HT.o ((Jj.o.trans Gd.o (fun i hi => by simp at hi; subst hi; exact .inr hbt)).then HA.o) hbt (Gv.o.kept HA.o (by simp)) Ji.o)
       rw [show ((k + 1 : Nat) : Int) = (k : Int) + 1 from rfl] at CL
       clear hr hD hC
       revert q0 Gn Jb HA CL
       generalize v.m[j] = pr
       obtain ⟨key, x⟩ := pr
       intro q0 Gn Jb HA CL
       simp only at q0 Gn Jb HA CL
       go_wp2_with (go_at_call 92; refine CL.o.mono ?_; rintro e w2 ⟨rfl, hw2, hk2⟩; have Ge := qI hw2; have Gg := qI hk2; clear hw2 hk2)
       case roundEnd => exact ⟨⟨j + 1, _, _, _, by go_num, by omega, Ge.o, by rw [Gn.o]; exact Jb.o, (Ja.o.then HA.o).trans' Gg.o⟩, by simp [intOf]; omega⟩
      ·obtain rfl : j = v.m.length := by omega
       have Md : Hid (K1 v d c r k v.kids D C R) := qI (by have := Gr.o; rw [List.take_length] at this; exact this)
       obtain ⟨e1, e2, e3⟩ := Md.o.all
       have Jn : Hid (WAt wr b (max d (k + zG (n + 1) v - 1)) (c + ze (n + 1) v) (r || !zj (n + 1) v)) := qI (by rw [← e1, ← e2, ← e3]; exact Gv.o)
       clear e1 e2 e3
       go_wp2_with fail
       go_end0
       exact ⟨rfl, Jn.o, Gd.o⟩
theorem vW : ∀ (n : Nat), jE n
 | 0 => fun v {_} {_} {_} {_} {_} {_} {_} {_} {_} h _ _ _ _ _ _ _ _ _ => h.elim
 | n + 1 => K9 (vW n)
theorem down_any : ∀ (n : Nat) (v : V n) {S : Nat → Prop} {w : World} {cs : List Value} {Wt : World} {b d c k : Nat} {r : Bool}, Rep n S w cs v → zZ n v → n + k ≤ 1000 → d ≤ 100000 → c + ze n v ≤ 100000 → yK Wt → zb [] Wt w → Wt.heap.size ≤ b → WAt w b d c r → (∀ g, S g → g ≠ b) →
  Calls Tryz.prog 92 #[.pointer (some ⟨b, 0, none⟩), .agg cs.toArray, .int .i64 k] w fun e w' => e = .returned (.tuple #[]) ∧ WAt w' b (max d (k + zG n v - 1)) (c + ze n v) (r || !zj n v) ∧ zb [b] w w' := fun n => vW n
theorem look_any {n : Nat} {v : V n} {S : Nat → Prop} {w : World} {cs : List Value} (h : Rep n S w cs v) (hs : zZ n v) (hn : n ≤ 100) (ht : yK w) :
  Calls Tryz.prog 67 #[.agg cs.toArray] w fun e w' => (∃ b, e = .returned (.pointer (some ⟨b, 0, none⟩)) ∧ WAt w' b (zG n v) (ze n v) (!zj n v)) ∧ zb [] w w' := by
 obtain ⟨kd, nm, st, a1, b1, rfl⟩ := h.five
 obtain ⟨p1, i1, d1, p2, i2, d2, rfl, rfl⟩ := h.sl
 obtain ⟨W0, Gi⟩ : ∃ W0, Hid (W0 = w.alloc (.cells #[.int .i64 kd, .int .i64 nm, .string st, .slice p1 i1 d1, .slice p2 i2 d2] 25)) := ⟨_, qI rfl⟩
 obtain ⟨W1, Gj⟩ : ∃ W1, Hid (W1 = W0.alloc (.cells #[.int .i64 0, .int .i64 0, .bool false] 90)) := ⟨_, qI rfl⟩
 have Gb : Hid (zb [] w W0) := qI (by rw [Gi.o]; exact (zb.refl [] w).alloc _)
 have Gm : Hid (zb [] w W1) := qI (by rw [Gj.o]; exact Gb.o.alloc _)
 have Me : Hid (W0.heap.size = w.heap.size + 1) := qI (by rw [Gi.o]; simp)
 have Jo : Hid (z6 W1 w.heap.size kd nm st (.slice p1 i1 d1) (.slice p2 i2 d2)) := qI (by rw [Gj.o, Gi.o]; exact (yb _ _ _ _ _ _ _).kept0 ((zb.refl _ _).alloc _))
 have Gv : Hid (WAt W1 (w.heap.size + 1) 0 0 false) := qI (by rw [Gj.o]; exact zn Me.o)
 have hct := hs.1
 have CL := qI (down_any n v ((h.mono (T := fun g => g < w.heap.size) (fun g hg _ => hg)).kept0 Gm.o) hs (k := 1) (by omega) (Nat.zero_le _) (by omega) ht Gm.o (Nat.le_succ _) Gv.o (fun g hg => by omega))
 clear h hs ht hct
 rw [show ((1 : Nat) : Int) = 1 from rfl] at CL
 have HD : Hid (max 0 (1 + zG n v - 1) = zG n v ∧ 0 + ze n v = ze n v) := qI (by omega)
 go_enter func67, ntmps67
 go_wp2_with fail
 rw [← Gi.o, ← Gj.o]
 refine CL.o.mono ?_
 rintro e w2 ⟨rfl, hw2, hk2⟩
 have Ge : Hid (WAt w2 (w.heap.size + 1) (zG n v) (ze n v) (!zj n v)) := qI (by rw [HD.o.1, HD.o.2] at hw2; simpa using hw2)
 have Gg := qI hk2
 clear hw2 hk2
 go_wp2_with fail
 go_ret
 exact ⟨⟨_, rfl, Ge.o⟩, Gm.o.trans Gg.o (fun i hi => by simp at hi; subst hi; exact .inr (Nat.le_succ _))⟩
theorem xn {n : Nat} {v : V n} {S : Nat → Prop} {w : World} {cs : List Value} (h : Rep n S w cs v) (hs : zZ n v) (hn : n ≤ 100) (ht : yK w) :
  Calls Tryz.prog 39 #[.agg cs.toArray] w fun e w' => e = .returned (.int .i64 (zi n v)) ∧ zb [] w w' := by
 obtain ⟨kd, nm, st, a1, b1, rfl⟩ := h.five
 obtain ⟨p1, i1, d1, p2, i2, d2, rfl, rfl⟩ := h.sl
 obtain ⟨W0, Gi⟩ : ∃ W0, Hid (W0 = w.alloc (.cells #[.int .i64 kd, .int .i64 nm, .string st, .slice p1 i1 d1, .slice p2 i2 d2] 25)) := ⟨_, qI rfl⟩
 have Gb : Hid (zb [] w W0) := qI (by rw [Gi.o]; exact (zb.refl [] w).alloc _)
 have CL := qI (look_any (h.kept0 Gb.o) hs hn (ht.kept0 Gb.o))
 have hct := hs.1
 have hdt : zG n v ≤ 100 := Nat.le_trans (kN n v) hn
 have HC : Hid (zi n v = if 12 < zG n v then 41 else if 4096 < ze n v then 42 else if zj n v then 0 else 40) := qI rfl
 clear h hs ht
 revert CL hct hdt HC
 generalize zG n v = D
 generalize ze n v = C
 generalize zj n v = R
 generalize zi n v = K
 intro CL hct hdt HC
 by_cases h1 : 12 < D
 ·have h1I : (12 : Int) < D := by omega
  have HF : Hid (K = 41) := qI (by rw [HC.o, if_pos h1])
  go_enter func39, ntmps39
  go_wp2_with fail
  rw [← Gi.o]
  refine CL.o.mono ?_
  rintro e w2 ⟨⟨b, rfl, hw2⟩, hk2⟩
  have c0 := za (o := 0) (v := .int .i64 D) hw2 rfl
  have c1 := za (o := 1) (v := .int .i64 C) hw2 rfl
  have c2 := za (o := 2) (v := .bool (!R)) hw2 rfl
  have Gg := qI (Gb.o.then hk2)
  clear hw2 hk2
  go_wp2_with fail
  go_ret
  rw [HF.o]
  exact ⟨rfl, Gg.o⟩
 have h1I : ¬ (12 : Int) < D := by omega
 by_cases h2 : 4096 < C
 ·have h2I : (4096 : Int) < C := by omega
  have HF : Hid (K = 42) := qI (by rw [HC.o, if_neg h1, if_pos h2])
  go_enter func39, ntmps39
  go_wp2_with fail
  rw [← Gi.o]
  refine CL.o.mono ?_
  rintro e w2 ⟨⟨b, rfl, hw2⟩, hk2⟩
  have c0 := za (o := 0) (v := .int .i64 D) hw2 rfl
  have c1 := za (o := 1) (v := .int .i64 C) hw2 rfl
  have c2 := za (o := 2) (v := .bool (!R)) hw2 rfl
  have Gg := qI (Gb.o.then hk2)
  clear hw2 hk2
  go_wp2_with fail
  go_ret
  rw [HF.o]
  exact ⟨rfl, Gg.o⟩
 have h2I : ¬ (4096 : Int) < C := by omega
 cases R with
 | true =>
  have HF : Hid (K = 0) := qI (by rw [HC.o, if_neg h1, if_neg h2, if_pos rfl])
  clear h1 h2
  go_enter func39, ntmps39
  go_wp2_with fail
  rw [← Gi.o]
  refine CL.o.mono ?_
  rintro e w2 ⟨⟨b, rfl, hw2⟩, hk2⟩
  have c0 := za (o := 0) (v := .int .i64 D) hw2 rfl
  have c1 := za (o := 1) (v := .int .i64 C) hw2 rfl
  have c2 := za (o := 2) (v := .bool false) hw2 rfl
  have Gg := qI (Gb.o.then hk2)
  clear hw2 hk2
  go_wp2_with fail
  go_ret
  rw [HF.o]
  exact ⟨rfl, Gg.o⟩
 | false =>
  have HF : Hid (K = 40) := qI (by rw [HC.o, if_neg h1, if_neg h2, if_neg (by simp)])
  clear h1 h2
  go_enter func39, ntmps39
  go_wp2_with fail
  rw [← Gi.o]
  refine CL.o.mono ?_
  rintro e w2 ⟨⟨b, rfl, hw2⟩, hk2⟩
  have c0 := za (o := 0) (v := .int .i64 D) hw2 rfl
  have c1 := za (o := 1) (v := .int .i64 C) hw2 rfl
  have c2 := za (o := 2) (v := .bool true) hw2 rfl
  have Gg := qI (Gb.o.then hk2)
  clear hw2 hk2
  go_wp2_with fail
  go_ret
  rw [HF.o]
  exact ⟨rfl, Gg.o⟩
def zy (w : World) (r : Nat) (b0 b1 b2 b3 b4 : Value) : World := ((((w.setCell ⟨r, 0, none⟩ b0).setCell ⟨r, 1, none⟩ b1).setCell ⟨r, 2, none⟩ b2).setCell ⟨r, 3, none⟩ b3).setCell ⟨r, 4, none⟩ b4
theorem Q5 {w WF : World} {r T : Nat} {a0 a1 a2 a3 a4 b0 b1 b2 b3 b4 : Value} (hb : w.heap[r]? = some (.cells #[a0, a1, a2, a3, a4] T (0, 0))) (e : WF = zy w r b0 b1 b2 b3 b4) :
  zb [r] w WF ∧ WF.heap[r]? = some (.cells #[b0, b1, b2, b3, b4] T (0, 0)) := by
 subst e
 refine ⟨?_, zf (i := 4) (zf (i := 3) (zf (i := 2) (zf (i := 1) (zf (i := 0) hb rfl) rfl) rfl) rfl) rfl⟩
 exact (((((zb.refl [r] w).setCell (p := ⟨r, 0, none⟩) (.inl (by simp)) _).setCell (p := ⟨r, 1, none⟩) (.inl (by simp)) _).setCell (p := ⟨r, 2, none⟩) (.inl (by simp)) _).setCell (p := ⟨r, 3, none⟩) (.inl (by simp)) _).setCell (p := ⟨r, 4, none⟩) (.inl (by simp)) _
theorem yS.move : ∀ {n : Nat} {B B' : Nat} {X : List Nat} {w w' : World} {cs : List Value} {v : V n}, yS n B w cs v → zb X w w' → (∀ g, g ∈ X → g < B) → B' ≤ B → yS n B' w' cs v
 | 0, _, _, _, _, _, _, _, h, _, _, _ => h.elim
 | n + 1, B, B', X, w, w', cs, v, h, k, hX, hB => by
  obtain ⟨vl, vm, lcs, mcs, h1, h2, h3, h4, h5, h6, h7⟩ := h
  refine ⟨vl, vm, lcs, mcs, h1, ?_, h3.mono fun _ _ _ r => r.move k (fun g _ q => ⟨fun hx => by have := hX g hx; omega, by omega, q.2⟩), ?_, h5.mono fun _ _ _ r => ⟨r.1, r.2.move k (fun g _ q => ⟨fun hx => by have := hX g hx; omega, by omega, q.2⟩)⟩, h6, h7⟩
  ·exact y8 (zh h2 k (fun g hg hx => by have := (h2.lt g hg).1; have := hX g hx; omega)) (fun g hg => by have := (h2.lt g hg).1; omega)
  ·exact y8 (zh h4 k (fun g hg hx => by have := (h4.lt g hg).1; have := hX g hx; omega)) (fun g hg => by have := (h4.lt g hg).1; omega)
theorem jp {n : Nat} {v : V n} (h : zi n v = 0) : zj n v = true := (qu.1 h).2.2
theorem Zk {n : Nat} {v : V n} {S : Nat → Prop} {w : World} {cs : List Value} (h : Rep n S w cs v) (hs : zZ n v) (hn : n ≤ 100) (ht : yK w) (hc : zi n v = 0) :
  Calls Tryz.prog 47 #[.agg cs.toArray] w fun e w' => (∃ cs' : List Value, e = .returned (.agg cs'.toArray) ∧ yS n w.heap.size w' cs' (zH n v)) ∧ zb [] w w' := by
 obtain ⟨kd, nm, st, a, ca, ea, b, cb, eb, rfl⟩ := h.conv
 obtain ⟨W0, Gi⟩ : ∃ W0, Hid (W0 = (w.alloc (.cells #[.int .i64 kd, .int .i64 nm, .string st, .slice a ca ea, .slice b cb eb] 25)).alloc (.cells #[.int .i64 0, .int .i64 0, .string ⟨#[]⟩, .slice none 0 0, .slice none 0 0] 25)) := ⟨_, qI rfl⟩
 have Jp : Hid (W0.heap.size = w.heap.size + 2) := qI (by rw [Gi.o]; simp)
 have Gb : Hid (zb [] w W0) := qI (by rw [Gi.o]; exact ((zb.refl [] w).alloc _).alloc _)
 have Jo : Hid (z6 W0 w.heap.size kd nm st (.slice a ca ea) (.slice b cb eb)) := qI (by
  rw [Gi.o]
  have h1 := yb w kd nm st (.slice a ca ea) (.slice b cb eb) 25
  exact h1.kept ((zb.refl [] _).alloc _) (by simp))
 have Gf : Hid (W0.heap[w.heap.size + 1]? = some (.cells #[.int .i64 0, .int .i64 0, .string ⟨#[]⟩, .slice none 0 0, .slice none 0 0] 25 (0, 0))) := qI (by
  rw [Gi.o]; exact zn (by simp))
 have CC : Hid (Calls Tryz.prog 39 #[.agg #[.int .i64 kd, .int .i64 nm, .string st, .slice a ca ea, .slice b cb eb]] W0 _) := qI (xn (h.kept0 Gb.o) hs hn (ht.kept0 Gb.o))
 have CS := qI (fun (w1 : World) (k : zb [] W0 w1) => Zx n v ((h.kept0 Gb.o).kept0 k) hs (jp hc))
 have Mf := qI hc
 clear h hs ht hc
 obtain ⟨c0, c1, c2, c3, c4⟩ := Jo.o
 rw [Gi.o] at c0 c1 c2 c3 c4
 go_enter func47, ntmps47
 go_wp2_with fail
 rw [← Gi.o]
 refine CC.o.mono ?_
 rintro e w1 ⟨rfl, hk1⟩
 have Gm := qI hk1
 clear c0 c1 c2 c3 c4
 rw [Mf.o]
 obtain ⟨c0, c1, c2, c3, c4⟩ := Jo.o.kept hk1 (by simp)
 clear hk1
 go_wp2_with fail
 refine (CS.o _ Gm.o).mono ?_
 rintro e w5 ⟨⟨cs', rfl, hown⟩, hk5⟩
 obtain ⟨k5, m5, s5, p5, i5, e5, q5, j5, d5, rfl⟩ := hown.rep.conv
 have Jq := qI hown
 have Jw := qI (Gm.o.then hk5)
 have hbr := Jw.o.heap Gf.o (by simp)
 have Mg := qI hbr
 have r0 := za (o := 0) (v := .int .i64 0) hbr rfl
 have r1 := za (o := 1) (v := .int .i64 0) hbr rfl
 have r2 := za (o := 2) (v := .string ⟨#[]⟩) hbr rfl
 have r3 := za (o := 3) (v := .slice none 0 0) hbr rfl
 have r4 := za (o := 4) (v := .slice none 0 0) hbr rfl
 have f0 := zc (o := 0) hbr
 have f1 := zc (o := 1) hbr
 have f2 := zc (o := 2) hbr
 have f3 := zc (o := 3) hbr
 have f4 := zc (o := 4) hbr
 have Jr : Hid (w.heap.size + 2 ≤ w1.heap.size) := qI (by have := Gm.o.size; have := Jp.o; omega)
 clear hbr hown hk5 c0 c1 c2 c3 c4
 go_wp2_with fail
 obtain ⟨WF, e⟩ : ∃ WF, WF = zy w5 (w.heap.size + 1) (.int .i64 k5) (.int .i64 m5) (.string s5) (.slice p5 i5 e5) (.slice q5 j5 d5) := ⟨_, rfl⟩
 obtain ⟨KF, hbf⟩ := Q5 Mg.o e
 unfold zy at e
 rw [← e]
 have x0 := za (o := 0) (v := .int .i64 k5) hbf rfl
 have x1 := za (o := 1) (v := .int .i64 m5) hbf rfl
 have x2 := za (o := 2) (v := .string s5) hbf rfl
 have x3 := za (o := 3) (v := .slice p5 i5 e5) hbf rfl
 have x4 := za (o := 4) (v := .slice q5 j5 d5) hbf rfl
 have hz := Jr.o
 exact bodyPost_ret (v := .agg #[.int .i64 k5, .int .i64 m5, .string s5, .slice p5 i5 e5, .slice q5 j5 d5]) (by simp [results, results47, go_sem, x0, x1, x2, x3, x4]) rfl ⟨⟨_, rfl, Jq.o.move KF (fun g hg => by simp at hg; omega) (by omega)⟩, (Gb.o.then Jw.o).trans KF (fun i hi => by simp at hi; exact .inr (by omega))⟩
def bH (n : Nat) : Prop := ∀ (x y : V n) {S T : Nat → Prop} {w : World} {ca cb : List Value}, Rep n S w ca x → Rep n T w cb y → zZ n x →
 Calls Tryz.prog 108 #[.agg ca.toArray, .agg cb.toArray] w fun e w' => e = .returned (.bool (eqV n x y)) ∧ zb [] w w'
theorem eqvals_any {n : Nat} (hI : bH n) {va vb : VS (V n)} {S T : Nat → Prop} {w : World} {vm vm' : Value} {lcs lcs' : List (List Value)} {mcs mcs' : List (ByteArray × List Value)} {a b : Option Addr} {c d : Nat} {ca cb : List Value}
  (h : ya (Rep n S w) S w ca va (.slice a va.l.length c) vm lcs mcs) (h' : ya (Rep n T w) T w cb vb (.slice b vb.l.length d) vm' lcs' mcs') (hs : zZ (n + 1) va) :
  Calls Tryz.prog 144 #[.slice a va.l.length c, .slice b vb.l.length d, .func (.func 108) #[] #[]] w fun e w' => e = .returned (.bool (eqL (eqV n) va.l vb.l)) ∧ zb [] w w' := by
 have hlv : va.l.length ≤ 20000 := by have := hs.few; omega
 by_cases hll : va.l.length = vb.l.length
 rotate_left
 ·obtain ⟨f1, f2⟩ := qK hll
  have HF : Hid (eqL (eqV n) va.l vb.l = false) := qI (Yt hll)
  clear hll h h' hs
  go_enter func144, ntmps144
  go_wp2_with fail
  go_ret
  rw [HF.o]
  exact ⟨rfl, zb.refl _ _⟩
 obtain ⟨f1, f2⟩ := vv hll
 have Jh := qI hll
 have H := qI h
 have H' := qI h'
 have Gp := qI hs
 have IH := qI hI
 have hlI : (vb.l.length : Int) ≤ 20000 := by omega
 clear hll h h' hs hI
 go_enter func144, ntmps144
 go_wp2_with fail
 clear f1 f2
 go_loopw [17] (fun i wr => ∃ k : Nat, i = .int .i64 k ∧ k ≤ va.l.length ∧ eqL (eqV n) (va.l.drop k) (vb.l.drop k) = eqL (eqV n) va.l vb.l ∧ zb [] w wr) (fun i _ => va.l.length - (intOf i).toNat)
 case atStart => exact ⟨0, rfl, Nat.zero_le _, rfl, zb.refl _ _⟩
 case round =>
  obtain ⟨k, rfl, hk, hg, hkr⟩ := hrel
  have HG := qI hg
  have Gd := qI hkr
  clear hg hkr
  by_cases hlt : k < va.l.length
  ·have hltI : (k : Int) < va.l.length := by omega
   have hlt' : k < vb.l.length := by have := Jh.o; omega
   have hltI' : (k : Int) < vb.l.length := by omega
   obtain ⟨g, o, cap, kd, nm, st, a1, b1, he, q0, q1, q2, q3, q4, hr⟩ := H.o.at_l Gd.o k hlt
   simp only [Value.slice.injEq] at he
   obtain ⟨rfl, -, rfl⟩ := he
   obtain ⟨p1, i1, d1, p2, i2, d2, rfl, rfl⟩ := hr.sl
   obtain ⟨g', o', cap', kd', nm', st', a1', b1', he, r0, r1, r2, r3, r4, hr'⟩ := H'.o.at_l Gd.o k hlt'
   simp only [Value.slice.injEq] at he
   obtain ⟨rfl, -, rfl⟩ := he
   obtain ⟨p3, i3, d3, p4, i4, d4, rfl, rfl⟩ := hr'.sl
   have HA := qI ((zb.refl [] wr).alloc (.cells #[.int .i64 kd, .int .i64 nm, .string st, .slice p1 i1 d1, .slice p2 i2 d2] 25))
   have Gq := qI (HA.o.alloc (.cells #[.int .i64 kd', .int .i64 nm', .string st', .slice p3 i3 d3, .slice p4 i4 d4] 25))
   have y0 := HA.o.cell r0 (by simp)
   have y1 := HA.o.cell r1 (by simp)
   have y2 := HA.o.cell r2 (by simp)
   have y3 := HA.o.cell r3 (by simp)
   have y4 := HA.o.cell r4 (by simp)
   have CL := qI (IH.o va.l[k] vb.l[k] (hr.kept0 Gq.o) (hr'.kept0 Gq.o) (Gp.o.kid (xY (List.getElem_mem hlt))))
   have HD := qI (ZL (r := eqV n) hlt hlt')
   clear hr hr' r0 r1 r2 r3 r4
   revert CL HD
   generalize eqV n va.l[k] vb.l[k] = r
   intro CL HD
   cases r
   ·go_wp2_with (go_at_call 108; refine CL.o.mono ?_; rintro e w2 ⟨rfl, hk2⟩)
    go_ret
    rw [← HG.o, HD.o]
    exact ⟨by simp, (Gd.o.then Gq.o).then hk2⟩
   ·go_wp2_with (go_at_call 108; refine CL.o.mono ?_; rintro e w2 ⟨rfl, hk2⟩)
    case roundEnd =>
     refine ⟨⟨k + 1, by go_num, by omega, ?_, (Gd.o.then Gq.o).then hk2⟩, by simp [intOf]; omega⟩
     rw [← HG.o, HD.o]
     simp
  ·obtain rfl : k = va.l.length := by omega
   go_wp2_with fail
   go_ret
   rw [← HG.o, QC Jh.o]
   exact ⟨rfl, Gd.o⟩
theorem eqpair_any {n : Nat} (hI : bH n) {x y : V n} {S T : Nat → Prop} {w : World} {ca cb : List Value} {ka kb : ByteArray} (h : Rep n S w ca x) (h' : Rep n T w cb y) (hs : zZ n x) :
  Calls Tryz.prog 143 #[.agg (.string ka :: ca).toArray, .agg (.string kb :: cb).toArray] w fun e w' => e = .returned (.bool (decide (ka = kb) && eqV n x y)) ∧ zb [] w w' := by
 obtain ⟨kd, nm, st, a1, b1, rfl⟩ := h.five
 obtain ⟨p1, i1, d1, p2, i2, d2, rfl, rfl⟩ := h.sl
 obtain ⟨kd', nm', st', a1', b1', rfl⟩ := h'.five
 obtain ⟨p3, i3, d3, p4, i4, d4, rfl, rfl⟩ := h'.sl
 obtain ⟨W2, Ge⟩ : ∃ W2, Hid (W2 = (w.alloc (.cells #[.string ka, .int .i64 kd, .int .i64 nm, .string st, .slice p1 i1 d1, .slice p2 i2 d2] 60)).alloc (.cells #[.string kb, .int .i64 kd', .int .i64 nm', .string st', .slice p3 i3 d3, .slice p4 i4 d4] 60)) := ⟨_, qI rfl⟩
 have Gb : Hid (zb [] w W2) := qI (by rw [Ge.o]; exact ((zb.refl [] w).alloc _).alloc _)
 have CL := qI (hI x y (h.kept0 Gb.o) (h'.kept0 Gb.o) hs)
 clear h h' hs hI
 by_cases hk : ka = kb
 ·obtain ⟨f1, f2⟩ := qo hk
  have HD : Hid ((decide (ka = kb) && eqV n x y) = eqV n x y) := qI (by rw [decide_eq_true hk, Bool.true_and])
  clear hk
  go_enter func143, ntmps143
  go_wp2_with fail
  rw [← Ge.o]
  refine CL.o.mono ?_
  rintro e w2 ⟨rfl, hk2⟩
  go_wp2_with fail
  go_ret
  rw [HD.o]
  exact ⟨by simp, Gb.o.then hk2⟩
 ·obtain ⟨f1, f2⟩ := xM hk
  have HD : Hid ((decide (ka = kb) && eqV n x y) = false) := qI (by rw [decide_eq_false hk, Bool.false_and])
  clear hk
  go_enter func143, ntmps143
  go_wp2_with fail
  go_ret
  rw [HD.o, ← Ge.o]
  exact ⟨rfl, Gb.o⟩
theorem eqpairs_any {n : Nat} (hI : bH n) {va vb : VS (V n)} {S T : Nat → Prop} {w : World} {vl vl' : Value} {lcs lcs' : List (List Value)} {mcs mcs' : List (ByteArray × List Value)} {a b : Option Addr} {c d : Nat} {ca cb : List Value}
  (h : ya (Rep n S w) S w ca va vl (.slice a va.m.length c) lcs mcs) (h' : ya (Rep n T w) T w cb vb vl' (.slice b vb.m.length d) lcs' mcs') (hs : zZ (n + 1) va) :
  Calls Tryz.prog 145 #[.slice a va.m.length c, .slice b vb.m.length d, .func (.func 143) #[] #[]] w fun e w' => e = .returned (.bool (eqL (fun p q : ByteArray × V n => decide (p.1 = q.1) && eqV n p.2 q.2) va.m vb.m)) ∧ zb [] w w' := by
 have hlv : va.m.length ≤ 20000 := by have := hs.few; omega
 by_cases hll : va.m.length = vb.m.length
 rotate_left
 ·obtain ⟨f1, f2⟩ := qK hll
  have HF : Hid (eqL (fun p q : ByteArray × V n => decide (p.1 = q.1) && eqV n p.2 q.2) va.m vb.m = false) := qI (Yt hll)
  clear hll h h' hs
  go_enter func145, ntmps145
  go_wp2_with fail
  go_ret
  rw [HF.o]
  exact ⟨rfl, zb.refl _ _⟩
 obtain ⟨f1, f2⟩ := vv hll
 have Jh := qI hll
 have H := qI h
 have H' := qI h'
 have Gp := qI hs
 have IH := qI hI
 have hlI : (vb.m.length : Int) ≤ 20000 := by omega
 clear hll h h' hs hI
 go_enter func145, ntmps145
 go_wp2_with fail
 clear f1 f2
 go_loopw [17] (fun i wr => ∃ k : Nat, i = .int .i64 k ∧ k ≤ va.m.length ∧ eqL (fun p q : ByteArray × V n => decide (p.1 = q.1) && eqV n p.2 q.2) (va.m.drop k) (vb.m.drop k) = eqL (fun p q : ByteArray × V n => decide (p.1 = q.1) && eqV n p.2 q.2) va.m vb.m ∧ zb [] w wr) (fun i _ => va.m.length - (intOf i).toNat)
 case atStart => exact ⟨0, rfl, Nat.zero_le _, rfl, zb.refl _ _⟩
 case round =>
  obtain ⟨k, rfl, hk, hg, hkr⟩ := hrel
  have HG := qI hg
  have Gd := qI hkr
  clear hg hkr
  by_cases hlt : k < va.m.length
  ·have hltI : (k : Int) < va.m.length := by omega
   have hlt' : k < vb.m.length := by have := Jh.o; omega
   have hltI' : (k : Int) < vb.m.length := by omega
   obtain ⟨g, o, cap, kd, nm, st, a1, b1, he, q0, q1, q2, q3, q4, q5, hr⟩ := H.o.at_m Gd.o k hlt
   simp only [Value.slice.injEq] at he
   obtain ⟨rfl, -, rfl⟩ := he
   obtain ⟨p1, i1, d1, p2, i2, d2, rfl, rfl⟩ := hr.sl
   obtain ⟨g', o', cap', kd', nm', st', a1', b1', he, r0, r1, r2, r3, r4, r5, hr'⟩ := H'.o.at_m Gd.o k hlt'
   simp only [Value.slice.injEq] at he
   obtain ⟨rfl, -, rfl⟩ := he
   obtain ⟨p3, i3, d3, p4, i4, d4, rfl, rfl⟩ := hr'.sl
   have HA := qI ((zb.refl [] wr).alloc (.cells #[.string va.m[k].1, .int .i64 kd, .int .i64 nm, .string st, .slice p1 i1 d1, .slice p2 i2 d2] 60))
   have Gq := qI (HA.o.alloc (.cells #[.string vb.m[k].1, .int .i64 kd', .int .i64 nm', .string st', .slice p3 i3 d3, .slice p4 i4 d4] 60))
   have y0 := HA.o.cell r0 (by simp)
   have y1 := HA.o.cell r1 (by simp)
   have y2 := HA.o.cell r2 (by simp)
   have y3 := HA.o.cell r3 (by simp)
   have y4 := HA.o.cell r4 (by simp)
   have y5 := HA.o.cell r5 (by simp)
   have CL := qI (eqpair_any IH.o (ka := va.m[k].1) (kb := vb.m[k].1) (hr.kept0 Gq.o) (hr'.kept0 Gq.o) (Gp.o.kid (xV (List.getElem_mem hlt))))
   have HD := qI (ZL (r := fun p q : ByteArray × V n => decide (p.1 = q.1) && eqV n p.2 q.2) hlt hlt')
   clear hr hr' r0 r1 r2 r3 r4 r5
   revert q0 HA Gq y0 y1 y2 y3 y4 y5 CL HD
   generalize va.m[k] = x
   generalize vb.m[k] = y
   obtain ⟨ka, x⟩ := x
   obtain ⟨kb, y⟩ := y
   simp only
   generalize (decide (ka = kb) && eqV n x y) = r
   intro q0 HA Gq y0 y1 y2 y3 y4 y5 CL HD
   cases r
   ·go_wp2_with (go_at_call 143; refine CL.o.mono ?_; rintro e w2 ⟨rfl, hk2⟩)
    go_ret
    rw [← HG.o, HD.o]
    exact ⟨by simp, (Gd.o.then Gq.o).then hk2⟩
   ·go_wp2_with (go_at_call 143; refine CL.o.mono ?_; rintro e w2 ⟨rfl, hk2⟩)
    case roundEnd =>
     refine ⟨⟨k + 1, by go_num, by omega, ?_, (Gd.o.then Gq.o).then hk2⟩, by simp [intOf]; omega⟩
     rw [← HG.o, HD.o]
     simp
  ·obtain rfl : k = va.m.length := by omega
   go_wp2_with fail
   go_ret
   rw [← HG.o, QC Jh.o]
   exact ⟨rfl, Gd.o⟩
theorem Kd {n : Nat} (known : bH n) : bH (n + 1) := fun (va : VS (V n)) (vb : VS (V n)) {S T w ca cb} h h' hs => by
  have Gx := qI h
  have Jx := qI h'
  have Gp := qI hs
  have IH := qI known
  obtain ⟨vl, vm, lcs, mcs, h⟩ := h
  obtain ⟨a, c, b, e, rfl, rfl, rfl⟩ := h.forms
  obtain ⟨vl', vm', lcs', mcs', h'⟩ := h'
  obtain ⟨a', c', b', e', rfl, rfl, rfl⟩ := h'.forms
  obtain ⟨W2, Ge⟩ : ∃ W2, Hid (W2 = (w.alloc (.cells #[.int .i64 va.kind, .int .i64 va.num, .string va.s, .slice a va.l.length c, .slice b va.m.length e] 25)).alloc (.cells #[.int .i64 vb.kind, .int .i64 vb.num, .string vb.s, .slice a' vb.l.length c', .slice b' vb.m.length e'] 25)) := ⟨_, qI rfl⟩
  have Gb : Hid (zb [] w W2) := qI (by rw [Ge.o]; exact ((zb.refl [] w).alloc _).alloc _)
  have HB : Hid (z6 W2 w.heap.size va.kind va.num va.s (.slice a va.l.length c) (.slice b va.m.length e)) := qI (by rw [Ge.o]; exact (yb w _ _ _ _ _ _).kept0 ((zb.refl [] _).alloc _))
  have Mh : Hid (z6 W2 (w.heap.size + 1) vb.kind vb.num vb.s (.slice a' vb.l.length c') (.slice b' vb.m.length e')) := qI (by rw [Ge.o]; exact ql (by simp) _ _ _ _ _ _)
  have HX : Hid (∀ {wr}, zb [] w wr → ya (Rep n S wr) S wr _ va _ _ lcs mcs) := qI fun k => h.keptX k (by simp)
  have Jy : Hid (∀ {wr}, zb [] w wr → ya (Rep n T wr) T wr _ vb _ _ lcs' mcs') := qI fun k => h'.keptX k (by simp)
  have Gt := qI (eqV_eq va vb)
  have CV := qI (eqvals_any IH.o (HX.o Gb.o) (Jy.o Gb.o) Gp.o)
  have CP : Hid (∀ wr, zb [] w wr → _) := qI fun wr (k : zb [] w wr) => eqpairs_any IH.o (HX.o k) (Jy.o k) Gp.o
  clear h h' hs
  by_cases hkind : va.kind = vb.kind
  rotate_left
  ·obtain ⟨f1, f2⟩ := zt hkind
   have HF : Hid (eqV (n + 1) va vb = false) := qI (by rw [Gt.o]; simp [hkind])
   clear hkind
   go_enter func108, ntmps108
   go_wp2_with fail
   go_ret
   rw [HF.o, ← Ge.o]
   exact ⟨rfl, Gb.o⟩
  obtain ⟨g1, g2⟩ := yg hkind
  have Hkind := qI hkind
  clear hkind
  by_cases hnum : va.num = vb.num
  rotate_left
  ·obtain ⟨f1, f2⟩ := zt hnum
   have HF : Hid (eqV (n + 1) va vb = false) := qI (by rw [Gt.o]; simp [hnum])
   clear hnum
   go_enter func108, ntmps108
   go_wp2_with fail
   go_ret
   rw [HF.o, ← Ge.o]
   exact ⟨rfl, Gb.o⟩
  obtain ⟨g3, g4⟩ := yg hnum
  have Hnum := qI hnum
  clear hnum
  by_cases hstr : va.s = vb.s
  rotate_left
  ·obtain ⟨f1, f2⟩ := xM hstr
   have HF : Hid (eqV (n + 1) va vb = false) := qI (by rw [Gt.o]; simp [hstr])
   clear hstr
   go_enter func108, ntmps108
   go_wp2_with fail
   go_ret
   rw [HF.o, ← Ge.o]
   exact ⟨rfl, Gb.o⟩
  obtain ⟨g5, g6⟩ := qo hstr
  have Hstr := qI hstr
  clear hstr
  have Gs : Hid (eqV (n + 1) va vb = (eqL (eqV n) va.l vb.l && eqL (fun p q => decide (p.1 = q.1) && eqV n p.2 q.2) va.m vb.m)) := qI (by rw [Gt.o]; simp [Hkind.o, Hnum.o, Hstr.o])
  revert CV CP Gs
  generalize eqL (eqV n) va.l vb.l = r1
  generalize eqL (fun p q => decide (p.1 = q.1) && eqV n p.2 q.2) va.m vb.m = r2
  intro CV CP Gs
  cases r1 with
  | false =>
   go_enter func108, ntmps108
   go_wp2_with fail
   rw [← Ge.o]
   refine CV.o.mono ?_
   rintro e w2 ⟨rfl, hk2⟩
   go_wp2_with fail
   go_ret
   rw [Gs.o]
   exact ⟨rfl, Gb.o.then hk2⟩
  | true =>
   go_enter func108, ntmps108
   go_wp2_with fail
   rw [← Ge.o]
   refine CV.o.mono ?_
   rintro e w2 ⟨rfl, hk2⟩
   have Gg := qI (Gb.o.then hk2)
   obtain ⟨c0, c1, c2, c3, c4⟩ := HB.o.kept0 hk2
   obtain ⟨d0, d1, d2, d3, d4⟩ := Mh.o.kept0 hk2
   clear hk2
   go_wp2_with fail
   refine (CP.o _ Gg.o).mono ?_
   rintro e w3 ⟨rfl, hk3⟩
   go_wp2_with fail
   go_ret
   rw [Gs.o]
   exact ⟨by simp, Gg.o.then hk3⟩
theorem JP : ∀ (n : Nat), bH n
 | 0 => fun x => nomatch x
 | n + 1 => Kd (JP n)
end Go.Proofs.YtpbphdkjjoipnaaGreatDoor

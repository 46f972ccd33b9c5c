/- Parts of one proof, merged: XGH XIN XIO XIS XIT. -/
import Derived.Test.YtckbnjipecclaaaGreatDoorRU
import Derived.Test.YtckbnjipecclaaaGreatDoorRS
import Derived.Test.YtckbnjipecclaaaGreatDoorRB
import Derived.Test.YtckbnjipecclaaaGreatDoorRR
import Derived.Test.YtckbnjipecclaaaGreatDoorRO
set_option linter.all false
set_option maxHeartbeats 12800000
set_option maxRecDepth 10000
set_option linter.unusedVariables false
set_option linter.unusedSimpArgs false
set_option linter.unnecessarySimpa false
namespace Go.Proofs.YtckbnjipecclaaaGreatDoor
open Go.RowKit
theorem fget_none {n : Nat} {v : VS (V n)} {s : ByteArray} {kind : Int} {may : V n → Bool} : fget v false s kind may = (none, true) ∨ ∃ x, fget v false s kind may = (some x, false) := by
 unfold fget
 cases getV v s with
 | none => exact .inl rfl
 | some x =>
  by_cases h : kindV n x = kind ∧ may x = true
  ·exact .inr ⟨x, by simp [h]⟩
  ·exact .inl (by simp [h])
theorem readRole_turn {n : Nat} (v : VS (V (n + 1))) : readRoleV v =
  let l := flist v (decide (v.kind ≠ 6)) ⟨#[107, 101, 121, 105, 100, 115]⟩ 16
  let t := fint v l.2 ⟨#[116, 104, 114, 101, 115, 104, 111, 108, 100]⟩ 1 16
  let r : RoleS := ⟨(itemsV l.1).map (strV n), t.1⟩
  if badK (itemsV l.1) = false ∧ t.2 = false ∧ mayRole r = true then some r else none := by
 have e : readRoleV v = (let t := fint v (decide (v.kind ≠ 6)) ⟨#[116, 104, 114, 101, 115, 104, 111, 108, 100]⟩ 1 16
  let l := flist v t.2 ⟨#[107, 101, 121, 105, 100, 115]⟩ 16
  let r : RoleS := ⟨(itemsV l.1).map (strV n), t.1⟩
  if (l.2 || badK (itemsV l.1)) = false ∧ mayRole r = true then some r else none) := rfl
 rw [e]
 have f1 : ∀ s lo hi, fint v true s lo hi = (0, true) := fun _ _ _ => rfl
 have f2 : ∀ s m, flist v true s m = (none, true) := fun _ _ => rfl
 generalize decide (v.kind ≠ 6) = b
 cases b with
 | true => simp only [f1, f2]; simp
 | false =>
  have g2 : (flist v false ⟨#[107, 101, 121, 105, 100, 115]⟩ 16).2 = true → (flist v false ⟨#[107, 101, 121, 105, 100, 115]⟩ 16).1 = none := fun h => by
   rcases fget_none (v := v) (s := ⟨#[107, 101, 121, 105, 100, 115]⟩) (kind := 5) (may := fun x => decide ((lenV (n + 1) x : Int) ≤ 16)) with q | ⟨x, q⟩
   ·unfold flist; rw [q]
   ·unfold flist at h; rw [q] at h; cases h
  rcases ht : fint v false ⟨#[116, 104, 114, 101, 115, 104, 111, 108, 100]⟩ 1 16 with ⟨th, tb⟩
  rcases hl : flist v false ⟨#[107, 101, 121, 105, 100, 115]⟩ 16 with ⟨lv, lb⟩
  rw [hl] at g2
  simp only at g2
  cases tb with
  | true =>
   simp only [f2]
   cases lb with
   | true => simp [f1]
   | false => simp [ht]
  | false =>
   simp only [hl]
   cases lb with
   | true => simp [f1, g2 rfl]
   | false => simp [ht]
def RRAnsR (w' : World) (e : Ending) : Option RoleS → Prop
 | none => e = .returned (.tuple #[.agg #[.slice none 0 0, .int .i64 0], .bool false])
 | some r => ∃ a c, e = .returned (.tuple #[.agg #[.slice a r.keys.length c, .int .i64 r.thr], .bool true]) ∧ Texts w' (.slice a r.keys.length c) r.keys
theorem refReadRole_any {n : Nat} {S : Nat → Prop} {w : World} {cs : List Value} {v : VS (V (n + 1))} (h : Rep (n + 2) S w cs v) (hs : Small (n + 2) v) :
  Calls Tryz.prog 18 #[.agg cs.toArray] w fun e w' => RRAnsR w' e (readRoleV v) ∧ Kept [] w w' := by
 obtain ⟨kd, nm, st, pa, la, ca, pb, lb, cb, rfl⟩ := h.conv
 obtain ⟨W0, Gb⟩ : ∃ W0, Hid (W0 = (w.alloc (.cells #[.int .i64 kd, .int .i64 nm, .string st, .slice pa la ca, .slice pb lb cb] 28)).alloc (.cells #[.slice none 0 0, .int .i64 0] 43)) := ⟨_, qI rfl⟩
 have Gf : Hid (Kept [] w W0) := qI (by rw [Gb.o]; exact ((Kept.refl _ w).alloc _).alloc _)
 have Ma : Hid (BoxAt W0 w.heap.size kd nm st (.slice pa la ca) (.slice pb lb cb)) := qI (by rw [Gb.o]; exact (box_at _ _ _ _ _ _ _).kept0 ((Kept.refl [] _).alloc _))
 have Gj : Hid (W0.heap[w.heap.size + 1]? = some (.cells #[.slice none 0 0, .int .i64 0] 43 (0, 0))) := qI (by rw [Gb.o]; exact block_alloc (by simp))
 have Gv : Hid (W0.heap.size = w.heap.size + 2) := qI (by rw [Gb.o]; simp)
 have COF := qI (refOf_any (h.kept0 Gf.o))
 have Js : Hid (v.m.length ≤ 1000000) := qI (by have := hs.few; omega)
 obtain ⟨⟨l1, lbd⟩, Gw⟩ : ∃ x, Hid (flist v (decide (v.kind ≠ 6)) ⟨#[107, 101, 121, 105, 100, 115]⟩ 16 = x) := ⟨_, qI rfl⟩
 obtain ⟨⟨th, tb⟩, HT⟩ : ∃ x, Hid (fint v lbd ⟨#[116, 104, 114, 101, 115, 104, 111, 108, 100]⟩ 1 16 = x) := ⟨_, qI rfl⟩
 obtain ⟨xs, Gx⟩ : ∃ xs, Hid (xs = itemsV l1) := ⟨_, qI rfl⟩
 have Jt : Hid (xs.length ≤ 16) := qI (by have := flist_le v (decide (v.kind ≠ 6)) ⟨#[107, 101, 121, 105, 100, 115]⟩ 16; rw [show ((16 : Nat) : Int) = 16 from rfl, Gw.o] at this; rw [Gx.o]; exact this)
 have Ju : Hid (∀ x, x ∈ xs → (strV n x).size ≤ 400000) := qI (fun x hx => by
  have := flist_small (v := v) (bad := decide (v.kind ≠ 6)) (s := ⟨#[107, 101, 121, 105, 100, 115]⟩) (lo := 16) hs
  rw [Gw.o] at this
  exact (this x (by rw [Gx.o] at hx; exact hx)).2)
 have Jv : Hid (readRoleV v = if badK xs = false ∧ tb = false ∧ mayRole ⟨xs.map (strV n), th⟩ = true then some ⟨xs.map (strV n), th⟩ else none) := qI (by
  rw [readRole_turn]
  simp only [Gw.o, HT.o, ← Gx.o])
 obtain ⟨N, HN⟩ : ∃ N, Hid (N = xs.length) := ⟨_, qI rfl⟩
 clear h hs
 go_enter Tryz.func18, Tryz.ntmps18
 go_upto_region 1 with fail
 rw [← Gb.o]
 obtain ⟨c0, c1, c2, c3, c4⟩ := Ma.o
 go_upto_region 2 with (go_at_call 46; refine COF.o.mono ?_; rintro e w1 ⟨⟨g1, hg1, rfl, hf⟩, hk⟩; have Mb := qI hg1; have Mc := qI hf; have Gn := qI hk; clear hg1 hf hk c0 c1 c2 c3 c4)
 have CL : Hid _ := qI (rlist_any Mc.o Js.o ⟨#[107, 101, 121, 105, 100, 115]⟩ 16)
 rw [Gw.o] at CL
 go_upto_region 3 with (go_at_call 66; refine CL.o.mono ?_; rintro e w2 ⟨⟨ia, ic, lcs, rfl, hit⟩, hf, hk⟩; simp only at hf hit; rw [← Gx.o] at hit ⊢; have Md := qI hit; have Me := qI hf; have Gl : Hid (Kept [g1] W0 w2) := qI ((Gn.o.mono (by simp)).trans' hk); clear hf hk hit)
 have CI : Hid _ := qI (rint_any Me.o Js.o ⟨#[116, 104, 114, 101, 115, 104, 111, 108, 100]⟩ 1 16)
 rw [HT.o] at CI
 go_upto_region 4 with (go_at_call 49; refine CI.o.mono ?_; rintro e w3 ⟨rfl, hf, hk⟩; simp only at hf ⊢; have Jw := qI hf; have Jf := qI (Md.o.kept hk (by intro i hi; simp at hi; omega)); have Mf : Hid (Kept [g1] W0 w3) := qI (Gl.o.trans' hk); clear hf hk)
 obtain ⟨w4, Gy⟩ : ∃ w4, Hid (w4 = w3.alloc (.cells #[.slice none 0 0, .int .i64 th] 43)) := ⟨_, qI rfl⟩
 have Gp : Hid (Kept [] w3 w4) := qI (by rw [Gy.o]; exact (Kept.refl _ _).alloc _)
 obtain ⟨rb, Gz⟩ : ∃ rb, Hid (rb = w3.heap.size) := ⟨_, qI rfl⟩
 have Mg : Hid (w4.heap[rb]? = some (.cells #[.slice none 0 0, .int .i64 th] 43 (0, 0))) := qI (by rw [Gy.o, Gz.o]; exact block_alloc rfl)
 have Gi : Hid (w.heap.size + 2 ≤ g1 ∧ g1 < rb ∧ rb < w4.heap.size) := qI ⟨by have := Mb.o; have := Gv.o; omega, by rw [Gz.o]; exact Jw.o.lt, by rw [Gy.o, Gz.o]; simp⟩
 rw [← Gy.o, ← Gz.o]
 have Mh := qI (Jw.o.kept0 Gp.o)
 have Jg := qI (Jf.o.kept Gp.o (by simp))
 have hNI : (N : Int) ≤ 16 := by have := HN.o; have := Jt.o; omega
 rw [← HN.o]
 go_wp2_with fail
 go_loopw [7] (fun i wr => ∃ (k : Nat) (a3 : Option Addr) (c3 : Nat), i = .int .i64 k ∧ k ≤ N ∧ Hid (badK (xs.take k) = false) ∧ wr.heap[rb]? = some (.cells #[.slice a3 k c3, .int .i64 th] 43 (0, 0)) ∧ wr.ownsRow w4.heap.size 9 1 (.slice a3 k c3) k ((xs.take k).map strC) ∧ Kept [rb] w4 wr) (fun i _ => N - (intOf i).toNat)
 case atStart => exact ⟨0, none, 0, rfl, Nat.zero_le _, qI rfl, Mg.o, World.ownsRow_nil _ _ _ _, Kept.refl _ _⟩
 case round =>
  obtain ⟨k, a3, c3, rfl, hk, Jh, hb, hrow, hkr⟩ := hrel
  have HB := qI hb
  have Gh := qI hrow
  have Gc := qI hkr
  have Ji := qI (Jg.o.kept hkr (by have := Gi.o; intro i hi; simp at hi; omega))
  have Mi := qI (Mh.o.kept hkr (by have := Gi.o; intro i hi; simp at hi; omega))
  have Jx : Hid (Kept [g1] W0 wr) := qI ((Mf.o.then Gp.o).trans hkr (by have := Gi.o; have := Gv.o; intro i hi; simp at hi; exact .inr (by omega)))
  have Gq : Hid (Kept [] w wr) := qI (Gf.o.trans Jx.o (by have := Gi.o; intro i hi; simp at hi; exact .inr (by omega)))
  have Ja := qI (Jx.o.heap Gj.o (by have := Gi.o; simp; omega))
  clear hb hrow hkr
  have r0 := cell_head (o := 0) (v := .slice none 0 0) Ja.o rfl
  have r1 := cell_head (o := 1) (v := .int .i64 0) Ja.o rfl
  have z : ∀ j, wr.frozen? ⟨w.heap.size + 1, j, none⟩ = false := fun j => free_head Ja.o
  have Gd : Hid (∀ w5, Kept [] wr w5 → w5.heap[w.heap.size + 1]? = some (.cells #[.slice none 0 0, .int .i64 0] 43 (0, 0)) ∧ ∃ WF, Hid (WF = put2 w5 (w.heap.size + 1) (.slice none 0 0) (.int .i64 0)) ∧ WF.cell? ⟨w.heap.size + 1, 0, none⟩ = some (.slice none 0 0) ∧ WF.cell? ⟨w.heap.size + 1, 1, none⟩ = some (.int .i64 0) ∧ Kept [] w WF) := qI (fun w5 hk => by
   have h1 := hk.heap Ja.o (by simp)
   have h2 := put2_at h1 (.slice none 0 0) (.int .i64 0)
   exact ⟨h1, _, qI rfl, cell_head h2 rfl, cell_head h2 rfl, (Gq.o.then hk).trans (put2_kept _ _ _ _) (by intro i hi; simp at hi; subst hi; exact .inr (by omega))⟩)
  by_cases hlt : k < N
  ·have hltI : (k : Int) < N := by omega
   have Mj : Hid ((k : Int) < N) := qI hltI
   have hkx : k < xs.length := by rw [← HN.o]; exact hlt
   obtain ⟨g, o, s, p, cl, q, m, d, rfl, q0, q1, q2, q3, q4, hst⟩ := Ji.o.at hkx
   have Ya : Hid (s.size ≤ 400000) := qI (by rw [hst]; exact Ju.o _ (List.getElem_mem hkx))
   have Jj := qI (badK_snoc xs k hkx)
   have Mk : Hid ((xs.take (k + 1)).map (strC (n := n)) = (xs.take k).map strC ++ [.string s]) := qI (by rw [List.take_succ_eq_append_getElem hkx, List.map_append, hst]; rfl)
   have Jk : Hid (kindV n xs[k] ≠ 4 → badK xs = true) := qI (fun hne => by
    unfold badK
    exact List.any_eq_true.2 ⟨xs[k], List.getElem_mem hkx, decide_eq_true hne⟩)
   revert hst Jj Jk q0
   generalize kindV n xs[k] = kd9
   intro q0 hst Jj Jk
   clear hst
   have Jb := qI hlt
   clear hlt q1 q3 q4 hkx
   by_cases k4 : kd9 = 4
   rotate_left
   ·have f1 := (int_ne k4).2
    have HF : Hid (readRoleV v = none) := qI (by rw [Jv.o, Jk.o k4, if_neg (by rintro ⟨h, -⟩; cases h)])
    clear k4
    obtain ⟨-, WF, Gr, v0, v1, Ga⟩ := Gd.o wr (Kept.refl _ _)
    have Ga := qI Ga
    go_wp2_with fail
    change bodyPost _ _ _ _ _ (put2 wr (w.heap.size + 1) (.slice none 0 0) (.int .i64 0))
    rw [← Gr.o]
    refine bodyPost_ret (v := .tuple #[.agg #[.slice none 0 0, .int .i64 0], .bool false]) (by simp [results, Tryz.results18, go_sem, v0, v1]) rfl ?_
    rw [HF.o]
    exact ⟨rfl, Ga.o⟩
   ·have f1 := (int_eq k4).2
    have Ml : Hid (badK (xs.take (k + 1)) = false) := qI (by rw [Jj.o, Jh.o, k4]; rfl)
    clear k4
    have u0 := cell_head (o := 0) (v := .slice a3 k c3) HB.o rfl
    go_upto_region 9 with fail
    refine wp_grows (n := 49) 8 [Fact.is (.pointer (some ⟨rb, 0, none⟩)),
     Fact.is (.slice a3 k c3),
     Fact.is (.slice (some ⟨g, o, none⟩) N ic),
     Fact.is (.int .i64 k),
     Fact.is (.pointer (some ⟨g, o + k * 5, none⟩)),
     Fact.is (.pointer (some ⟨g, o + k * 5 + 2, none⟩)),
     Fact.is (.string s),
     pairFact [.string s] 1 1] (by kernel_rfl) rfl (by kernel_rfl) (fun x => by simp only [List.map, puts, Act.put, List.setIfInBounds_toArray, List.set_cons_zero, List.set_cons_succ]; rfl) ?_ ?_
    ·refine ⟨fun x w2 hkw b hd => ?_, fun x w2 hkw b hd => ?_, fun x w2 hkw b hd => ?_, fun x w2 hkw b hd => ?_, fun x w2 hkw b hd => ?_, fun x w2 hkw b hd => ?_, fun x w2 hkw b hd => ?_, fun x w2 hkw b hd => ?_, trivial⟩
     ·go_wp2_with fail
      exact ⟨rfl, Kept.refl _ _⟩
     ·have d0 : x 0 = _ := hd 0 (by kernel_rfl)
      have y0 := hkw.cell u0 (by simp)
      go_wp2_with fail
      exact ⟨rfl, Kept.refl _ _⟩
     ·go_wp2_with fail
      exact ⟨rfl, Kept.refl _ _⟩
     ·go_wp2_with fail
      exact ⟨rfl, Kept.refl _ _⟩
     ·have d2 : x 2 = _ := hd 2 (by kernel_rfl)
      have d3 : x 3 = _ := hd 3 (by kernel_rfl)
      have hkN := Mj.o
      go_wp2_with fail
      exact ⟨rfl, Kept.refl _ _⟩
     ·have d4 : x 4 = _ := hd 4 (by kernel_rfl)
      go_wp2_with fail
      exact ⟨rfl, Kept.refl _ _⟩
     ·have d5 : x 5 = _ := hd 5 (by kernel_rfl)
      have y0 := hkw.cell q2 (by simp)
      go_wp2_with fail
      exact ⟨rfl, Kept.refl _ _⟩
     ·have d6 : x 6 = _ := hd 6 (by kernel_rfl)
      go_wp2_with fail
      exact ⟨⟨w2.heap.size, rfl, Nat.le_refl _, by simp, slc_one w2 _ _ _ rfl⟩, (Kept.refl _ _).alloc _⟩
    ·intro x w7 hkw b7 hd hwin
     have d1 : x 1 = _ := hd 1 (by decide)
     obtain ⟨g9, d7, -, -, hsl⟩ := hd 7 (by decide)
     have Jl := qI hsl
     have Jm := qI hkw
     have Mm := qI (hkw.heap HB.o (by simp))
     have Ge := qI Gh.o.lt
     have Mn : Hid (rb ∉ (Value.slice a3 k c3).ownBlock.toList) := qI (fun hx => by have h1 := (Ge.o _ (Option.mem_toList.1 hx)).1; have h3 := Gi.o; omega)
     clear hd hwin hkw hsl u0 r0 r1 z
     change wpList _ _ _ [_, _, _] _ _
     go_wp2_with (at_builtin; refine wpList_append_slc tyStrs (v := .slice a3 k c3) (n := k) (row_kept Gh.o Jm.o (by simp)) Jl.o (by simp [Value.oneCell']) (by simp only [maxLen]; have := Jb.o; omega) (by have := Jb.o; omega) (by have := Gc.o.size; have := Jm.o.size; omega) rfl _ _ rfl d1 d7 ?_; intro v5 w8 hown hk5 _ hb5; obtain ⟨a5, c5, rfl, -, -⟩ := (Slc.of_row hown).form; have Gs := qI hown; have Gg := qI hk5; have Jn := qI (hk5.heap Mm.o Mn.o); have u0 := cell_head (o := 0) (v := .slice a3 k c3) Jn.o rfl; have uf := free_head (o := 0) Jn.o; clear hown hk5 hb5)
     case roundEnd =>
      have hst : Kept [rb] w8 (w8.setCell ⟨rb, 0, none⟩ (.slice a5 (k + 1) c5)) := (Kept.refl _ _).setCell (.inl (by simp)) _
      have hX5 : ∀ i, i ∈ (Value.slice a3 k c3).ownBlock.toList → w4.heap.size ≤ i := fun i hi => (Ge.o i (Option.mem_toList.1 hi)).1
      refine ⟨⟨k + 1, a5, c5, by go_num, by have := Jb.o; omega, Ml, block_setCell Jn.o rfl, ?_, ((Gc.o.then Jm.o).trans Gg.o (fun i hi => .inr (hX5 i hi))).trans hst (fun i hi => .inl hi)⟩, by have := Jb.o; simp [intOf]; omega⟩
      rw [Mk.o]
      exact row_kept Gs.o hst (fun g hg => by have := (Gs.o.lt g hg).1; have := Gi.o; simp; omega)
  ·obtain rfl : k = N := by omega
   have hge : ¬ k < k := by omega
   have Mo : Hid (xs.take k = xs) := qI (by rw [HN.o, List.take_length])
   rw [Mo.o] at Jh Gh
   obtain ⟨ks, Jc⟩ : ∃ ks, Hid (ks = xs.map (strV n)) := ⟨_, qI rfl⟩
   have Gm : Hid (ks.length = k) := qI (by rw [Jc.o, List.length_map]; exact HN.o.symm)
   have Jy : Hid (Texts wr (.slice a3 k c3) ks) := qI (by
    have h1 := Slc.of_row Gh.o
    unfold Texts
    rw [Gm.o, Jc.o, List.map_map]
    exact h1)
   have Mp : Hid (∀ t, t ∈ ks → t.size ≤ 140737488355328) := qI (fun t ht => by
    rw [Jc.o] at ht
    obtain ⟨x, hx, rfl⟩ := List.mem_map.1 ht
    have := Ju.o x hx
    omega)
   have CM0 := refMay_any (w := wr) (r := ⟨ks, th⟩) (a := a3) (c := c3) (by show Texts wr (.slice a3 ks.length c3) ks; rw [Gm.o]; exact Jy.o) Mp.o (by show ks.length ≤ _; have := Gm.o; have := Jt.o; have := HN.o; omega)
   rw [show (RoleS.mk ks th).keys.length = k from Gm.o] at CM0
   have CM := qI CM0
   clear CM0
   have Jd : Hid (readRoleV v = if tb = false ∧ mayRole ⟨ks, th⟩ = true then some ⟨ks, th⟩ else none) := qI (by rw [Jv.o, Jh.o, ← Jc.o]; simp)
   obtain ⟨mr, Mq⟩ : ∃ mr, Hid (mr = mayRole ⟨ks, th⟩) := ⟨_, qI rfl⟩
   rw [← Mq.o] at CM Jd
   obtain ⟨h5, f5⟩ := Mi.o.c5
   have b0 := cell_head (o := 0) (v := .slice a3 k c3) HB.o rfl
   have b1 := cell_head (o := 1) (v := .int .i64 th) HB.o rfl
   cases tb with
   | true =>
    have HF : Hid (readRoleV v = none) := qI (by rw [Jd.o, if_neg (by rintro ⟨h, -⟩; cases h)])
    obtain ⟨-, WF, Gr, v0, v1, Ga⟩ := Gd.o wr (Kept.refl _ _)
    have Ga := qI Ga
    go_wp2_with fail
    change bodyPost _ _ _ _ _ (put2 wr (w.heap.size + 1) (.slice none 0 0) (.int .i64 0))
    rw [← Gr.o]
    refine bodyPost_ret (v := .tuple #[.agg #[.slice none 0 0, .int .i64 0], .bool false]) (by simp [results, Tryz.results18, go_sem, v0, v1]) rfl ?_
    rw [HF.o]
    exact ⟨rfl, Ga.o⟩
   | false =>
    cases mr with
    | false =>
     have HF : Hid (readRoleV v = none) := qI (by rw [Jd.o, if_neg (by rintro ⟨-, h⟩; cases h)])
     go_wp2_with (go_at_call 20; refine CM.o.mono ?_; rintro e w5 ⟨rfl, hk5⟩; obtain ⟨hb5, WF, Gr, v0, v1, hkf⟩ := Gd.o w5 hk5; have Ga := qI hkf; clear r0 r1 z hkf hk5; have r0 := cell_head (o := 0) (v := .slice none 0 0) hb5 rfl; have r1 := cell_head (o := 1) (v := .int .i64 0) hb5 rfl; have z : ∀ j, w5.frozen? ⟨w.heap.size + 1, j, none⟩ = false := fun j => free_head hb5; clear hb5)
     change bodyPost _ _ _ _ _ (put2 w5 (w.heap.size + 1) (.slice none 0 0) (.int .i64 0))
     rw [← Gr.o]
     refine bodyPost_ret (v := .tuple #[.agg #[.slice none 0 0, .int .i64 0], .bool false]) (by simp [results, Tryz.results18, go_sem, v0, v1]) rfl ?_
     rw [HF.o]
     exact ⟨rfl, Ga.o⟩
    | true =>
     have HF : Hid (readRoleV v = some ⟨ks, th⟩) := qI (by rw [Jd.o, if_pos ⟨rfl, rfl⟩])
     go_wp2_with (go_at_call 20; refine CM.o.mono ?_; rintro e w5 ⟨rfl, hk5⟩; have hb5 := (Gd.o w5 hk5).1; have Mr := qI hb5; have Gg := qI hk5; clear r0 r1 z b0 b1; have b0 := cell_head (o := 0) (v := .slice a3 k c3) (hk5.heap HB.o (by simp)) rfl; have b1 := cell_head (o := 1) (v := .int .i64 th) (hk5.heap HB.o (by simp)) rfl; have r0 := cell_head (o := 0) (v := .slice none 0 0) hb5 rfl; have r1 := cell_head (o := 1) (v := .int .i64 0) hb5 rfl; have z : ∀ j, w5.frozen? ⟨w.heap.size + 1, j, none⟩ = false := fun j => free_head hb5; clear hb5 hk5)
     change bodyPost _ _ _ _ _ (put2 w5 (w.heap.size + 1) (.slice a3 k c3) (.int .i64 th))
     have Ga := put2_kept w5 (w.heap.size + 1) (.slice a3 k c3) (.int .i64 th)
     have Je := put2_at Mr.o (.slice a3 k c3) (.int .i64 th)
     revert Ga Je
     generalize put2 w5 (w.heap.size + 1) (.slice a3 k c3) (.int .i64 th) = WF
     intro Ga Je
     have v0 := cell_head (o := 0) (v := .slice a3 k c3) Je rfl
     have v1 := cell_head (o := 1) (v := .int .i64 th) Je rfl
     refine bodyPost_ret (v := .tuple #[.agg #[.slice a3 k c3, .int .i64 th], .bool true]) (by simp [results, Tryz.results18, go_sem, v0, v1]) rfl ?_
     rw [HF.o]
     refine ⟨⟨a3, c3, ?_, ?_⟩, (Gq.o.then Gg.o).trans Ga (by intro i hi; simp at hi; subst hi; exact .inr (by omega))⟩
     ·show _ = Ending.returned (.tuple #[.agg #[.slice a3 ks.length c3, .int .i64 th], .bool true])
      rw [Gm.o]
     ·show Texts WF (.slice a3 ks.length c3) ks
      rw [Gm.o]
      exact Slc.kept (Jy.o.kept0 Gg.o) Ga (fun g hg => by have := (Gh.o.lt g (own_of_vblk hg)).1; have := Gi.o; simp; omega)
def rowL (id : ByteArray) (k : KeyS) : List Value := .string id :: keyL k
theorem rowL_len {id : ByteArray} {k : KeyS} (h : k.root.length = 32) : (rowL id k).length = 35 := by simp [rowL, keyL_len h]
theorem rowL_one (id : ByteArray) (k : KeyS) : ∀ v ∈ rowL id k, v.oneCell' = true := by
 intro v hv
 rcases List.mem_cons.1 hv with rfl | hv
 ·rfl
 ·exact keyL_one k v hv
def RowAt (w : World) (g : Nat) (id : ByteArray) (k : KeyS) : Prop := w.heap[g]? = some (.cells (rowL id k).toArray 65 (0, 0))
theorem RowAt.kept0 {w w' : World} {g : Nat} {id : ByteArray} {k : KeyS} (h : RowAt w g id k) (hk : Kept [] w w') : RowAt w' g id k := hk.heap h (by simp)
theorem RowAt.c0 {w : World} {g : Nat} {id : ByteArray} {k : KeyS} (h : RowAt w g id k) : w.cell? ⟨g, 0, none⟩ = some (.string id) := cell_head h rfl
theorem RowAt.there {w : World} {g : Nat} {id : ByteArray} {k : KeyS} (h : RowAt w g id k) (hl : k.root.length = 32) : w.there g 0 35 := fun j hj => by
 rw [Nat.zero_add]
 have hj' : j < (rowL id k).length := by rw [rowL_len hl]; exact hj
 exact ⟨by rw [cell_head (v := (rowL id k)[j]) h (by simp [hj'])]; rfl, free_head h⟩
theorem RowAt.key {w : World} {g : Nat} {id : ByteArray} {k : KeyS} (h : RowAt w g id k) : w.rangeAt g 1 (keyL k) := fun j v hv => by
 refine cell_head h ?_
 rw [List.getElem?_toArray, rowL, Nat.add_comm, List.getElem?_cons_succ]
 exact hv
theorem RowAt.put {w : World} {g : Nat} {id id' : ByteArray} {k k' : KeyS} (h : RowAt w g id k) (hl : k.root.length = 32) (hl' : k'.root.length = 32) : RowAt (w.setCells g 0 (rowL id' k')) g id' k' := by
 obtain ⟨cur, h1, h2, h3⟩ := setCells_at g (rowL id' k') 0 w _ h
 have hz : (rowL id k).toArray.size = 35 := by simp [rowL_len hl]
 have e : cur = (rowL id' k').toArray := by
  apply Array.ext
  ·rw [h2, hz]; simp [rowL_len hl']
  ·intro i hi1 hi2
   have hi3 : i < 35 := by rw [h2, hz] at hi1; exact hi1
   have h4 := h3 i (by rw [hz]; exact hi3)
   rw [if_pos (by rw [rowL_len hl']; omega), Array.getElem?_eq_getElem hi1, Nat.sub_zero, List.getElem?_eq_getElem (by rw [rowL_len hl']; exact hi3)] at h4
   rw [Option.some.inj h4]
   simp
 unfold RowAt
 rw [h1, e]
theorem info35 : (Tryz.prog.info? 65).map (·.size) = some 35 := by kernel_rfl
theorem wpList_load35 {ops : Array Oper} {rest : List Oper} {op : Oper} {a : Act} {w : World} {Q : Exit → Act → World → Prop} (hgd : op.guard = none) (x : Operand) (ho : op.op = .load 65 x) {g of : Nat} {id : ByteArray} {k : KeyS} (h0 : w.rangeAt g of (rowL id k)) (hl : k.root.length = 32)
  (hx : a.eval x = .pointer (some ⟨g, of, none⟩)) (h : wpList Tryz.prog ops Q rest (a.put op.dst (.agg (rowL id k).toArray)) w) : wpList Tryz.prog ops Q (op :: rest) a w :=
 wpList_load_mid hgd 65 x ho g of hx (rowL id k) _ h0 Tryz.underlying65 rfl (by rw [rowL_len hl]; exact info35) h
theorem wpList_store35 {ops : Array Oper} {rest : List Oper} {op : Oper} {a : Act} {w : World} {Q : Exit → Act → World → Prop} (hgd : op.guard = none) (x y : Operand) (ho : op.op = .store 65 x y) {g : Nat} {id id0 : ByteArray} {k k0 : KeyS} (h0 : RowAt w g id0 k0) (hl0 : k0.root.length = 32) (hl : k.root.length = 32)
  (hx : a.eval x = .pointer (some ⟨g, 0, none⟩)) (hy : a.eval y = .agg (rowL id k).toArray) (h : ∀ w', RowAt w' g id k → Kept [g] w w' → wpList Tryz.prog ops Q rest (a.put op.dst undef) w') : wpList Tryz.prog ops Q (op :: rest) a w := by
 have hsz : (rowL id k).toArray.size = 35 := by simp [rowL_len hl]
 refine wpList_store_mid hgd 65 x y ho g 0 (rowL id k).toArray hx hy (by rw [hsz]; exact h0.there hl0) (by rw [hsz]; exact info35) (all_oneCell_toArray (rowL_one id k)) (h _ ?_ (setCells_kept _ _ _ _))
 exact h0.put hl0 hl
theorem wpList_loadK {ops : Array Oper} {rest : List Oper} {op : Oper} {a : Act} {w : World} {Q : Exit → Act → World → Prop} (hw : Region.wanted op (yielded ops a.tmps) = true) (x : Operand) (ho : op.op = .load 24 x) {g of : Nat} {k : KeyS} (h0 : w.rangeAt g of (keyL k)) (hl : k.root.length = 32)
  (hx : a.eval x = .pointer (some ⟨g, of, none⟩)) (h : wpList Tryz.prog ops Q rest (a.put op.dst (.agg (keyA k))) w) : wpList Tryz.prog ops Q (op :: rest) a w :=
 BigFrame.wpList_want hw fun _ hK => wp_load_mid 24 x ho g of hx (keyL k) _ h0 Tryz.underlying24 rfl (by rw [keyL_len hl]; exact info34) (hK _ _ h)
theorem idS_size {k : KeyS} (h : mayKey k = true) : (keyIdS k).size = 64 := by
 unfold keyIdS
 rw [if_pos h, hexS_size, shaL_len]
theorem idS_ne {k : KeyS} (h : mayKey k = true) : keyIdS k ≠ ⟨#[]⟩ := fun e => by
 have := idS_size h
 rw [e] at this
 cases this
theorem mayKeys1_any {w : World} {g o c : Nat} {k : KeyS} (h : w.rangeAt g o (rowL (keyIdS k) k)) (hm : mayKey k = true) (hr : k.root.length = 32) (ht : Tabs w) (hks : KsAt w) :
  Calls Tryz.prog 38 #[.slice (some ⟨g, o, none⟩) 1 c] w fun e w' => e = .returned (.bool true) ∧ Kept [] w w' := by
 have H := qI h
 have Ge := qI hr
 have CK : Hid (∀ w1, Kept [] w w1 → Calls Tryz.prog 14 #[.agg (keyA k)] w1 fun e w' => e = .returned (.string (keyIdS k)) ∧ Kept [] w1 w') := qI (fun w1 hk => keyId_any k (may_wf hm).1 hr w1 (ht.kept0 hk) (hks.kept0 hk))
 have hne := (str_ne (idS_ne hm)).1
 have Jo := qI (idS_ne hm)
 clear h hm hr ht hks
 revert CK H Jo hne
 generalize keyIdS k = id
 intro H CK hne Jo
 have hse := (str_some Jo.o).1
 obtain ⟨hq1, hq2⟩ := str_eq (rfl : id = id)
 go_enter Tryz.func38, Tryz.ntmps38
 go_wp2_with fail
 go_loopw [3, 4, 10] (fun _ _ i wr => (i = .int .i64 0 ∨ i = .int .i64 1) ∧ Kept [] w wr) (fun _ _ i _ => 1 - (intOf i).toNat)
 case atStart => exact ⟨.inl rfl, Kept.refl _ _⟩
 case round =>
  obtain ⟨hi, hkr⟩ := hrel
  have Gc := qI hkr
  clear hkr
  rcases hi with rfl | rfl
  ·go_upto_region 6 with first
    | (refine wpList_load35 (by rfl) (.tmp 13) (by rfl) (g := g) (of := o) (id := id) (k := k) (fun j v hv => Gc.o.cell (H.o j v hv) (by simp)) Ge.o (by rfl) ?_)
    | (refine wpList_store35 (by rfl) (.tmp 4) (.tmp 14) (by rfl) (g := wr.heap.size) (id0 := ⟨#[]⟩) (k0 := zeroKey) (block_alloc rfl) (by rfl) Ge.o (by rfl) (by rfl) ?_; intro w2 h2 hk2; have H2 := qI h2; have Gl : Hid (Kept [] wr w2) := qI (((Kept.refl [] wr).alloc _).trans hk2 (by intro i hi; simp at hi; subst hi; exact .inr (Nat.le_refl _))); clear h2 hk2; simp only [Act.put])
   generalize hrb : wr.heap.size = rb at H2
   refine wp_grows (n := 41) 24 [Fact.is (.pointer (some ⟨rb, 0, none⟩)),
    Fact.is (.string id),
    Fact.is (.bool false),
    Fact.is (.bool false),
    Fact.is (.pointer (some ⟨rb, 0, none⟩)),
    Fact.is (.string id),
    Fact.is (.pointer (some ⟨rb, 1, none⟩)),
    Fact.is (.agg (keyA k)),
    Fact.is (.string id),
    Fact.is (.bool false),
    Fact.is (.bool false),
    Fact.is (.bool false),
    Fact.is (.int .i64 0),
    Fact.is (.bool false),
    Fact.is (.bool false),
    Fact.is undef,
    Fact.is undef,
    Fact.is undef,
    Fact.is undef,
    Fact.is undef,
    Fact.is undef,
    Fact.is undef,
    Fact.is undef,
    Fact.is (.bool false)] (by kernel_rfl) rfl (by kernel_rfl) (fun x => by simp only [List.map, puts, Act.put, List.setIfInBounds_toArray, List.set_cons_zero, List.set_cons_succ]; rfl) ?_ ?_
   ·refine ⟨fun x w2 hkw b hd => ?_, fun x w2 hkw b hd => ?_, fun x w2 hkw b hd => ?_, fun x w2 hkw b hd => ?_, fun x w2 hkw b hd => ?_, fun x w2 hkw b hd => ?_, fun x w2 hkw b hd => ?_, fun x w2 hkw b hd => ?_, fun x w2 hkw b hd => ?_, fun x w2 hkw b hd => ?_, fun x w2 hkw b hd => ?_, fun x w2 hkw b hd => ?_, fun x w2 hkw b hd => ?_, fun x w2 hkw b hd => ?_, fun x w2 hkw b hd => ?_, fun x w2 hkw b hd => ?_, fun x w2 hkw b hd => ?_, fun x w2 hkw b hd => ?_, fun x w2 hkw b hd => ?_, fun x w2 hkw b hd => ?_, fun x w2 hkw b hd => ?_, fun x w2 hkw b hd => ?_, fun x w2 hkw b hd => ?_, fun x w2 hkw b hd => ?_, trivial⟩
    ·have y0 := (H2.o.kept0 hkw).c0
     have yk := (H2.o.kept0 hkw).key
     go_wp2_with fail
     exact ⟨rfl, Kept.refl _ _⟩
    ·have y0 := (H2.o.kept0 hkw).c0
     have yk := (H2.o.kept0 hkw).key
     have d0 : x 0 = _ := hd 0 (by kernel_rfl)
     go_wp2_with fail
     exact ⟨rfl, Kept.refl _ _⟩
    ·have y0 := (H2.o.kept0 hkw).c0
     have yk := (H2.o.kept0 hkw).key
     have d1 : x 1 = _ := hd 1 (by kernel_rfl)
     go_wp2_with fail
     exact ⟨rfl, Kept.refl _ _⟩
    ·have y0 := (H2.o.kept0 hkw).c0
     have yk := (H2.o.kept0 hkw).key
     have d2 : x 2 = _ := hd 2 (by kernel_rfl)
     go_wp2_with fail
     exact ⟨rfl, Kept.refl _ _⟩
    ·have y0 := (H2.o.kept0 hkw).c0
     have yk := (H2.o.kept0 hkw).key
     have d3 : x 3 = _ := hd 3 (by kernel_rfl)
     go_wp2_with fail
     exact ⟨rfl, Kept.refl _ _⟩
    ·have y0 := (H2.o.kept0 hkw).c0
     have yk := (H2.o.kept0 hkw).key
     have d3 : x 3 = _ := hd 3 (by kernel_rfl)
     have d4 : x 4 = _ := hd 4 (by kernel_rfl)
     go_wp2_with fail
     exact ⟨rfl, Kept.refl _ _⟩
    ·have y0 := (H2.o.kept0 hkw).c0
     have yk := (H2.o.kept0 hkw).key
     have d3 : x 3 = _ := hd 3 (by kernel_rfl)
     go_wp2_with fail
     exact ⟨rfl, Kept.refl _ _⟩
    ·have y0 := (H2.o.kept0 hkw).c0
     have yk := (H2.o.kept0 hkw).key
     have d3 : x 3 = _ := hd 3 (by kernel_rfl)
     have d6 : x 6 = _ := hd 6 (by kernel_rfl)
     have YK := qI yk
     clear yk
     refine wpList_loadK (g := rb) (of := 1) (k := k) ?_ (.tmp 21) (by rfl) YK.o Ge.o ?_ ?_
     ·simp only [Nat.reduceAdd, Nat.zero_add]; revert d3; generalize x 3 = v3; rintro rfl; rfl
     ·exact d6
     ·go_wp2_with fail
      exact ⟨rfl, Kept.refl _ _⟩
    ·have y0 := (H2.o.kept0 hkw).c0
     have yk := (H2.o.kept0 hkw).key
     have d3 : x 3 = _ := hd 3 (by kernel_rfl)
     have d7 : x 7 = _ := hd 7 (by kernel_rfl)
     have CX := CK.o w2 ((Gc.o.then Gl.o).then hkw)
     go_wp2_with (go_at_call 14; refine CX.mono ?_; rintro e w5 ⟨rfl, hk5⟩; have Gg := qI hk5; clear hk5)
     exact ⟨rfl, Gg.o⟩
    ·have y0 := (H2.o.kept0 hkw).c0
     have yk := (H2.o.kept0 hkw).key
     have d3 : x 3 = _ := hd 3 (by kernel_rfl)
     have d5 : x 5 = _ := hd 5 (by kernel_rfl)
     have d8 : x 8 = _ := hd 8 (by kernel_rfl)
     go_wp2_with fail
     exact ⟨rfl, Kept.refl _ _⟩
    ·have y0 := (H2.o.kept0 hkw).c0
     have yk := (H2.o.kept0 hkw).key
     have d3 : x 3 = _ := hd 3 (by kernel_rfl)
     have d9 : x 9 = _ := hd 9 (by kernel_rfl)
     go_wp2_with fail
     exact ⟨rfl, Kept.refl _ _⟩
    ·have y0 := (H2.o.kept0 hkw).c0
     have yk := (H2.o.kept0 hkw).key
     have d10 : x 10 = _ := hd 10 (by kernel_rfl)
     go_wp2_with fail
     exact ⟨rfl, Kept.refl _ _⟩
    ·have y0 := (H2.o.kept0 hkw).c0
     have yk := (H2.o.kept0 hkw).key
     have d11 : x 11 = _ := hd 11 (by kernel_rfl)
     go_wp2_with fail
     exact ⟨rfl, Kept.refl _ _⟩
    ·have y0 := (H2.o.kept0 hkw).c0
     have yk := (H2.o.kept0 hkw).key
     have d11 : x 11 = _ := hd 11 (by kernel_rfl)
     have d12 : x 12 = _ := hd 12 (by kernel_rfl)
     go_wp2_with fail
     exact ⟨rfl, Kept.refl _ _⟩
    ·have y0 := (H2.o.kept0 hkw).c0
     have yk := (H2.o.kept0 hkw).key
     have d11 : x 11 = _ := hd 11 (by kernel_rfl)
     have d13 : x 13 = _ := hd 13 (by kernel_rfl)
     go_wp2_with fail
     exact ⟨rfl, Kept.refl _ _⟩
    ·have y0 := (H2.o.kept0 hkw).c0
     have yk := (H2.o.kept0 hkw).key
     have d14 : x 14 = _ := hd 14 (by kernel_rfl)
     go_wp2_with fail
     exact ⟨rfl, Kept.refl _ _⟩
    ·have y0 := (H2.o.kept0 hkw).c0
     have yk := (H2.o.kept0 hkw).key
     have d14 : x 14 = _ := hd 14 (by kernel_rfl)
     go_wp2_with fail
     exact ⟨rfl, Kept.refl _ _⟩
    ·have y0 := (H2.o.kept0 hkw).c0
     have yk := (H2.o.kept0 hkw).key
     have d14 : x 14 = _ := hd 14 (by kernel_rfl)
     go_wp2_with fail
     exact ⟨rfl, Kept.refl _ _⟩
    ·have y0 := (H2.o.kept0 hkw).c0
     have yk := (H2.o.kept0 hkw).key
     have d14 : x 14 = _ := hd 14 (by kernel_rfl)
     go_wp2_with fail
     exact ⟨rfl, Kept.refl _ _⟩
    ·have y0 := (H2.o.kept0 hkw).c0
     have yk := (H2.o.kept0 hkw).key
     have d14 : x 14 = _ := hd 14 (by kernel_rfl)
     go_wp2_with fail
     exact ⟨rfl, Kept.refl _ _⟩
    ·have y0 := (H2.o.kept0 hkw).c0
     have yk := (H2.o.kept0 hkw).key
     have d14 : x 14 = _ := hd 14 (by kernel_rfl)
     go_wp2_with fail
     exact ⟨rfl, Kept.refl _ _⟩
    ·have y0 := (H2.o.kept0 hkw).c0
     have yk := (H2.o.kept0 hkw).key
     have d14 : x 14 = _ := hd 14 (by kernel_rfl)
     go_wp2_with fail
     exact ⟨rfl, Kept.refl _ _⟩
    ·have y0 := (H2.o.kept0 hkw).c0
     have yk := (H2.o.kept0 hkw).key
     have d14 : x 14 = _ := hd 14 (by kernel_rfl)
     go_wp2_with fail
     exact ⟨rfl, Kept.refl _ _⟩
    ·have y0 := (H2.o.kept0 hkw).c0
     have yk := (H2.o.kept0 hkw).key
     have d11 : x 11 = _ := hd 11 (by kernel_rfl)
     have d14 : x 14 = _ := hd 14 (by kernel_rfl)
     go_wp2_with fail
     exact ⟨rfl, Kept.refl _ _⟩
   ·intro x w5 hkw b hd hwin
    have d11 : x 11 = _ := hd 11 (by decide)
    have d14 : x 14 = _ := hd 14 (by decide)
    have d23 : x 23 = _ := hd 23 (by decide)
    have Gk := qI hkw
    clear hd hwin hkw
    change wpList _ _ _ [_] _ _
    go_wp2_with fail
    case roundEnd => exact ⟨⟨.inr rfl, (Gc.o.then Gl.o).then Gk.o⟩, by decide⟩
  ·go_wp2_with fail
   refine bodyPost_ret (v := .bool true) (by simp [results, Tryz.results38, go_sem]) rfl ?_
   exact ⟨rfl, Gc.o⟩
def rowsV (id : ByteArray) (v : V 3) : V 4 := (mapV [(id, v)] : VS (V 3))
theorem small_rows {id : ByteArray} {k : KeyS} (hi : id.size = 64) (h : k.root.length = 32) : Small 4 (rowsV id (keyV k)) := by
 have h1 := small_key k h
 have e1 : countV 4 (rowsV id (keyV k)) = 1 + (countV 3 (keyV k) + 0) := rfl
 have e2 : bytesV 4 (rowsV id (keyV k)) = 0 + (id.size + 0) + (bytesV 3 (keyV k) + 0) := rfl
 have e := (small_val k h).2
 have e3 : bytesV 3 (keyV k) = 0 + (7 + (6 + (6 + 0))) + ((14 + 0 + 0) + ((6 + 0 + 0) + (bytesV 2 (valV k) + 0))) := rfl
 have e4 : bytesV 2 (valV k) = 0 + (4 + (6 + (6 + 0))) + ((0 + 0 + 0) + ((0 + 0 + 0) + (((hexS k.root).size + 0 + 0) + 0))) := rfl
 have e5 := hexS_size k.root
 have e6 : countV 3 (keyV k) = 7 := rfl
 refine ⟨?_, ?_⟩
 ·rw [e1, e6]; omega
 ·rw [e2, hi, e3, e4, e5, h]; omega
def pair1Fact (n : Nat) (key : ByteArray) (v : V n) : Fact (Kept []) := ⟨fun u _ w => ∃ g k m s p i c q j d, u = .slice (some ⟨g, 0, none⟩) 1 1 ∧ Slc w 6 (.slice (some ⟨g, 0, none⟩) 1 1) 1 [.string key, .int .i64 k, .int .i64 m, .string s, .slice p i c, .slice q j d] ∧ Rep n (fun _ => True) w [.int .i64 k, .int .i64 m, .string s, .slice p i c, .slice q j d] v,
 fun _ _ _ _ ⟨g, k, m, s, p, i, c, q, j, d, h1, h2, h3⟩ kk => ⟨g, k, m, s, p, i, c, q, j, d, h1, h2.kept0 kk, h3.kept0 kk⟩⟩
theorem keysValue1_any {w : World} {g o c : Nat} {k : KeyS} (h : w.rangeAt g o (rowL (keyIdS k) k)) (hm : mayKey k = true) (hr : k.root.length = 32) (ht : Tabs w) (hks : KsAt w) :
  Calls Tryz.prog 32 #[.slice (some ⟨g, o, none⟩) 1 c] w fun e w' => New 4 w w' e (rowsV (keyIdS k) (keyV k)) ∧ Kept [] w w' := by
 obtain ⟨W0, Gb⟩ : ∃ W0, Hid (W0 = w.alloc (.cells #[.int .i64 0, .int .i64 0, .string ⟨#[]⟩, .slice none 0 0, .slice none 0 0] 28)) := ⟨_, qI rfl⟩
 have Gf : Hid (Kept [] w W0) := qI (by rw [Gb.o]; exact (Kept.refl _ w).alloc _)
 have Ms : Hid (W0.heap[w.heap.size]? = some (.cells #[.int .i64 0, .int .i64 0, .string ⟨#[]⟩, .slice none 0 0, .slice none 0 0] 28 (0, 0))) := qI (by rw [Gb.o]; exact block_alloc rfl)
 have Gv : Hid (W0.heap.size = w.heap.size + 1) := qI (by rw [Gb.o]; simp)
 have H : Hid (W0.rangeAt g o (rowL (keyIdS k) k)) := qI (fun j v hv => Gf.o.cell (h j v hv) (by simp))
 have Ge := qI hr
 have CM := qI (mayKeys1_any (c := c) H.o hm hr (ht.kept0 Gf.o) (hks.kept0 Gf.o))
 have CV : Hid (∀ w1, Calls Tryz.prog 8 #[.agg (keyA k)] w1 fun e w' => New 3 w1 w' e (keyV k) ∧ Kept [] w1 w') := qI (fun w1 => (keyValue_any k (may_wf hm).1 hr w1).mono fun e w' ⟨h1, h2⟩ => ⟨by unfold KeyAns at h1; rw [if_pos hm] at h1; exact h1, h2⟩)
 have Jp := qI (small_rows (id := keyIdS k) (idS_size hm) hr)
 clear h hm hr ht hks
 revert H CM CV Jp
 generalize keyV k = X
 generalize keyIdS k = id
 intro H CM CV Jp
 go_enter Tryz.func32, Tryz.ntmps32
 go_upto_region 1 with fail
 rw [← Gb.o]
 go_wp2_with (go_at_call 38; refine CM.o.mono ?_; rintro e w1 ⟨rfl, hk1⟩; have Gn := qI hk1; clear hk1)
 go_loopw [3, 5, 12] (fun q _ i wr => (i = .int .i64 0 ∧ q = .slice none 0 0 ∧ Kept [] W0 wr) ∨ (i = .int .i64 1 ∧ ∃ (a : Option Addr) (c' : Nat) (k3 m3 : Int) (s3 : ByteArray) (p3 : Option Addr) (i3 c3 : Nat) (q3 : Option Addr) (j3 e3 : Nat), q = .slice a 1 c' ∧ Slc wr 6 (.slice a 1 c') 1 [.string id, .int .i64 k3, .int .i64 m3, .string s3, .slice p3 i3 c3, .slice q3 j3 e3] ∧ Rep 3 (fun _ => True) wr [.int .i64 k3, .int .i64 m3, .string s3, .slice p3 i3 c3, .slice q3 j3 e3] X ∧ Kept [] W0 wr)) (fun _ _ i _ => 1 - (intOf i).toNat)
 case atStart => exact .inl ⟨rfl, rfl, Gn.o⟩
 case round =>
  rcases hrel with ⟨rfl, rfl, hkr⟩ | ⟨rfl, a, c', k3, m3, s3, p3, i3, c3, q3, j3, e3, rfl, hsl, hrp, hkr⟩
  ·have Gc := qI hkr
   clear hkr
   go_upto_region 7 with first
    | (refine wpList_load35 (by rfl) (.tmp 14) (by rfl) (g := g) (of := o) (id := id) (k := k) (fun j v hv => Gc.o.cell (H.o j v hv) (by simp)) Ge.o (by rfl) ?_)
    | (refine wpList_store35 (by rfl) (.tmp 5) (.tmp 15) (by rfl) (g := wr.heap.size) (id0 := ⟨#[]⟩) (k0 := zeroKey) (block_alloc rfl) (by rfl) Ge.o (by rfl) (by rfl) ?_; intro w2 h2 hk2; have H2 := qI h2; have Gl : Hid (Kept [] wr w2) := qI (((Kept.refl [] wr).alloc _).trans hk2 (by intro i hi; simp at hi; subst hi; exact .inr (Nat.le_refl _))); clear h2 hk2; simp only [Act.put])
   generalize hrb : wr.heap.size = rb at H2
   refine wp_grows_late (n := 28) 8 [Fact.is (.slice none 0 0),
    Fact.is (.pointer (some ⟨rb, 0, none⟩)),
    Fact.is (.string id),
    Fact.is (.pointer (some ⟨rb, 1, none⟩)),
    Fact.is (.agg (keyA k)),
    newFact 3 X,
    pairRepFact 3 id X,
    pair1Fact 3 id X] (by kernel_rfl) rfl (by kernel_rfl) (fun x => by simp only [List.map, puts, Act.put, List.setIfInBounds_toArray, List.set_cons_zero, List.set_cons_succ, Nat.reduceAdd, Nat.zero_add]; rfl) (fun x hx => by rw [show x 9 = .slice none 0 0 from hx 9 (by decide) (by decide)]) ?_ ?_
   ·refine ⟨fun x w2 hkw b hd => ?_, fun x w2 hkw b hd => ?_, fun x w2 hkw b hd => ?_, fun x w2 hkw b hd => ?_, fun x w2 hkw b hd => ?_, fun x w2 hkw b hd => ?_, fun x w2 hkw b hd => ?_, fun x w2 hkw b hd => ?_, trivial⟩
    ·go_wp2_with fail
     exact ⟨rfl, Kept.refl _ _⟩
    ·go_wp2_with fail
     exact ⟨rfl, Kept.refl _ _⟩
    ·have y0 := (H2.o.kept0 hkw).c0
     have d1 : x 1 = _ := hd 1 (by kernel_rfl)
     go_wp2_with fail
     exact ⟨rfl, Kept.refl _ _⟩
    ·go_wp2_with fail
     exact ⟨rfl, Kept.refl _ _⟩
    ·have YK := qI (H2.o.kept0 hkw).key
     have d3 : x 3 = _ := hd 3 (by kernel_rfl)
     refine wpList_loadK (g := rb) (of := 1) (k := k) rfl (.tmp 19) (by rfl) YK.o Ge.o ?_ ?_
     ·exact d3
     ·go_wp2_with fail
      exact ⟨rfl, Kept.refl _ _⟩
    ·have d4 : x 4 = _ := hd 4 (by kernel_rfl)
     have CX := CV.o w2
     go_wp2_with (go_at_call 8; refine CX.mono ?_; rintro e w5 ⟨hn5, hk5⟩; obtain ⟨k3, m3, s3, p3, i3, c3, q3, j3, e3, rfl, ho3⟩ := new_fact hn5; have Mt := qI ho3; have Gg := qI hk5; clear hk5 ho3 hn5)
     exact ⟨⟨_, _, _, _, _, _, _, _, _, rfl, Mt.o⟩, Gg.o⟩
    ·have d2 : x 2 = _ := hd 2 (by kernel_rfl)
     obtain ⟨k3, m3, s3, p3, i3, c3, q3, j3, e3, d5, ho1⟩ := hd 5 (by kernel_rfl)
     have Mu := qI (Rep.mono (T := fun _ => True) ho1.rep (fun _ _ _ => trivial))
     have CX := pair_any id k3 m3 s3 p3 i3 c3 q3 j3 e3 w2
     clear ho1
     go_wp2_with (go_at_call 41; refine CX.mono ?_; rintro e w5 ⟨rfl, hk5⟩; have Gg := qI hk5; clear hk5)
     exact ⟨⟨_, _, _, _, _, _, _, _, _, rfl, Mu.o.kept0 Gg.o⟩, Gg.o⟩
    ·obtain ⟨k3, m3, s3, p3, i3, c3, q3, j3, e3, d6, ho2⟩ := hd 6 (by kernel_rfl)
     have Mv := qI ho2
     clear ho2
     go_wp2_with fail
     have hka := (Kept.refl [] w2).alloc (.cells #[.string id, .int .i64 k3, .int .i64 m3, .string s3, .slice p3 i3 c3, .slice q3 j3 e3] 78)
     exact ⟨⟨w2.heap.size, k3, m3, s3, p3, i3, c3, q3, j3, e3, rfl, slc_new w2 [.string id, .int .i64 k3, .int .i64 m3, .string s3, .slice p3 i3 c3, .slice q3 j3 e3] 6 1 _ _ rfl rfl (by decide), Mv.o.kept0 hka⟩, hka⟩
   ·intro x w5 hkw b hd hwin
    have d0 : x 0 = _ := hd 0 (by decide)
    obtain ⟨gx, k3, m3, s3, p3, i3, c3, q3, j3, e3, d7, hsl, hrp⟩ := hd 7 (by decide)
    have Gk := qI hkw
    have Jl := qI hsl
    have Mw := qI hrp
    clear hd hwin hkw hsl hrp
    change wpList _ _ _ [_, _] _ _
    go_wp2_with (at_builtin; refine wpList_append_slc tyPairs (base := w5.heap.size) (v := .slice none 0 0) (n := 0) (xs := []) (World.ownsRow_nil _ _ _ _) Jl.o (by intro u hu; simp only [List.mem_cons, List.not_mem_nil, or_false] at hu; rcases hu with rfl | rfl | rfl | rfl | rfl | rfl <;> rfl) (by decide) (by decide) (Nat.le_refl _) rfl _ _ rfl d0 d7 ?_; intro v6 w6 hown hk6 _ hb6; obtain ⟨a6, c6, rfl, -, -⟩ := (Slc.of_row hown).form; have Jq := qI (Slc.of_row hown); have Jz := qI hk6; clear hown hk6 hb6)
    case roundEnd =>
     exact ⟨.inr ⟨rfl, _, _, _, _, _, _, _, _, _, _, _, rfl, Jq.o, Mw.o.kept0 (Jz.o.mono (by simp [Value.ownBlock])), (Gc.o.then Gl.o).trans (Gk.o.trans' (Jz.o.mono (by simp [Value.ownBlock]))) (by simp)⟩, by decide⟩
  ·have Gc := qI hkr
   have CL := qI (valMap_any (n := 3) (S := fun _ => True) (w := wr) (m := [(id, X)]) (mcs := [(id, [.int .i64 k3, .int .i64 m3, .string s3, .slice p3 i3 c3, .slice q3 j3 e3])]) (a := a) (c := c') hsl (All2.cons ⟨rfl, hrp⟩ (All2.nil _)) Jp.o)
   change Hid (Calls _ _ #[.slice a 1 c'] _ _) at CL
   have Mx := qI (Gc.o.heap Ms.o (by simp))
   clear hsl hrp hkr
   go_wp2_with (go_at_call 40; refine CL.o.mono ?_; rintro e w5 ⟨hn5, hk5⟩; obtain ⟨k6, m6, s6, p6, i6, c6, q6, j6, e6, rfl, ho6⟩ := new_fact hn5; have My := qI ho6; have Gg := qI hk5; have Jr := qI (hk5.heap Mx.o (by simp)); obtain ⟨r0, r1, r2, r3, r4⟩ := box_of Jr.o; have z : ∀ j, w5.frozen? ⟨w.heap.size, j, none⟩ = false := fun j => free_head Jr.o; clear hk5 ho6 hn5)
   change bodyPost _ _ _ _ _ (put5 w5 w.heap.size k6 m6 s6 (.slice p6 i6 c6) (.slice q6 j6 e6))
   have Ga := put5_kept w5 w.heap.size k6 m6 s6 (.slice p6 i6 c6) (.slice q6 j6 e6)
   obtain ⟨y0, y1, y2, y3, y4⟩ := box_of (put5_at Jr.o k6 m6 s6 (.slice p6 i6 c6) (.slice q6 j6 e6))
   revert Ga y0 y1 y2 y3 y4
   generalize put5 w5 w.heap.size k6 m6 s6 (.slice p6 i6 c6) (.slice q6 j6 e6) = WF
   intro Ga y0 y1 y2 y3 y4
   refine bodyPost_ret (v := .agg #[.int .i64 k6, .int .i64 m6, .string s6, .slice p6 i6 c6, .slice q6 j6 e6]) (by simp [results, Tryz.results32, go_sem, y0, y1, y2, y3, y4]) rfl ?_
   have hs0 := Gv.o
   have hsr := Gc.o.size
   refine ⟨⟨_, rfl, (My.o.kept Ga (by intro k hk; simp at hk; subst hk; omega)).mono (fun g' ⟨h5, h6⟩ => ⟨by omega, Nat.lt_of_lt_of_le h6 Ga.size⟩)⟩, ((Gf.o.then Gc.o).then Gg.o).trans Ga (by intro i hi; simp at hi; subst hi; exact .inr (Nat.le_refl _))⟩
set_option maxRecDepth 100000 in
theorem findSame_any {w : World} {id : ByteArray} {k : KeyS} (hr : k.root.length = 32) (b : Nat) (h : w.cell? ⟨b, 0, none⟩ = some (.string id)) :
  Calls Tryz.prog 84 #[.agg (rowL id k).toArray, .pointer (some ⟨b, 0, none⟩)] w fun e w' => e = .returned (.bool true) ∧ Kept [] w w' := by
 obtain ⟨W0, Gb⟩ : ∃ W0, Hid (W0 = w.alloc (.cells (rowL id k).toArray 65)) := ⟨_, qI rfl⟩
 have Gf : Hid (Kept [] w W0) := qI (by rw [Gb.o]; exact (Kept.refl _ w).alloc _)
 have HA : Hid (RowAt W0 w.heap.size id k) := qI (by rw [Gb.o]; exact block_alloc rfl)
 have c0 := HA.o.c0
 have c1 := Gf.o.cell h (by simp)
 obtain ⟨f1, f2⟩ := str_eq (rfl : id = id)
 clear h
 go_enter Tryz.func84, Tryz.ntmps84
 go_upto_region 1 with fail
 rw [← Gb.o]
 go_wp2_with fail
 go_ret
 exact ⟨rfl, Gf.o⟩
theorem aggRow (w : World) : (isAgg (Tryz.shIndexRow_ren.t 23)).run Tryz.prog w = .ok true w := Tryz.isAgg65 w
theorem sizeRow (w : World) : (Go.sizeOf (Tryz.shIndexRow_ren.t 23)).run Tryz.prog w = .ok 35 w := Tryz.sizeOf65 w
theorem enterFind : ∀ (args : Array Value) (w : World), (callFunc 84 args).run Tryz.prog w = .ok (.enter 84 args) w := enters_of Tryz.func84 (by kernel_rfl) rfl
theorem indexRow_any {w : World} {id : ByteArray} {k : KeyS} {g o c : Nat} (hr : k.root.length = 32) (h : w.rangeAt g o (rowL id k)) (b : Nat) (hb : w.cell? ⟨b, 0, none⟩ = some (.string id)) :
  Calls Tryz.prog 83 #[.slice (some ⟨g, o, none⟩) 1 c, .func (.func 84) #[] #[.pointer (some ⟨b, 0, none⟩)]] w fun e w' => e = .returned (.int .i64 0) ∧ Kept [] w w' := by
 have hlt : g < w.heap.size := World.block_lt_of_cell? w _ (h 0 _ (show (rowL id k)[0]? = some (.string id) from rfl))
 refine (AnyQ.slices_IndexFunc Tryz.shIndexRow 35 aggRow sizeRow (fun _ : Unit => rowL id k) (fun _ => rowL_len hr) (fun _ => true) 84 #[.pointer (some ⟨b, 0, none⟩)] enterFind g o 1 c [()] w (fun W x hbl => ?_) (by decide) (by decide) hlt (fun j hj i u hu => ?_)).mono ?_
 ·refine (findSame_any hr b ((Kept.of_below hbl).cell hb (by simp))).mono ?_
  rintro e w' ⟨rfl, hk⟩
  exact ⟨rfl, ((Kept.of_below hbl).then hk).below (Nat.le_refl _) (by simp)⟩
 ·obtain rfl : j = 0 := by simpa using hj
  rw [Nat.zero_mul, Nat.add_zero]
  exact h i u hu
 ·rintro e w' ⟨rfl, hbl⟩
  exact ⟨rfl, Kept.of_below hbl⟩
theorem find1_any {w : World} {id : ByteArray} {k : KeyS} {g o c : Nat} (hr : k.root.length = 32) (h : w.rangeAt g o (rowL id k)) :
  Calls Tryz.prog 36 #[.slice (some ⟨g, o, none⟩) 1 c, .string id] w fun e w' => e = .returned (.tuple #[.agg (keyA k), .bool true]) ∧ Kept [] w w' := by
 obtain ⟨W0, Gb⟩ : ∃ W0, Hid (W0 = (w.alloc (.cells #[.string id] 9)).alloc (.cells (keyA zeroKey) 24)) := ⟨_, qI rfl⟩
 have Gf : Hid (Kept [] w W0) := qI (by rw [Gb.o]; exact ((Kept.refl _ w).alloc _).alloc _)
 have HC : Hid (W0.cell? ⟨w.heap.size, 0, none⟩ = some (.string id)) := qI (by rw [Gb.o]; exact ((Kept.refl [] _).alloc _).cell (cell_head (block_alloc rfl) rfl) (by simp))
 have Gj : Hid (KeyAt W0 (w.heap.size + 1) zeroKey) := qI (by rw [Gb.o]; exact block_alloc (by simp))
 have H : Hid (W0.rangeAt g o (rowL id k)) := qI (fun j v hv => Gf.o.cell (h j v hv) (by simp))
 have CI := qI (indexRow_any (c := c) hr H.o _ HC.o)
 have Ge := qI hr
 clear h hr
 go_enter Tryz.func36, Tryz.ntmps36
 go_upto_region 1 with fail
 change Code.wp _ _ _ _ ((w.alloc (.cells #[.string id] 9)).alloc (.cells (keyA zeroKey) 24))
 rw [← Gb.o]
 go_wp2_with first
  | (go_at_call 83; refine CI.o.mono ?_; rintro e w1 ⟨rfl, hk1⟩; have Gn := qI hk1; have H1 : Hid (w1.rangeAt g (o + 1) (keyL k)) := qI (fun j v hv => by have h2 := hk1.cell (H.o (j + 1) v hv) (by simp); rw [show o + (j + 1) = o + 1 + j by omega] at h2; exact h2); have Gt := qI (Gj.o.kept0 hk1); clear hk1)
  | (refine wpList_loadK (by rfl) (.tmp 16) (by rfl) (g := g) (of := o + 1) H1.o Ge.o (by rfl) ?_)
  | (refine wpList_store34 (by rfl) (.tmp 4) (.tmp 17) (by rfl) (g := w.heap.size + 1) (k := k) (k0 := zeroKey) Gt.o (by rfl) Ge.o (by rfl) (by rfl) ?_; intro w4 h4 hk4; have Mz := qI h4; have Gp := qI hk4; clear h4 hk4; simp only [Act.put])
 have hres := Mz.o.var Ge.o
 refine bodyPost_ret (v := .tuple #[.agg (keyA k), .bool true]) (by simp only [results, Tryz.results36]; simp [hres, Sem.run_bind, asAddr, Act.put]) rfl ?_
 exact ⟨rfl, (Gf.o.then Gn.o).trans Gp.o (by intro i hi; simp at hi; subst hi; exact .inr (by simp))⟩
theorem within_yes {a b c : Int} (h1 : b ≤ a) (h2 : a ≤ c) (w : World) : Calls Tryz.prog 149 #[.int .i64 a, .int .i64 b, .int .i64 c] w fun e w' => e = .returned (.bool true) ∧ w' = w := by
 have d1 : decide (a ≥ b) = true := decide_eq_true h1
 have d2 : decide (a ≤ c) = true := decide_eq_true h2
 go_enter Tryz.func149, Tryz.ntmps149
 go_wp2_with fail
 go_ret
 exact ⟨rfl, rfl⟩
theorem may_day (w : World) : Calls Tryz.prog 155 #[.int .i64 86400] w fun e w' => e = .returned (.bool true) ∧ w' = w := by
 go_enter Tryz.func155, Tryz.ntmps155
 go_wp2_with fail
 go_ret
 exact ⟨rfl, rfl⟩
theorem ahead_70 (w : World) : Calls Tryz.prog 151 #[.int .i64 1970] w fun e w' => e = .returned (.int .i64 719162) ∧ w' = w := by
 go_enter Tryz.func151, Tryz.ntmps151
 go_wp2_with fail
 go_ret
 exact ⟨rfl, rfl⟩
theorem ahead_71 (w : World) : Calls Tryz.prog 151 #[.int .i64 1971] w fun e w' => e = .returned (.int .i64 719527) ∧ w' = w := by
 go_enter Tryz.func151, Tryz.ntmps151
 go_wp2_with fail
 go_ret
 exact ⟨rfl, rfl⟩
theorem days_jan (w : World) : Calls Tryz.prog 150 #[.int .i64 1970, .int .i64 1] w fun e w' => e = .returned (.int .i64 31) ∧ w' = w := by
 have hix : (Instr.index 226 (.agg #[.int .i64 31, .int .i64 28, .int .i64 31, .int .i64 30, .int .i64 31, .int .i64 30, .int .i64 31, .int .i64 31, .int .i64 30, .int .i64 31, .int .i64 30, .int .i64 31]) (.int .i64 0)).run Tryz.prog w = .ok (.int .i64 31) w := by kernel_rfl
 go_enter Tryz.func150, Tryz.ntmps150
 go_wp2_with fail
 go_ret
 exact ⟨rfl, rfl⟩
theorem yearOf_day (w : World) : Calls Tryz.prog 156 #[.int .i64 719163] w fun e w' => e = .returned (.tuple #[.int .i64 1970, .int .i64 1]) ∧ w' = w := by
 have C0 := qI ahead_70
 have C1 := qI ahead_71
 go_enter Tryz.func156, Tryz.ntmps156
 go_upto_region 2 with fail
 go_loopw [4] (fun y wr => (y = .int .i64 1969 ∨ y = .int .i64 1970) ∧ wr = w) (fun y _ => 1970 - (intOf y).toNat)
 case atStart => exact ⟨.inl rfl, rfl⟩
 case round =>
  obtain ⟨rfl | rfl, rfl⟩ := hrel
  ·go_wp2_with (go_at_call 151; refine (C0.o _).mono ?_; rintro e w' ⟨rfl, rfl⟩)
   case roundEnd => exact ⟨⟨.inr rfl, trivial⟩, by decide⟩
  ·go_wp2_with first
    | (go_at_call 151; have q := Gu; refine (C0.o _).mono ?_; rintro e w' ⟨rfl, rfl⟩)
    | (go_at_call 151; refine (C1.o _).mono ?_; rintro e w' ⟨rfl, rfl⟩; have Gu := qI True.intro)
   go_ret2
   exact ⟨rfl, rfl⟩
end Go.Proofs.YtckbnjipecclaaaGreatDoor

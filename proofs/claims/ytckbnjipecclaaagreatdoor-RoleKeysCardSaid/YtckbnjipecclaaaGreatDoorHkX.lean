/- Parts of one proof, merged: XIM XIN XIO XIS XIT XIU. -/
import Derived.Test.YtckbnjipecclaaaGreatDoorHkU
import Derived.Test.YtckbnjipecclaaaGreatDoorHkK
import Derived.Test.YtckbnjipecclaaaGreatDoorHkT
import Derived.Test.YtckbnjipecclaaaGreatDoorHkQ
set_option linter.all false
set_option maxHeartbeats 12800000
set_option maxRecDepth 10000
set_option linter.unusedVariables false
set_option linter.unusedSimpArgs false
set_option linter.unnecessarySimpa false
namespace Go.Proofs.YtckbnjipecclaaaGreatDoor
open Go.RowKit
def badK {n : Nat} (xs : List (V n)) : Bool := xs.any (fun x => decide (kindV n x ≠ 4))
def strC {n : Nat} (x : V n) : Value := .string (strV n x)
theorem badK_snoc {n : Nat} (xs : List (V n)) (k : Nat) (h : k < xs.length) : badK (xs.take (k + 1)) = (badK (xs.take k) || decide (kindV n xs[k] ≠ 4)) := by
 unfold badK
 rw [List.take_succ_eq_append_getElem h, List.any_append]
 simp
def put2 (w : World) (g : Nat) (a b : Value) : World := (w.setCell ⟨g, 0, none⟩ a).setCell ⟨g, 1, none⟩ b
theorem put2_kept (w : World) (g : Nat) (a b : Value) : Kept [g] w (put2 w g a b) := ((Kept.refl [g] w).setCell (.inl (by simp)) _).setCell (.inl (by simp)) _
theorem put2_at {w : World} {g : Nat} {c0 c1 : Value} {t : Nat} {f : Nat × Nat} (h : w.heap[g]? = some (.cells #[c0, c1] t f)) (a b : Value) : (put2 w g a b).heap[g]? = some (.cells #[a, b] t f) := by
 unfold put2
 have h1 := block_setCell (i := 0) (v := a) (d := #[a, c1]) h rfl
 exact block_setCell (i := 1) (v := b) (d := #[a, b]) h1 rfl
theorem readRole_any {n : Nat} {S : Nat → Prop} {w : World} {cs : List Value} {v : VS (V (n + 1))} (h : Rep (n + 2) S w cs v) (hs : Small (n + 2) v) :
  Calls Tryz.prog 17 #[.agg cs.toArray] w fun e w' => RRAns w' e (readRoleV v) ∧ Kept [] w w' := by
 obtain ⟨kd, nm, st, pa, la, ca, pb, lb, cb, rfl⟩ := h.conv
 obtain ⟨W0, Ga⟩ : ∃ W0, Hid (W0 = (w.alloc (.cells #[.int .i64 kd, .int .i64 nm, .string st, .slice pa la ca, .slice pb lb cb] 28)).alloc (.cells #[.slice none 0 0, .int .i64 0] 43)) := ⟨_, qI rfl⟩
 have Gf : Hid (Kept [] w W0) := qI (by rw [Ga.o]; exact ((Kept.refl _ w).alloc _).alloc _)
 have Mg : Hid (BoxAt W0 w.heap.size kd nm st (.slice pa la ca) (.slice pb lb cb)) := qI (by rw [Ga.o]; exact (box_at _ _ _ _ _ _ _).kept0 ((Kept.refl [] _).alloc _))
 have Gm : Hid (W0.heap[w.heap.size + 1]? = some (.cells #[.slice none 0 0, .int .i64 0] 43 (0, 0))) := qI (by rw [Ga.o]; exact block_alloc (by simp))
 have Jn : Hid (W0.heap.size = w.heap.size + 2) := qI (by rw [Ga.o]; simp)
 have COF := qI (roleOf_any (h.kept0 Gf.o))
 have Gt := qI hs
 obtain ⟨⟨th, tb⟩, HT⟩ : ∃ x, Hid (fint v (decide (v.kind ≠ 6)) ⟨#[116, 104, 114, 101, 115, 104, 111, 108, 100]⟩ 1 16 = x) := ⟨_, qI rfl⟩
 obtain ⟨⟨l1, lbd⟩, Jd⟩ : ∃ x, Hid (flist v tb ⟨#[107, 101, 121, 105, 100, 115]⟩ 16 = x) := ⟨_, qI rfl⟩
 obtain ⟨xs, Je⟩ : ∃ xs, Hid (xs = itemsV l1) := ⟨_, qI rfl⟩
 have Jo : Hid (xs.length ≤ 16) := qI (by have := flist_le v tb ⟨#[107, 101, 121, 105, 100, 115]⟩ 16; rw [show ((16 : Nat) : Int) = 16 from rfl, Jd.o] at this; rw [Je.o]; exact this)
 have Jx : Hid (∀ x, x ∈ xs → (strV n x).size ≤ 400000) := qI (fun x hx => by
  have := flist_small (v := v) (bad := tb) (s := ⟨#[107, 101, 121, 105, 100, 115]⟩) (lo := 16) hs
  rw [Jd.o] at this
  exact (this x (by rw [Je.o] at hx; exact hx)).2)
 have Gj : Hid (readRoleV v = if (lbd || badK xs) = false ∧ mayRole ⟨xs.map (strV n), th⟩ = true then some ⟨xs.map (strV n), th⟩ else none) := qI (by
  unfold readRoleV
  simp only [HT.o, Jd.o, ← Je.o]
  rfl)
 clear h hs
 go_enter Tryz.func17, Tryz.ntmps17
 go_upto_region 1 with fail
 rw [← Ga.o]
 obtain ⟨c0, c1, c2, c3, c4⟩ := Mg.o
 go_upto_region 2 with (go_at_call 37; refine COF.o.mono ?_; rintro e w1 ⟨⟨g1, hg1, rfl, hf⟩, hk⟩; have Mh := qI hg1; have Mi := qI hf; have Gw := qI hk; clear hg1 hf hk c0 c1 c2 c3 c4)
 have CI : Hid _ := qI (fint_any Mi.o Gt.o ⟨#[116, 104, 114, 101, 115, 104, 111, 108, 100]⟩ 1 16)
 rw [HT.o] at CI
 go_upto_region 3 with (go_at_call 23; refine CI.o.mono ?_; rintro e w2 ⟨rfl, hf, hk⟩; simp only at hf ⊢; have Jy := qI hf; have Mj : Hid (Kept [g1] W0 w2) := qI ((Gw.o.mono (by simp)).trans' hk); clear hf hk)
 obtain ⟨w3, Jf⟩ : ∃ w3, Hid (w3 = w2.alloc (.cells #[.slice none 0 0, .int .i64 th] 43)) := ⟨_, qI rfl⟩
 have Jz : Hid (Kept [] w2 w3) := qI (by rw [Jf.o]; exact (Kept.refl _ _).alloc _)
 have Mk : Hid (w3.heap[w2.heap.size]? = some (.cells #[.slice none 0 0, .int .i64 th] 43 (0, 0))) := qI (by rw [Jf.o]; exact block_alloc rfl)
 have Jg : Hid (w3.heap.size = w2.heap.size + 1) := qI (by rw [Jf.o]; simp)
 rw [← Jf.o]
 have Gn : Hid (g1 < w2.heap.size ∧ w.heap.size + 2 ≤ g1) := qI ⟨Jy.o.lt, by have := Mh.o; have := Jn.o; omega⟩
 have CL : Hid _ := qI (flist_any (Jy.o.kept0 Jz.o) Gt.o ⟨#[107, 101, 121, 105, 100, 115]⟩ 16)
 rw [Jd.o] at CL
 go_wp2_with (go_at_call 27; refine CL.o.mono ?_; rintro e w4 ⟨hl, hf, hk⟩; obtain ⟨ia, ic, lcs, rfl, hit⟩ := ListAns.items hl; simp only at hf; rw [← Je.o] at hit ⊢; have Ml := qI hit; have Mm := qI hf; have Gx := qI hk; clear hl hf hk hit)
 have Jp := qI (Gx.o.heap Mk.o (by have := Gn.o; simp; omega))
 have Gk : Hid (w3.heap.size ≤ w4.heap.size) := qI Gx.o.size
 have hxl : (xs.length : Int) ≤ 16 := by have := Jo.o; omega
 go_loopw [7, 16] (fun _ i wr => ∃ (k : Nat) (a3 : Option Addr) (c3 : Nat), i = .int .i64 k ∧ k ≤ xs.length ∧ Fld (n + 1) wr g1 v (lbd || badK (xs.take k)) ∧ wr.heap[w2.heap.size]? = some (.cells #[.slice a3 k c3, .int .i64 th] 43 (0, 0)) ∧ wr.ownsRow w4.heap.size 9 1 (.slice a3 k c3) k ((xs.take k).map strC) ∧ ItemsIn (fun g => w3.heap.size ≤ g ∧ g < w4.heap.size) wr ia ic xs lcs ∧ Kept [g1, w2.heap.size] w4 wr) (fun _ i _ => xs.length - (intOf i).toNat)
 case atStart => exact ⟨0, none, 0, rfl, Nat.zero_le _, by simpa [badK] using Mm.o, Jp.o, World.ownsRow_nil _ _ _ _, Ml.o, Kept.refl _ _⟩
 case round =>
  obtain ⟨k, a3, c3, rfl, hk, hf, hb, hrow, hit, hkr⟩ := hrel
  have HF := qI hf
  have HB := qI hb
  have Gh := qI hrow
  have Gy := qI hit
  have Ge := qI hkr
  clear hf hb hrow hit hkr
  by_cases hlt : k < xs.length
  ·have hltI : (k : Int) < xs.length := by omega
   obtain ⟨g, o, s, p, cl, q, m, d, rfl, q0, q1, q2, q3, q4, hst⟩ := Gy.o.at hlt
   have Yc : Hid (s.size ≤ 400000) := qI (by rw [hst]; exact Jx.o _ (List.getElem_mem hlt))
   have Jh := qI (badK_snoc xs k hlt)
   have Mn : Hid ((xs.take (k + 1)).map (strC (n := n)) = (xs.take k).map strC ++ [.string s]) := qI (by rw [List.take_succ_eq_append_getElem hlt, List.map_append, hst]; rfl)
   revert hst Jh q0 q1 q3
   generalize hkd9 : kindV n xs[k] = kd9
   generalize hnm9 : numV n xs[k] = nm9
   generalize hln9 : lenV n xs[k] = ln9
   clear hkd9 hnm9 hln9
   intro q0 q1 q3 hst Jh
   clear hst
   obtain ⟨wb, Ji⟩ : ∃ wb, Hid (wb = wr.alloc (.cells #[.int .i64 kd9, .int .i64 nm9, .string s, .slice p ln9 cl, .slice q m d] 28)) := ⟨_, qI rfl⟩
   have Gu : Hid (Kept [] wr wb) := qI (by rw [Ji.o]; exact (Kept.refl _ _).alloc _)
   have Ma : Hid (BoxAt wb wr.heap.size kd9 nm9 s (.slice p ln9 cl) (.slice q m d)) := qI (by rw [Ji.o]; exact box_at _ _ _ _ _ _ _)
   have Mo : Hid (wb.heap.size = wr.heap.size + 1) := qI (by rw [Ji.o]; simp)
   go_upto_region 6 with fail
   rw [← Ji.o]
   clear q0 q1 q2 q3 q4
   obtain ⟨y0, y1, y2, y3, y4⟩ := Ma.o
   have CSP := qI (spoil_any (HF.o.kept0 Gu.o))
   by_cases k4 : kd9 = 4
   case' pos =>
    have f1 := (int_eq k4).2
    have hbn : (lbd || badK (xs.take (k + 1))) = (lbd || badK (xs.take k)) := by rw [Jh.o, k4]; simp
    obtain ⟨wS, Jq⟩ : ∃ wS, Hid (wS = wb) := ⟨_, qI rfl⟩
    have Mb : Hid (Fld (n + 1) wS g1 v (lbd || badK (xs.take (k + 1)))) := qI (by rw [Jq.o, hbn]; exact HF.o.kept0 Gu.o)
    have Gp : Hid (Kept [g1] wb wS) := qI (by rw [Jq.o]; exact Kept.refl _ _)
    clear k4 hbn
    go_upto_region 8 with fail
    rw [← Jq.o]
   case' neg =>
    have f1 := (int_ne k4).2
    have hbn : (lbd || badK (xs.take (k + 1))) = true := by rw [Jh.o, decide_eq_true k4]; simp
    have Mp := qI hbn
    clear k4 hbn
    go_upto_region 8 with (go_at_call 28; refine CSP.o.mono ?_; rintro e wS ⟨rfl, hf, hk⟩; have Mb : Hid (Fld (n + 1) wS g1 v (lbd || badK (xs.take (k + 1)))) := qI (by rw [Mp.o]; exact hf); have Gp : Hid (Kept [g1] wb wS) := qI hk; clear hf hk)
   all_goals
    clear y0 y1 y2 y3 y4 f1
    have hgr := Gn.o
    have hs3 := Jg.o
    have hs4 := Gk.o
    have hsr := Ge.o.size
    have Mc := qI (Gp.o.heap (Gu.o.heap HB.o (by simp)) (by simp; omega))
    have Gq : Hid (wS.ownsRow w4.heap.size 9 1 (.slice a3 k c3) k ((xs.take k).map strC)) := qI (row_kept (row_kept Gh.o Gu.o (by simp)) Gp.o (fun g hg => by have := (Gh.o.lt g hg).1; simp; omega))
    obtain ⟨-, -, z2, -, -⟩ := Ma.o.kept Gp.o (by simp; omega)
    have z0 := cell_head (o := 0) (v := .slice a3 k c3) Mc.o rfl
    have Gz := Jo
    have Jr := qI Gp.o.size
    have Js := Mo
    clear hgr hs3 hs4 hsr
    go_wp2_with (at_builtin; refine wpList_append_slc tyStrs (v := .slice a3 k c3) (n := k) (row_kept Gq.o ((Kept.refl [] wS).alloc _) (by simp)) (slc_one wS (.string s) _ _ rfl) (by simp [Value.oneCell']) (by have := Gz.o; simp only [maxLen]; omega) (by have := Gz.o; omega) (by have := Jr.o; have := Js.o; have := Ge.o.size; simp; omega) rfl _ _ rfl rfl rfl ?_; intro v5 w5 hown hk5 _ hb5; obtain ⟨a5, c5, rfl, -, -⟩ := (Slc.of_row hown).form; have Jt := qI hown; have Gg := qI hk5; have Jj : Hid (Kept [] wS (wS.alloc (.cells #[.string s] 9))) := qI ((Kept.refl _ _).alloc _); have Ju := qI (hk5.heap (Jj.o.heap Mc.o (by simp)) (by intro hmem; have h1 := (Gq.o.lt _ (Option.mem_toList.1 hmem)).1; have := Gn.o; have := Jg.o; have := Gk.o; omega)); have u0 := cell_head (o := 0) (v := .slice a3 k c3) Ju.o rfl; have uf := free_head (o := 0) Ju.o; clear hown hk5 hb5 z0 z2)
    case roundEnd =>
     have hgr := Gn.o
     have hs3 := Jg.o
     have hs4 := Gk.o
     have hsr := Ge.o.size
     have hst : Kept [w2.heap.size] w5 (w5.setCell ⟨w2.heap.size, 0, none⟩ (.slice a5 (k + 1) c5)) := (Kept.refl _ _).setCell (.inl (by simp)) _
     have hX5 : ∀ i, i ∈ (Value.slice a3 k c3).ownBlock.toList → w4.heap.size ≤ i := fun i hi => (Gq.o.lt i (Option.mem_toList.1 hi)).1
     have hb5 := Jt.o
     have hown5 : ∀ g, (Value.slice a5 (k + 1) c5).ownBlock = some g → w4.heap.size ≤ g := fun g hg => (hb5.lt g hg).1
     refine ⟨⟨k + 1, a5, c5, by go_num, by omega, (((Mb.o.kept0 Jj.o).kept Gg.o (fun i hi => by have := hX5 i hi; omega)).kept hst (fun i hi => by simp at hi; subst hi; omega)), block_setCell Ju.o rfl, ?_, ?_, ?_⟩, by simp [intOf]; omega⟩
     ·rw [Mn.o]
      exact row_kept hb5 hst (fun g hg => by have := hown5 g hg; simp; omega)
     ·exact ((((Gy.o.kept Gu.o (by simp)).kept Gp.o (fun i hi hS => by simp at hi; subst hi; omega)).kept Jj.o (by simp)).kept Gg.o (fun i hi hS => by have := hX5 i hi; omega)).kept hst (fun i hi hS => by simp at hi; subst hi; omega)
     ·refine (((Ge.o.then Gu.o).trans (Gp.o.mono (Y := [g1, w2.heap.size]) (by simp)) (fun i hi => .inl hi)).then Jj.o |>.trans Gg.o (fun i hi => .inr (hX5 i hi))).trans (hst.mono (Y := [g1, w2.heap.size]) (by simp)) (fun i hi => .inl hi)
  ·obtain rfl : k = xs.length := by omega
   have Mq : Hid (xs.take xs.length = xs) := qI List.take_length
   rw [Mq.o] at HF Gh
   have Jk : Hid (Texts wr (.slice a3 (xs.map (strV n)).length c3) (xs.map (strV n))) := qI (by
    have h1 := Slc.of_row Gh.o
    unfold Texts
    rw [List.length_map, List.map_map]
    exact h1)
   have Mr : Hid (∀ t, t ∈ xs.map (strV n) → t.size ≤ 140737488355328) := qI (fun t ht => by
    obtain ⟨x, hx, rfl⟩ := List.mem_map.1 ht
    have := Jx.o x hx
    omega)
   have Md : Hid (Kept [g1, w2.heap.size] W0 wr) := qI ((((Mj.o.mono (Y := [g1, w2.heap.size]) (by simp)).then Jz.o).trans' (Gx.o.mono (by simp))).trans' Ge.o)
   have Ms := qI (show w.heap.size + 1 ≠ g1 ∧ w.heap.size + 1 ≠ w2.heap.size by have := Gn.o; omega)
   have Gv := qI (Md.o.heap Gm.o (by have := Ms.o; simp; omega))
   have Gr : Hid (Kept [] w wr) := qI (Gf.o.trans Md.o (by have := Gn.o; intro i hi; simp at hi; rcases hi with rfl | rfl <;> exact .inr (by omega)))
   have CM0 := mayRole_any (r := ⟨xs.map (strV n), th⟩) Jk.o Mr.o (by simp only [List.length_map]; have := Jo.o; omega)
   simp only [List.length_map] at CM0
   have CM := qI CM0
   have Gl := qI (fdone_any HF.o)
   revert CM Gl Gj Jk
   generalize hkq : xs.map (strV n) = ks
   intro Gj Jk CM Gl
   have Me : Hid (ks.length = xs.length) := qI (by rw [← hkq]; simp)
   clear hkq CM0
   revert CM Gj
   generalize hmq : mayRole ⟨ks, th⟩ = mr
   intro Gj CM
   clear hmq
   revert Gl Gj
   generalize (lbd || badK xs) = bd
   intro Gl Gj
   have b0 := cell_head (o := 0) (v := .slice a3 xs.length c3) HB.o rfl
   have b1 := cell_head (o := 1) (v := .int .i64 th) HB.o rfl
   have r0 := cell_head (o := 0) (v := .slice none 0 0) Gv.o rfl
   have r1 := cell_head (o := 1) (v := .int .i64 0) Gv.o rfl
   have z : ∀ j, wr.frozen? ⟨w.heap.size + 1, j, none⟩ = false := fun j => free_head Gv.o
   cases bd with
   | true =>
    have Ja : Hid (readRoleV v = none) := qI (by rw [Gj.o, if_neg (by rintro ⟨h, -⟩; cases h)])
    simp only [doneZ, if_true] at Gl
    go_wp2_with (go_at_call 30; refine Gl.o.mono ?_; rintro e w6 ⟨rfl, rfl⟩)
    change bodyPost _ _ _ _ _ (put2 wr (w.heap.size + 1) (.slice none 0 0) (.int .i64 0))
    have Gc := put2_kept wr (w.heap.size + 1) (.slice none 0 0) (.int .i64 0)
    have Gb := put2_at Gv.o (.slice none 0 0) (.int .i64 0)
    revert Gc Gb
    generalize put2 wr (w.heap.size + 1) (.slice none 0 0) (.int .i64 0) = WF
    intro Gc Gb
    have v0 := cell_head (o := 0) (v := .slice none 0 0) Gb rfl
    have v1 := cell_head (o := 1) (v := .int .i64 0) Gb rfl
    refine bodyPost_ret (v := .tuple #[.agg #[.slice none 0 0, .int .i64 0], .int .i64 130]) (by simp [results, Tryz.results17, go_sem, v0, v1]) rfl ?_
    rw [Ja.o]
    exact ⟨rfl, Gr.o.trans Gc (by intro i hi; simp at hi; subst hi; exact .inr (by simp))⟩
   | false =>
    simp only [doneZ, if_false, Bool.false_eq_true] at Gl
    cases mr with
    | false =>
     have Ja : Hid (readRoleV v = none) := qI (by rw [Gj.o, if_neg (by rintro ⟨-, h⟩; cases h)])
     go_wp2_with first
      | (go_at_call 30; refine Gl.o.mono ?_; rintro e w6 ⟨rfl, rfl⟩)
      | (go_at_call 19; refine CM.o.mono ?_; rintro e w7 ⟨rfl, hk7⟩; have Jl := qI hk7; have Gd := qI (hk7.heap Gv.o (by simp)); clear r0 r1 z; have r0 := cell_head (o := 0) (v := .slice none 0 0) Gd.o rfl; have r1 := cell_head (o := 1) (v := .int .i64 0) Gd.o rfl; have z : ∀ j, w7.frozen? ⟨w.heap.size + 1, j, none⟩ = false := fun j => free_head Gd.o; have b0' := cell_head (o := 0) (v := .slice a3 xs.length c3) (hk7.heap HB.o (by simp)) rfl; have b1' := cell_head (o := 1) (v := .int .i64 th) (hk7.heap HB.o (by simp)) rfl; clear hk7)
     change bodyPost _ _ _ _ _ (put2 w7 (w.heap.size + 1) (.slice none 0 0) (.int .i64 0))
     have Gc := put2_kept w7 (w.heap.size + 1) (.slice none 0 0) (.int .i64 0)
     have Gb := put2_at Gd.o (.slice none 0 0) (.int .i64 0)
     revert Gc Gb
     generalize put2 w7 (w.heap.size + 1) (.slice none 0 0) (.int .i64 0) = WF
     intro Gc Gb
     have v0 := cell_head (o := 0) (v := .slice none 0 0) Gb rfl
     have v1 := cell_head (o := 1) (v := .int .i64 0) Gb rfl
     refine bodyPost_ret (v := .tuple #[.agg #[.slice none 0 0, .int .i64 0], .int .i64 130]) (by simp [results, Tryz.results17, go_sem, v0, v1]) rfl ?_
     rw [Ja.o]
     exact ⟨rfl, (Gr.o.then Jl.o).trans Gc (by intro i hi; simp at hi; subst hi; exact .inr (by simp))⟩
    | true =>
     have Ja : Hid (readRoleV v = some ⟨ks, th⟩) := qI (by rw [Gj.o, if_pos ⟨rfl, rfl⟩])
     go_wp2_with first
      | (go_at_call 30; refine Gl.o.mono ?_; rintro e w6 ⟨rfl, rfl⟩)
      | (go_at_call 19; refine CM.o.mono ?_; rintro e w7 ⟨rfl, hk7⟩; have Jl := qI hk7; have Gd := qI (hk7.heap Gv.o (by simp)); clear r0 r1 z; have r0 := cell_head (o := 0) (v := .slice none 0 0) Gd.o rfl; have r1 := cell_head (o := 1) (v := .int .i64 0) Gd.o rfl; have z : ∀ j, w7.frozen? ⟨w.heap.size + 1, j, none⟩ = false := fun j => free_head Gd.o; have b0' := cell_head (o := 0) (v := .slice a3 xs.length c3) (hk7.heap HB.o (by simp)) rfl; have b1' := cell_head (o := 1) (v := .int .i64 th) (hk7.heap HB.o (by simp)) rfl; clear hk7)
     change bodyPost _ _ _ _ _ (put2 w7 (w.heap.size + 1) (.slice a3 xs.length c3) (.int .i64 th))
     have Gc := put2_kept w7 (w.heap.size + 1) (.slice a3 xs.length c3) (.int .i64 th)
     have Gb := put2_at Gd.o (.slice a3 xs.length c3) (.int .i64 th)
     revert Gc Gb
     generalize put2 w7 (w.heap.size + 1) (.slice a3 xs.length c3) (.int .i64 th) = WF
     intro Gc Gb
     have v0 := cell_head (o := 0) (v := .slice a3 xs.length c3) Gb rfl
     have v1 := cell_head (o := 1) (v := .int .i64 th) Gb rfl
     refine bodyPost_ret (v := .tuple #[.agg #[.slice a3 xs.length c3, .int .i64 th], .int .i64 0]) (by simp [results, Tryz.results17, go_sem, v0, v1]) rfl ?_
     rw [Ja.o]
     exact ⟨⟨a3, c3, by rw [Me.o], by have h1 := ((Jk.o.kept0 Jl.o)); exact Slc.kept h1 Gc (fun g hg => by have h2 := Gh.o.lt g (by rw [Me.o] at hg; exact own_of_vblk hg); have := Gn.o; have := Jg.o; have := Gk.o; simp; omega)⟩, (Gr.o.then Jl.o).trans Gc (by intro i hi; simp at hi; subst hi; exact .inr (by simp))⟩
def rowL (id : ByteArray) (k : KeyS) : List Value := .string id :: keyL k
theorem rowL_len {id : ByteArray} {k : KeyS} (h : k.root.length = 32) : (rowL id k).length = 35 := by simp [rowL, keyL_len h]
theorem rowL_one (id : ByteArray) (k : KeyS) : ∀ v ∈ rowL id k, v.oneCell' = true := by
 intro v hv
 rcases List.mem_cons.1 hv with rfl | hv
 ·rfl
 ·exact keyL_one k v hv
def RowAt (w : World) (g : Nat) (id : ByteArray) (k : KeyS) : Prop := w.heap[g]? = some (.cells (rowL id k).toArray 65 (0, 0))
theorem RowAt.kept0 {w w' : World} {g : Nat} {id : ByteArray} {k : KeyS} (h : RowAt w g id k) (hk : Kept [] w w') : RowAt w' g id k := hk.heap h (by simp)
theorem RowAt.c0 {w : World} {g : Nat} {id : ByteArray} {k : KeyS} (h : RowAt w g id k) : w.cell? ⟨g, 0, none⟩ = some (.string id) := cell_head h rfl
theorem RowAt.there {w : World} {g : Nat} {id : ByteArray} {k : KeyS} (h : RowAt w g id k) (hl : k.root.length = 32) : w.there g 0 35 := fun j hj => by
 rw [Nat.zero_add]
 have hj' : j < (rowL id k).length := by rw [rowL_len hl]; exact hj
 exact ⟨by rw [cell_head (v := (rowL id k)[j]) h (by simp [hj'])]; rfl, free_head h⟩
theorem RowAt.key {w : World} {g : Nat} {id : ByteArray} {k : KeyS} (h : RowAt w g id k) : w.rangeAt g 1 (keyL k) := fun j v hv => by
 refine cell_head h ?_
 rw [List.getElem?_toArray, rowL, Nat.add_comm, List.getElem?_cons_succ]
 exact hv
theorem RowAt.put {w : World} {g : Nat} {id id' : ByteArray} {k k' : KeyS} (h : RowAt w g id k) (hl : k.root.length = 32) (hl' : k'.root.length = 32) : RowAt (w.setCells g 0 (rowL id' k')) g id' k' := by
 obtain ⟨cur, h1, h2, h3⟩ := setCells_at g (rowL id' k') 0 w _ h
 have hz : (rowL id k).toArray.size = 35 := by simp [rowL_len hl]
 have e : cur = (rowL id' k').toArray := by
  apply Array.ext
  ·rw [h2, hz]; simp [rowL_len hl']
  ·intro i hi1 hi2
   have hi3 : i < 35 := by rw [h2, hz] at hi1; exact hi1
   have h4 := h3 i (by rw [hz]; exact hi3)
   rw [if_pos (by rw [rowL_len hl']; omega), Array.getElem?_eq_getElem hi1, Nat.sub_zero, List.getElem?_eq_getElem (by rw [rowL_len hl']; exact hi3)] at h4
   rw [Option.some.inj h4]
   simp
 unfold RowAt
 rw [h1, e]
theorem info35 : (Tryz.prog.info? 65).map (·.size) = some 35 := by kernel_rfl
theorem wpList_load35 {ops : Array Oper} {rest : List Oper} {op : Oper} {a : Act} {w : World} {Q : Exit → Act → World → Prop} (hgd : op.guard = none) (x : Operand) (ho : op.op = .load 65 x) {g of : Nat} {id : ByteArray} {k : KeyS} (h0 : w.rangeAt g of (rowL id k)) (hl : k.root.length = 32)
  (hx : a.eval x = .pointer (some ⟨g, of, none⟩)) (h : wpList Tryz.prog ops Q rest (a.put op.dst (.agg (rowL id k).toArray)) w) : wpList Tryz.prog ops Q (op :: rest) a w :=
 wpList_load_mid hgd 65 x ho g of hx (rowL id k) _ h0 Tryz.underlying65 rfl (by rw [rowL_len hl]; exact info35) h
theorem wpList_store35 {ops : Array Oper} {rest : List Oper} {op : Oper} {a : Act} {w : World} {Q : Exit → Act → World → Prop} (hgd : op.guard = none) (x y : Operand) (ho : op.op = .store 65 x y) {g : Nat} {id id0 : ByteArray} {k k0 : KeyS} (h0 : RowAt w g id0 k0) (hl0 : k0.root.length = 32) (hl : k.root.length = 32)
  (hx : a.eval x = .pointer (some ⟨g, 0, none⟩)) (hy : a.eval y = .agg (rowL id k).toArray) (h : ∀ w', RowAt w' g id k → Kept [g] w w' → wpList Tryz.prog ops Q rest (a.put op.dst undef) w') : wpList Tryz.prog ops Q (op :: rest) a w := by
 have hsz : (rowL id k).toArray.size = 35 := by simp [rowL_len hl]
 refine wpList_store_mid hgd 65 x y ho g 0 (rowL id k).toArray hx hy (by rw [hsz]; exact h0.there hl0) (by rw [hsz]; exact info35) (all_oneCell_toArray (rowL_one id k)) (h _ ?_ (setCells_kept _ _ _ _))
 exact h0.put hl0 hl
theorem wpList_loadK {ops : Array Oper} {rest : List Oper} {op : Oper} {a : Act} {w : World} {Q : Exit → Act → World → Prop} (hw : Region.wanted op (yielded ops a.tmps) = true) (x : Operand) (ho : op.op = .load 24 x) {g of : Nat} {k : KeyS} (h0 : w.rangeAt g of (keyL k)) (hl : k.root.length = 32)
  (hx : a.eval x = .pointer (some ⟨g, of, none⟩)) (h : wpList Tryz.prog ops Q rest (a.put op.dst (.agg (keyA k))) w) : wpList Tryz.prog ops Q (op :: rest) a w :=
 BigFrame.wpList_want hw fun _ hK => wp_load_mid 24 x ho g of hx (keyL k) _ h0 Tryz.underlying24 rfl (by rw [keyL_len hl]; exact info34) (hK _ _ h)
theorem idS_size {k : KeyS} (h : mayKey k = true) : (keyIdS k).size = 64 := by
 unfold keyIdS
 rw [if_pos h, hexS_size, shaL_len]
theorem idS_ne {k : KeyS} (h : mayKey k = true) : keyIdS k ≠ ⟨#[]⟩ := fun e => by
 have := idS_size h
 rw [e] at this
 cases this
theorem mayKeys1_any {w : World} {g o c : Nat} {k : KeyS} (h : w.rangeAt g o (rowL (keyIdS k) k)) (hm : mayKey k = true) (hr : k.root.length = 32) (ht : Tabs w) (hks : KsAt w) :
  Calls Tryz.prog 38 #[.slice (some ⟨g, o, none⟩) 1 c] w fun e w' => e = .returned (.bool true) ∧ Kept [] w w' := by
 have H := qI h
 have Gi := qI hr
 have CK : Hid (∀ w1, Kept [] w w1 → Calls Tryz.prog 14 #[.agg (keyA k)] w1 fun e w' => e = .returned (.string (keyIdS k)) ∧ Kept [] w1 w') := qI (fun w1 hk => keyId_any k (may_wf hm).1 hr w1 (ht.kept0 hk) (hks.kept0 hk))
 have hne := (str_ne (idS_ne hm)).1
 have Jv := qI (idS_ne hm)
 clear h hm hr ht hks
 revert CK H Jv hne
 generalize keyIdS k = id
 intro H CK hne Jv
 have hse := (str_some Jv.o).1
 obtain ⟨hq1, hq2⟩ := str_eq (rfl : id = id)
 go_enter Tryz.func38, Tryz.ntmps38
 go_wp2_with fail
 go_loopw [3, 4, 10] (fun _ _ i wr => (i = .int .i64 0 ∨ i = .int .i64 1) ∧ Kept [] w wr) (fun _ _ i _ => 1 - (intOf i).toNat)
 case atStart => exact ⟨.inl rfl, Kept.refl _ _⟩
 case round =>
  obtain ⟨hi, hkr⟩ := hrel
  have Ge := qI hkr
  clear hkr
  rcases hi with rfl | rfl
  ·go_upto_region 6 with first
    | (refine wpList_load35 (by rfl) (.tmp 13) (by rfl) (g := g) (of := o) (id := id) (k := k) (fun j v hv => Ge.o.cell (H.o j v hv) (by simp)) Gi.o (by rfl) ?_)
    | (refine wpList_store35 (by rfl) (.tmp 4) (.tmp 14) (by rfl) (g := wr.heap.size) (id0 := ⟨#[]⟩) (k0 := zeroKey) (block_alloc rfl) (by rfl) Gi.o (by rfl) (by rfl) ?_; intro w2 h2 hk2; have H2 := qI h2; have Jm : Hid (Kept [] wr w2) := qI (((Kept.refl [] wr).alloc _).trans hk2 (by intro i hi; simp at hi; subst hi; exact .inr (Nat.le_refl _))); clear h2 hk2; simp only [Act.put])
   generalize hrb : wr.heap.size = rb at H2
   refine wp_grows (n := 41) 24 [Fact.is (.pointer (some ⟨rb, 0, none⟩)),
    Fact.is (.string id),
    Fact.is (.bool false),
    Fact.is (.bool false),
    Fact.is (.pointer (some ⟨rb, 0, none⟩)),
    Fact.is (.string id),
    Fact.is (.pointer (some ⟨rb, 1, none⟩)),
    Fact.is (.agg (keyA k)),
    Fact.is (.string id),
    Fact.is (.bool false),
    Fact.is (.bool false),
    Fact.is (.bool false),
    Fact.is (.int .i64 0),
    Fact.is (.bool false),
    Fact.is (.bool false),
    Fact.is undef,
    Fact.is undef,
    Fact.is undef,
    Fact.is undef,
    Fact.is undef,
    Fact.is undef,
    Fact.is undef,
    Fact.is undef,
    Fact.is (.bool false)] (by kernel_rfl) rfl (by kernel_rfl) (fun x => by simp only [List.map, puts, Act.put, List.setIfInBounds_toArray, List.set_cons_zero, List.set_cons_succ]; rfl) ?_ ?_
   ·refine ⟨fun x w2 hkw b hd => ?_, fun x w2 hkw b hd => ?_, fun x w2 hkw b hd => ?_, fun x w2 hkw b hd => ?_, fun x w2 hkw b hd => ?_, fun x w2 hkw b hd => ?_, fun x w2 hkw b hd => ?_, fun x w2 hkw b hd => ?_, fun x w2 hkw b hd => ?_, fun x w2 hkw b hd => ?_, fun x w2 hkw b hd => ?_, fun x w2 hkw b hd => ?_, fun x w2 hkw b hd => ?_, fun x w2 hkw b hd => ?_, fun x w2 hkw b hd => ?_, fun x w2 hkw b hd => ?_, fun x w2 hkw b hd => ?_, fun x w2 hkw b hd => ?_, fun x w2 hkw b hd => ?_, fun x w2 hkw b hd => ?_, fun x w2 hkw b hd => ?_, fun x w2 hkw b hd => ?_, fun x w2 hkw b hd => ?_, fun x w2 hkw b hd => ?_, trivial⟩
    ·have y0 := (H2.o.kept0 hkw).c0
     have yk := (H2.o.kept0 hkw).key
     go_wp2_with fail
     exact ⟨rfl, Kept.refl _ _⟩
    ·have y0 := (H2.o.kept0 hkw).c0
     have yk := (H2.o.kept0 hkw).key
     have d0 : x 0 = _ := hd 0 (by kernel_rfl)
     go_wp2_with fail
     exact ⟨rfl, Kept.refl _ _⟩
    ·have y0 := (H2.o.kept0 hkw).c0
     have yk := (H2.o.kept0 hkw).key
     have d1 : x 1 = _ := hd 1 (by kernel_rfl)
     go_wp2_with fail
     exact ⟨rfl, Kept.refl _ _⟩
    ·have y0 := (H2.o.kept0 hkw).c0
     have yk := (H2.o.kept0 hkw).key
     have d2 : x 2 = _ := hd 2 (by kernel_rfl)
     go_wp2_with fail
     exact ⟨rfl, Kept.refl _ _⟩
    ·have y0 := (H2.o.kept0 hkw).c0
     have yk := (H2.o.kept0 hkw).key
     have d3 : x 3 = _ := hd 3 (by kernel_rfl)
     go_wp2_with fail
     exact ⟨rfl, Kept.refl _ _⟩
    ·have y0 := (H2.o.kept0 hkw).c0
     have yk := (H2.o.kept0 hkw).key
     have d3 : x 3 = _ := hd 3 (by kernel_rfl)
     have d4 : x 4 = _ := hd 4 (by kernel_rfl)
     go_wp2_with fail
     exact ⟨rfl, Kept.refl _ _⟩
    ·have y0 := (H2.o.kept0 hkw).c0
     have yk := (H2.o.kept0 hkw).key
     have d3 : x 3 = _ := hd 3 (by kernel_rfl)
     go_wp2_with fail
     exact ⟨rfl, Kept.refl _ _⟩
    ·have y0 := (H2.o.kept0 hkw).c0
     have yk := (H2.o.kept0 hkw).key
     have d3 : x 3 = _ := hd 3 (by kernel_rfl)
     have d6 : x 6 = _ := hd 6 (by kernel_rfl)
     have YK := qI yk
     clear yk
     refine wpList_loadK (g := rb) (of := 1) (k := k) ?_ (.tmp 21) (by rfl) YK.o Gi.o ?_ ?_
     ·simp only [Nat.reduceAdd, Nat.zero_add]; revert d3; generalize x 3 = v3; rintro rfl; rfl
     ·exact d6
     ·go_wp2_with fail
      exact ⟨rfl, Kept.refl _ _⟩
    ·have y0 := (H2.o.kept0 hkw).c0
     have yk := (H2.o.kept0 hkw).key
     have d3 : x 3 = _ := hd 3 (by kernel_rfl)
     have d7 : x 7 = _ := hd 7 (by kernel_rfl)
     have CX := CK.o w2 ((Ge.o.then Jm.o).then hkw)
     go_wp2_with (go_at_call 14; refine CX.mono ?_; rintro e w5 ⟨rfl, hk5⟩; have Gg := qI hk5; clear hk5)
     exact ⟨rfl, Gg.o⟩
    ·have y0 := (H2.o.kept0 hkw).c0
     have yk := (H2.o.kept0 hkw).key
     have d3 : x 3 = _ := hd 3 (by kernel_rfl)
     have d5 : x 5 = _ := hd 5 (by kernel_rfl)
     have d8 : x 8 = _ := hd 8 (by kernel_rfl)
     go_wp2_with fail
     exact ⟨rfl, Kept.refl _ _⟩
    ·have y0 := (H2.o.kept0 hkw).c0
     have yk := (H2.o.kept0 hkw).key
     have d3 : x 3 = _ := hd 3 (by kernel_rfl)
     have d9 : x 9 = _ := hd 9 (by kernel_rfl)
     go_wp2_with fail
     exact ⟨rfl, Kept.refl _ _⟩
    ·have y0 := (H2.o.kept0 hkw).c0
     have yk := (H2.o.kept0 hkw).key
     have d10 : x 10 = _ := hd 10 (by kernel_rfl)
     go_wp2_with fail
     exact ⟨rfl, Kept.refl _ _⟩
    ·have y0 := (H2.o.kept0 hkw).c0
     have yk := (H2.o.kept0 hkw).key
     have d11 : x 11 = _ := hd 11 (by kernel_rfl)
     go_wp2_with fail
     exact ⟨rfl, Kept.refl _ _⟩
    ·have y0 := (H2.o.kept0 hkw).c0
     have yk := (H2.o.kept0 hkw).key
     have d11 : x 11 = _ := hd 11 (by kernel_rfl)
     have d12 : x 12 = _ := hd 12 (by kernel_rfl)
     go_wp2_with fail
     exact ⟨rfl, Kept.refl _ _⟩
    ·have y0 := (H2.o.kept0 hkw).c0
     have yk := (H2.o.kept0 hkw).key
     have d11 : x 11 = _ := hd 11 (by kernel_rfl)
     have d13 : x 13 = _ := hd 13 (by kernel_rfl)
     go_wp2_with fail
     exact ⟨rfl, Kept.refl _ _⟩
    ·have y0 := (H2.o.kept0 hkw).c0
     have yk := (H2.o.kept0 hkw).key
     have d14 : x 14 = _ := hd 14 (by kernel_rfl)
     go_wp2_with fail
     exact ⟨rfl, Kept.refl _ _⟩
    ·have y0 := (H2.o.kept0 hkw).c0
     have yk := (H2.o.kept0 hkw).key
     have d14 : x 14 = _ := hd 14 (by kernel_rfl)
     go_wp2_with fail
     exact ⟨rfl, Kept.refl _ _⟩
    ·have y0 := (H2.o.kept0 hkw).c0
     have yk := (H2.o.kept0 hkw).key
     have d14 : x 14 = _ := hd 14 (by kernel_rfl)
     go_wp2_with fail
     exact ⟨rfl, Kept.refl _ _⟩
    ·have y0 := (H2.o.kept0 hkw).c0
     have yk := (H2.o.kept0 hkw).key
     have d14 : x 14 = _ := hd 14 (by kernel_rfl)
     go_wp2_with fail
     exact ⟨rfl, Kept.refl _ _⟩
    ·have y0 := (H2.o.kept0 hkw).c0
     have yk := (H2.o.kept0 hkw).key
     have d14 : x 14 = _ := hd 14 (by kernel_rfl)
     go_wp2_with fail
     exact ⟨rfl, Kept.refl _ _⟩
    ·have y0 := (H2.o.kept0 hkw).c0
     have yk := (H2.o.kept0 hkw).key
     have d14 : x 14 = _ := hd 14 (by kernel_rfl)
     go_wp2_with fail
     exact ⟨rfl, Kept.refl _ _⟩
    ·have y0 := (H2.o.kept0 hkw).c0
     have yk := (H2.o.kept0 hkw).key
     have d14 : x 14 = _ := hd 14 (by kernel_rfl)
     go_wp2_with fail
     exact ⟨rfl, Kept.refl _ _⟩
    ·have y0 := (H2.o.kept0 hkw).c0
     have yk := (H2.o.kept0 hkw).key
     have d14 : x 14 = _ := hd 14 (by kernel_rfl)
     go_wp2_with fail
     exact ⟨rfl, Kept.refl _ _⟩
    ·have y0 := (H2.o.kept0 hkw).c0
     have yk := (H2.o.kept0 hkw).key
     have d11 : x 11 = _ := hd 11 (by kernel_rfl)
     have d14 : x 14 = _ := hd 14 (by kernel_rfl)
     go_wp2_with fail
     exact ⟨rfl, Kept.refl _ _⟩
   ·intro x w5 hkw b hd hwin
    have d11 : x 11 = _ := hd 11 (by decide)
    have d14 : x 14 = _ := hd 14 (by decide)
    have d23 : x 23 = _ := hd 23 (by decide)
    have Gs := qI hkw
    clear hd hwin hkw
    change wpList _ _ _ [_] _ _
    go_wp2_with fail
    case roundEnd => exact ⟨⟨.inr rfl, (Ge.o.then Jm.o).then Gs.o⟩, by decide⟩
  ·go_wp2_with fail
   refine bodyPost_ret (v := .bool true) (by simp [results, Tryz.results38, go_sem]) rfl ?_
   exact ⟨rfl, Ge.o⟩
def rowsV (id : ByteArray) (v : V 3) : V 4 := (mapV [(id, v)] : VS (V 3))
theorem small_rows {id : ByteArray} {k : KeyS} (hi : id.size = 64) (h : k.root.length = 32) : Small 4 (rowsV id (keyV k)) := by
 have h1 := small_key k h
 have e1 : countV 4 (rowsV id (keyV k)) = 1 + (countV 3 (keyV k) + 0) := rfl
 have e2 : bytesV 4 (rowsV id (keyV k)) = 0 + (id.size + 0) + (bytesV 3 (keyV k) + 0) := rfl
 have e := (small_val k h).2
 have e3 : bytesV 3 (keyV k) = 0 + (7 + (6 + (6 + 0))) + ((14 + 0 + 0) + ((6 + 0 + 0) + (bytesV 2 (valV k) + 0))) := rfl
 have e4 : bytesV 2 (valV k) = 0 + (4 + (6 + (6 + 0))) + ((0 + 0 + 0) + ((0 + 0 + 0) + (((hexS k.root).size + 0 + 0) + 0))) := rfl
 have e5 := hexS_size k.root
 have e6 : countV 3 (keyV k) = 7 := rfl
 refine ⟨?_, ?_⟩
 ·rw [e1, e6]; omega
 ·rw [e2, hi, e3, e4, e5, h]; omega
def pair1Fact (n : Nat) (key : ByteArray) (v : V n) : Fact (Kept []) := ⟨fun u _ w => ∃ g k m s p i c q j d, u = .slice (some ⟨g, 0, none⟩) 1 1 ∧ Slc w 6 (.slice (some ⟨g, 0, none⟩) 1 1) 1 [.string key, .int .i64 k, .int .i64 m, .string s, .slice p i c, .slice q j d] ∧ Rep n (fun _ => True) w [.int .i64 k, .int .i64 m, .string s, .slice p i c, .slice q j d] v,
 fun _ _ _ _ ⟨g, k, m, s, p, i, c, q, j, d, h1, h2, h3⟩ kk => ⟨g, k, m, s, p, i, c, q, j, d, h1, h2.kept0 kk, h3.kept0 kk⟩⟩
theorem keysValue1_any {w : World} {g o c : Nat} {k : KeyS} (h : w.rangeAt g o (rowL (keyIdS k) k)) (hm : mayKey k = true) (hr : k.root.length = 32) (ht : Tabs w) (hks : KsAt w) :
  Calls Tryz.prog 32 #[.slice (some ⟨g, o, none⟩) 1 c] w fun e w' => New 4 w w' e (rowsV (keyIdS k) (keyV k)) ∧ Kept [] w w' := by
 obtain ⟨W0, Ga⟩ : ∃ W0, Hid (W0 = w.alloc (.cells #[.int .i64 0, .int .i64 0, .string ⟨#[]⟩, .slice none 0 0, .slice none 0 0] 28)) := ⟨_, qI rfl⟩
 have Gf : Hid (Kept [] w W0) := qI (by rw [Ga.o]; exact (Kept.refl _ w).alloc _)
 have Mt : Hid (W0.heap[w.heap.size]? = some (.cells #[.int .i64 0, .int .i64 0, .string ⟨#[]⟩, .slice none 0 0, .slice none 0 0] 28 (0, 0))) := qI (by rw [Ga.o]; exact block_alloc rfl)
 have Jn : Hid (W0.heap.size = w.heap.size + 1) := qI (by rw [Ga.o]; simp)
 have H : Hid (W0.rangeAt g o (rowL (keyIdS k) k)) := qI (fun j v hv => Gf.o.cell (h j v hv) (by simp))
 have Gi := qI hr
 have CM := qI (mayKeys1_any (c := c) H.o hm hr (ht.kept0 Gf.o) (hks.kept0 Gf.o))
 have CV : Hid (∀ w1, Calls Tryz.prog 8 #[.agg (keyA k)] w1 fun e w' => New 3 w1 w' e (keyV k) ∧ Kept [] w1 w') := qI (fun w1 => (keyValue_any k (may_wf hm).1 hr w1).mono fun e w' ⟨h1, h2⟩ => ⟨by unfold KeyAns at h1; rw [if_pos hm] at h1; exact h1, h2⟩)
 have Gt := qI (small_rows (id := keyIdS k) (idS_size hm) hr)
 clear h hm hr ht hks
 revert H CM CV Gt
 generalize keyV k = X
 generalize keyIdS k = id
 intro H CM CV Gt
 go_enter Tryz.func32, Tryz.ntmps32
 go_upto_region 1 with fail
 rw [← Ga.o]
 go_wp2_with (go_at_call 38; refine CM.o.mono ?_; rintro e w1 ⟨rfl, hk1⟩; have Gw := qI hk1; clear hk1)
 go_loopw [3, 5, 12] (fun q _ i wr => (i = .int .i64 0 ∧ q = .slice none 0 0 ∧ Kept [] W0 wr) ∨ (i = .int .i64 1 ∧ ∃ (a : Option Addr) (c' : Nat) (k3 m3 : Int) (s3 : ByteArray) (p3 : Option Addr) (i3 c3 : Nat) (q3 : Option Addr) (j3 e3 : Nat), q = .slice a 1 c' ∧ Slc wr 6 (.slice a 1 c') 1 [.string id, .int .i64 k3, .int .i64 m3, .string s3, .slice p3 i3 c3, .slice q3 j3 e3] ∧ Rep 3 (fun _ => True) wr [.int .i64 k3, .int .i64 m3, .string s3, .slice p3 i3 c3, .slice q3 j3 e3] X ∧ Kept [] W0 wr)) (fun _ _ i _ => 1 - (intOf i).toNat)
 case atStart => exact .inl ⟨rfl, rfl, Gw.o⟩
 case round =>
  rcases hrel with ⟨rfl, rfl, hkr⟩ | ⟨rfl, a, c', k3, m3, s3, p3, i3, c3, q3, j3, e3, rfl, hsl, hrp, hkr⟩
  ·have Ge := qI hkr
   clear hkr
   go_upto_region 7 with first
    | (refine wpList_load35 (by rfl) (.tmp 14) (by rfl) (g := g) (of := o) (id := id) (k := k) (fun j v hv => Ge.o.cell (H.o j v hv) (by simp)) Gi.o (by rfl) ?_)
    | (refine wpList_store35 (by rfl) (.tmp 5) (.tmp 15) (by rfl) (g := wr.heap.size) (id0 := ⟨#[]⟩) (k0 := zeroKey) (block_alloc rfl) (by rfl) Gi.o (by rfl) (by rfl) ?_; intro w2 h2 hk2; have H2 := qI h2; have Jm : Hid (Kept [] wr w2) := qI (((Kept.refl [] wr).alloc _).trans hk2 (by intro i hi; simp at hi; subst hi; exact .inr (Nat.le_refl _))); clear h2 hk2; simp only [Act.put])
   generalize hrb : wr.heap.size = rb at H2
   refine wp_grows_late (n := 28) 8 [Fact.is (.slice none 0 0),
    Fact.is (.pointer (some ⟨rb, 0, none⟩)),
    Fact.is (.string id),
    Fact.is (.pointer (some ⟨rb, 1, none⟩)),
    Fact.is (.agg (keyA k)),
    newFact 3 X,
    pairRepFact 3 id X,
    pair1Fact 3 id X] (by kernel_rfl) rfl (by kernel_rfl) (fun x => by simp only [List.map, puts, Act.put, List.setIfInBounds_toArray, List.set_cons_zero, List.set_cons_succ, Nat.reduceAdd, Nat.zero_add]; rfl) (fun x hx => by rw [show x 9 = .slice none 0 0 from hx 9 (by decide) (by decide)]) ?_ ?_
   ·refine ⟨fun x w2 hkw b hd => ?_, fun x w2 hkw b hd => ?_, fun x w2 hkw b hd => ?_, fun x w2 hkw b hd => ?_, fun x w2 hkw b hd => ?_, fun x w2 hkw b hd => ?_, fun x w2 hkw b hd => ?_, fun x w2 hkw b hd => ?_, trivial⟩
    ·go_wp2_with fail
     exact ⟨rfl, Kept.refl _ _⟩
    ·go_wp2_with fail
     exact ⟨rfl, Kept.refl _ _⟩
    ·have y0 := (H2.o.kept0 hkw).c0
     have d1 : x 1 = _ := hd 1 (by kernel_rfl)
     go_wp2_with fail
     exact ⟨rfl, Kept.refl _ _⟩
    ·go_wp2_with fail
     exact ⟨rfl, Kept.refl _ _⟩
    ·have YK := qI (H2.o.kept0 hkw).key
     have d3 : x 3 = _ := hd 3 (by kernel_rfl)
     refine wpList_loadK (g := rb) (of := 1) (k := k) rfl (.tmp 19) (by rfl) YK.o Gi.o ?_ ?_
     ·exact d3
     ·go_wp2_with fail
      exact ⟨rfl, Kept.refl _ _⟩
    ·have d4 : x 4 = _ := hd 4 (by kernel_rfl)
     have CX := CV.o w2
     go_wp2_with (go_at_call 8; refine CX.mono ?_; rintro e w5 ⟨hn5, hk5⟩; obtain ⟨k3, m3, s3, p3, i3, c3, q3, j3, e3, rfl, ho3⟩ := new_fact hn5; have Mu := qI ho3; have Gg := qI hk5; clear hk5 ho3 hn5)
     exact ⟨⟨_, _, _, _, _, _, _, _, _, rfl, Mu.o⟩, Gg.o⟩
    ·have d2 : x 2 = _ := hd 2 (by kernel_rfl)
     obtain ⟨k3, m3, s3, p3, i3, c3, q3, j3, e3, d5, ho1⟩ := hd 5 (by kernel_rfl)
     have Mv := qI (Rep.mono (T := fun _ => True) ho1.rep (fun _ _ _ => trivial))
     have CX := pair_any id k3 m3 s3 p3 i3 c3 q3 j3 e3 w2
     clear ho1
     go_wp2_with (go_at_call 41; refine CX.mono ?_; rintro e w5 ⟨rfl, hk5⟩; have Gg := qI hk5; clear hk5)
     exact ⟨⟨_, _, _, _, _, _, _, _, _, rfl, Mv.o.kept0 Gg.o⟩, Gg.o⟩
    ·obtain ⟨k3, m3, s3, p3, i3, c3, q3, j3, e3, d6, ho2⟩ := hd 6 (by kernel_rfl)
     have Mw := qI ho2
     clear ho2
     go_wp2_with fail
     have hka := (Kept.refl [] w2).alloc (.cells #[.string id, .int .i64 k3, .int .i64 m3, .string s3, .slice p3 i3 c3, .slice q3 j3 e3] 78)
     exact ⟨⟨w2.heap.size, k3, m3, s3, p3, i3, c3, q3, j3, e3, rfl, slc_new w2 [.string id, .int .i64 k3, .int .i64 m3, .string s3, .slice p3 i3 c3, .slice q3 j3 e3] 6 1 _ _ rfl rfl (by decide), Mw.o.kept0 hka⟩, hka⟩
   ·intro x w5 hkw b hd hwin
    have d0 : x 0 = _ := hd 0 (by decide)
    obtain ⟨gx, k3, m3, s3, p3, i3, c3, q3, j3, e3, d7, hsl, hrp⟩ := hd 7 (by decide)
    have Gs := qI hkw
    have Mx := qI hsl
    have My := qI hrp
    clear hd hwin hkw hsl hrp
    change wpList _ _ _ [_, _] _ _
    go_wp2_with (at_builtin; refine wpList_append_slc tyPairs (base := w5.heap.size) (v := .slice none 0 0) (n := 0) (xs := []) (World.ownsRow_nil _ _ _ _) Mx.o (by intro u hu; simp only [List.mem_cons, List.not_mem_nil, or_false] at hu; rcases hu with rfl | rfl | rfl | rfl | rfl | rfl <;> rfl) (by decide) (by decide) (Nat.le_refl _) rfl _ _ rfl d0 d7 ?_; intro v6 w6 hown hk6 _ hb6; obtain ⟨a6, c6, rfl, -, -⟩ := (Slc.of_row hown).form; have Jw := qI (Slc.of_row hown); have Mf := qI hk6; clear hown hk6 hb6)
    case roundEnd =>
     exact ⟨.inr ⟨rfl, _, _, _, _, _, _, _, _, _, _, _, rfl, Jw.o, My.o.kept0 (Mf.o.mono (by simp [Value.ownBlock])), (Ge.o.then Jm.o).trans (Gs.o.trans' (Mf.o.mono (by simp [Value.ownBlock]))) (by simp)⟩, by decide⟩
  ·have Ge := qI hkr
   have CL := qI (valMap_any (n := 3) (S := fun _ => True) (w := wr) (m := [(id, X)]) (mcs := [(id, [.int .i64 k3, .int .i64 m3, .string s3, .slice p3 i3 c3, .slice q3 j3 e3])]) (a := a) (c := c') hsl (All2.cons ⟨rfl, hrp⟩ (All2.nil _)) Gt.o)
   change Hid (Calls _ _ #[.slice a 1 c'] _ _) at CL
   have Mz := qI (Ge.o.heap Mt.o (by simp))
   clear hsl hrp hkr
   go_wp2_with (go_at_call 40; refine CL.o.mono ?_; rintro e w5 ⟨hn5, hk5⟩; obtain ⟨k6, m6, s6, p6, i6, c6, q6, j6, e6, rfl, ho6⟩ := new_fact hn5; have Ya := qI ho6; have Gg := qI hk5; have Gq := qI (hk5.heap Mz.o (by simp)); obtain ⟨r0, r1, r2, r3, r4⟩ := box_of Gq.o; have z : ∀ j, w5.frozen? ⟨w.heap.size, j, none⟩ = false := fun j => free_head Gq.o; clear hk5 ho6 hn5)
   change bodyPost _ _ _ _ _ (put5 w5 w.heap.size k6 m6 s6 (.slice p6 i6 c6) (.slice q6 j6 e6))
   have Gc := put5_kept w5 w.heap.size k6 m6 s6 (.slice p6 i6 c6) (.slice q6 j6 e6)
   obtain ⟨y0, y1, y2, y3, y4⟩ := box_of (put5_at Gq.o k6 m6 s6 (.slice p6 i6 c6) (.slice q6 j6 e6))
   revert Gc y0 y1 y2 y3 y4
   generalize put5 w5 w.heap.size k6 m6 s6 (.slice p6 i6 c6) (.slice q6 j6 e6) = WF
   intro Gc y0 y1 y2 y3 y4
   refine bodyPost_ret (v := .agg #[.int .i64 k6, .int .i64 m6, .string s6, .slice p6 i6 c6, .slice q6 j6 e6]) (by simp [results, Tryz.results32, go_sem, y0, y1, y2, y3, y4]) rfl ?_
   have hs0 := Jn.o
   have hsr := Ge.o.size
   refine ⟨⟨_, rfl, (Ya.o.kept Gc (by intro k hk; simp at hk; subst hk; omega)).mono (fun g' ⟨h5, h6⟩ => ⟨by omega, Nat.lt_of_lt_of_le h6 Gc.size⟩)⟩, ((Gf.o.then Ge.o).then Gg.o).trans Gc (by intro i hi; simp at hi; subst hi; exact .inr (Nat.le_refl _))⟩
set_option maxRecDepth 100000 in
theorem findSame_any {w : World} {id : ByteArray} {k : KeyS} (hr : k.root.length = 32) (b : Nat) (h : w.cell? ⟨b, 0, none⟩ = some (.string id)) :
  Calls Tryz.prog 84 #[.agg (rowL id k).toArray, .pointer (some ⟨b, 0, none⟩)] w fun e w' => e = .returned (.bool true) ∧ Kept [] w w' := by
 obtain ⟨W0, Ga⟩ : ∃ W0, Hid (W0 = w.alloc (.cells (rowL id k).toArray 65)) := ⟨_, qI rfl⟩
 have Gf : Hid (Kept [] w W0) := qI (by rw [Ga.o]; exact (Kept.refl _ w).alloc _)
 have HA : Hid (RowAt W0 w.heap.size id k) := qI (by rw [Ga.o]; exact block_alloc rfl)
 have c0 := HA.o.c0
 have c1 := Gf.o.cell h (by simp)
 obtain ⟨f1, f2⟩ := str_eq (rfl : id = id)
 clear h
 go_enter Tryz.func84, Tryz.ntmps84
 go_upto_region 1 with fail
 rw [← Ga.o]
 go_wp2_with fail
 go_ret
 exact ⟨rfl, Gf.o⟩
theorem aggRow (w : World) : (isAgg (Tryz.shIndexRow_ren.t 23)).run Tryz.prog w = .ok true w := Tryz.isAgg65 w
theorem sizeRow (w : World) : (Go.sizeOf (Tryz.shIndexRow_ren.t 23)).run Tryz.prog w = .ok 35 w := Tryz.sizeOf65 w
theorem enterFind : ∀ (args : Array Value) (w : World), (callFunc 84 args).run Tryz.prog w = .ok (.enter 84 args) w := enters_of Tryz.func84 (by kernel_rfl) rfl
theorem indexRow_any {w : World} {id : ByteArray} {k : KeyS} {g o c : Nat} (hr : k.root.length = 32) (h : w.rangeAt g o (rowL id k)) (b : Nat) (hb : w.cell? ⟨b, 0, none⟩ = some (.string id)) :
  Calls Tryz.prog 83 #[.slice (some ⟨g, o, none⟩) 1 c, .func (.func 84) #[] #[.pointer (some ⟨b, 0, none⟩)]] w fun e w' => e = .returned (.int .i64 0) ∧ Kept [] w w' := by
 have hlt : g < w.heap.size := World.block_lt_of_cell? w _ (h 0 _ (show (rowL id k)[0]? = some (.string id) from rfl))
 refine (AnyQ.slices_IndexFunc Tryz.shIndexRow 35 aggRow sizeRow (fun _ : Unit => rowL id k) (fun _ => rowL_len hr) (fun _ => true) 84 #[.pointer (some ⟨b, 0, none⟩)] enterFind g o 1 c [()] w (fun W x hbl => ?_) (by decide) (by decide) hlt (fun j hj i u hu => ?_)).mono ?_
 ·refine (findSame_any hr b ((Kept.of_below hbl).cell hb (by simp))).mono ?_
  rintro e w' ⟨rfl, hk⟩
  exact ⟨rfl, ((Kept.of_below hbl).then hk).below (Nat.le_refl _) (by simp)⟩
 ·obtain rfl : j = 0 := by simpa using hj
  rw [Nat.zero_mul, Nat.add_zero]
  exact h i u hu
 ·rintro e w' ⟨rfl, hbl⟩
  exact ⟨rfl, Kept.of_below hbl⟩
theorem find1_any {w : World} {id : ByteArray} {k : KeyS} {g o c : Nat} (hr : k.root.length = 32) (h : w.rangeAt g o (rowL id k)) :
  Calls Tryz.prog 36 #[.slice (some ⟨g, o, none⟩) 1 c, .string id] w fun e w' => e = .returned (.tuple #[.agg (keyA k), .bool true]) ∧ Kept [] w w' := by
 obtain ⟨W0, Ga⟩ : ∃ W0, Hid (W0 = (w.alloc (.cells #[.string id] 9)).alloc (.cells (keyA zeroKey) 24)) := ⟨_, qI rfl⟩
 have Gf : Hid (Kept [] w W0) := qI (by rw [Ga.o]; exact ((Kept.refl _ w).alloc _).alloc _)
 have HC : Hid (W0.cell? ⟨w.heap.size, 0, none⟩ = some (.string id)) := qI (by rw [Ga.o]; exact ((Kept.refl [] _).alloc _).cell (cell_head (block_alloc rfl) rfl) (by simp))
 have Gm : Hid (KeyAt W0 (w.heap.size + 1) zeroKey) := qI (by rw [Ga.o]; exact block_alloc (by simp))
 have H : Hid (W0.rangeAt g o (rowL id k)) := qI (fun j v hv => Gf.o.cell (h j v hv) (by simp))
 have CI := qI (indexRow_any (c := c) hr H.o _ HC.o)
 have Gi := qI hr
 clear h hr
 go_enter Tryz.func36, Tryz.ntmps36
 go_upto_region 1 with fail
 change Code.wp _ _ _ _ ((w.alloc (.cells #[.string id] 9)).alloc (.cells (keyA zeroKey) 24))
 rw [← Ga.o]
 go_wp2_with first
  | (go_at_call 83; refine CI.o.mono ?_; rintro e w1 ⟨rfl, hk1⟩; have Gw := qI hk1; have H1 : Hid (w1.rangeAt g (o + 1) (keyL k)) := qI (fun j v hv => by have h2 := hk1.cell (H.o (j + 1) v hv) (by simp); rw [show o + (j + 1) = o + 1 + j by omega] at h2; exact h2); have Jb := qI (Gm.o.kept0 hk1); clear hk1)
  | (refine wpList_loadK (by rfl) (.tmp 16) (by rfl) (g := g) (of := o + 1) H1.o Gi.o (by rfl) ?_)
  | (refine wpList_store34 (by rfl) (.tmp 4) (.tmp 17) (by rfl) (g := w.heap.size + 1) (k := k) (k0 := zeroKey) Jb.o (by rfl) Gi.o (by rfl) (by rfl) ?_; intro w4 h4 hk4; have Yb := qI h4; have Gx := qI hk4; clear h4 hk4; simp only [Act.put])
 have hres := Yb.o.var Gi.o
 refine bodyPost_ret (v := .tuple #[.agg (keyA k), .bool true]) (by simp only [results, Tryz.results36]; simp [hres, Sem.run_bind, asAddr, Act.put]) rfl ?_
 exact ⟨rfl, (Gf.o.then Gw.o).trans Gx.o (by intro i hi; simp at hi; subst hi; exact .inr (by simp))⟩
theorem within_yes {a b c : Int} (h1 : b ≤ a) (h2 : a ≤ c) (w : World) : Calls Tryz.prog 149 #[.int .i64 a, .int .i64 b, .int .i64 c] w fun e w' => e = .returned (.bool true) ∧ w' = w := by
 have d1 : decide (a ≥ b) = true := decide_eq_true h1
 have d2 : decide (a ≤ c) = true := decide_eq_true h2
 go_enter Tryz.func149, Tryz.ntmps149
 go_wp2_with fail
 go_ret
 exact ⟨rfl, rfl⟩
theorem may_day (w : World) : Calls Tryz.prog 155 #[.int .i64 86400] w fun e w' => e = .returned (.bool true) ∧ w' = w := by
 go_enter Tryz.func155, Tryz.ntmps155
 go_wp2_with fail
 go_ret
 exact ⟨rfl, rfl⟩
theorem ahead_70 (w : World) : Calls Tryz.prog 151 #[.int .i64 1970] w fun e w' => e = .returned (.int .i64 719162) ∧ w' = w := by
 go_enter Tryz.func151, Tryz.ntmps151
 go_wp2_with fail
 go_ret
 exact ⟨rfl, rfl⟩
theorem ahead_71 (w : World) : Calls Tryz.prog 151 #[.int .i64 1971] w fun e w' => e = .returned (.int .i64 719527) ∧ w' = w := by
 go_enter Tryz.func151, Tryz.ntmps151
 go_wp2_with fail
 go_ret
 exact ⟨rfl, rfl⟩
theorem days_jan (w : World) : Calls Tryz.prog 150 #[.int .i64 1970, .int .i64 1] w fun e w' => e = .returned (.int .i64 31) ∧ w' = w := by
 have hix : (Instr.index 226 (.agg #[.int .i64 31, .int .i64 28, .int .i64 31, .int .i64 30, .int .i64 31, .int .i64 30, .int .i64 31, .int .i64 31, .int .i64 30, .int .i64 31, .int .i64 30, .int .i64 31]) (.int .i64 0)).run Tryz.prog w = .ok (.int .i64 31) w := by kernel_rfl
 go_enter Tryz.func150, Tryz.ntmps150
 go_wp2_with fail
 go_ret
 exact ⟨rfl, rfl⟩
theorem yearOf_day (w : World) : Calls Tryz.prog 156 #[.int .i64 719163] w fun e w' => e = .returned (.tuple #[.int .i64 1970, .int .i64 1]) ∧ w' = w := by
 have C0 := qI ahead_70
 have C1 := qI ahead_71
 go_enter Tryz.func156, Tryz.ntmps156
 go_upto_region 2 with fail
 go_loopw [4] (fun y wr => (y = .int .i64 1969 ∨ y = .int .i64 1970) ∧ wr = w) (fun y _ => 1970 - (intOf y).toNat)
 case atStart => exact ⟨.inl rfl, rfl⟩
 case round =>
  obtain ⟨rfl | rfl, rfl⟩ := hrel
  ·go_wp2_with (go_at_call 151; refine (C0.o _).mono ?_; rintro e w' ⟨rfl, rfl⟩)
   case roundEnd => exact ⟨⟨.inr rfl, trivial⟩, by decide⟩
  ·go_wp2_with first
    | (go_at_call 151; have q := Jc; refine (C0.o _).mono ?_; rintro e w' ⟨rfl, rfl⟩)
    | (go_at_call 151; refine (C1.o _).mono ?_; rintro e w' ⟨rfl, rfl⟩; have Jc := qI True.intro)
   go_ret2
   exact ⟨rfl, rfl⟩
def dateA (a b c d e f : Int) : Array Value := #[.int .i64 a, .int .i64 b, .int .i64 c, .int .i64 d, .int .i64 e, .int .i64 f]
def put6 (w : World) (g : Nat) (a b c d e f : Int) : World := (((((w.setCell ⟨g, 0, none⟩ (.int .i64 a)).setCell ⟨g, 1, none⟩ (.int .i64 b)).setCell ⟨g, 2, none⟩ (.int .i64 c)).setCell ⟨g, 3, none⟩ (.int .i64 d)).setCell ⟨g, 4, none⟩ (.int .i64 e)).setCell ⟨g, 5, none⟩ (.int .i64 f)
theorem put6_kept (w : World) (g : Nat) (a b c d e f : Int) : Kept [g] w (put6 w g a b c d e f) := by
 unfold put6
 exact ((((((Kept.refl [g] w).setCell (.inl (by simp)) _).setCell (.inl (by simp)) _).setCell (.inl (by simp)) _).setCell (.inl (by simp)) _).setCell (.inl (by simp)) _).setCell (.inl (by simp)) _
def DateAt (w : World) (g : Nat) (a b c d e f : Int) : Prop := w.heap[g]? = some (.cells (dateA a b c d e f) 150 (0, 0))
theorem put6_at {w : World} {g : Nat} {a b c d e f : Int} (h : DateAt w g 0 0 0 0 0 0) : DateAt (put6 w g a b c d e f) g a b c d e f := by
 unfold put6
 have h1 := block_setCell (i := 0) (v := .int .i64 a) (d := dateA a 0 0 0 0 0) h rfl
 have h2 := block_setCell (i := 1) (v := .int .i64 b) (d := dateA a b 0 0 0 0) h1 rfl
 have h3 := block_setCell (i := 2) (v := .int .i64 c) (d := dateA a b c 0 0 0) h2 rfl
 have h4 := block_setCell (i := 3) (v := .int .i64 d) (d := dateA a b c d 0 0) h3 rfl
 have h5 := block_setCell (i := 4) (v := .int .i64 e) (d := dateA a b c d e 0) h4 rfl
 exact block_setCell (i := 5) (v := .int .i64 f) (d := dateA a b c d e f) h5 rfl
theorem DateAt.kept0 {w w' : World} {g : Nat} {a b c d e f : Int} (h : DateAt w g a b c d e f) (hk : Kept [] w w') : DateAt w' g a b c d e f := hk.heap h (by simp)
theorem civil_day (w : World) : Calls Tryz.prog 116 #[.int .i64 86400] w fun e w' => e = .returned (.tuple #[.agg (dateA 1970 1 2 0 0 0), .int .i64 0]) ∧ Kept [] w w' := by
 have CM := qI may_day
 have CA := qI ahead_70
 have CY := qI yearOf_day
 have CD := qI days_jan
 obtain ⟨W0, Ga⟩ : ∃ W0, Hid (W0 = w.alloc (.cells (dateA 0 0 0 0 0 0) 150)) := ⟨_, qI rfl⟩
 have Gf : Hid (Kept [] w W0) := qI (by rw [Ga.o]; exact (Kept.refl _ w).alloc _)
 have HA : Hid (DateAt W0 w.heap.size 0 0 0 0 0 0) := qI (by rw [Ga.o]; exact block_alloc rfl)
 have y0 := cell_head (o := 0) (v := .int .i64 0) HA.o rfl
 have y1 := cell_head (o := 1) (v := .int .i64 0) HA.o rfl
 have y2 := cell_head (o := 2) (v := .int .i64 0) HA.o rfl
 have y3 := cell_head (o := 3) (v := .int .i64 0) HA.o rfl
 have y4 := cell_head (o := 4) (v := .int .i64 0) HA.o rfl
 have y5 := cell_head (o := 5) (v := .int .i64 0) HA.o rfl
 have z : ∀ j, W0.frozen? ⟨w.heap.size, j, none⟩ = false := fun j => free_head HA.o
 go_enter Tryz.func116, Tryz.ntmps116
 go_upto_region 1 with fail
 change Code.wp _ _ _ _ (w.alloc (.cells (dateA 0 0 0 0 0 0) 150))
 rw [← Ga.o]
 go_upto_region 5 with first
  | (go_at_call 155; refine (CM.o _).mono ?_; rintro e w' ⟨rfl, rfl⟩)
  | (go_at_call 151; refine (CA.o _).mono ?_; rintro e w' ⟨rfl, rfl⟩)
  | (go_at_call 156; refine (CY.o _).mono ?_; rintro e w' ⟨rfl, rfl⟩)
 go_loopw [5, 6] (fun d m wr => d = .int .i64 1 ∧ m = .int .i64 1 ∧ wr = w') (fun _ _ _ => 0)
 case atStart => exact ⟨rfl, rfl, rfl⟩
 case round =>
  obtain ⟨rfl, rfl, rfl⟩ := hrel
  go_wp2_with (go_at_call 150; refine (CD.o _).mono ?_; rintro e w' ⟨rfl, rfl⟩)
  change bodyPost _ _ _ _ _ (put6 w' w.heap.size 1970 1 2 0 0 0)
  have Gc := put6_kept w' w.heap.size 1970 1 2 0 0 0
  have Gb := put6_at (a := 1970) (b := 1) (c := 2) (d := 0) (e := 0) (f := 0) HA.o
  revert Gc Gb
  generalize put6 w' w.heap.size 1970 1 2 0 0 0 = WF
  intro Gc Gb
  have v0 := cell_head (o := 0) (v := .int .i64 1970) Gb rfl
  have v1 := cell_head (o := 1) (v := .int .i64 1) Gb rfl
  have v2 := cell_head (o := 2) (v := .int .i64 2) Gb rfl
  have v3 := cell_head (o := 3) (v := .int .i64 0) Gb rfl
  have v4 := cell_head (o := 4) (v := .int .i64 0) Gb rfl
  have v5 := cell_head (o := 5) (v := .int .i64 0) Gb rfl
  refine bodyPost_ret (v := .tuple #[.agg (dateA 1970 1 2 0 0 0), .int .i64 0]) (by simp [results, Tryz.results116, go_sem, v0, v1, v2, v3, v4, v5, dateA]) rfl ?_
  exact ⟨rfl, Gf.o.trans Gc (by intro i hi; simp at hi; subst hi; exact .inr (Nat.le_refl _))⟩
end Go.Proofs.YtckbnjipecclaaaGreatDoor

/- Parts of one proof, merged: XJK XJL XShK XMap XIQ XIR XJM XJN XJP. -/
import Derived.Test.YtckbnjipecclaaaGreatDoorNP
import Derived.Test.YtckbnjipecclaaaGreatDoorNN
import Derived.Test.YtckbnjipecclaaaGreatDoorNA
import Derived.Shelf.SlIter.Nil
import Derived.Shelf.SortM.Plain
import Derived.Shelf.SortM.SortNone
import Derived.Shelf.SlGeneric
import Derived.Ground.GgzProg
import Derived.Ground.SlgmProg
import Derived.Test.YtckbnjipecclaaaGreatDoorProg
import Derived.Maps.OwnSet
import Derived.StringKeys
import Derived.Test.YtckbnjipecclaaaGreatDoorNJ
import Derived.Great.BuildSlice
import Derived.Test.YtckbnjipecclaaaGreatDoorNO
import Derived.Test.YtckbnjipecclaaaGreatDoorNH
import Derived.Lib.Hide
set_option linter.all false
set_option maxHeartbeats 12800000
set_option maxRecDepth 10000
set_option linter.unusedVariables false
set_option linter.unusedSimpArgs false
set_option linter.unnecessarySimpa false
namespace Go.Proofs.YtckbnjipecclaaaGreatDoor
open Go.RowKit
theorem head_type {w : World} {g : Nat} (h : Fld 1 w g headV false) : Calls Tryz.prog 24 #[.pointer (some ⟨g, 0, none⟩), .string ⟨#[95, 116, 121, 112, 101]⟩, .int .i64 64] w fun e w' => e = .returned (.string ⟨#[114, 111, 111, 116]⟩) ∧ Fld 1 w' g headV false ∧ Kept [g] w w' := by
 have h1 := ftext_any h small_head ⟨#[95, 116, 121, 112, 101]⟩ 64
 rw [show ftext (n := 1) headV false ⟨#[95, 116, 121, 112, 101]⟩ 64 = (⟨#[114, 111, 111, 116]⟩, false) from ftext_pos (n := 1) (x := (textV ⟨#[114, 111, 111, 116]⟩ : VS (V 0))) (by kernel_rfl) rfl (by decide)] at h1
 exact h1
theorem head_spec {w : World} {g : Nat} (h : Fld 1 w g headV false) : Calls Tryz.prog 24 #[.pointer (some ⟨g, 0, none⟩), .string ⟨#[115, 112, 101, 99, 95, 118, 101, 114, 115, 105, 111, 110]⟩, .int .i64 64] w fun e w' => e = .returned (.string ⟨#[49, 46, 48, 46, 48]⟩) ∧ Fld 1 w' g headV false ∧ Kept [g] w w' := by
 have h1 := ftext_any h small_head ⟨#[115, 112, 101, 99, 95, 118, 101, 114, 115, 105, 111, 110]⟩ 64
 rw [show ftext (n := 1) headV false ⟨#[115, 112, 101, 99, 95, 118, 101, 114, 115, 105, 111, 110]⟩ 64 = (⟨#[49, 46, 48, 46, 48]⟩, false) from ftext_pos (n := 1) (x := (textV ⟨#[49, 46, 48, 46, 48]⟩ : VS (V 0))) (by kernel_rfl) rfl (by decide)] at h1
 exact h1
theorem head_exp {w : World} {g : Nat} (h : Fld 1 w g headV false) : Calls Tryz.prog 24 #[.pointer (some ⟨g, 0, none⟩), .string ⟨#[101, 120, 112, 105, 114, 101, 115]⟩, .int .i64 64] w fun e w' => e = .returned (.string ⟨#[49, 57, 55, 48, 45, 48, 49, 45, 48, 50, 84, 48, 48, 58, 48, 48, 58, 48, 48, 90]⟩) ∧ Fld 1 w' g headV false ∧ Kept [g] w w' := by
 have h1 := ftext_any h small_head ⟨#[101, 120, 112, 105, 114, 101, 115]⟩ 64
 rw [show ftext (n := 1) headV false ⟨#[101, 120, 112, 105, 114, 101, 115]⟩ 64 = (⟨#[49, 57, 55, 48, 45, 48, 49, 45, 48, 50, 84, 48, 48, 58, 48, 48, 58, 48, 48, 90]⟩, false) from ftext_pos (n := 1) (x := (textV ⟨#[49, 57, 55, 48, 45, 48, 49, 45, 48, 50, 84, 48, 48, 58, 48, 48, 58, 48, 48, 90]⟩ : VS (V 0))) (by kernel_rfl) rfl (by decide)] at h1
 exact h1
theorem head_ver {w : World} {g : Nat} (h : Fld 1 w g headV false) : Calls Tryz.prog 23 #[.pointer (some ⟨g, 0, none⟩), .string ⟨#[118, 101, 114, 115, 105, 111, 110]⟩, .int .i64 1, .int .i64 1099511627776] w fun e w' => e = .returned (.int .i64 3) ∧ Fld 1 w' g headV false ∧ Kept [g] w w' := by
 have h1 := fint_any h small_head ⟨#[118, 101, 114, 115, 105, 111, 110]⟩ 1 1099511627776
 rw [show fint (n := 1) headV false ⟨#[118, 101, 114, 115, 105, 111, 110]⟩ 1 1099511627776 = (3, false) from fint_pos (n := 1) (x := (intV 3 : VS (V 0))) (by kernel_rfl) rfl (by decide) (by decide)] at h1
 exact h1
theorem readHead_root {S : Nat → Prop} {w : World} {cs : List Value} (h : Rep 2 S w cs headV) (hm : MaxW w) : Calls Tryz.prog 34 #[.agg cs.toArray, .string ⟨#[114, 111, 111, 116]⟩] w fun e w' => e = .returned (.tuple #[.int .i64 3, .int .i64 86400, .int .i64 0]) ∧ Kept [] w w' := by
 obtain ⟨kd, nm, st, pa, la, ca, pb, lb, cb, rfl⟩ := h.conv
 obtain ⟨W0, Ga⟩ : ∃ W0, Hid (W0 = w.alloc (.cells #[.int .i64 kd, .int .i64 nm, .string st, .slice pa la ca, .slice pb lb cb] 28)) := ⟨_, qI rfl⟩
 have HK : Hid (Kept [] w W0) := qI (by rw [Ga.o]; exact (Kept.refl _ w).alloc _)
 have Gd : Hid (BoxAt W0 w.heap.size kd nm st (.slice pa la ca) (.slice pb lb cb)) := qI (by rw [Ga.o]; exact box_at _ _ _ _ _ _ _)
 have Ge : Hid (W0.heap.size = w.heap.size + 1) := qI (by rw [Ga.o]; simp)
 have CO : Hid (Calls Tryz.prog 37 #[.agg #[.int .i64 kd, .int .i64 nm, .string st, .slice pa la ca, .slice pb lb cb]] W0 fun e w' => (∃ g, W0.heap.size ≤ g ∧ e = .returned (.pointer (some ⟨g, 0, none⟩)) ∧ Fld 1 w' g headV false) ∧ Kept [] W0 w') := qI (roleOf_any (n := 1) (h.kept0 HK.o))
 have CP := qI parse_day
 have CU := qI (fun (w1 : World) (hk : Kept [] w w1) => understood_one (hm.kept0 hk))
 obtain ⟨hq1, hq2⟩ := str_eq (rfl : (⟨#[114, 111, 111, 116]⟩ : ByteArray) = ⟨#[114, 111, 111, 116]⟩)
 obtain ⟨y0, y1, y2, y3, y4⟩ := Gd.o
 clear h hm
 go_enter Tryz.func34, Tryz.ntmps34
 go_upto_region 1 with fail
 rw [← Ga.o]
 go_wp2_with first
  | (go_at_call 24; refine (head_exp Gx.o).mono ?_; rintro e w6 ⟨rfl, hf, hk⟩; have Gy := qI hf; have Gn := qI (Gp.o.trans hk (by have := Gg.o; have := Ge.o; intro i hi; simp at hi; subst hi; exact .inr (by omega))); clear hf hk)
  | (go_at_call 24; refine (head_spec Gz.o).mono ?_; rintro e w4 ⟨rfl, hf, hk⟩; have Ja := qI hf; have Jb := qI (Gj.o.trans hk (by have := Gg.o; have := Ge.o; intro i hi; simp at hi; subst hi; exact .inr (by omega))); clear hf hk)
  | (go_at_call 23; refine (head_ver Ja.o).mono ?_; rintro e w5 ⟨rfl, hf, hk⟩; have Gx := qI hf; have Gp := qI (Jb.o.trans hk (by have := Gg.o; have := Ge.o; intro i hi; simp at hi; subst hi; exact .inr (by omega))); clear hf hk)
  | (go_at_call 24; refine (head_type Jc.o).mono ?_; rintro e w3 ⟨rfl, hf, hk⟩; have Gz := qI hf; have Gj := qI (Gb.o.trans hk (by have := Gg.o; have := Ge.o; intro i hi; simp at hi; subst hi; exact .inr (by omega))); clear hf hk)
  | (go_at_call 80; refine (CU.o _ Gh.o).mono ?_; rintro e w8 ⟨rfl, hk⟩; have Gf := qI (Gh.o.then hk); clear hk)
  | (go_at_call 30; refine Jd.o.mono ?_; rintro e w9 ⟨rfl, rfl⟩)
  | (go_at_call 79; refine (CP.o _).mono ?_; rintro e w7 ⟨rfl, hk⟩; have Gh := qI (Gn.o.then hk); have Jd := qI (fdone_any (Gy.o.kept0 hk)); clear hk)
  | (go_at_call 37; refine CO.o.mono ?_; rintro e w2 ⟨⟨g1, hg1, rfl, hf⟩, hk⟩; have Gg := qI hg1; have Jc := qI hf; have Gb := qI (HK.o.then hk); clear hg1 hf hk y0 y1 y2 y3 y4)
 refine bodyPost_ret (v := .tuple #[.int .i64 3, .int .i64 86400, .int .i64 0]) (by simp [results, Tryz.results34, go_sem]) rfl ?_
 exact ⟨rfl, Gf.o⟩
theorem readHead_other {S : Nat → Prop} {w : World} {cs : List Value} (h : Rep 2 S w cs headV) (hm : MaxW w) : Calls Tryz.prog 34 #[.agg cs.toArray, .string ⟨#[111, 116, 104, 101, 114]⟩] w fun e w' => e = .returned (.tuple #[.int .i64 0, .int .i64 0, .int .i64 130]) ∧ Kept [] w w' := by
 obtain ⟨kd, nm, st, pa, la, ca, pb, lb, cb, rfl⟩ := h.conv
 obtain ⟨W0, Ga⟩ : ∃ W0, Hid (W0 = w.alloc (.cells #[.int .i64 kd, .int .i64 nm, .string st, .slice pa la ca, .slice pb lb cb] 28)) := ⟨_, qI rfl⟩
 have HK : Hid (Kept [] w W0) := qI (by rw [Ga.o]; exact (Kept.refl _ w).alloc _)
 have Gd : Hid (BoxAt W0 w.heap.size kd nm st (.slice pa la ca) (.slice pb lb cb)) := qI (by rw [Ga.o]; exact box_at _ _ _ _ _ _ _)
 have Ge : Hid (W0.heap.size = w.heap.size + 1) := qI (by rw [Ga.o]; simp)
 have CO : Hid (Calls Tryz.prog 37 #[.agg #[.int .i64 kd, .int .i64 nm, .string st, .slice pa la ca, .slice pb lb cb]] W0 fun e w' => (∃ g, W0.heap.size ≤ g ∧ e = .returned (.pointer (some ⟨g, 0, none⟩)) ∧ Fld 1 w' g headV false) ∧ Kept [] W0 w') := qI (roleOf_any (n := 1) (h.kept0 HK.o))
 have CP := qI parse_day
 have CU := qI (fun (w1 : World) (hk : Kept [] w w1) => understood_one (hm.kept0 hk))
 obtain ⟨hq1, hq2⟩ := str_ne (show (⟨#[114, 111, 111, 116]⟩ : ByteArray) ≠ ⟨#[111, 116, 104, 101, 114]⟩ by decide)
 obtain ⟨y0, y1, y2, y3, y4⟩ := Gd.o
 clear h hm
 go_enter Tryz.func34, Tryz.ntmps34
 go_upto_region 1 with fail
 rw [← Ga.o]
 go_wp2_with first
  | (go_at_call 24; refine (head_exp Gx.o).mono ?_; rintro e w6 ⟨rfl, hf, hk⟩; have Gy := qI hf; have Gn := qI (Gp.o.trans hk (by have := Gg.o; have := Ge.o; intro i hi; simp at hi; subst hi; exact .inr (by omega))); clear hf hk)
  | (go_at_call 24; refine (head_spec Gz.o).mono ?_; rintro e w4 ⟨rfl, hf, hk⟩; have Ja := qI hf; have Jb := qI (Gj.o.trans hk (by have := Gg.o; have := Ge.o; intro i hi; simp at hi; subst hi; exact .inr (by omega))); clear hf hk)
  | (go_at_call 23; refine (head_ver Ja.o).mono ?_; rintro e w5 ⟨rfl, hf, hk⟩; have Gx := qI hf; have Gp := qI (Jb.o.trans hk (by have := Gg.o; have := Ge.o; intro i hi; simp at hi; subst hi; exact .inr (by omega))); clear hf hk)
  | (go_at_call 24; refine (head_type Jc.o).mono ?_; rintro e w3 ⟨rfl, hf, hk⟩; have Gz := qI hf; have Gj := qI (Gb.o.trans hk (by have := Gg.o; have := Ge.o; intro i hi; simp at hi; subst hi; exact .inr (by omega))); clear hf hk)
  | (go_at_call 80; refine (CU.o _ Gh.o).mono ?_; rintro e w8 ⟨rfl, hk⟩; have Gf := qI (Gh.o.then hk); clear hk)
  | (go_at_call 30; refine Jd.o.mono ?_; rintro e w9 ⟨rfl, rfl⟩)
  | (go_at_call 79; refine (CP.o _).mono ?_; rintro e w7 ⟨rfl, hk⟩; have Gh := qI (Gn.o.then hk); have Jd := qI (fdone_any (Gy.o.kept0 hk)); clear hk)
  | (go_at_call 37; refine CO.o.mono ?_; rintro e w2 ⟨⟨g1, hg1, rfl, hf⟩, hk⟩; have Gg := qI hg1; have Jc := qI hf; have Gb := qI (HK.o.then hk); clear hg1 hf hk y0 y1 y2 y3 y4)
 refine bodyPost_ret (v := .tuple #[.int .i64 0, .int .i64 0, .int .i64 130]) (by simp [results, Tryz.results34, go_sem]) rfl ?_
 exact ⟨rfl, Gh.o⟩
theorem takes_eq {α : Type} {a b : List α} {k : Nat} (h : a.take k = b.take k) (ha : k < a.length) (hb : k < b.length) (he : a[k] = b[k]) : a.take (k + 1) = b.take (k + 1) := by
 rw [List.take_succ_eq_append_getElem ha, List.take_succ_eq_append_getElem hb, h, he]
theorem sameT_any {w : World} {a b : Option Addr} {c d : Nat} {la lb : List ByteArray} (ha : Texts w (.slice a la.length c) la) (hb : Texts w (.slice b lb.length d) lb) (hn : la.length ≤ 1000000000000) (hm : lb.length ≤ 1000000000000) :
  Calls Tryz.prog 69 #[.slice a la.length c, .slice b lb.length d] w fun e w' => e = .returned (.bool (decide (la = lb))) ∧ Kept [] w w' := by
 have HA := qI ha
 have HB := qI hb
 obtain ⟨n, Gs⟩ : ∃ n, Hid (la.length = n) := ⟨_, qI rfl⟩
 obtain ⟨m, Gt⟩ : ∃ m, Hid (lb.length = m) := ⟨_, qI rfl⟩
 rw [Gs.o] at hn HA ⊢
 rw [Gt.o] at hm HB ⊢
 have hnI : (n : Int) ≤ 1000000000000 := by omega
 have hmI : (m : Int) ≤ 1000000000000 := by omega
 clear ha hb
 by_cases hnm : n = m
 rotate_left
 ·have HE : Hid (decide (la = lb) = false) := qI (decide_eq_false (fun e => hnm (by rw [← Gs.o, ← Gt.o, e])))
  obtain ⟨f1, f2⟩ := int_ne (a := (n : Int)) (b := (m : Int)) (by omega)
  clear hnm hn hm
  go_enter Tryz.func69, Tryz.ntmps69
  go_wp2_with fail
  go_ret
  rw [HE.o]
  exact ⟨rfl, Kept.refl _ _⟩
 subst hnm
 clear hn hm
 go_enter Tryz.func69, Tryz.ntmps69
 go_wp2_with fail
 go_loopw [5] (fun i wr => ∃ k : Nat, i = .int .i64 k ∧ k ≤ n ∧ Hid (la.take k = lb.take k) ∧ Kept [] w wr) (fun i _ => n - (intOf i).toNat)
 case atStart => exact ⟨0, rfl, Nat.zero_le _, qI rfl, Kept.refl _ _⟩
 case round =>
  obtain ⟨k, rfl, hk, ht, hkw⟩ := hrel
  have Je := qI hkw
  by_cases hlt : k < n
  ·have hltI : (k : Int) < n := by omega
   have hka : k < la.length := by rw [Gs.o]; exact hlt
   have hkb : k < lb.length := by rw [Gt.o]; exact hlt
   obtain ⟨ga, oa, rfl, qa⟩ := Texts.at (l := la) (c := c) (by rw [Gs.o]; exact Texts.kept0 HA.o hkw) hka
   obtain ⟨gb, ob, rfl, qb⟩ := Texts.at (l := lb) (c := d) (by rw [Gt.o]; exact Texts.kept0 HB.o hkw) hkb
   have ea := ext_cell qa
   have eb := ext_cell qb
   have Jf := qI (takes_eq ht.o hka hkb)
   have Jg : Hid (la[k] ≠ lb[k] → decide (la = lb) = false) := qI (fun h => decide_eq_false (fun e => h (by subst e; rfl)))
   have Jo := qI hlt
   clear hk ht hkw qa qb
   revert ea eb Jf Jg
   generalize la[k] = x
   generalize lb[k] = y
   intro ea eb Jf Jg
   clear hlt hka hkb
   by_cases hxy : x = y
   ·obtain ⟨f1, f2⟩ := str_eq hxy
    have Jh := qI (Jf.o hxy)
    clear hxy
    go_wp2_with fail
    refine wp_region_ext wr (by kernel_rfl) (by kernel_rfl) (Kept.refl _ _) ?_
    repeat go_big_quiet_step (fail)
    refine wpQuiet_nil ?_
    intro w2 hk2
    clear ea eb
    go_wp2_with fail
    case roundEnd => exact ⟨⟨k + 1, by go_num, by have := Jo.o; omega, Jh, Je.o.then hk2⟩, by have := Jo.o; simp [intOf]; omega⟩
   ·obtain ⟨f1, f2⟩ := str_ne hxy
    have Jh := qI (Jg.o hxy)
    clear hxy
    go_wp2_with fail
    refine wp_region_ext wr (by kernel_rfl) (by kernel_rfl) (Kept.refl _ _) ?_
    repeat go_big_quiet_step (fail)
    refine wpQuiet_nil ?_
    intro w2 hk2
    clear ea eb
    go_wp2_with fail
    go_ret
    rw [Jh.o]
    exact ⟨rfl, Je.o.then hk2⟩
  ·obtain rfl : k = n := by omega
   have hltI : ¬ (k : Int) < k := by omega
   have HE : Hid (decide (la = lb) = true) := qI (decide_eq_true (by
    have h9 := ht.o
    rw [List.take_of_length_le (by rw [Gs.o]; exact Nat.le_refl _), List.take_of_length_le (by rw [Gt.o]; exact Nat.le_refl _)] at h9
    exact h9))
   clear hlt ht hkw hk
   go_wp2_with fail
   go_ret
   rw [HE.o]
   exact ⟨rfl, Je.o⟩
def sameRoleB (r s : RoleS) : Bool := decide (r.thr = s.thr) && decide (r.keys = s.keys)
theorem sameRole_any {w : World} {a b : Option Addr} {c d : Nat} {r s : RoleS} (ha : Texts w (.slice a r.keys.length c) r.keys) (hb : Texts w (.slice b s.keys.length d) s.keys) (hn : r.keys.length ≤ 1000000000000) (hm : s.keys.length ≤ 1000000000000) :
  Calls Tryz.prog 22 #[.agg #[.slice a r.keys.length c, .int .i64 r.thr], .agg #[.slice b s.keys.length d, .int .i64 s.thr]] w fun e w' => e = .returned (.bool (sameRoleB r s)) ∧ Kept [] w w' := by
 obtain ⟨W0, Ga⟩ : ∃ W0, Hid (W0 = (w.alloc (.cells #[.slice a r.keys.length c, .int .i64 r.thr] 43)).alloc (.cells #[.slice b s.keys.length d, .int .i64 s.thr] 43)) := ⟨_, qI rfl⟩
 have Gb : Hid (Kept [] w W0) := qI (by rw [Ga.o]; exact ((Kept.refl _ w).alloc _).alloc _)
 have Gd : Hid (W0.heap[w.heap.size]? = some (.cells #[.slice a r.keys.length c, .int .i64 r.thr] 43 (0, 0))) := qI (by rw [Ga.o]; exact ((Kept.refl [] _).alloc _).heap (block_alloc rfl) (by simp))
 have Jp : Hid (W0.heap[w.heap.size + 1]? = some (.cells #[.slice b s.keys.length d, .int .i64 s.thr] 43 (0, 0))) := qI (by rw [Ga.o]; exact block_alloc (by simp))
 have CT := qI (sameT_any (ha.kept0 Gb.o) (hb.kept0 Gb.o) hn hm)
 have y0 := cell_head (o := 0) (v := .slice a r.keys.length c) Gd.o rfl
 have y1 := cell_head (o := 1) (v := .int .i64 r.thr) Gd.o rfl
 have z0 := cell_head (o := 0) (v := .slice b s.keys.length d) Jp.o rfl
 have z1 := cell_head (o := 1) (v := .int .i64 s.thr) Jp.o rfl
 have HS : Hid (sameRoleB r s = (decide (r.thr = s.thr) && decide (r.keys = s.keys))) := qI rfl
 clear ha hb hn hm
 revert CT HS
 generalize decide (r.keys = s.keys) = q
 intro CT HS
 by_cases ht : r.thr = s.thr
 ·obtain ⟨f1, f2⟩ := int_eq ht
  rw [decide_eq_true ht] at HS
  clear ht
  go_enter Tryz.func22, Tryz.ntmps22
  go_upto_region 1 with fail
  rw [← Ga.o]
  go_wp2_with (go_at_call 69; refine CT.o.mono ?_; rintro e w1 ⟨rfl, hk1⟩; have Gj := qI hk1; clear hk1)
  go_ret
  exact ⟨by rw [HS.o]; rfl, Gb.o.then Gj.o⟩
 ·obtain ⟨f1, f2⟩ := int_ne ht
  rw [decide_eq_false ht] at HS
  clear ht
  go_enter Tryz.func22, Tryz.ntmps22
  go_upto_region 1 with fail
  rw [← Ga.o]
  go_wp2_with fail
  go_ret
  exact ⟨by rw [HS.o]; rfl, Gb.o⟩
end Go.Proofs.YtckbnjipecclaaaGreatDoor
namespace Go.Proofs
open Go.Shelf
def Tryz.keysA_ren : Go.Shelf.Ren := ⟨fun | 7 => 78 | 10 => 111 | n => n, fun | 23 => 106 | 26 => 9 | 3 => 24 | 28 => 109 | 0 => 0 | 27 => 108 | 33 => 57 | 4 => 4 | n => n, fun | n => n⟩
theorem Tryz.keysA : Go.Proofs.SlLaysZ.n7 Tryz.prog Tryz.keysA_ren := {
 mixed := by kernel_rfl
 f7 := ⟨Tryz.f78.name, by decide, Tryz.func78.trans (congrArg some (by kernel_rfl))⟩
 f10 := ⟨Tryz.f111.name, by decide, Tryz.func111.trans (congrArg some (by kernel_rfl))⟩
 t0 := Tryz.underlying0
 a0 := Tryz.isAgg0
 z0 := Tryz.sizeOf0
 v0 := Tryz.zeroValue0
 t4 := Tryz.underlying4
 a4 := Tryz.isAgg4
 z4 := Tryz.sizeOf4
 v4 := Tryz.zeroValue4
 t23 := Tryz.underlying106
 a23 := Tryz.isAgg106
 z23 := Tryz.sizeOf106
 v23 := Tryz.zeroValue106
 t26 := Tryz.underlying9
 a26 := Tryz.isAgg9
 z26 := Tryz.sizeOf9
 v26 := Tryz.zeroValue9
 t27 := Tryz.underlying108
 a27 := Tryz.isAgg108
 z27 := Tryz.sizeOf108
 v27 := Tryz.zeroValue108
 t28 := Tryz.underlying109
 a28 := Tryz.isAgg109
 z28 := Tryz.sizeOf109
 v28 := Tryz.zeroValue109
 t33 := Tryz.underlying57
 a33 := Tryz.isAgg57
 z33 := Tryz.sizeOf57
 v33 := Tryz.zeroValue57 }
def Tryz.sortedA_ren : Go.Shelf.Ren := ⟨fun | 6 => 77 | 8 => 109 | 9 => 110 | 11 => 146 | 13 => 148 | 12 => 147 | 23 => 190 | 24 => 191 | 14 => 181 | 15 => 182 | 16 => 183 | 17 => 184 | 18 => 185 | 19 => 186 | 20 => 187 | 21 => 188 | 22 => 189 | 25 => 210 | 26 => 211 | 27 => 212 | 28 => 213 | 29 => 214 | 30 => 160 | 31 => 227 | n => n, fun | 26 => 9 | 28 => 109 | 24 => 41 | 0 => 0 | 3 => 3 | 37 => 125 | 48 => 139 | 50 => 225 | 4 => 4 | 40 => 217 | 39 => 216 | 45 => 221 | 5 => 5 | 9 => 9 | 51 => 235 | 55 => 239 | 57 => 249 | 58 => 164 | 33 => 57 | n => n, fun | n => n⟩
theorem Tryz.sortedA : Go.Proofs.SlLaysZ.n6 Tryz.prog Tryz.sortedA_ren := {
 mixed := by kernel_rfl
 f6 := ⟨Tryz.f77.name, by decide, Tryz.func77.trans (congrArg some (by kernel_rfl))⟩
 f8 := ⟨Tryz.f109.name, by decide, Tryz.func109.trans (congrArg some (by kernel_rfl))⟩
 f11 := ⟨Tryz.f146.name, by decide, Tryz.func146.trans (congrArg some (by kernel_rfl))⟩
 t0 := Tryz.underlying0
 a0 := Tryz.isAgg0
 z0 := Tryz.sizeOf0
 v0 := Tryz.zeroValue0
 t24 := Tryz.underlying41
 a24 := Tryz.isAgg41
 z24 := Tryz.sizeOf41
 v24 := Tryz.zeroValue41
 t26 := Tryz.underlying9
 a26 := Tryz.isAgg9
 z26 := Tryz.sizeOf9
 v26 := Tryz.zeroValue9
 t28 := Tryz.underlying109
 a28 := Tryz.isAgg109
 z28 := Tryz.sizeOf109
 v28 := Tryz.zeroValue109
 i26 := by kernel_rfl }
def Tryz.sortA_ren : Go.Shelf.Ren := ⟨fun | 6 => 110 | 8 => 148 | 9 => 147 | 19 => 190 | 20 => 191 | 21 => 181 | 22 => 182 | 23 => 183 | 24 => 184 | 25 => 185 | 26 => 186 | 27 => 187 | 28 => 188 | 29 => 189 | 36 => 210 | 31 => 211 | 32 => 212 | 37 => 213 | 38 => 214 | 39 => 160 | 41 => 227 | n => n, fun | 27 => 41 | 29 => 9 | 3 => 3 | 32 => 125 | 26 => 41 | 0 => 0 | 44 => 139 | 46 => 225 | 4 => 4 | 36 => 217 | 35 => 216 | 41 => 221 | 5 => 5 | 9 => 9 | 53 => 235 | 57 => 239 | 63 => 249 | 64 => 164 | n => n, fun | n => n⟩
theorem Tryz.sortA : Go.Proofs.SlLaysM.n6 Tryz.prog Tryz.sortA_ren := {
 mixed := by kernel_rfl
 f6 := ⟨Tryz.f110.name, by decide, Tryz.func110.trans (congrArg some (by kernel_rfl))⟩
 f8 := Tryz.func148.trans (congrArg some (by kernel_rfl))
 f9 := ⟨Tryz.f147.name, by decide, Tryz.func147.trans (congrArg some (by kernel_rfl))⟩
 f19 := Tryz.func190.trans (congrArg some (by kernel_rfl))
 f20 := Tryz.func191.trans (congrArg some (by kernel_rfl))
 f21 := ⟨Tryz.f181.name, by decide, Tryz.func181.trans (congrArg some (by kernel_rfl))⟩
 f22 := ⟨Tryz.f182.name, by decide, Tryz.func182.trans (congrArg some (by kernel_rfl))⟩
 f23 := ⟨Tryz.f183.name, by decide, Tryz.func183.trans (congrArg some (by kernel_rfl))⟩
 f24 := ⟨Tryz.f184.name, by decide, Tryz.func184.trans (congrArg some (by kernel_rfl))⟩
 f25 := ⟨Tryz.f185.name, by decide, Tryz.func185.trans (congrArg some (by kernel_rfl))⟩
 f26 := ⟨Tryz.f186.name, by decide, Tryz.func186.trans (congrArg some (by kernel_rfl))⟩
 f27 := ⟨Tryz.f187.name, by decide, Tryz.func187.trans (congrArg some (by kernel_rfl))⟩
 f28 := ⟨Tryz.f188.name, by decide, Tryz.func188.trans (congrArg some (by kernel_rfl))⟩
 f29 := ⟨Tryz.f189.name, by decide, Tryz.func189.trans (congrArg some (by kernel_rfl))⟩
 f31 := Tryz.func211.trans (congrArg some (by kernel_rfl))
 f32 := Tryz.func212.trans (congrArg some (by kernel_rfl))
 f36 := ⟨Tryz.f210.name, by decide, Tryz.func210.trans (congrArg some (by kernel_rfl))⟩
 f37 := ⟨Tryz.f213.name, by decide, Tryz.func213.trans (congrArg some (by kernel_rfl))⟩
 f38 := ⟨Tryz.f214.name, by decide, Tryz.func214.trans (congrArg some (by kernel_rfl))⟩
 f39 := ⟨Tryz.f160.name, by decide, Tryz.func160.trans (congrArg some (by kernel_rfl))⟩
 f41 := ⟨Tryz.f227.name, by decide, Tryz.func227.trans (congrArg some (by kernel_rfl))⟩
 t0 := Tryz.underlying0
 a0 := Tryz.isAgg0
 z0 := Tryz.sizeOf0
 v0 := Tryz.zeroValue0
 t3 := Tryz.underlying3
 a3 := Tryz.isAgg3
 z3 := Tryz.sizeOf3
 v3 := Tryz.zeroValue3
 t4 := Tryz.underlying4
 a4 := Tryz.isAgg4
 z4 := Tryz.sizeOf4
 v4 := Tryz.zeroValue4
 t5 := Tryz.underlying5
 a5 := Tryz.isAgg5
 z5 := Tryz.sizeOf5
 v5 := Tryz.zeroValue5
 t9 := Tryz.underlying9
 a9 := Tryz.isAgg9
 z9 := Tryz.sizeOf9
 v9 := Tryz.zeroValue9
 t26 := Tryz.underlying41
 a26 := Tryz.isAgg41
 z26 := Tryz.sizeOf41
 v26 := Tryz.zeroValue41
 t27 := Tryz.underlying41
 a27 := Tryz.isAgg41
 z27 := Tryz.sizeOf41
 v27 := Tryz.zeroValue41
 t29 := Tryz.underlying9
 a29 := Tryz.isAgg9
 z29 := Tryz.sizeOf9
 v29 := Tryz.zeroValue9
 t32 := Tryz.underlying125
 a32 := Tryz.isAgg125
 z32 := Tryz.sizeOf125
 v32 := Tryz.zeroValue125
 t35 := Tryz.underlying216
 a35 := Tryz.isAgg216
 z35 := Tryz.sizeOf216
 v35 := Tryz.zeroValue216
 t36 := Tryz.underlying217
 a36 := Tryz.isAgg217
 z36 := Tryz.sizeOf217
 v36 := Tryz.zeroValue217
 t41 := Tryz.underlying221
 a41 := Tryz.isAgg221
 z41 := Tryz.sizeOf221
 v41 := Tryz.zeroValue221
 t44 := Tryz.underlying139
 a44 := Tryz.isAgg139
 z44 := Tryz.sizeOf139
 v44 := Tryz.zeroValue139
 t46 := Tryz.underlying225
 a46 := Tryz.isAgg225
 z46 := Tryz.sizeOf225
 v46 := Tryz.zeroValue225
 t53 := Tryz.underlying235
 a53 := Tryz.isAgg235
 z53 := Tryz.sizeOf235
 v53 := Tryz.zeroValue235
 t57 := Tryz.underlying239
 a57 := Tryz.isAgg239
 z57 := Tryz.sizeOf239
 v57 := Tryz.zeroValue239
 t63 := Tryz.underlying249
 a63 := Tryz.isAgg249
 z63 := Tryz.sizeOf249
 v63 := Tryz.zeroValue249
 t64 := Tryz.underlying164
 a64 := Tryz.isAgg164
 z64 := Tryz.sizeOf164
 v64 := Tryz.zeroValue164 }
end Go.Proofs
namespace Go.Proofs.YtckbnjipecclaaaGreatDoor
open Go.RowKit
open Go.Maps (Keyed)
def MapIs (P : Program) (w : World) (k b c : Nat) (M : Lit → Option Value) : Prop :=
 ∃ D, w.ownsMap P k heldE b c D ∧ Maps.size D = c ∧ ∀ kl, M kl = look D kl ∧ (Maps.has D kl = (M kl).isSome)
section
variable {P : Program} {w : World} {k b c : Nat} {M : Lit → Option Value}
theorem MapIs.at (h : MapIs P w k b c M) : MapAt P w k b c M := by
 obtain ⟨D, h1, -, h3⟩ := h
 exact ⟨D, h1, h3⟩
theorem MapIs.kept {X : List Nat} {w' : World} (h : MapIs P w k b c M) (hk : Kept X w w') (hb : b ∉ X) : MapIs P w' k b c M := by
 obtain ⟨D, ⟨es, clock, h1, h2⟩, hs, h3⟩ := h
 exact ⟨D, ⟨es, clock, hk.heap h1 hb, h2⟩, hs, h3⟩
theorem MapIs.kept0 {w' : World} (h : MapIs P w k b c M) (hk : Kept [] w w') : MapIs P w' k b c M := h.kept hk (List.not_mem_nil)
theorem mapIs_made (P : Program) (w : World) (k : Nat) : MapIs P (w.alloc (.map #[] 0)) k w.heap.size 0 (fun _ => none) :=
 ⟨.map [], World.ownsMap_made _ _ _ _, rfl, fun kl => ⟨by simp [look, DataW.atKey], by simp [Maps.has]⟩⟩
theorem turned_kept {w' : World} (h : w.mapTurned w' b) : Kept [b] w w' ∧ w'.heap.size = w.heap.size := by
 refine ⟨(Kept.refl _ _).grown h.grown (fun k e => by simp at e; simp [e]), ?_⟩
 obtain ⟨_, _, _, _, _, rfl⟩ := h
 simp [Go.ChangeMaps.setBlock]
theorem MapIs.update {t e : TypeId} (h : MapIs P w k b c M) (K : Keyed P k) (ht : P.underlying t = some (.map k e)) (hn : c < maxLen) {key : Value} {kl : Lit} (hkey : keyOf P k key = some kl) (val : Value) :
  ∃ w', (Instr.mapUpdate t (.map (some b)) key val).run P w = .ok () w' ∧ MapIs P w' k b (if (M kl).isSome then c else c + 1) (fun z => if z.sameKey kl then some val else M z) ∧ Kept [b] w w' ∧ w'.heap.size = w.heap.size := by
 obtain ⟨D, hown, hs, h3⟩ := h
 obtain ⟨w', hrun, r1, r2⟩ := hown.store K ht hn hkey (val := val) (R := heldE) (d := .held val) (ps := []) rfl
 have hsz := Maps.size_put (k := kl) (hown.tidy K) (.held val)
 rw [(h3 kl).2, hs] at hsz
 obtain ⟨k1, k2⟩ := turned_kept r2
 refine ⟨w', hrun, ⟨_, ?_, hsz, ?_⟩, k1, k2⟩
 ·obtain ⟨es, clock, hb, F, hle, e1⟩ := r1
  refine ⟨es, clock, hb, F, ?_, e1⟩
  rw [e1] at hsz
  rw [← hsz]
  simp [Maps.size, Go.length_sorted]
 ·intro z
  show (if z.sameKey kl then some val else M z) = look (D.put kl (.held val)) z ∧ Maps.has (D.put kl (.held val)) z = (if z.sameKey kl then some val else M z).isSome
  by_cases hz : z.sameKey kl = true
  ·have hz' := WideAt.sameKey_eq hz
   subst hz'
   rw [if_pos hz]
   refine ⟨?_, Maps.has_put_same hown.isMap (isKey_of K hkey) _⟩
   rw [look, Maps.atKey_put_same hown.isMap (isKey_of K hkey)]
  ·have hne : z ≠ kl := by
    intro e
    subst e
    exact hz (WideAt.sameKey_self (isKey_of K hkey))
   rw [if_neg hz]
   exact ⟨by rw [look, Maps.atKey_put_other hne]; exact (h3 z).1, by rw [Maps.has_put_other hne]; exact (h3 z).2⟩
end
open Go.RowKit Go.Maps Go.Sort Go.Shelf Go.WideElems Go.WideShapes
theorem sortsK (m : Nat) : AnyZ.SortsIn Tryz.prog Tryz.sortedA_ren Fence.wide m :=
 ⟨fun blk off cap ss W hH hblk hsz => callsIn_wide.2 (AnyM.slices_Sort_string Tryz.sortA blk off cap ss W hH hblk hsz),
  fun p cap W => callsIn_wide.2 (AnyM.slices_Sort_string_none Tryz.sortA p cap W)⟩
def oneM (x : List UInt8) (v : Value) : Lit → Option Value := fun z => if z.sameKey (.string x) = true then some v else none
theorem one_perm {w : World} {mb cnt : Nat} {D : DataW Value} {x : List UInt8} {v : Value} (hown : w.ownsMap Tryz.prog 9 heldE mb cnt D) (hD : ∀ kl, oneM x v kl = look D kl ∧ (Maps.has D kl = (oneM x v kl).isSome)) : [x].Perm (strKeys D) := by
 obtain ⟨es, rfl, hp, _⟩ := hown.entries keyStr
 obtain ⟨es', clock, _, F, hs, hDD⟩ := hown
 have hk : ∀ p ∈ es, ∃ x, p.1 = Lit.string x := by
  intro p hp'
  have e : es = (es'.toList.map (rg Tryz.prog 9 heldE)).foldr DataW.insert [] := DataW.map.inj hDD
  rw [e] at hp'
  obtain ⟨x, hx, rfl⟩ := List.mem_map.1 (mem_sorted.1 hp')
  obtain ⟨y, hy⟩ := F.reads x hx
  rw [rg_of hy]
  obtain ⟨n, _, h2, _⟩ := Maps.keyOf_str Tryz.underlying9 (rd_key hy)
  exact ⟨n, h2⟩
 refine perm_strKeys hp hk (List.nodup_cons.2 ⟨List.not_mem_nil, List.nodup_nil⟩) fun y => ?_
 rw [(hD _).2]
 unfold oneM
 rw [sameStr]
 by_cases e : y = x <;> simp [e]
theorem keysOne_any {w : World} {mb : Nat} {id : ByteArray} {v : Value} (h : MapIs Tryz.prog w 9 mb 1 (oneM id.data.toList v)) :
  (Calls Tryz.prog 78 #[.map (some mb)] w fun e w' => e = .returned (.func (.func 111) #[] #[.pointer (some ⟨w.heap.size, 0, none⟩)]) ∧ w' = w.alloc (.cells #[.map (some mb)] 106)) ∧
  Calls Tryz.prog 77 #[.func (.func 111) #[] #[.pointer (some ⟨w.heap.size, 0, none⟩)]] (w.alloc (.cells #[.map (some mb)] 106)) fun e w' => ∃ a c, e = .returned (.slice a 1 c) ∧ Slc w' 1 (.slice a 1 c) 1 [.string id] ∧ Kept [] w w' := by
 obtain ⟨D, hown, hsz, hD⟩ := h
 have hperm := one_perm hown hD
 have hbl := hown.lt
 have hseq : SeqGives Fence.wide 2 Tryz.prog 111 #[.pointer (some ⟨w.heap.size, 0, none⟩)] encStr (fun ss => ss.Perm (strKeys D)) (Maps.size D) (w.alloc (.cells #[.map (some mb)] 106)) :=
  AnyZ.keys_gives (ρ := Tryz.keysA_ren) { Tryz.keysA with } Fence.wide _ trivial rfl (by omega) w.heap.size mb 1 D _ (by simp) (by simp) (by
   obtain ⟨es, clock, hb, Ft, hs, hDD⟩ := hown
   exact ⟨es, clock, (Below.heap_alloc _ _ mb hbl).trans hb, Ft, hs, hDD⟩)
 refine ⟨callsIn_wide.1 (AnyZ.keys_in Tryz.keysA Fence.wide 5 trivial rfl (some mb) w), ?_⟩
 have cS := AnyZ.sorted_in Tryz.sortedA Fence.wide 5 trivial trivial trivial trivial rfl (by omega) (sortsK _) (enters_of Tryz.func110 (by kernel_rfl) rfl) 111 #[.pointer (some ⟨w.heap.size, 0, none⟩)] trivial (enters_of Tryz.func111 (by kernel_rfl) rfl) _ _ (by rw [hsz]; simp only [maxLen]; omega) (by rw [hsz]; omega) _ hseq
 change CallsIn _ _ Tryz.prog 77 _ _ _ at cS
 refine (callsIn_wide.1 cS).mono ?_
 rintro e w1 ⟨v, ss, rfl, hS, hrow, hnil, hb⟩
 have e0 : [id.data.toList].mergeSort leB = [id.data.toList] := by simp
 have e1 : ss.mergeSort leB = [id.data.toList] := (mergeSort_of_perm (hS.trans hperm.symm)).trans e0
 have e2 : ss.length = 1 := (hS.trans hperm.symm).length_eq
 rw [show (fun x y : List UInt8 => decide (x ≤ y)) = leB from rfl, e1, e2] at hrow
 obtain ⟨va, vc, rfl, -, -⟩ := (Slc.of_row hrow).form
 have hs2 := Slc.of_row hrow
 have e3 : [id.data.toList].map encStr = [Value.string id] := by
  show [Value.string ⟨id.data.toList.toArray⟩] = _
  cases id; simp
 rw [e3] at hs2
 exact ⟨va, vc, rfl, hs2, ((Kept.refl [] w).alloc _).then (Kept.of_below (hb.mono (by simp)))⟩
theorem tyRows : SliceTy Tryz.prog 66 65 35 64 (.agg (rowL ⟨#[]⟩ zeroKey).toArray) := ⟨Tryz.underlying66, by kernel_rfl, by kernel_rfl, by decide⟩
theorem list32 {α : Type} (r : List α) (h : r.length = 32) : ∃ x0 x1 x2 x3 x4 x5 x6 x7 x8 x9 x10 x11 x12 x13 x14 x15 x16 x17 x18 x19 x20 x21 x22 x23 x24 x25 x26 x27 x28 x29 x30 x31 : α, r = [x0, x1, x2, x3, x4, x5, x6, x7, x8, x9, x10, x11, x12, x13, x14, x15, x16, x17, x18, x19, x20, x21, x22, x23, x24, x25, x26, x27, x28, x29, x30, x31] := by
 rcases r with _ | ⟨x0, r⟩
 ·simp at h
 rcases r with _ | ⟨x1, r⟩
 ·simp at h
 rcases r with _ | ⟨x2, r⟩
 ·simp at h
 rcases r with _ | ⟨x3, r⟩
 ·simp at h
 rcases r with _ | ⟨x4, r⟩
 ·simp at h
 rcases r with _ | ⟨x5, r⟩
 ·simp at h
 rcases r with _ | ⟨x6, r⟩
 ·simp at h
 rcases r with _ | ⟨x7, r⟩
 ·simp at h
 rcases r with _ | ⟨x8, r⟩
 ·simp at h
 rcases r with _ | ⟨x9, r⟩
 ·simp at h
 rcases r with _ | ⟨x10, r⟩
 ·simp at h
 rcases r with _ | ⟨x11, r⟩
 ·simp at h
 rcases r with _ | ⟨x12, r⟩
 ·simp at h
 rcases r with _ | ⟨x13, r⟩
 ·simp at h
 rcases r with _ | ⟨x14, r⟩
 ·simp at h
 rcases r with _ | ⟨x15, r⟩
 ·simp at h
 rcases r with _ | ⟨x16, r⟩
 ·simp at h
 rcases r with _ | ⟨x17, r⟩
 ·simp at h
 rcases r with _ | ⟨x18, r⟩
 ·simp at h
 rcases r with _ | ⟨x19, r⟩
 ·simp at h
 rcases r with _ | ⟨x20, r⟩
 ·simp at h
 rcases r with _ | ⟨x21, r⟩
 ·simp at h
 rcases r with _ | ⟨x22, r⟩
 ·simp at h
 rcases r with _ | ⟨x23, r⟩
 ·simp at h
 rcases r with _ | ⟨x24, r⟩
 ·simp at h
 rcases r with _ | ⟨x25, r⟩
 ·simp at h
 rcases r with _ | ⟨x26, r⟩
 ·simp at h
 rcases r with _ | ⟨x27, r⟩
 ·simp at h
 rcases r with _ | ⟨x28, r⟩
 ·simp at h
 rcases r with _ | ⟨x29, r⟩
 ·simp at h
 rcases r with _ | ⟨x30, r⟩
 ·simp at h
 rcases r with _ | ⟨x31, r⟩
 ·simp at h
 rcases r with _ | ⟨y, r⟩
 ·exact ⟨x0, x1, x2, x3, x4, x5, x6, x7, x8, x9, x10, x11, x12, x13, x14, x15, x16, x17, x18, x19, x20, x21, x22, x23, x24, x25, x26, x27, x28, x29, x30, x31, rfl⟩
 ·simp at h
theorem built_row {id : ByteArray} {k : KeyS} (h : k.root.length = 32) : Tryz.prog.built 65 [(0, .string id), (1, .agg (keyA k))] = some (rowL id k).toArray := by
 obtain ⟨b, hh, r⟩ := k
 obtain ⟨x0, x1, x2, x3, x4, x5, x6, x7, x8, x9, x10, x11, x12, x13, x14, x15, x16, x17, x18, x19, x20, x21, x22, x23, x24, x25, x26, x27, x28, x29, x30, x31, rfl⟩ := list32 r h
 kernel_rfl
theorem filled_row {id : ByteArray} {k : KeyS} (h : k.root.length = 32) (z : Value) : Instr.fill (fun i => some (i * 35, 35)) ((Array.range (1 * 35)).map (z.cells[· % z.cells.size]!)) [(0, .agg (rowL id k).toArray)] = some (rowL id k).toArray := by
 have hs : (rowL id k).toArray.size = 35 := by simp [rowL_len h]
 obtain ⟨r, h1, h2, h3⟩ := Go.Great.fill_dense (s := 35) (by decide) [.agg (rowL id k).toArray] 0 ((Array.range (1 * 35)).map (z.cells[· % z.cells.size]!)) (by intro v hv; simp only [List.mem_singleton] at hv; subst hv; exact hs) (by simp)
 refine h1.trans (congrArg some (Array.ext_getElem? fun i => ?_))
 rw [h3 i]
 by_cases hi : i < 35
 ·rw [if_pos (by simp; omega), show i / 35 - 0 = 0 by omega, show i % 35 = i by omega]
  rfl
 ·rw [if_neg (by simp; omega), Array.getElem?_eq_none (by rw [Array.size_map, Array.size_range]; omega), Array.getElem?_eq_none (by rw [hs]; omega)]
theorem wpList_buildRow {ops : Array Oper} {rest : List Oper} {op : Oper} {a : Act} {w : World} {Q : Exit → Act → World → Prop} (hgd : op.guard = none) (x y : Operand) (ho : op.op = .build 65 #[(0, x), (1, y)]) {id : ByteArray} {k : KeyS} (hl : k.root.length = 32)
  (hx : a.eval x = .string id) (hy : a.eval y = .agg (keyA k)) (h : wpList Tryz.prog ops Q rest (a.put op.dst (.agg (rowL id k).toArray)) w) : wpList Tryz.prog ops Q (op :: rest) a w := by
 refine wpList_plain hgd fun K hK => ?_
 unfold Oper.wp execOp
 simp only [ho, Sem.run_bind, List.map_toArray, List.map_cons, List.map_nil, hx, hy]
 rw [run_build w _ _ (rowL id k).toArray (built_row hl)]
 exact hK _ _ h
theorem wpList_sliceRow {ops : Array Oper} {rest : List Oper} {op : Oper} {a : Act} {w : World} {Q : Exit → Act → World → Prop} (hgd : op.guard = none) (x : Operand) (ho : op.op = .buildSlice 66 1 #[(0, x)]) {id : ByteArray} {k : KeyS} (hl : k.root.length = 32)
  (hx : a.eval x = .agg (rowL id k).toArray) (h : wpList Tryz.prog ops Q rest (a.put op.dst (.slice (some ⟨w.heap.size, 0, none⟩) 1 1)) (w.alloc (.cells (rowL id k).toArray 65))) : wpList Tryz.prog ops Q (op :: rest) a w := by
 obtain ⟨ie, hie⟩ : ∃ ie, Tryz.prog.info? 65 = some ie := Option.isSome_iff_exists.1 (by kernel_rfl)
 have hsz : ie.size = 35 := by
  have := info35
  rw [hie] at this
  simpa using this
 obtain ⟨z, hz⟩ : ∃ z, ie.zero = some z := by
  have h1 : ((Tryz.prog.info? 65).bind (·.zero)).isSome = true := by kernel_rfl
  rw [hie] at h1
  exact Option.isSome_iff_exists.1 h1
 exact wpList_buildSlice hgd _ _ 1 #[(0, x)] ho (rowL id k).toArray ie z Tryz.underlying66 hie hz (by rw [hsz]; decide) (by rw [hsz]; decide) (by
  have h1 := filled_row (id := id) hl z
  simp only [List.map_toArray, List.map_cons, List.map_nil, hx, hsz]
  exact h1) h
theorem readKeys1_any {S : Nat → Prop} {w : World} {cs : List Value} {k : KeyS} (h : Rep 4 S w cs (rowsV (keyIdS k) (keyV k))) (hm : mayKey k = true) (hr : k.root.length = 32) (ht : Tabs w) (hks : KsAt w) :
  Calls Tryz.prog 33 #[.agg cs.toArray] w fun e w' => (∃ g o c, e = .returned (.tuple #[.slice (some ⟨g, o, none⟩) 1 c, .int .i64 0]) ∧ w'.rangeAt g o (rowL (keyIdS k) k)) ∧ Kept [] w w' := by
 have Gq := qI hr
 have CI : Hid (∀ w1, Kept [] w w1 → Calls Tryz.prog 14 #[.agg (keyA k)] w1 fun e w' => e = .returned (.string (keyIdS k)) ∧ Kept [] w1 w') := qI (fun w1 hk => keyId_any k (may_wf hm).1 hr w1 (ht.kept0 hk) (hks.kept0 hk))
 have CR : Hid (∀ w1 cs1, Rep 3 (fun _ => True) w1 cs1 (keyV k) → Calls Tryz.prog 9 #[.agg cs1.toArray] w1 fun e w' => e = .returned (.tuple #[.agg (keyA k), .int .i64 0]) ∧ Kept [] w1 w') := qI (fun w1 cs1 h1 => (readKey_any (n := 1) h1 (small_key k hr)).mono fun e w' ⟨h2, h3⟩ => ⟨by rw [readKey_keyV hm hr] at h2; exact h2, h3⟩)
 have Gv : Hid ((keyIdS k).size = 64) := qI (idS_size hm)
 clear hm hr ht hks
 revert h CI CR Gv
 generalize keyV k = X
 generalize keyIdS k = id
 intro h CI CR Gv
 obtain ⟨vl, vm, lcs, mcs, ho⟩ := h
 obtain ⟨pa, ca, gq, dm, rfl, rfl, rfl⟩ := ho.forms
 obtain ⟨z, rfl⟩ := List.length_eq_one_iff.1 (show mcs.length = 1 from ho.allm.1)
 obtain ⟨zk, zc⟩ := z
 obtain ⟨hz, hrp⟩ := ho.allm.2 0 (zk, zc) (id, X) rfl rfl
 obtain rfl : zk = id := hz
 have hrp2 : Rep 3 (fun _ => True) w zc X := Rep.mono hrp (fun _ _ _ => trivial)
 obtain ⟨k3, m3, s3, p3, i3, c3, q3, j3, e3, rfl⟩ := hrp2.conv
 have Jv := qI hrp2
 obtain ⟨gm, om, rfl, hrg⟩ : ∃ gm om, gq = some ⟨gm, om, none⟩ ∧ w.rangeAt gm om [.string zk, .int .i64 k3, .int .i64 m3, .string s3, .slice p3 i3 c3, .slice q3 j3 e3] := by
  rcases ho.slcm.2 with ⟨h1, -⟩ | ⟨h1, -⟩ | ⟨g', o', cap, h1, -, -, h2, -⟩
  ·simp [rowsV, mapV] at h1
  ·simp [rowsV, mapV] at h1
  ·simp only [Value.slice.injEq] at h1
   exact ⟨g', o', h1.1, h2⟩
 have Jw := qI hrg
 clear ho hrp hrp2 hrg
 change Calls _ _ #[.agg #[.int .i64 6, .int .i64 0, .string ⟨#[]⟩, .slice pa 0 ca, .slice (some ⟨gm, om, none⟩) 1 dm]] _ _
 obtain ⟨W0, Ga⟩ : ∃ W0, Hid (W0 = w.alloc (.cells #[.int .i64 6, .int .i64 0, .string ⟨#[]⟩, .slice pa 0 ca, .slice (some ⟨gm, om, none⟩) 1 dm] 28)) := ⟨_, qI rfl⟩
 have Gb : Hid (Kept [] w W0) := qI (by rw [Ga.o]; exact (Kept.refl _ w).alloc _)
 have Gd : Hid (W0.heap[w.heap.size]? = some (.cells #[.int .i64 6, .int .i64 0, .string ⟨#[]⟩, .slice pa 0 ca, .slice (some ⟨gm, om, none⟩) 1 dm] 28 (0, 0))) := qI (by rw [Ga.o]; exact block_alloc rfl)
 have Ge : Hid (W0.heap.size = w.heap.size + 1) := qI (by rw [Ga.o]; simp)
 have hmm := @run_makeMap Tryz.prog
 obtain ⟨W1, Gw⟩ : ∃ W1, Hid (W1 = W0.alloc (.map #[] 0)) := ⟨_, qI rfl⟩
 have Gj : Hid (Kept [] W0 W1) := qI (by rw [Gw.o]; exact (Kept.refl _ _).alloc _)
 have Jx : Hid (MapIs Tryz.prog W1 9 W0.heap.size 0 (fun _ => none)) := qI (by rw [Gw.o]; exact mapIs_made _ _ _)
 have Mf : Hid (W1.heap.size = W0.heap.size + 1) := qI (by rw [Gw.o]; simp)
 have b0 := cell_head (o := 0) (v := .int .i64 6) Gd.o rfl
 have b4 := cell_head (o := 4) (v := .slice (some ⟨gm, om, none⟩) 1 dm) Gd.o rfl
 go_enter Tryz.func33, Tryz.ntmps33
 go_upto_region 1 with fail
 rw [← Ga.o]
 go_upto_region 4 with fail
 rw [← Gw.o]
 clear b0 b4 hmm
 have b4 := Gj.o.cell (cell_head (o := 4) (v := .slice (some ⟨gm, om, none⟩) 1 dm) Gd.o rfl) (by simp)
 go_wp2_with fail
 clear b4
 go_loopw [6, 7, 8, 9, 10, 27] (fun _ _ _ _ _ i wr => (i = .int .i64 0 ∧ MapIs Tryz.prog wr 9 W0.heap.size 0 (fun _ => none) ∧ Kept [] W0 wr) ∨ (i = .int .i64 1 ∧ MapIs Tryz.prog wr 9 W0.heap.size 1 (oneM zk.data.toList (.agg (keyA k))) ∧ Kept [] W0 wr)) (fun _ _ _ _ _ i _ => 1 - (intOf i).toNat)
 case atStart => exact .inl ⟨rfl, Jx.o, Gj.o⟩
 case round =>
  rcases hrel with ⟨rfl, hmp, hkr⟩ | ⟨rfl, hmp, hkr⟩
  ·have Ji := qI hmp
   have Gr := qI hkr
   clear hmp hkr
   have Gc : Hid (wr.rangeAt gm om [.string zk, .int .i64 k3, .int .i64 m3, .string s3, .slice p3 i3 c3, .slice q3 j3 e3]) := qI (fun j v hv => (Gb.o.then Gr.o).cell (Jw.o j v hv) (by simp))
   have q0 : wr.cell? ⟨gm, om, none⟩ = some (.string zk) := Gc.o 0 (.string zk) rfl
   have q1 := Gc.o 1 (.int .i64 k3) rfl
   have q2 := Gc.o 2 (.int .i64 m3) rfl
   have q3' := Gc.o 3 (.string s3) rfl
   have q4 := Gc.o 4 (.slice p3 i3 c3) rfl
   have q5 := Gc.o 5 (.slice q3 j3 e3) rfl
   obtain ⟨wb, Jj⟩ : ∃ wb, Hid (wb = wr.alloc (.cells #[.string zk, .int .i64 k3, .int .i64 m3, .string s3, .slice p3 i3 c3, .slice q3 j3 e3] 78)) := ⟨_, qI rfl⟩
   have Jq : Hid (Kept [] wr wb) := qI (by rw [Jj.o]; exact (Kept.refl _ _).alloc _)
   have Gk : Hid (wb.heap[wr.heap.size]? = some (.cells #[.string zk, .int .i64 k3, .int .i64 m3, .string s3, .slice p3 i3 c3, .slice q3 j3 e3] 78 (0, 0))) := qI (by rw [Jj.o]; exact block_alloc rfl)
   go_upto_region 7 with fail
   rw [← Jj.o]
   clear q0 q1 q2 q3' q4 q5
   have p0 := cell_head (o := 0) (v := .string zk) Gk.o rfl
   have p1 := cell_head (o := 1) (v := .int .i64 k3) Gk.o rfl
   have p2 := cell_head (o := 2) (v := .int .i64 m3) Gk.o rfl
   have p3' := cell_head (o := 3) (v := .string s3) Gk.o rfl
   have p4 := cell_head (o := 4) (v := .slice p3 i3 c3) Gk.o rfl
   have p5 := cell_head (o := 5) (v := .slice q3 j3 e3) Gk.o rfl
   have CRB := qI (CR.o wb [.int .i64 k3, .int .i64 m3, .string s3, .slice p3 i3 c3, .slice q3 j3 e3] (Jv.o.kept0 ((Gb.o.then Gr.o).then Jq.o)))
   go_upto_region 8 with first
    | (go_at_call 9; refine CRB.o.mono ?_; rintro e w3 ⟨rfl, hk3⟩; have Gp := qI hk3; clear hk3)
    | (refine wpList_store34 (by rfl) (.tmp 7) (.tmp 35) (by rfl) (g := w3.heap.size) (k := k) (k0 := zeroKey) (block_alloc rfl) (by rfl) Gq.o (by rfl) (by rfl) ?_; intro w4 h4 hk4; have Jy := qI h4; have Gn : Hid (Kept [] w3 w4) := qI (((Kept.refl [] w3).alloc _).trans hk4 (by intro i hi; simp at hi; subst hi; exact .inr (Nat.le_refl _))); clear h4 hk4; simp only [Act.put])
   have Gl : Hid (Kept [] wr w4) := qI ((Jq.o.then Gp.o).then Gn.o)
   have Jr := qI ((Gp.o.then Gn.o).heap Gk.o (by simp))
   clear p0 p1 p2 p3' p4 p5
   have p0 := cell_head (o := 0) (v := .string zk) Jr.o rfl
   have Js := qI (Ji.o.kept0 Gl.o)
   have Jt := qI (keyOfStr zk (by rw [Gv.o]; decide))
   have hlk : (Instr.lookup 106 (.map (some W0.heap.size)) (.string zk) true).run Tryz.prog w4 = .ok (.tuple #[.agg (keyA zeroKey), .bool false]) w4 :=
    (Js.o.at.lookup keyStr Tryz.underlying106 (z := .agg (keyA zeroKey)) (Tryz.zeroValue24 w4) Jt.o).1
   go_upto_region 9 with first
    | (refine wpList_store34 (by rfl) (.tmp 9) (.tmp 42) (by rfl) (g := w4.heap.size) (k := zeroKey) (k0 := zeroKey) (block_alloc rfl) (by rfl) (by rfl) (by rfl) (by rfl) ?_; intro w6 h6 hk6; have Gf : Hid (Kept [] w4 w6) := qI (((Kept.refl [] w4).alloc _).trans hk6 (by intro i hi; simp at hi; subst hi; exact .inr (Nat.le_refl _))); clear h6 hk6; simp only [Act.put])
   clear hlk p0
   have Gm := qI (Jy.o.kept0 Gf.o)
   have Jk := qI (Gf.o.heap Jr.o (by simp))
   have Jz : Hid (Kept [] w w6) := qI (((Gb.o.then Gr.o).then Gl.o).then Gf.o)
   generalize hr3 : w3.heap.size = r3 at Gm
   generalize hrp : wr.heap.size = rp at Jk
   obtain ⟨hq1, hq2⟩ := str_eq (rfl : zk = zk)
   refine wp_grows (n := 79) 11 [Fact.is (.bool false),
    Fact.is (.bool false),
    Fact.is (.int .i64 0),
    Fact.is (.bool false),
    Fact.is (.bool false),
    Fact.is (.bool false),
    Fact.is (.agg (keyA k)),
    Fact.is (.string zk),
    Fact.is (.pointer (some ⟨rp, 0, none⟩)),
    Fact.is (.string zk),
    Fact.is (.bool false)] (by kernel_rfl) rfl (by kernel_rfl) (fun x => by simp only [List.map, puts, Act.put, List.setIfInBounds_toArray, List.set_cons_zero, List.set_cons_succ]; rfl) ?_ ?_
   ·refine ⟨fun x w2 hkw b hd => ?_, fun x w2 hkw b hd => ?_, fun x w2 hkw b hd => ?_, fun x w2 hkw b hd => ?_, fun x w2 hkw b hd => ?_, fun x w2 hkw b hd => ?_, fun x w2 hkw b hd => ?_, fun x w2 hkw b hd => ?_, fun x w2 hkw b hd => ?_, fun x w2 hkw b hd => ?_, fun x w2 hkw b hd => ?_, trivial⟩
    ·go_wp2_with fail
     exact ⟨rfl, Kept.refl _ _⟩
    ·have d0 : x 0 = _ := hd 0 (by kernel_rfl)
     go_wp2_with fail
     exact ⟨rfl, Kept.refl _ _⟩
    ·have d1 : x 1 = _ := hd 1 (by kernel_rfl)
     go_wp2_with fail
     exact ⟨rfl, Kept.refl _ _⟩
    ·have d1 : x 1 = _ := hd 1 (by kernel_rfl)
     have d2 : x 2 = _ := hd 2 (by kernel_rfl)
     go_wp2_with fail
     exact ⟨rfl, Kept.refl _ _⟩
    ·have d1 : x 1 = _ := hd 1 (by kernel_rfl)
     have d3 : x 3 = _ := hd 3 (by kernel_rfl)
     go_wp2_with fail
     exact ⟨rfl, Kept.refl _ _⟩
    ·have d4 : x 4 = _ := hd 4 (by kernel_rfl)
     go_wp2_with fail
     exact ⟨rfl, Kept.refl _ _⟩
    ·have Ma := qI (Gm.o.kept0 hkw)
     have d5 : x 5 = _ := hd 5 (by kernel_rfl)
     refine wpList_load34g (by simp only [Nat.reduceAdd, Nat.zero_add]; revert d5; generalize x 5 = vv; rintro rfl; rfl) (.tmp 7) (by rfl) Ma.o Gq.o rfl ?_
     go_wp2_with fail
     exact ⟨rfl, Kept.refl _ _⟩
    ·have d5 : x 5 = _ := hd 5 (by kernel_rfl)
     have d6 : x 6 = _ := hd 6 (by kernel_rfl)
     have CX := CI.o w2 (Jz.o.then hkw)
     go_wp2_with (go_at_call 14; refine CX.mono ?_; rintro e w8 ⟨rfl, hk8⟩; have Jl := qI hk8; clear hk8)
     exact ⟨rfl, Jl.o⟩
    ·have d5 : x 5 = _ := hd 5 (by kernel_rfl)
     go_wp2_with fail
     exact ⟨rfl, Kept.refl _ _⟩
    ·have y0 := cell_head (o := 0) (v := .string zk) (hkw.heap Jk.o (by simp)) rfl
     have d5 : x 5 = _ := hd 5 (by kernel_rfl)
     have d8 : x 8 = _ := hd 8 (by kernel_rfl)
     go_wp2_with fail
     exact ⟨rfl, Kept.refl _ _⟩
    ·have d5 : x 5 = _ := hd 5 (by kernel_rfl)
     have d7 : x 7 = _ := hd 7 (by kernel_rfl)
     have d9 : x 9 = _ := hd 9 (by kernel_rfl)
     go_wp2_with fail
     exact ⟨rfl, Kept.refl _ _⟩
   ·intro x w7 hkw b hd hwin
    have d5 : x 5 = _ := hd 5 (by decide)
    have d10 : x 10 = _ := hd 10 (by decide)
    have Gi := qI hkw
    clear hd hwin hkw
    change wpList _ _ _ [_] _ _
    obtain ⟨w8, hrun, hM8, hk8, -⟩ := (Js.o.kept0 (Gf.o.then Gi.o)).update keyStr Tryz.underlying106 (by decide) Jt.o (.agg (keyA k))
    have Mb : Hid (MapIs Tryz.prog w8 9 W0.heap.size 1 (oneM zk.data.toList (.agg (keyA k)))) := qI hM8
    have Jl := qI hk8
    have Jm := qI (Gm.o.kept0 Gi.o)
    have y0 := cell_head (o := 0) (v := .string zk) (Gi.o.heap Jk.o (by simp)) rfl
    clear hM8 hk8
    go_wp2_with (refine wpList_load34 (by rfl) (.tmp 7) (by rfl) Jm.o Gq.o (by rfl) ?_)
    case roundEnd => exact ⟨.inr ⟨rfl, Mb.o, (((Gr.o.then Gl.o).then Gf.o).then Gi.o).trans Jl.o (by intro i hi; simp at hi; subst hi; exact .inr (Nat.le_refl _))⟩, by decide⟩
  ·have Gr := qI hkr
   have Ji := qI hmp
   have Ju := qI (keysOne_any hmp)
   clear hmp hkr
   go_wp2_with first
    | (go_at_call 77; refine Ju.o.2.mono ?_; rintro e w5 ⟨va, vc, rfl, hs5, hk5⟩; have Mc := qI hs5; have Gh := qI hk5; clear hs5 hk5)
    | (go_at_call 78; refine Ju.o.1.mono ?_; rintro e w4 ⟨rfl, rfl⟩)
   go_loopw [11, 13, 65] (fun q _ i wr => (i = .int .i64 0 ∧ q = .slice none 0 0 ∧ Kept [] w5 wr) ∨ (i = .int .i64 1 ∧ ∃ (gr or' cr : Nat), q = .slice (some ⟨gr, or', none⟩) 1 cr ∧ wr.rangeAt gr or' (rowL zk k) ∧ Kept [] w5 wr)) (fun _ _ i _ => 1 - (intOf i).toNat)
   case atStart => exact .inl ⟨rfl, rfl, Kept.refl _ _⟩
   case round =>
    rcases hrel with ⟨rfl, rfl, hkq⟩ | ⟨rfl, gr, or', cr, rfl, hrow, hkq⟩
    ·have Gu := qI hkq
     clear hkq
     obtain ⟨gs, os, rfl, z0⟩ : ∃ gs os, va = some ⟨gs, os, none⟩ ∧ wr.cell? ⟨gs, os, none⟩ = some (.string zk) := by
      rcases Mc.o.2 with ⟨h1, -⟩ | ⟨h1, -⟩ | ⟨g', o', cap, h1, -, -, h2, -⟩
      ·simp at h1
      ·simp at h1
      ·simp only [Value.slice.injEq] at h1
       exact ⟨g', o', h1.1, Gu.o.cell (h2 0 _ rfl) (by simp)⟩
     have Md := qI (Ji.o.kept0 (Gh.o.then Gu.o))
     have hlk : (Instr.lookup 106 (.map (some W0.heap.size)) (.string zk) false).run Tryz.prog wr = .ok (.agg (keyA k)) wr := by
      have h1 := (Md.o.at.lookup keyStr Tryz.underlying106 (z := .agg (keyA zeroKey)) (Tryz.zeroValue24 wr) (keyOfStr zk (by rw [Gv.o]; decide))).2
      rw [h1, oneM, sameStr]
      simp
     go_wp2_with first
      | (refine wpList_buildRow (by rfl) (.tmp 70) (.tmp 73) (by rfl) Gq.o (by rfl) (by rfl) ?_)
      | (refine wpList_sliceRow (by rfl) (.tmp 74) (by rfl) Gq.o (by rfl) ?_)
      | (at_builtin; refine wpList_append_slc tyRows (base := wr.heap.size) (v := .slice none 0 0) (n := 0) (xs := []) (World.ownsRow_nil _ _ _ _) (slc_new wr (rowL zk k) 35 1 _ _ rfl (by rw [rowL_len Gq.o]) (by decide)) (rowL_one zk k) (by decide) (by decide) ((Kept.refl [] wr).alloc _).size rfl _ _ rfl rfl rfl ?_; intro v6 w6 hown hk6 _ hb6; obtain ⟨a6, c6, rfl, -, -⟩ := (Slc.of_row hown).form; have Jn := qI (Slc.of_row hown); have Gf := qI hk6; clear hown hk6 hb6)
     case roundEnd =>
      obtain ⟨gr, or', hrw, hrng⟩ : ∃ gr or', a6 = some ⟨gr, or', none⟩ ∧ w6.rangeAt gr or' (rowL zk k) := by
       rcases Jn.o.2 with ⟨h1, -⟩ | ⟨h1, -⟩ | ⟨g', o', cap, h1, -, -, h2, -⟩
       ·simp at h1
       ·simp at h1
       ·simp only [Value.slice.injEq] at h1
        exact ⟨g', o', h1.1, h2⟩
      exact ⟨.inr ⟨rfl, gr, or', c6, by rw [hrw], hrng, ((Gu.o.alloc _).trans' (Gf.o.mono (by simp [Value.ownBlock])))⟩, by decide⟩
    ·have Gu := qI hkq
     have Me := qI hrow
     clear hkq hrow
     go_wp2_with fail
     refine bodyPost_ret (v := .tuple #[.slice (some ⟨gr, or', none⟩) 1 cr, .int .i64 0]) (by simp [results, Tryz.results33, go_sem]) rfl ?_
     exact ⟨⟨_, _, _, rfl, Me.o⟩, ((Gb.o.then Gr.o).then Gh.o).then Gu.o⟩
theorem flist_pos {n : Nat} {v : VS (V n)} {s : ByteArray} {most : Int} {x : V n} (h : getV v s = some x) (h3 : kindV n x = 5) (h0 : (lenV n x : Int) ≤ most) : flist v false s most = (some x, false) := by
 unfold flist fget
 rw [h]
 simp only [Bool.false_eq_true, if_false]
 rw [if_pos ⟨h3, by simp [h0]⟩]
theorem readRole_roleV {r : RoleS} (hm : mayRole r = true) : readRoleV (n := 1) (roleV r) = some r := by
 obtain ⟨h1, h2, h3, -, -⟩ := mayRole_ids hm
 have t1 : fint (n := 2) (roleV r) false ⟨#[116, 104, 114, 101, 115, 104, 111, 108, 100]⟩ 1 16 = (r.thr, false) := fint_pos (n := 2) (x := iV 1 r.thr) (by kernel_rfl) rfl h2 h3
 have t2 : flist (n := 2) (roleV r) false ⟨#[107, 101, 121, 105, 100, 115]⟩ 16 = (some (keysV 0 r.keys), false) := flist_pos (n := 2) (x := keysV 0 r.keys) (by kernel_rfl) rfl (by
  show (((r.keys.map (tV 0)).length : Nat) : Int) ≤ 16
  rw [List.length_map]; omega)
 have e1 : (r.keys.map (tV 0)).map (strV 1) = r.keys := by
  rw [List.map_map]
  exact (List.map_congr_left (fun s _ => rfl)).trans (List.map_id _)
 have e2 : (r.keys.map (tV 0)).any (fun x => decide (kindV 1 x ≠ 4)) = false := by
  rw [List.any_eq_false]
  intro x hx
  obtain ⟨s, -, rfl⟩ := List.mem_map.1 hx
  have : kindV 1 (tV 0 s) = 4 := rfl
  simp [this]
 unfold readRoleV
 rw [show decide ((roleV r : VS (V 2)).kind ≠ 6) = false from rfl, t1]
 simp only
 rw [t2]
 show (if (false || (r.keys.map (tV 0)).any (fun x => decide (kindV 1 x ≠ 4))) = false ∧ mayRole ⟨(r.keys.map (tV 0)).map (strV 1), r.thr⟩ = true then some (⟨(r.keys.map (tV 0)).map (strV 1), r.thr⟩ : RoleS) else none) = _
 rw [e1, e2]
 rw [if_pos ⟨rfl, hm⟩]
theorem isId_key {k : KeyS} (h : mayKey k = true) : isIdB (keyIdS k) = true := by
 unfold isIdB keyIdS
 rw [if_pos h, unhex_hex]
 simp [shaL_len]
def oneRole (id : ByteArray) : RoleS := ⟨[id], 1⟩
theorem may_oneRole {id : ByteArray} (h : isIdB id = true) : mayRole (oneRole id) = true := by
 simp [mayRole, oneRole, idsGo, h]
def key7 : KeyS := ⟨8, 1, 7 :: List.replicate 31 0⟩
theorem key7_may : mayKey key7 = true := by decide
theorem key7_len : key7.root.length = 32 := rfl
theorem info5 : (Tryz.prog.info? 28).map (·.size) = some 5 := by kernel_rfl
theorem info2 : (Tryz.prog.info? 43).map (·.size) = some 2 := by kernel_rfl
abbrev ValAt (w : World) (g : Nat) (k m : Int) (s : ByteArray) (a b : Value) : Prop := w.heap[g]? = some (.cells #[.int .i64 k, .int .i64 m, .string s, a, b] 28 (0, 0))
abbrev RolAt (w : World) (g : Nat) (a : Value) (n : Int) : Prop := w.heap[g]? = some (.cells #[a, .int .i64 n] 43 (0, 0))
theorem wpList_store5 {ops : Array Oper} {rest : List Oper} {op : Oper} {a : Act} {w : World} {Q : Exit → Act → World → Prop} (hgd : op.guard = none) (x y : Operand) (ho : op.op = .store 28 x y) {g : Nat} {k m : Int} {s : ByteArray} {p q : Option Addr} {i c j d : Nat} (h0 : ValAt w g 0 0 ⟨#[]⟩ (.slice none 0 0) (.slice none 0 0))
  (hx : a.eval x = .pointer (some ⟨g, 0, none⟩)) (hy : a.eval y = .agg #[.int .i64 k, .int .i64 m, .string s, .slice p i c, .slice q j d]) (h : ∀ w', ValAt w' g k m s (.slice p i c) (.slice q j d) → Kept [g] w w' → wpList Tryz.prog ops Q rest (a.put op.dst undef) w') : wpList Tryz.prog ops Q (op :: rest) a w := by
 refine wpList_store_mid hgd 28 x y ho g 0 _ hx hy (fun z hz => ?_) info5 ?_ (h _ (put5_at h0 k m s (.slice p i c) (.slice q j d)) (setCells_kept _ _ _ _))
 ·rw [Nat.zero_add]
  refine ⟨?_, free_head h0⟩
  have hz' : z < 5 := hz
  rw [cell_head (v := (#[Value.int .i64 0, .int .i64 0, .string ⟨#[]⟩, .slice none 0 0, .slice none 0 0] : Array Value)[z]) h0 (by simp [hz'])]
  rfl
 ·exact all_oneCell_toArray (by intro v hv; simp only [List.mem_cons, List.not_mem_nil, or_false] at hv; rcases hv with rfl | rfl | rfl | rfl | rfl <;> rfl)
theorem wpList_store2 {ops : Array Oper} {rest : List Oper} {op : Oper} {a : Act} {w : World} {Q : Exit → Act → World → Prop} (hgd : op.guard = none) (x y : Operand) (ho : op.op = .store 43 x y) {g : Nat} {n : Int} {p : Option Addr} {i c : Nat} (h0 : RolAt w g (.slice none 0 0) 0)
  (hx : a.eval x = .pointer (some ⟨g, 0, none⟩)) (hy : a.eval y = .agg #[.slice p i c, .int .i64 n]) (h : ∀ w', RolAt w' g (.slice p i c) n → Kept [g] w w' → wpList Tryz.prog ops Q rest (a.put op.dst undef) w') : wpList Tryz.prog ops Q (op :: rest) a w := by
 refine wpList_store_mid hgd 43 x y ho g 0 _ hx hy (fun z hz => ?_) info2 ?_ (h _ (put2_at h0 (.slice p i c) (.int .i64 n)) (setCells_kept _ _ _ _))
 ·rw [Nat.zero_add]
  refine ⟨?_, free_head h0⟩
  have hz' : z < 2 := hz
  rw [cell_head (v := (#[Value.slice none 0 0, .int .i64 0] : Array Value)[z]) h0 (by simp [hz'])]
  rfl
 ·exact all_oneCell_toArray (by intro v hv; simp only [List.mem_cons, List.not_mem_nil, or_false] at hv; rcases hv with rfl | rfl <;> rfl)
theorem built_root : Tryz.prog.built 22 [(0, .int .u8 7)] = some (key7.root.map bv).toArray := by kernel_rfl
theorem built_key7 : Tryz.prog.built 24 [(0, .int .i64 8), (1, .int .i64 1), (2, .agg (key7.root.map bv).toArray)] = some (keyA key7) := by kernel_rfl
theorem wpList_root7 {ops : Array Oper} {rest : List Oper} {op : Oper} {a : Act} {w : World} {Q : Exit → Act → World → Prop} (hgd : op.guard = none) (x : Operand) (ho : op.op = .build 22 #[(0, x)]) (hx : a.eval x = .int .u8 7) (h : wpList Tryz.prog ops Q rest (a.put op.dst (.agg (key7.root.map bv).toArray)) w) : wpList Tryz.prog ops Q (op :: rest) a w := by
 refine wpList_plain hgd fun K hK => ?_
 unfold Oper.wp execOp
 simp only [ho, Sem.run_bind, List.map_toArray, List.map_cons, List.map_nil, hx]
 rw [run_build w _ _ _ built_root]
 exact hK _ _ h
theorem wpList_key7 {ops : Array Oper} {rest : List Oper} {op : Oper} {a : Act} {w : World} {Q : Exit → Act → World → Prop} (hgd : op.guard = none) (x y z : Operand) (ho : op.op = .build 24 #[(0, x), (1, y), (2, z)]) (hx : a.eval x = .int .i64 8) (hy : a.eval y = .int .i64 1) (hz : a.eval z = .agg (key7.root.map bv).toArray) (h : wpList Tryz.prog ops Q rest (a.put op.dst (.agg (keyA key7))) w) : wpList Tryz.prog ops Q (op :: rest) a w := by
 refine wpList_plain hgd fun K hK => ?_
 unfold Oper.wp execOp
 simp only [ho, Sem.run_bind, List.map_toArray, List.map_cons, List.map_nil, hx, hy, hz]
 rw [run_build w _ _ _ built_key7]
 exact hK _ _ h
theorem wpList_eql7 {ops : Array Oper} {rest : List Oper} {op : Oper} {a : Act} {w : World} {Q : Exit → Act → World → Prop} (hw : Region.wanted op (yielded ops a.tmps) = true) (i j : Nat) (ho : op.op = .binOp .eql 24 (.tmp i) (.tmp j) 24) (hx : a.eval (.tmp i) = .agg (keyA key7)) (hy : a.eval (.tmp j) = .agg (keyA key7)) (h : wpList Tryz.prog ops Q rest (a.put op.dst (.bool true)) w) : wpList Tryz.prog ops Q (op :: rest) a w :=
 BigFrame.wpList_want hw fun K hK => by
  have hr : (execOp a.eval op).run Tryz.prog w = .ok (.value (.bool true)) w := by
   unfold execOp
   simp only [ho, hx, hy]
   kernel_rfl
  unfold Oper.wp
  rw [hr]
  exact hK _ _ h
theorem wpList_split {P : Program} {ops : Array Oper} {Q : Exit → Act → World → Prop} : ∀ (l1 l2 : List Oper) (a : Act) (w : World), wpList P ops (fun e a w => e = .normal ∧ wpList P ops Q l2 a w) l1 a w → wpList P ops Q (l1 ++ l2) a w
 | [], l2, a, w, h => h.2
 | o :: l1, l2, a, w, h => by
  rw [List.cons_append]
  unfold wpList at h ⊢
  split at h
  ·rename_i hw
   rw [if_pos hw]
   rcases h with h | h
   ·refine .inl ?_
    unfold Oper.wp at *
    generalize (execOp a.eval o).run P w = r at *
    cases r with
    | ok n w' =>
     cases n <;> simp only [Oper.upon] at h ⊢
     case value v => exact wpList_split l1 l2 _ _ h
     case skip => exact wpList_split l1 l2 _ _ h
     case defer d => exact wpList_split l1 l2 _ _ h
     case enter f args =>
      exact Calls.mono h (fun e w'' he => by
       cases e
       all_goals first
        | exact wpList_split l1 l2 _ _ he
        | exact nomatch he.1
        | exact (fun ⟨_, _, h⟩ => nomatch h.1) he)
     case row r args => exact Rows.mono h (fun _ _ he => wpList_split l1 l2 _ _ he)
    | halt x w' => cases x <;> simp only [Oper.upon] at h ⊢ <;> exact nomatch h.1
   ·exact .inr ⟨h.1, (fun ⟨_, _, h⟩ => nomatch h.1) h.2⟩
  ·rename_i hw
   rw [if_neg hw]
   exact wpList_split l1 l2 _ _ h
theorem wpList_at {P : Program} {ops : Array Oper} {Q : Exit → Act → World → Prop} (n : Nat) {l : List Oper} {a : Act} {w : World} (h : wpList P ops (fun e a w => e = .normal ∧ Hid (wpList P ops Q (l.drop n) a w)) (l.take n) a w) : wpList P ops Q l a w := by
 have := wpList_split (l.take n) (l.drop n) a w (by
  have e : (fun e a w => e = Exit.normal ∧ Hid (wpList P ops Q (l.drop n) a w)) = (fun e a w => e = Exit.normal ∧ wpList P ops Q (l.drop n) a w) := by
   funext e a w
   exact propext ⟨fun h => ⟨h.1, h.2.o⟩, fun h => ⟨h.1, qI h.2⟩⟩
  rw [e] at h
  exact h)
 rwa [List.take_append_drop] at this
end Go.Proofs.YtckbnjipecclaaaGreatDoor

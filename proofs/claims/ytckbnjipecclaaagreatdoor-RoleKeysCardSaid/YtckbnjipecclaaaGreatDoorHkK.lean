/- Parts of one proof, merged: XGM XJI XVF XKA XKB. -/
import Derived.Test.YtckbnjipecclaaaGreatDoorHkJ
import Derived.Test.YtckbnjipecclaaaGreatDoorHkF
import Derived.Test.YtckbnjipecclaaaGreatDoorHkG
import Derived.Test.YtckbnjipecclaaaGreatDoorHkB
import Derived.Test.YtckbnjipecclaaaGreatDoorHkA
import Derived.Deep.DeepCutAuto
import Derived.Deep.CutBlock
set_option linter.all false
set_option maxHeartbeats 12800000
set_option maxRecDepth 10000
set_option linter.unusedVariables false
set_option linter.unusedSimpArgs false
set_option linter.unnecessarySimpa false
namespace Go.Proofs.YtckbnjipecclaaaGreatDoor
open Go.RowKit
def downL (n j : Nat) : List UInt8 := (List.range 8).map (fun i => if 8 - j ≤ i then putB n 8 i else 0)
theorem downL_len (n j : Nat) : (downL n j).length = 8 := by simp [downL]
theorem downL_all (n : Nat) : downL n 8 = putL n 8 := rfl
theorem downL_set (n j m : Nat) (hj : j < 8) (hm : m = n / 256 ^ j) : ((downL n j).map bv).set (7 - j) (.int .u8 ((m : Int) % 256)) = (downL n (j + 1)).map bv := by
 have hb : Value.int .u8 ((m : Int) % 256) = bv (putB n 8 (7 - j)) := by
  rw [putB, bv_ofNat, hm, show 8 - 1 - (7 - j) = j by omega, Nat.pow_mul]
 rw [hb]
 apply List.ext_getElem
 ·simp [downL]
 ·intro i h1 h2
  rw [List.getElem_set]
  by_cases e : 7 - j = i
  ·rw [if_pos e]
   simp only [downL, List.getElem_map, List.getElem_range]
   rw [if_pos (by omega), e]
  ·rw [if_neg e]
   simp only [downL, List.getElem_map, List.getElem_range]
   congr 1
   have hi : i < 8 := by simpa [downL] using h2
   by_cases h : 8 - j ≤ i
   ·rw [if_pos h, if_pos (by omega)]
   ·rw [if_neg h, if_neg (by omega)]
set_option maxRecDepth 100000 in
theorem refPut8_any (n : Nat) (w : World) (hn : n < 9223372036854775808) : Calls Tryz.prog 103 #[.int .i64 n, .int .i64 8] w fun e w' => ∃ a c, e = .returned (.tuple #[.slice a 8 c, .bool true]) ∧ w'.ownsRow w.heap.size 5 1 (.slice a 8 c) 8 ((putL n 8).map bv) ∧ Kept [] w w' := by
 have hmk : (Instr.makeSlice 82 (.int .i64 8) (.int .i64 8)).run Tryz.prog w = .ok (.slice (some ⟨w.heap.size, 0, none⟩) 8 8) (w.alloc (.cells (madeCells #[.int .u8 0] 8) 5)) := run_makeB w 8 (by decide)
 have hnn := qI hn
 have Gj : Hid (∀ W1, W1 = w.alloc (.cells (madeCells #[.int .u8 0] 8) 5) → W1.ownsRow w.heap.size 5 1 (.slice (some ⟨w.heap.size, 0, none⟩) 8 8) 8 ((downL n 0).map bv) ∧ Kept [] w W1) := qI (by
  rintro W1 rfl
  exact ⟨zeros_own w w.heap.size 8 (by decide) (Nat.le_refl _), (Kept.refl _ w).alloc _⟩)
 clear hn
 go_enter Tryz.func103, Tryz.ntmps103
 go_upto_region 4 with fail
 obtain ⟨W1, Gy⟩ : ∃ W1, Hid (W1 = w.alloc (.cells (madeCells #[.int .u8 0] 8) 5)) := ⟨_, qI rfl⟩
 obtain ⟨ho1, hk1⟩ := Gj.o W1 Gy.o
 have Jf := qI ho1
 have Gi := qI hk1
 clear ho1 hk1 hmk
 rw [← Gy.o]
 go_wp2_with fail
 go_loopw [0, 7] (fun nv i wr => ∃ j m : Nat, j ≤ 8 ∧ i = .int .i64 (7 - (j : Int)) ∧ nv = .int .i64 m ∧ Hid (m = n / 256 ^ j) ∧ wr.ownsRow w.heap.size 5 1 (.slice (some ⟨w.heap.size, 0, none⟩) 8 8) 8 ((downL n j).map bv) ∧ Kept [] w wr) (fun _ i _ => (intOf i + 1).toNat)
 case atStart => exact ⟨0, n, Nat.zero_le _, rfl, rfl, qI (by simp), Jf.o, Gi.o⟩
 case round =>
  obtain ⟨j, m, hj, rfl, rfl, HM, hown, hkr⟩ := hrel
  have Hown := qI hown
  have HK := qI hkr
  have hmI : (m : Int) ≤ 9223372036854775807 := by have := HM.o; have := Nat.div_le_self n (256 ^ j); have := hnn.o; omega
  by_cases h4 : j < 8
  ·have hi : (0 : Int) ≤ 7 - j := by omega
   have hi2 : (7 : Int) - j < 8 := by omega
   have hc := hown.cellAt (7 - j) (by omega)
   have hf := hown.frozenAt (7 - j)
   obtain ⟨cv, hcv⟩ : ∃ cv, wr.cell? ⟨w.heap.size, 7 - j, none⟩ = some cv := ⟨_, hc.trans (List.getElem?_eq_getElem (by rw [List.length_map, downL_len]; omega))⟩
   have ht : ((7 : Int) - j).toNat = 7 - j := by omega
   have HT := qI ht
   have H8 := qI h4
   clear hc hown hkr ht
   go_wp2_with fail
   have hst := (Hown.o.stored (7 - j) (.int .u8 ((m : Int) % 256))).1
   rw [downL_set n j m h4 HM.o] at hst
   refine ⟨⟨j + 1, m / 256, by omega, ?_, ?_, qI ?_, hst, HK.o.setCell (by simp) _⟩, by simp [intOf]; omega⟩
   ·rw [show (7 : Int) - ((j + 1 : Nat) : Int) = 7 - j - 1 by omega]
   ·rw [Int.natCast_ediv]; rfl
   ·rw [HM.o, Nat.div_div_eq_div_mul, Nat.pow_succ]
  ·obtain rfl : j = 8 := by omega
   have h0 : m = 0 := by rw [HM.o]; exact Nat.div_eq_of_lt (by have := hnn.o; omega)
   clear hown hkr
   subst h0
   go_wp2_with fail
   go_ret2
   have h9 := Hown.o
   rw [downL_all] at h9
   exact ⟨_, _, rfl, h9, HK.o⟩
theorem eatD_mod : ∀ (k : Nat) (s : S8) (l : List UInt8), l.length ≤ k → (eatD s l).2.length = l.length % 64
 | 0, s, l, h => by
  rw [eatD_done s l (by omega)]
  show l.length = _
  omega
 | k + 1, s, l, h => by
  rcases Nat.lt_or_ge l.length 64 with h64 | h64
  ·rw [eatD_done s l h64]
   show l.length = _
   omega
  ·rw [eatD_more s l h64, eatD_mod k _ _ (by simp; omega), List.length_drop]
   omega
theorem Sum32.kept {X : List Nat} {w w' : World} {g : Nat} {l : List UInt8} (h : Sum32 w g l) (k : Kept X w w') (hg : g ∉ X) : Sum32 w' g l := k.heap h hg
theorem Sum32.kept0 {w w' : World} {g : Nat} {l : List UInt8} (h : Sum32 w g l) (k : Kept [] w w') : Sum32 w' g l := h.kept k (by simp)
theorem wpList_store32 {ops : Array Oper} {rest : List Oper} {op : Oper} {a : Act} {w : World} {Q : Exit → Act → World → Prop} (hgd : op.guard = none) (x y : Operand) (ho : op.op = .store 22 x y) {g : Nat} {l l0 : List UInt8} (h0 : Sum32 w g l0) (hl0 : l0.length = 32) (hl : l.length = 32)
  (hx : a.eval x = .pointer (some ⟨g, 0, none⟩)) (hy : a.eval y = .agg (l.map bv).toArray) (h : ∀ w', Sum32 w' g l → Kept [g] w w' → wpList Tryz.prog ops Q rest (a.put op.dst undef) w') : wpList Tryz.prog ops Q (op :: rest) a w := by
 have hsz : (l.map bv).toArray.size = 32 := by simp [hl]
 refine wpList_store_mid hgd 22 x y ho g 0 (l.map bv).toArray hx hy (by rw [hsz]; exact h0.there 32 hl0) (by rw [hsz]; exact info32) (one32 _) (h _ ?_ (setCells_kept _ _ _ _))
 exact h0.put (by rw [hl, hl0])
theorem wpList_load32 {ops : Array Oper} {rest : List Oper} {op : Oper} {a : Act} {w : World} {Q : Exit → Act → World → Prop} (hgd : op.guard = none) (x : Operand) (ho : op.op = .load 22 x) {g : Nat} {l : List UInt8} (h0 : Sum32 w g l) (hl : l.length = 32)
  (hx : a.eval x = .pointer (some ⟨g, 0, none⟩)) (h : wpList Tryz.prog ops Q rest (a.put op.dst (.agg (l.map bv).toArray)) w) : wpList Tryz.prog ops Q (op :: rest) a w :=
 wpList_load_mid hgd 22 x ho g 0 hx (l.map bv) _ h0.range Tryz.underlying22 rfl (by rw [List.length_map, hl]; exact info32) h
theorem Sum32.var {w : World} {g : Nat} {l : List UInt8} (h : Sum32 w g l) (hl : l.length = 32) : (loadVar 22 ⟨g, 0, none⟩).run Tryz.prog w = .ok (.agg (l.map bv).toArray) w := run_loadVar_mid (P := Tryz.prog) w g 0 22 (l.map bv) _ h.range Tryz.underlying22 rfl (by rw [List.length_map, hl]; exact info32)
structure OfRel (w : World) (q : Nat) (l : List UInt8) (wr : World) : Prop where
 hash : ∃ v, HashAt wr q (eatD startS l).1 v l.length ∧ Bytes wr v (eatD startS l).2 ∧ ∀ g, vblk v = some g → g ≠ q
 kept : Kept [] w wr
 res : Sum32 wr w.heap.size (outK startS 0)
 ks : KsAt wr
theorem of_any (w : World) (g o cap : Nat) (vals : List Value) (ls : List (List UInt8)) (hrow : Row w g o vals) (hall : All2 (Bytes w) vals ls) (hsum : ls.flatten.length ≤ 100000000) (hn : vals.length ≤ 1000000) (hks : KsAt w) :
  Calls Tryz.prog 62 #[.slice (some ⟨g, o, none⟩) vals.length cap] w fun e w' => e = .returned (.agg ((shaL ls.flatten).map bv).toArray) ∧ Kept [] w w' := by
 have Gw := qI hrow
 have Gk := qI hall
 have Gl := qI hsum
 have HN := qI hn
 have Jg := qI hks
 have Jh := qI (kscells hks)
 have hnI : (vals.length : Int) ≤ 1000000 := by omega
 have Gz : Hid (ls.length = vals.length) := qI hall.1.symm
 clear hrow hall hsum hks hn
 go_enter Tryz.func62, Tryz.ntmps62
 go_upto_region 1 with fail
 change Code.wp _ _ _ _ (w.alloc (.cells z32 22))
 obtain ⟨W1, Gj⟩ : ∃ W1, Hid (W1 = w.alloc (.cells z32 22)) := ⟨_, qI rfl⟩
 have Gi : Hid (Kept [] w W1) := qI (by rw [Gj.o]; exact (Kept.refl _ w).alloc _)
 have Ja : Hid (Sum32 W1 w.heap.size (outK startS 0)) := qI (by rw [Gj.o]; exact block_alloc rfl)
 rw [← Gj.o]
 go_wp2_with (go_at_call 100; refine (new_any W1).mono ?_; rintro e w2 ⟨q, rfl, hq, hh2, hk2⟩; have HQ := qI hq; have Ji := qI hh2; have Gg := qI hk2; clear hq hh2 hk2)
 have Gt : Hid (w.heap.size < q) := qI (by have := HQ.o; have := Ja.o.lt; omega)
 go_loopw [5, 9] (fun _ i wr => ∃ k : Nat, i = .int .i64 k ∧ k ≤ vals.length ∧ OfRel w q (ls.take k).flatten wr) (fun _ i _ => vals.length - (intOf i).toNat)
 case atStart => exact ⟨0, rfl, Nat.zero_le _, ⟨⟨_, Ji.o, slc_nil _ _, by simp [vblk]⟩, Gi.o.then Gg.o, Gg.o.heap Ja.o (by simp), Jg.o.kept0 (Gi.o.then Gg.o)⟩⟩
 case round =>
  obtain ⟨k, rfl, hk, ⟨⟨v, hh, hb, hv⟩, hkr, hres, hkr2⟩⟩ := hrel
  have HH := qI hh
  have HB := qI hb
  have HV := qI hv
  have Ga := qI hkr
  have Gm := qI hres
  have Gn := qI hkr2
  have Gh : Hid ((ls.take k).flatten.length ≤ 100000000) := qI (Nat.le_trans (take_flat_le ls k) Gl.o)
  clear hh hb hv hkr hres hkr2
  rcases Nat.lt_or_ge k vals.length with hlt | hlt
  ·have hltI : (k : Int) < vals.length := by omega
   have c0 := Ga.o.cell (Gw.o.at hlt) (by simp)
   have hlt2 : k < ls.length := by rw [Gz.o]; exact hlt
   have Jb : Hid (Bytes wr vals[k] ls[k]) := qI ((Gk.o.2 k _ _ (List.getElem?_eq_getElem hlt) (List.getElem?_eq_getElem hlt2)).kept0 Ga.o)
   have Gu : Hid ((ls.take (k + 1)).flatten = (ls.take k).flatten ++ ls[k]) := qI (take_flat_succ ls k hlt2)
   have Jj : Hid ((ls.take (k + 1)).flatten.length ≤ 100000000) := qI (Nat.le_trans (take_flat_le ls (k + 1)) Gl.o)
   have Jk : Hid (∀ g, vblk vals[k] = some g → g ≠ q) := qI (fun g hg => by
    have h1 := (Gk.o.2 k _ _ (List.getElem?_eq_getElem hlt) (List.getElem?_eq_getElem hlt2)).lt hg
    have h2 := Gt.o
    omega)
   have CW : Hid (Calls Tryz.prog 101 #[.pointer (some ⟨q, 0, none⟩), vals[k]] wr fun e w' => e = .returned (.int .i64 ls[k].length) ∧ OfRel w q (ls.take (k + 1)).flatten w') := qI (by
    have h1 := write_any wr q _ v vals[k] _ ls[k] _ HH.o HB.o HV.o Jb.o Jk.o (Nat.le_of_lt (eatD_len _ _)) (by have := Jj.o; rw [Gu.o, List.length_append] at this; omega) (by omega) (by have := Gh.o; omega) Gn.o (by have := Jh.o; have := Gt.o; omega)
    refine h1.mono ?_
    rintro e w' ⟨rfl, ⟨v', hh', hb', hv'⟩, hk', hks'⟩
    rw [← eatD_app _ startS _ ls[k] (Nat.le_refl _), ← Gu.o] at hh' hb'
    refine ⟨rfl, ⟨v', ?_, hb', fun g hg => ?_⟩, Ga.o.trans hk' (by intro i hi; simp at hi; subst hi; exact .inr (by have := Gt.o; omega)), hk'.heap Gm.o (by have := Gt.o; simp; omega), hks'⟩
    ·rw [Gu.o, List.length_append, Int.natCast_add]
     rw [← Gu.o]
     exact hh'
    ·have h2 := (hv' g hg).1
     have h3 := HH.o.lt
     omega)
   generalize hlk : ls[k].length = lk at CW
   clear hlk
   obtain ⟨va, vn, vc, hvv, -, -⟩ : ∃ a n c, vals[k] = .slice a n c ∧ True ∧ True := by
    obtain ⟨a, c, h1, -, -⟩ := Jb.o.form
    exact ⟨_, _, _, h1, trivial, trivial⟩
   rw [hvv] at c0 CW
   have e9 : o + k * 1 = o + k := by omega
   clear hvv
   go_wp2_with (go_at_call 101; refine CW.o.mono ?_; rintro e w3 ⟨rfl, hr3⟩; have Jl := qI hr3; clear hr3)
   case roundEnd => exact ⟨⟨k + 1, by go_num, by omega, Jl.o⟩, by simp [intOf]; omega⟩
  ·obtain rfl : k = vals.length := by omega
   have HT : Hid (ls.take vals.length = ls) := qI (by rw [← Gz.o]; exact List.take_length)
   rw [HT.o] at HH HB Gh
   have CS : Hid (Calls Tryz.prog 102 #[.pointer (some ⟨q, 0, none⟩)] wr fun e w' => e = .returned (.agg ((shaL ls.flatten).map bv).toArray) ∧ Kept [] wr w') := qI (by
    have h1 := sum_any wr q _ v _ ls.flatten.length HH.o HB.o (eatD_len _ _) (by have := Gh.o; omega) Gn.o
    rw [← eatD_app _ startS _ _ (Nat.le_refl _), eatD_mod _ _ _ (Nat.le_refl _)] at h1
    exact h1)
   have hsz : ((shaL ls.flatten).map bv).toArray.size = 32 := by simp [shaL_len]
   go_wp2_with first
    | (go_at_call 102; refine CS.o.mono ?_; rintro e w4 ⟨rfl, hk4⟩; have Jc := qI hk4; clear hk4)
    | (refine wpList_store32 (by rfl) (.tmp 2) (.tmp 18) (by rfl) (Gm.o.kept0 Jc.o) (outK_len _ _) (shaL_len _) (by rfl) (by rfl) ?_; intro w5 h5 hk5; have H5 := qI h5; have Jm := qI hk5; clear h5 hk5)
   have hres := H5.o.var (shaL_len _)
   refine bodyPost_ret (v := .agg ((shaL ls.flatten).map bv).toArray) (by simp only [results, Tryz.results62]; simp [hres, Sem.run_bind, asAddr, Act.put]) rfl ⟨rfl, ?_⟩
   exact (Ga.o.then Jc.o).trans Jm.o (by intro i hi; simp at hi; subst hi; exact .inr (Nat.le_refl _))
theorem All2.pick {α β γ : Type} {R : α → β → Prop} {Q : α → γ → Prop} : ∀ (xs : List α) (ys : List β), All2 R xs ys → (∀ x y, y ∈ ys → R x y → ∃ z, Q x z) → ∃ zs, All2 Q xs zs
 | [], _, _, _ => ⟨[], All2.nil _⟩
 | x :: xs, [], h, _ => by have := h.1; simp at this
 | x :: xs, y :: ys, h, hq => by
  obtain ⟨z, hz⟩ := hq x y (List.mem_cons_self ..) (h.2 0 x y rfl rfl)
  obtain ⟨zs, hzs⟩ := All2.pick xs ys ⟨by simpa using h.1, fun j a b ha hb => h.2 (j + 1) a b (by simpa using ha) (by simpa using hb)⟩ (fun a b hb => hq a b (List.mem_cons_of_mem _ hb))
  exact ⟨z :: zs, hzs.cons hz⟩
def RepT (n : Nat) (B : Nat) (S : Nat → Prop) (w : World) (cs : List Value) (v : V n) : Prop := Rep n S w cs v ∧ TextsLe B n v
theorem RepT.fit : ∀ (n d : Nat) {B : Nat} {S : Nat → Prop} {w : World} {cs : List Value} {v : V n}, RepT n B S w cs v → depthV n v ≤ d → ∃ v' : V d, RepT d B S w cs v'
 | 0, _, _, _, _, _, _, h, _ => h.1.elim
 | n + 1, 0, _, _, _, _, v, _, hd => by
  have : depthV (n + 1) v = 1 + maxL (VS.kids (α := V n) v |>.map (depthV n)) := rfl
  omega
 | n + 1, d + 1, B, S, w, cs, v, h, hd => by
  obtain ⟨⟨vl, vm, lcs, mcs, h⟩, ht⟩ := h
  obtain ⟨t1, t2, t3⟩ := ht
  have hk : ∀ x, x ∈ VS.kids (α := V n) v → depthV n x ≤ d := fun x hx => by have := depthV_kid hx; omega
  obtain ⟨zl, hl⟩ := All2.pick (Q := fun x (z : V d) => RepT d B S w x z) _ _ h.alll (fun x y hy hr => RepT.fit n d (v := y) ⟨hr, t3 y (mem_l hy)⟩ (hk y (mem_l hy)))
  obtain ⟨zm, hm⟩ := All2.pick (Q := fun x (z : ByteArray × V d) => pairR (RepT d B S w) x z ∧ z.1.size ≤ B) _ _ h.allm (fun x y hy hr => by
   obtain ⟨z, hz⟩ := RepT.fit n d (v := y.2) ⟨hr.2, t3 _ (mem_m hy)⟩ (hk _ (mem_m hy))
   exact ⟨(y.1, z), ⟨hr.1, hz⟩, t2 y hy⟩)
  have el : zl.length = (VS.l (α := V n) v).length := hl.1.symm.trans h.alll.1
  have em : zm.length = (VS.m (α := V n) v).length := hm.1.symm.trans h.allm.1
  have getl : ∀ x, x ∈ zl → TextsLe B d x := fun x hx => by
   obtain ⟨j, hj, rfl⟩ := List.getElem_of_mem hx
   exact (hl.2 j _ _ (List.getElem?_eq_getElem (by rw [hl.1]; exact hj)) (List.getElem?_eq_getElem hj)).2
  have getm : ∀ p, p ∈ zm → TextsLe B d p.2 ∧ p.1.size ≤ B := fun x hx => by
   obtain ⟨j, hj, rfl⟩ := List.getElem_of_mem hx
   have := hm.2 j _ _ (List.getElem?_eq_getElem (by rw [hm.1]; exact hj)) (List.getElem?_eq_getElem hj)
   exact ⟨this.1.2.2, this.2⟩
  refine ⟨(⟨VS.kind (α := V n) v, VS.num (α := V n) v, VS.s (α := V n) v, zl, zm⟩ : VS (V d)), ⟨vl, vm, lcs, mcs, {
   cells := h.cells
   slcl := by have := h.slcl; rw [← el] at this; exact this
   alll := hl.mono fun _ _ _ r => r.1
   slcm := by have := h.slcm; rw [← em] at this; exact this
   allm := hm.mono fun _ _ _ r => ⟨r.1.1, r.1.2.1⟩
   inl := h.inl
   inm := h.inm
   wfk := h.wfk
   wfn := h.wfn }⟩, ⟨t1.1, by rw [el]; exact t1.2.1, by rw [em]; exact t1.2.2⟩, fun p hp => (getm p hp).2, fun x hx => ?_⟩
  rcases List.mem_append.1 hx with hx | hx
  ·exact getl x hx
  ·obtain ⟨p, hp, rfl⟩ := List.mem_map.1 hx
   exact (getm p hp).1
structure BoxAt (w : World) (g : Nat) (k m : Int) (s : ByteArray) (a b : Value) : Prop where
 c0 : w.cell? ⟨g, 0, none⟩ = some (.int .i64 k)
 c1 : w.cell? ⟨g, 1, none⟩ = some (.int .i64 m)
 c2 : w.cell? ⟨g, 2, none⟩ = some (.string s)
 c3 : w.cell? ⟨g, 3, none⟩ = some a
 c4 : w.cell? ⟨g, 4, none⟩ = some b
theorem box_at (w : World) (k m : Int) (s : ByteArray) (a b : Value) (t : Nat) : BoxAt (w.alloc (.cells #[.int .i64 k, .int .i64 m, .string s, a, b] t)) w.heap.size k m s a b := by
 have hb := heap_alloc_new w (.cells #[.int .i64 k, .int .i64 m, .string s, a, b] t)
 exact ⟨cell_head hb rfl, cell_head hb rfl, cell_head hb rfl, cell_head hb rfl, cell_head hb rfl⟩
theorem BoxAt.kept {w w' : World} {g : Nat} {k m : Int} {s : ByteArray} {a b : Value} (h : BoxAt w g k m s a b) {X : List Nat} (hk : Kept X w w') (hX : g ∉ X) : BoxAt w' g k m s a b :=
 ⟨hk.cell h.c0 hX, hk.cell h.c1 hX, hk.cell h.c2 hX, hk.cell h.c3 hX, hk.cell h.c4 hX⟩
theorem BoxAt.kept0 {w w' : World} {g : Nat} {k m : Int} {s : ByteArray} {a b : Value} (h : BoxAt w g k m s a b) (hk : Kept [] w w') : BoxAt w' g k m s a b := h.kept hk (by simp)
def BB : Nat := 1125899906842624
theorem large_fits {n d : Nat} {v : V n} (h : TextsLe BB n v) (hd : d ≤ 21) : largeV n d v ≤ 50000000000000000 := by
 have h1 := large_le (B := BB) n d v h
 have h2 : (22 - d) * (20000 + 2 * BB) ≤ 22 * (20000 + 2 * BB) := Nat.mul_le_mul_right _ (by omega)
 have h3 : BB = 1125899906842624 := rfl
 rw [h3] at h1 h2
 omega
def large_anyKnown (n : Nat) : Prop := ∀ (v : V n) {S : Nat → Prop} {w : World} {cs : List Value} {d : Nat}, Rep n S w cs v → TextsLe BB n v → d ≤ 21 →
    Calls Tryz.prog 31 #[.agg cs.toArray, .int .i64 d] w fun e w' => e = .returned (.int .i64 (largeV n d v)) ∧ Kept [] w w'
set_option maxHeartbeats 16000000 in
theorem large_any_step {n : Nat} (known : large_anyKnown n) : large_anyKnown (n + 1) := fun (v : VS (V n)) {S} {w} {cs} {d} h ht hd => by
  obtain ⟨vl, vm, lcs, mcs, h⟩ := h
  obtain ⟨a, c, b, e, rfl, rfl, rfl⟩ := h.forms
  have H := qI h
  have HT := qI ht
  have IH := qI known
  have heq : Hid (largeV (n + 1) d v = if 20 < d ∨ 3000 < v.l.length + v.m.length then 10000 else goL (pairW (largeV n (d + 1))) (goL (largeV n (d + 1)) (1 + v.s.size / 10) v.l) v.m) := qI rfl
  have hbox := box_at w v.kind v.num v.s (.slice a v.l.length c) (.slice b v.m.length e) 28
  obtain ⟨⟨ht1, ht2, ht3⟩, -, -⟩ := ht
  simp only [BB] at ht1 ht2 ht3
  have hsum : IntKind.i64.wrap ((v.l.length : Int) + v.m.length) = (v.l.length : Int) + v.m.length := by
   rw [IntKind.wrap_i64] <;> omega
  clear h
  obtain ⟨c0, c1, c2, c3, c4⟩ := hbox
  by_cases hd20 : 20 < d
  ·have hd' : (20 : Int) < d := by omega
   go_enter Tryz.func31, Tryz.ntmps31
   go_wp2_with fail
   go_ret
   rw [heq.o, if_pos (.inl hd20)]
   exact ⟨rfl, (Kept.refl _ w).alloc _⟩
  by_cases hmany : 3000 < v.l.length + v.m.length
  ·have hd' : (d : Int) ≤ 20 := by omega
   have hm' : (3000 : Int) < (v.l.length : Int) + v.m.length := by omega
   go_enter Tryz.func31, Tryz.ntmps31
   go_wp2_with fail
   go_ret
   rw [heq.o, if_pos (.inr hmany)]
   exact ⟨rfl, (Kept.refl _ w).alloc _⟩
  have heq := qI (heq.o.trans (if_neg (by omega)))
  have hd' : (d : Int) ≤ 20 := by omega
  have hm' : (v.l.length : Int) + v.m.length ≤ 3000 := by omega
  have hquo : ((v.s.size : Int)).tdiv 10 = ((v.s.size / 10 : Nat) : Int) := by rw [Int.tdiv_eq_ediv_of_nonneg (by omega)]; omega
  go_enter Tryz.func31, Tryz.ntmps31
  go_upto_block 0 with fail
  go_cut [5, 6] from 25 to 45 (fun x i wr => (∃ k : Nat, i = .int .i64 k) ∧ ∃ X : Nat, x = .int .i64 X ∧ X ≤ 60000000000000000 ∧ X = goL (largeV n (d + 1)) (1 + v.s.size / 10) v.l ∧ Kept [] (w.alloc (.cells #[.int .i64 v.kind, .int .i64 v.num, .string v.s, .slice a v.l.length c, .slice b v.m.length e] 28)) wr)
  case first =>
   go_wp2_with fail
   go_loopw [5, 6] (fun x i wr => ∃ k X : Nat, i = .int .i64 k ∧ k ≤ v.l.length ∧ x = .int .i64 X ∧ X ≤ 60000000000000000 ∧ goL (largeV n (d + 1)) X (v.l.drop k) = goL (largeV n (d + 1)) (1 + v.s.size / 10) v.l ∧ Kept [] (w.alloc (.cells #[.int .i64 v.kind, .int .i64 v.num, .string v.s, .slice a v.l.length c, .slice b v.m.length e] 28)) wr) (fun _ i _ => v.l.length - (intOf i).toNat)
   case atStart => exact ⟨0, 1 + v.s.size / 10, rfl, Nat.zero_le _, by go_num, by omega, rfl, Kept.refl _ _⟩
   case round =>
    obtain ⟨k, X, rfl, hk, rfl, hX, hg, hkr⟩ := hrel
    have Gb := qI (((Kept.refl [] w).alloc _).trans' hkr)
    obtain ⟨b0, b1, b2, b3, b4⟩ := (box_at w v.kind v.num v.s (.slice a v.l.length c) (.slice b v.m.length e) 28).kept0 hkr
    have Ga := qI hkr
    clear c0 c1 c2 c3 c4 hkr
    by_cases hgo : k < v.l.length ∧ X ≤ 6000
    ·obtain ⟨hlt, hx⟩ := hgo
     have hltI : (k : Int) < v.l.length := by omega
     have hxI : (X : Int) ≤ 6000 := by omega
     obtain ⟨g, o, cap, kd, nm, st, a1, b1', he, q0, q1, q2, q3, q4, hr⟩ := H.o.at_l Gb.o k hlt
     simp only [Value.slice.injEq] at he
     obtain ⟨rfl, -, rfl⟩ := he
     have hkT := HT.o.2.2 _ (mem_l (List.getElem_mem hlt))
     have cl := IH.o v.l[k] (d := d + 1) hr hkT (by omega)
     rw [show ((d + 1 : Nat) : Int) = (d : Int) + 1 from rfl] at cl
     have CL := qI cl
     have hY := large_fits (d := d + 1) hkT (by omega)
     have HD : Hid (goL (largeV n (d + 1)) (X + largeV n (d + 1) v.l[k]) (v.l.drop (k + 1)) = goL (largeV n (d + 1)) (1 + v.s.size / 10) v.l) := qI (by
      rw [← hg, List.drop_eq_getElem_cons hlt]
      conv => rhs; unfold goL
      rw [if_pos hx])
     clear cl hr hkT hg
     revert CL hY HD
     generalize largeV n (d + 1) v.l[k] = Y
     intro CL hY HD
     go_wp2_with (go_at_call 31; refine CL.o.mono ?_; rintro e w2 ⟨rfl, hk2⟩)
     case roundEnd => exact ⟨⟨k + 1, X + Y, by go_num, by omega, by go_num, by omega, HD.o, Ga.o.then hk2⟩, by simp [intOf]; omega⟩
    ·have hXe : X = goL (largeV n (d + 1)) (1 + v.s.size / 10) v.l := by
      rw [← hg]
      rcases Nat.lt_or_ge k v.l.length with h1 | h1
      ·exact (goL_stop _ (by omega) _).symm
      ·rw [List.drop_eq_nil_iff.2 h1]; rfl
     have hsp : ((k : Int) < v.l.length ∧ (6000 : Int) < X) ∨ (v.l.length : Int) ≤ k := by omega
     clear hg hgo
     have HX := qI hXe
     clear hXe
     rcases hsp with ⟨s1, s2⟩ | s1
     all_goals
      go_wp2_with fail
      go_meet
      exact ⟨⟨k, rfl⟩, X, rfl, hX, HX.o, Ga.o⟩
  case rest =>
    obtain ⟨⟨k, rfl⟩, X, rfl, hX, hXe, hkr⟩ := hcut
    have HX := qI hXe
    have Ga := qI hkr
    clear hXe hkr c0 c1 c2 c3 c4
    obtain ⟨b0, b1, b2, b3, b4⟩ := (box_at w v.kind v.num v.s (.slice a v.l.length c) (.slice b v.m.length e) 28).kept0 Ga.o
    have Gb := qI (((Kept.refl [] w).alloc _).trans' Ga.o)
    go_wp2_with fail
    go_loopw [5, 7] (fun x i wr => ∃ k Y : Nat, i = .int .i64 k ∧ k ≤ v.m.length ∧ x = .int .i64 Y ∧ Y ≤ 120000000000000000 ∧ goL (pairW (largeV n (d + 1))) Y (v.m.drop k) = goL (pairW (largeV n (d + 1))) X v.m ∧ Kept [] (w.alloc (.cells #[.int .i64 v.kind, .int .i64 v.num, .string v.s, .slice a v.l.length c, .slice b v.m.length e] 28)) wr) (fun _ i _ => v.m.length - (intOf i).toNat)
    case atStart => exact ⟨0, X, rfl, Nat.zero_le _, rfl, by omega, rfl, Ga.o⟩
    case round =>
     obtain ⟨k2, Y, rfl, hk2, rfl, hY, hg, hkr⟩ := hrel
     clear Ga Gb b0 b1 b2 b3 b4
     have Gb := qI (((Kept.refl [] w).alloc _).trans' hkr)
     obtain ⟨b0, b1, b2, b3, b4⟩ := (box_at w v.kind v.num v.s (.slice a v.l.length c) (.slice b v.m.length e) 28).kept0 hkr
     have Ga := qI hkr
     clear hkr
     by_cases hgo : k2 < v.m.length ∧ Y ≤ 6000
     ·obtain ⟨hlt, hx⟩ := hgo
      have hltI : (k2 : Int) < v.m.length := by omega
      have hxI : (Y : Int) ≤ 6000 := by omega
      obtain ⟨g, o, cap, kd, nm, st, a1, b1', he, q0, q1, q2, q3, q4, q5, hr⟩ := H.o.at_m Gb.o k2 hlt
      simp only [Value.slice.injEq] at he
      obtain ⟨rfl, -, rfl⟩ := he
      have hkT := HT.o.2.2 _ (mem_m (List.getElem_mem hlt))
      have hkS := HT.o.2.1 _ (List.getElem_mem hlt)
      simp only [BB] at hkS
      have hZ := large_fits (d := d + 1) hkT (by omega)
      have HD : Hid (goL (pairW (largeV n (d + 1))) (Y + pairW (largeV n (d + 1)) v.m[k2]) (v.m.drop (k2 + 1)) = goL (pairW (largeV n (d + 1))) X v.m) := qI (by
       rw [← hg, List.drop_eq_getElem_cons hlt]
       conv => rhs; unfold goL
       rw [if_pos hx])
      have Gc := qI hr
      have Gv := qI hkT
      clear hr hkT hg
      unfold pairW at HD
      revert q0 Gc Gv hkS hZ HD
      generalize v.m[k2] = pr
      obtain ⟨key, kid⟩ := pr
      intro q0 hkS hZ HD Gc Gv
      simp only at q0 hkS hZ HD Gc Gv
      go_wp2_with fail
      have e0 := ext_cell b4
      have e1 := ext_cell q0
      have CL : ∀ z : Ext wr, Calls Tryz.prog 31 #[.agg #[.int .i64 kd, .int .i64 nm, .string st, a1, b1'], .int .i64 ((d : Int) + 1)] z.w fun e w' => e = .returned (.int .i64 (largeV n (d + 1) kid)) ∧ Kept [] z.w w' := fun z => IH.o kid (d := d + 1) (Gc.o.kept0 z.k) Gv.o (by omega)
      have e2 := ext_cell q1
      have e3 := ext_cell q2
      have e4 := ext_cell q3
      have e5 := ext_cell q4
      have e6 := ext_cell q5
      revert CL hZ HD
      generalize largeV n (d + 1) kid = Z
      intro hZ HD CL
      have hKS : (key.size : Int) ≤ 1125899906842624 := by omega
      refine wp_region_ext wr (by kernel_rfl) (by kernel_rfl) (Kept.refl _ _) ?_
      clear b0 b1 b2 b3 b4 q0 q1 q2 q3 q4 q5
      repeat go_big_quiet_step ((go_at_call 31; exact ext_of (CL _)))
      refine wpQuiet_nil ?_
      intro w2 hk2'
      go_wp2_with fail
      case roundEnd => exact ⟨⟨k2 + 1, Y + (1 + key.size / 10 + Z), by go_num, by omega, by go_num, by omega, HD.o, Ga.o.then hk2'⟩, by simp [intOf]; omega⟩
     ·have hYe : Y = goL (pairW (largeV n (d + 1))) X v.m := by
       rw [← hg]
       rcases Nat.lt_or_ge k2 v.m.length with h1 | h1
       ·exact (goL_stop _ (by omega) _).symm
       ·rw [List.drop_eq_nil_iff.2 h1]; rfl
      have hsp : ((k2 : Int) < v.m.length ∧ (6000 : Int) < Y) ∨ (v.m.length : Int) ≤ k2 := by omega
      clear hg hgo
      have HY := qI hYe
      clear hYe
      rcases hsp with ⟨t1, t2⟩ | t1
      all_goals
       go_wp2_with fail
       go_ret
       have hfin : largeV (n + 1) d v = Y := by
        rw [heq.o, ← HX.o]
        exact HY.o.symm
       rw [hfin]
       exact ⟨rfl, Gb.o⟩
theorem large_any_known : ∀ (n : Nat), large_anyKnown n
 | 0 => fun v {_} {_} {_} {_} h _ _ => h.elim
 | n + 1 => large_any_step (large_any_known n)
theorem large_any : ∀ (n : Nat) (v : V n) {S : Nat → Prop} {w : World} {cs : List Value} {d : Nat}, Rep n S w cs v → TextsLe BB n v → d ≤ 21 →
  Calls Tryz.prog 31 #[.agg cs.toArray, .int .i64 d] w fun e w' => e = .returned (.int .i64 (largeV n d v)) ∧ Kept [] w w' := fun n => large_any_known n
theorem tyVals : SliceTy Tryz.prog 25 28 5 80 (.agg #[.int .i64 0, .int .i64 0, .string ByteArray.empty, .slice none 0 0, .slice none 0 0]) := ⟨Tryz.underlying25, by kernel_rfl, by kernel_rfl, by decide⟩
theorem tyPairs : SliceTy Tryz.prog 26 78 6 96 (.agg #[.string ByteArray.empty, .int .i64 0, .int .i64 0, .string ByteArray.empty, .slice none 0 0, .slice none 0 0]) := ⟨Tryz.underlying26, by kernel_rfl, by kernel_rfl, by decide⟩
theorem Rep.one {n : Nat} {S : Nat → Prop} {w : World} {cs : List Value} {v : V n} (h : Rep n S w cs v) : ∀ u ∈ cs, u.oneCell' = true := by
 match n, v, h with
 | n + 1, v, h =>
  obtain ⟨vl, vm, lcs, mcs, h⟩ := h
  obtain ⟨a, c, b, d, _, _, rfl⟩ := h.forms
  intro u hu
  simp only [List.mem_cons, List.not_mem_nil, or_false] at hu
  rcases hu with rfl | rfl | rfl | rfl | rfl <;> rfl
theorem All2.mem_left {α β : Type} {R : α → β → Prop} {xs : List α} {ys : List β} (h : All2 R xs ys) {x : α} (hx : x ∈ xs) : ∃ y, y ∈ ys ∧ R x y := by
 obtain ⟨j, hj, rfl⟩ := List.getElem_of_mem hx
 have hj' : j < ys.length := by rw [← h.1]; exact hj
 exact ⟨ys[j], List.getElem_mem hj', h.2 j _ _ (List.getElem?_eq_getElem hj) (List.getElem?_eq_getElem hj')⟩
theorem All2.map_both {α β γ δ : Type} {R : α → β → Prop} {Q : γ → δ → Prop} {f : α → γ} {g : β → δ} {xs : List α} {ys : List β} (h : All2 R xs ys) (hf : ∀ x y, R x y → Q (f x) (g y)) : All2 Q (xs.map f) (ys.map g) := by
 refine ⟨by simp [h.1], ?_⟩
 intro j x z hx hz
 rw [List.getElem?_map, Option.map_eq_some_iff] at hx hz
 obtain ⟨x, hx, rfl⟩ := hx
 obtain ⟨y, hy, rfl⟩ := hz
 exact hf x y (h.2 j x y hx hy)
theorem flat_one {R : List Value → Prop} {ls : List (List Value)} (h : ∀ c, c ∈ ls → ∀ u ∈ c, u.oneCell' = true) : ∀ u ∈ ls.flatten, u.oneCell' = true := by
 intro u hu
 obtain ⟨c, hc, hu⟩ := List.mem_flatten.1 hu
 exact h c hc u hu
theorem own_new {t size g base : Nat} (W : World) (hg : W.heap.size = g) (hb : base ≤ g) : (W.alloc (.cells #[] t)).ownsRow base t size (.slice (some ⟨g, 0, none⟩) 0 0) 0 [] := by
 subst hg
 exact World.ownsRow_made W #[] 0 hb (by decide) (by simp)
def kidsC (lcs : List (List Value)) (mcs : List (ByteArray × List Value)) : List (List Value) := lcs ++ mcs.map (fun p => p.2)
section
variable {n : Nat} {S : Nat → Prop} {w : World} {cs : List Value} {v : VS (V n)} {vl vm : Value} {lcs : List (List Value)} {mcs : List (ByteArray × List Value)}
theorem RepOne.kids (h : RepOne (Rep n S w) S w cs v vl vm lcs mcs) : All2 (Rep n S w) (kidsC lcs mcs) v.kids :=
 h.alll.app (h.allm.map_both fun _ _ r => r.2)
theorem RepOne.ones (h : RepOne (Rep n S w) S w cs v vl vm lcs mcs) : ∀ u ∈ lcs.flatten, u.oneCell' = true :=
 flat_one (R := fun _ => True) fun c hc => by
  obtain ⟨y, _, hr⟩ := h.alll.mem_left hc
  exact hr.one
end
def ValsAt (n : Nat) (w : World) (x : Value) (vs : List (V n)) : Prop := ∃ lcs, Slc w 5 x vs.length lcs.flatten ∧ All2 (Rep n (fun _ => True) w) lcs vs
theorem Slc.at5 {w : World} {x : Value} {m : Nat} {lcs : List (List Value)} (h : Slc w 5 x m lcs.flatten) (h5 : ∀ c, c ∈ lcs → c.length = 5) {j : Nat} (hj : j < lcs.length) {k i : Int} {s : ByteArray} {a b : Value} (e : lcs[j] = [.int .i64 k, .int .i64 i, .string s, a, b]) :
  ∃ g o cap, x = .slice (some ⟨g, o, none⟩) m cap ∧ w.cell? ⟨g, o + j * 5, none⟩ = some (.int .i64 k) ∧ w.cell? ⟨g, o + j * 5 + 1, none⟩ = some (.int .i64 i) ∧ w.cell? ⟨g, o + j * 5 + 2, none⟩ = some (.string s) ∧ w.cell? ⟨g, o + j * 5 + 3, none⟩ = some a ∧ w.cell? ⟨g, o + j * 5 + 4, none⟩ = some b := by
 have hl := flat_len lcs h5
 have hm := h.1
 rcases h.2 with ⟨_, h0⟩ | ⟨h0, _⟩ | ⟨g, o, cap, hsv, _, _, hrow⟩
 ·omega
 ·omega
 have hc : ∀ i, i < 5 → lcs.flatten[j * 5 + i]? = lcs[j][i]? := fun i hi => flat_get lcs j i h5 hj hi
 rw [e] at hc
 refine ⟨g, o, cap, hsv, ?_, ?_, ?_, ?_, ?_⟩
 ·exact hrow.cells (j * 5 + 0) _ (hc 0 (by decide))
 all_goals rw [Nat.add_assoc]
 ·exact hrow.cells (j * 5 + 1) _ (hc 1 (by decide))
 ·exact hrow.cells (j * 5 + 2) _ (hc 2 (by decide))
 ·exact hrow.cells (j * 5 + 3) _ (hc 3 (by decide))
 ·exact hrow.cells (j * 5 + 4) _ (hc 4 (by decide))
theorem ValsAt.kept0 {n : Nat} {w w' : World} {x : Value} {vs : List (V n)} (h : ValsAt n w x vs) (k : Kept [] w w') : ValsAt n w' x vs := by
 obtain ⟨lcs, h1, h2⟩ := h
 exact ⟨lcs, h1.kept0 k, h2.mono fun _ _ _ r => r.kept0 k⟩
theorem ValsAt.at {n : Nat} {w : World} {x : Value} {vs : List (V n)} (h : ValsAt n w x vs) {j : Nat} (hj : j < vs.length) : ∃ g o cap k i s a b, x = .slice (some ⟨g, o, none⟩) vs.length cap ∧ w.cell? ⟨g, o + j * 5, none⟩ = some (.int .i64 k) ∧ w.cell? ⟨g, o + j * 5 + 1, none⟩ = some (.int .i64 i) ∧ w.cell? ⟨g, o + j * 5 + 2, none⟩ = some (.string s) ∧ w.cell? ⟨g, o + j * 5 + 3, none⟩ = some a ∧ w.cell? ⟨g, o + j * 5 + 4, none⟩ = some b ∧ Rep n (fun _ => True) w [.int .i64 k, .int .i64 i, .string s, a, b] vs[j] := by
 obtain ⟨lcs, h1, h2⟩ := h
 have hj' : j < lcs.length := by rw [h2.1]; exact hj
 have hr := h2.2 j _ _ (List.getElem?_eq_getElem hj') (List.getElem?_eq_getElem hj)
 obtain ⟨k, i, s, a, b, e⟩ := hr.five
 obtain ⟨g, o, cap, q, q0, q1, q2, q3, q4⟩ := h1.at5 (fun c hc => by obtain ⟨y, _, r⟩ := h2.mem_left hc; exact r.len) hj' e
 rw [e] at hr
 exact ⟨g, o, cap, k, i, s, a, b, q, q0, q1, q2, q3, q4, hr⟩
theorem kids_any {n : Nat} {v : VS (V n)} {S : Nat → Prop} {w : World} {cs : List Value} (h : Rep (n + 1) S w cs v) (hv : v.l.length + v.m.length ≤ 20000) :
  Calls Tryz.prog 96 #[.agg cs.toArray] w fun e w' => (∃ a c, e = .returned (.slice a v.kids.length c) ∧ ValsAt n w' (.slice a v.kids.length c) v.kids) ∧ Kept [] w w' := by
 obtain ⟨vl, vm, lcs, mcs, h⟩ := h
 obtain ⟨a, c, b, e, rfl, rfl, rfl⟩ := h.forms
 have H := qI h
 have hkl : v.kids.length = v.l.length + v.m.length := by simp [VS.kids]
 have Jn := qI hkl
 have hlv : v.l.length ≤ 20000 := by omega
 have hmv : v.m.length ≤ 20000 := by omega
 have hmv' : (v.m.length : Int) ≤ 20000 := by omega
 have HV := qI hv
 have HB := qI (box_at w v.kind v.num v.s (.slice a v.l.length c) (.slice b v.m.length e) 28)
 have Jd := qI (((Kept.refl [] w).alloc (.cells #[.int .i64 v.kind, .int .i64 v.num, .string v.s, .slice a v.l.length c, .slice b v.m.length e] 28)))
 obtain ⟨c0, c1, c2, c3, c4⟩ := HB.o
 clear h hkl hv
 have H1 := qI ((Kept.refl [] (w.alloc (.cells #[.int .i64 v.kind, .int .i64 v.num, .string v.s, .slice a v.l.length c, .slice b v.m.length e] 28))).alloc (.cells #[] 28))
 have Je : Hid ((w.alloc (.cells #[.int .i64 v.kind, .int .i64 v.num, .string v.s, .slice a v.l.length c, .slice b v.m.length e] 28)).heap.size = w.heap.size + 1) := qI (by simp)
 have Ge := qI (own_new (t := 28) (size := 5) (g := w.heap.size + 1) (base := w.heap.size + 1) (w.alloc (.cells #[.int .i64 v.kind, .int .i64 v.num, .string v.s, .slice a v.l.length c, .slice b v.m.length e] 28)) (by simp) (Nat.le_refl _))
 have Gd := qI ((H.o.slcl.kept0 Jd.o).kept0 H1.o)
 go_enter Tryz.func96, Tryz.ntmps96
 go_wp2_with (at_builtin; refine wpList_append_slc tyVals Ge.o Gd.o H.o.ones (by simp only [maxLen]; omega) (by omega) (by simp) rfl _ _ rfl rfl rfl ?_; intro v' w1 hown1 hk1 _ hb1)
 have Gp := qI hown1
 have Gi := qI (H1.o.trans hk1 (by intro i hi; simp [Value.ownBlock] at hi; exact .inr (by simp [hi])))
 clear hown1 hk1 hb1 Ge Gd c0 c1 c2 c3 c4
 go_loopw [3, 4] (fun o i wr => ∃ k : Nat, i = .int .i64 k ∧ k ≤ v.m.length ∧ wr.ownsRow (w.heap.size + 1) 28 5 o (v.l.length + k) (lcs.flatten ++ ((mcs.take k).map (fun p => p.2)).flatten) ∧ Kept [] (w.alloc (.cells #[.int .i64 v.kind, .int .i64 v.num, .string v.s, .slice a v.l.length c, .slice b v.m.length e] 28)) wr) (fun _ i _ => v.m.length - (intOf i).toNat)
 case atStart => exact ⟨0, rfl, Nat.zero_le _, by simpa using Gp.o, Gi.o⟩
 case round =>
  obtain ⟨k, rfl, hk, hown, hkr⟩ := hrel
  have Gq := qI hown
  have Gb := qI (Jd.o.trans' hkr)
  obtain ⟨b0, b1, b2, b3, b4⟩ := HB.o.kept0 hkr
  have Ga := qI hkr
  clear hown hkr
  by_cases hlt : k < v.m.length
  ·have hltI : (k : Int) < v.m.length := by omega
   obtain ⟨g, o, cap, kd, nm, st, a1, b1', he, q0, q1, q2, q3, q4, q5, hr, hx⟩ := H.o.at_mx Gb.o k hlt
   simp only [Value.slice.injEq] at he
   obtain ⟨rfl, -, rfl⟩ := he
   have Gx := qI hr.one
   have hlt' : k < mcs.length := by rw [H.o.lens.2]; exact hlt
   have HX : Hid (mcs[k].2 = [.int .i64 kd, .int .i64 nm, .string st, a1, b1']) := qI (by rw [List.getElem?_eq_getElem hlt'] at hx; rw [Option.some.inj hx])
   have HT : Hid (((mcs.take (k + 1)).map (fun p => p.2)).flatten = ((mcs.take k).map (fun p => p.2)).flatten ++ [.int .i64 kd, .int .i64 nm, .string st, a1, b1']) := qI (by
    rw [List.take_succ_eq_append_getElem hlt', List.map_append, List.flatten_append, ← HX.o]
    simp)
   have Gd := qI (slc_new wr [.int .i64 kd, .int .i64 nm, .string st, a1, b1'] 5 1 28 wr.heap.size rfl rfl (by decide))
   have Gg := qI ((Kept.refl [] wr).alloc (.cells #[.int .i64 kd, .int .i64 nm, .string st, a1, b1'] 28))
   have Gf := qI (row_kept Gq.o Gg.o (by simp))
   have Gr : Hid (w.heap.size + 1 ≤ (wr.alloc (.cells #[.int .i64 kd, .int .i64 nm, .string st, a1, b1'] 28)).heap.size) := qI (by have h1 := Ga.o.size; have h2 := Je.o; have h3 := Gg.o.size; omega)
   clear hr hx
   go_wp2_with (at_builtin; refine wpList_append_slc tyVals Gf.o Gd.o Gx.o (by simp only [maxLen]; omega) (by omega) Gr.o rfl _ _ rfl rfl rfl ?_; intro v' w2 hown2 hk2 _ hb2)
   case roundEnd =>
    refine ⟨⟨k + 1, by go_num, by omega, ?_, ?_⟩, by simp [intOf]; omega⟩
    ·rw [HT.o, ← List.append_assoc, ← Nat.add_assoc]
     exact hown2
    ·refine (Ga.o.then Gg.o).trans hk2 ?_
     intro i hi
     exact .inr (by have := (Gf.o.lt i (Option.mem_toList.1 hi)).1; rw [Je.o]; exact this)
  ·obtain rfl : k = v.m.length := by omega
   have Gs : Hid (ValsAt n wr u3 v.kids) := qI ⟨kidsC lcs mcs, by
    have e1 : mcs.take v.m.length = mcs := List.take_of_length_le (by rw [H.o.lens.2]; exact Nat.le_refl _)
    have h1 := Gq.o
    rw [e1] at h1
    rw [Jn.o, kidsC, List.flatten_append]
    exact Slc.of_row h1, (H.o.kids.mono fun _ _ _ r => (r.kept0 Gb.o).mono (fun _ _ _ => trivial))⟩
   obtain ⟨lcs', hs', -⟩ := Gs.o
   obtain ⟨a', c', e', -, -⟩ := hs'.form
   subst e'
   clear hs'
   go_wp2_with fail
   go_ret
   exact ⟨⟨_, _, rfl, Gs.o⟩, Gb.o⟩
end Go.Proofs.YtckbnjipecclaaaGreatDoor

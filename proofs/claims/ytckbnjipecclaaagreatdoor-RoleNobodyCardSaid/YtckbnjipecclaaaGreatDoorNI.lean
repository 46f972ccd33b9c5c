/- Parts of one proof, merged: XJI XK3C XBu XSl XVC. -/
import Derived.Test.YtckbnjipecclaaaGreatDoorNH
import Derived.Test.YtckbnjipecclaaaGreatDoorNF
import Derived.Test.YtckbnjipecclaaaGreatDoorNB
import Derived.Laws.BytesArg
import Derived.Lib.UnsafeStr
import Derived.Lib.AppendStr
import Derived.Test.YtckbnjipecclaaaGreatDoorNC
import Derived.Lib.SmallJoins
import Derived.Test.YtckbnjipecclaaaGreatDoorND
import Derived.Test.YtckbnjipecclaaaGreatDoorNE
set_option linter.all false
set_option maxHeartbeats 12800000
set_option maxRecDepth 10000
set_option linter.unusedVariables false
set_option linter.unusedSimpArgs false
set_option linter.unnecessarySimpa false
namespace Go.Proofs.YtckbnjipecclaaaGreatDoor
open Go.RowKit
theorem eatD_mod : ∀ (k : Nat) (s : S8) (l : List UInt8), l.length ≤ k → (eatD s l).2.length = l.length % 64
 | 0, s, l, h => by
  rw [eatD_done s l (by omega)]
  show l.length = _
  omega
 | k + 1, s, l, h => by
  rcases Nat.lt_or_ge l.length 64 with h64 | h64
  ·rw [eatD_done s l h64]
   show l.length = _
   omega
  ·rw [eatD_more s l h64, eatD_mod k _ _ (by simp; omega), List.length_drop]
   omega
theorem Sum32.kept {X : List Nat} {w w' : World} {g : Nat} {l : List UInt8} (h : Sum32 w g l) (k : Kept X w w') (hg : g ∉ X) : Sum32 w' g l := k.heap h hg
theorem Sum32.kept0 {w w' : World} {g : Nat} {l : List UInt8} (h : Sum32 w g l) (k : Kept [] w w') : Sum32 w' g l := h.kept k (by simp)
theorem wpList_store32 {ops : Array Oper} {rest : List Oper} {op : Oper} {a : Act} {w : World} {Q : Exit → Act → World → Prop} (hgd : op.guard = none) (x y : Operand) (ho : op.op = .store 22 x y) {g : Nat} {l l0 : List UInt8} (h0 : Sum32 w g l0) (hl0 : l0.length = 32) (hl : l.length = 32)
  (hx : a.eval x = .pointer (some ⟨g, 0, none⟩)) (hy : a.eval y = .agg (l.map bv).toArray) (h : ∀ w', Sum32 w' g l → Kept [g] w w' → wpList Tryz.prog ops Q rest (a.put op.dst undef) w') : wpList Tryz.prog ops Q (op :: rest) a w := by
 have hsz : (l.map bv).toArray.size = 32 := by simp [hl]
 refine wpList_store_mid hgd 22 x y ho g 0 (l.map bv).toArray hx hy (by rw [hsz]; exact h0.there 32 hl0) (by rw [hsz]; exact info32) (one32 _) (h _ ?_ (setCells_kept _ _ _ _))
 exact h0.put (by rw [hl, hl0])
theorem Sum32.var {w : World} {g : Nat} {l : List UInt8} (h : Sum32 w g l) (hl : l.length = 32) : (loadVar 22 ⟨g, 0, none⟩).run Tryz.prog w = .ok (.agg (l.map bv).toArray) w := run_loadVar_mid (P := Tryz.prog) w g 0 22 (l.map bv) _ h.range Tryz.underlying22 rfl (by rw [List.length_map, hl]; exact info32)
structure OfRel (w : World) (q : Nat) (l : List UInt8) (wr : World) : Prop where
 hash : ∃ v, HashAt wr q (eatD startS l).1 v l.length ∧ Bytes wr v (eatD startS l).2 ∧ ∀ g, vblk v = some g → g ≠ q
 kept : Kept [] w wr
 res : Sum32 wr w.heap.size (outK startS 0)
 ks : KsAt wr
theorem of_any (w : World) (g o cap : Nat) (vals : List Value) (ls : List (List UInt8)) (hrow : Row w g o vals) (hall : All2 (Bytes w) vals ls) (hsum : ls.flatten.length ≤ 100000000) (hn : vals.length ≤ 1000000) (hks : KsAt w) :
  Calls Tryz.prog 62 #[.slice (some ⟨g, o, none⟩) vals.length cap] w fun e w' => e = .returned (.agg ((shaL ls.flatten).map bv).toArray) ∧ Kept [] w w' := by
 have Gr := qI hrow
 have Gg := qI hall
 have Gh := qI hsum
 have HN := qI hn
 have Jd := qI hks
 have Je := qI (kscells hks)
 have hnI : (vals.length : Int) ≤ 1000000 := by omega
 have Gy : Hid (ls.length = vals.length) := qI hall.1.symm
 clear hrow hall hsum hks hn
 go_enter Tryz.func62, Tryz.ntmps62
 go_upto_region 1 with fail
 change Code.wp _ _ _ _ (w.alloc (.cells z32 22))
 obtain ⟨W1, Gs⟩ : ∃ W1, Hid (W1 = w.alloc (.cells z32 22)) := ⟨_, qI rfl⟩
 have Ga : Hid (Kept [] w W1) := qI (by rw [Gs.o]; exact (Kept.refl _ w).alloc _)
 have Gz : Hid (Sum32 W1 w.heap.size (outK startS 0)) := qI (by rw [Gs.o]; exact block_alloc rfl)
 rw [← Gs.o]
 go_wp2_with (go_at_call 100; refine (new_any W1).mono ?_; rintro e w2 ⟨q, rfl, hq, hh2, hk2⟩; have HQ := qI hq; have Jf := qI hh2; have Gt := qI hk2; clear hq hh2 hk2)
 have Gm : Hid (w.heap.size < q) := qI (by have := HQ.o; have := Gz.o.lt; omega)
 go_loopw [5, 9] (fun _ i wr => ∃ k : Nat, i = .int .i64 k ∧ k ≤ vals.length ∧ OfRel w q (ls.take k).flatten wr) (fun _ i _ => vals.length - (intOf i).toNat)
 case atStart => exact ⟨0, rfl, Nat.zero_le _, ⟨⟨_, Jf.o, slc_nil _ _, by simp [vblk]⟩, Ga.o.then Gt.o, Gt.o.heap Gz.o (by simp), Jd.o.kept0 (Ga.o.then Gt.o)⟩⟩
 case round =>
  obtain ⟨k, rfl, hk, ⟨⟨v, hh, hb, hv⟩, hkr, hres, hkr2⟩⟩ := hrel
  have HH := qI hh
  have HB := qI hb
  have HV := qI hv
  have Gn := qI hkr
  have Gi := qI hres
  have Gj := qI hkr2
  have Gc : Hid ((ls.take k).flatten.length ≤ 100000000) := qI (Nat.le_trans (take_flat_le ls k) Gh.o)
  clear hh hb hv hkr hres hkr2
  rcases Nat.lt_or_ge k vals.length with hlt | hlt
  ·have hltI : (k : Int) < vals.length := by omega
   have c0 := Gn.o.cell (Gr.o.at hlt) (by simp)
   have hlt2 : k < ls.length := by rw [Gy.o]; exact hlt
   have Ja : Hid (Bytes wr vals[k] ls[k]) := qI ((Gg.o.2 k _ _ (List.getElem?_eq_getElem hlt) (List.getElem?_eq_getElem hlt2)).kept0 Gn.o)
   have Gp : Hid ((ls.take (k + 1)).flatten = (ls.take k).flatten ++ ls[k]) := qI (take_flat_succ ls k hlt2)
   have Jg : Hid ((ls.take (k + 1)).flatten.length ≤ 100000000) := qI (Nat.le_trans (take_flat_le ls (k + 1)) Gh.o)
   have Jh : Hid (∀ g, vblk vals[k] = some g → g ≠ q) := qI (fun g hg => by
    have h1 := (Gg.o.2 k _ _ (List.getElem?_eq_getElem hlt) (List.getElem?_eq_getElem hlt2)).lt hg
    have h2 := Gm.o
    omega)
   have CW : Hid (Calls Tryz.prog 101 #[.pointer (some ⟨q, 0, none⟩), vals[k]] wr fun e w' => e = .returned (.int .i64 ls[k].length) ∧ OfRel w q (ls.take (k + 1)).flatten w') := qI (by
    have h1 := write_any wr q _ v vals[k] _ ls[k] _ HH.o HB.o HV.o Ja.o Jh.o (Nat.le_of_lt (eatD_len _ _)) (by have := Jg.o; rw [Gp.o, List.length_append] at this; omega) (by omega) (by have := Gc.o; omega) Gj.o (by have := Je.o; have := Gm.o; omega)
    refine h1.mono ?_
    rintro e w' ⟨rfl, ⟨v', hh', hb', hv'⟩, hk', hks'⟩
    rw [← eatD_app _ startS _ ls[k] (Nat.le_refl _), ← Gp.o] at hh' hb'
    refine ⟨rfl, ⟨v', ?_, hb', fun g hg => ?_⟩, Gn.o.trans hk' (by intro i hi; simp at hi; subst hi; exact .inr (by have := Gm.o; omega)), hk'.heap Gi.o (by have := Gm.o; simp; omega), hks'⟩
    ·rw [Gp.o, List.length_append, Int.natCast_add]
     rw [← Gp.o]
     exact hh'
    ·have h2 := (hv' g hg).1
     have h3 := HH.o.lt
     omega)
   generalize hlk : ls[k].length = lk at CW
   clear hlk
   obtain ⟨va, vn, vc, hvv, -, -⟩ : ∃ a n c, vals[k] = .slice a n c ∧ True ∧ True := by
    obtain ⟨a, c, h1, -, -⟩ := Ja.o.form
    exact ⟨_, _, _, h1, trivial, trivial⟩
   rw [hvv] at c0 CW
   have e9 : o + k * 1 = o + k := by omega
   clear hvv
   go_wp2_with (go_at_call 101; refine CW.o.mono ?_; rintro e w3 ⟨rfl, hr3⟩; have Ji := qI hr3; clear hr3)
   case roundEnd => exact ⟨⟨k + 1, by go_num, by omega, Ji.o⟩, by simp [intOf]; omega⟩
  ·obtain rfl : k = vals.length := by omega
   have HT : Hid (ls.take vals.length = ls) := qI (by rw [← Gy.o]; exact List.take_length)
   rw [HT.o] at HH HB Gc
   have CS : Hid (Calls Tryz.prog 102 #[.pointer (some ⟨q, 0, none⟩)] wr fun e w' => e = .returned (.agg ((shaL ls.flatten).map bv).toArray) ∧ Kept [] wr w') := qI (by
    have h1 := sum_any wr q _ v _ ls.flatten.length HH.o HB.o (eatD_len _ _) (by have := Gc.o; omega) Gj.o
    rw [← eatD_app _ startS _ _ (Nat.le_refl _), eatD_mod _ _ _ (Nat.le_refl _)] at h1
    exact h1)
   have hsz : ((shaL ls.flatten).map bv).toArray.size = 32 := by simp [shaL_len]
   go_wp2_with first
    | (go_at_call 102; refine CS.o.mono ?_; rintro e w4 ⟨rfl, hk4⟩; have Jb := qI hk4; clear hk4)
    | (refine wpList_store32 (by rfl) (.tmp 2) (.tmp 18) (by rfl) (Gi.o.kept0 Jb.o) (outK_len _ _) (shaL_len _) (by rfl) (by rfl) ?_; intro w5 h5 hk5; have H5 := qI h5; have Jj := qI hk5; clear h5 hk5)
   have hres := H5.o.var (shaL_len _)
   refine bodyPost_ret (v := .agg ((shaL ls.flatten).map bv).toArray) (by simp only [results, Tryz.results62]; simp [hres, Sem.run_bind, asAddr, Act.put]) rfl ⟨rfl, ?_⟩
   exact (Gn.o.then Jb.o).trans Jj.o (by intro i hi; simp at hi; subst hi; exact .inr (Nat.le_refl _))
open Go.Lib (decodeL)
theorem strB_size (l : List UInt8) : (strB l).size = l.length := by simp [strB, ByteArray.size]
structure KeptB (b : Nat) (w w' : World) : Prop where
 os : w'.os = w.os
 tape : w'.tape = w.tape
 output : w'.output = w.output
 size : w.heap.size ≤ w'.heap.size
 block : ∀ k, k < w.heap.size → k ≠ b → kind w k ≠ 5 + 2 → w'.heap[k]? = w.heap[k]?
theorem KeptB.refl (b : Nat) (w : World) : KeptB b w w := ⟨rfl, rfl, rfl, Nat.le_refl _, fun _ _ _ _ => rfl⟩
theorem KeptB.trans {b : Nat} {x y z : World} (h : KeptB b x y) (k : KeptB b y z) : KeptB b x z :=
 ⟨k.os.trans h.os, k.tape.trans h.tape, k.output.trans h.output, Nat.le_trans h.size k.size, fun i hi hb hk => by
  have h1 := h.block i hi hb hk
  have h2 : kind y i = kind x i := by simp [kind, h1]
  exact (k.block i (Nat.lt_of_lt_of_le hi h.size) hb (by rw [h2]; exact hk)).trans h1⟩
theorem KeptB.of {b : Nat} {X : List Nat} {w w' : World} (h : Kept X w w') (hX : ∀ k, k ∈ X → k = b ∨ kind w k = 5 + 2) : KeptB b w w' :=
 ⟨h.os, h.tape, h.output, h.size, fun k hk hb hn => h.block k hk (fun e => by rcases hX k e with g | g; exact hb g; exact hn g)⟩
theorem KeptB.of0 {b : Nat} {w w' : World} (h : Kept [] w w') : KeptB b w w' := .of h (by simp)
theorem KeptB.heap {b : Nat} {w w' : World} (h : KeptB b w w') {k : Nat} {o : Obj} (ho : w.heap[k]? = some o) (hb : k ≠ b) (hk : kind w k ≠ 5 + 2) : w'.heap[k]? = some o :=
 (h.block k (lt_of_block ho) hb hk).trans ho
structure BW (T : Nat) (W : World) (b : Nat) (w : World) (l : List UInt8) : Prop where
 blk : ∃ p v, (p = .pointer none ∨ p = .pointer (some ⟨b, 0, none⟩)) ∧ w.heap[b]? = some (.cells #[p, v] T (0, 0)) ∧ w.ownsRow W.heap.size 5 1 v l.length (l.map bv)
 kept : Kept [b] W w
 lt : b < W.heap.size
theorem BW.stay {T : Nat} {W : World} {b : Nat} {w w' : World} {l : List UInt8} (h : BW T W b w l) (k : Kept [] w w') : BW T W b w' l := by
 obtain ⟨p, v, hp, hb, hr⟩ := h.blk
 exact ⟨⟨p, v, hp, k.heap hb (by simp), row_kept hr k (by simp)⟩, h.kept.then k, h.lt⟩
theorem BW.new {T : Nat} {W : World} {b : Nat} (h : W.heap[b]? = some (.cells #[.pointer none, .slice none 0 0] T (0, 0))) : BW T W b W [] :=
 ⟨⟨_, _, .inl rfl, h, World.ownsRow_nil _ _ _ _⟩, Kept.refl _ _, lt_of_block h⟩
def Lies (T : Nat) : Prop := liesAt Tryz.prog Tryz.prog.depth T (2 / Tryz.prog.cellsOf T) 0 121 1 = true
theorem lies_builder : Lies 121 := by unfold Lies; kernel_rfl
theorem lies_writer : Lies 172 := by unfold Lies; kernel_rfl
theorem shape_of {w : World} {b : Nat} {c : Array Value} {t : Nat} {f : Nat × Nat} (h : w.heap[b]? = some (.cells c t f)) : w.shape? b = some (t, c.size) := by simp [World.shape?, h]
theorem ptr_same (w : World) (b : Nat) : (binOp .neq 119 (.pointer (some ⟨b, 0, none⟩)) (.pointer (some ⟨b, 0, none⟩))).run Tryz.prog w = .ok (.bool false) w := by
 have h1 : (Tryz.prog.info? 121).map (·.size) = some 2 := by kernel_rfl
 obtain ⟨j, hj, _⟩ := Option.map_eq_some_iff.1 h1
 exact Lib.run_neq_ptr_same w _ Tryz.underlying119 hj
theorem to_unsafe {w : World} {b : Nat} {p v : Value} {T : Nat} (hb : w.heap[b]? = some (.cells #[p, v] T (0, 0))) : (convert 119 197 (.pointer (some ⟨b, 0, none⟩))).run Tryz.prog w = .ok (.pointer (some ⟨b, 0, none⟩)) w := by
 have h1 : (Tryz.prog.info? 121).map (·.size) = some 2 := by kernel_rfl
 obtain ⟨j, hj, hs⟩ := Option.map_eq_some_iff.1 h1
 exact Lib.run_to_unsafe w ⟨b, 0, none⟩ Tryz.underlying119 Tryz.underlying197 hj (by rw [hs]; decide) (shape_of hb) (by simp)
theorem from_unsafe {w : World} {b : Nat} {p v : Value} {T : Nat} (hT : Lies T) (hb : w.heap[b]? = some (.cells #[p, v] T (0, 0))) : (convert 197 119 (.pointer (some ⟨b, 0, none⟩))).run Tryz.prog w = .ok (.pointer (some ⟨b, 0, none⟩)) w := by
 have h1 : (Tryz.prog.info? 121).map (·.size) = some 2 := by kernel_rfl
 obtain ⟨j, hj, _⟩ := Option.map_eq_some_iff.1 h1
 exact Lib.run_from_unsafe w ⟨b, 0, none⟩ Tryz.underlying197 Tryz.underlying119 hj (shape_of hb) hT
theorem copyCheck_any {T : Nat} (hT : Lies T) {w : World} {b : Nat} {p v : Value} (hp : p = .pointer none ∨ p = .pointer (some ⟨b, 0, none⟩)) (hb : w.heap[b]? = some (.cells #[p, v] T (0, 0))) :
  Calls Tryz.prog 120 #[.pointer (some ⟨b, 0, none⟩)] w fun e w' => e = .returned (.tuple #[]) ∧ w'.heap[b]? = some (.cells #[.pointer (some ⟨b, 0, none⟩), v] T (0, 0)) ∧ Kept [b] w w' := by
 have HB := qI hb
 have c0 := cell_head (o := 0) (v := p) hb rfl
 have f0 := free_head (o := 0) hb
 have e1 := to_unsafe hb
 have e2 := from_unsafe hT hb
 clear hb
 rcases hp with rfl | rfl
 ·go_enter Tryz.func120, Tryz.ntmps120
  go_wp2_with fail
  rw [run_callFunc_extern Tryz.func161 (by kernel_rfl) (by kernel_rfl) (by kernel_rfl) (e := Extern.AbiNoEscape.same) (by kernel_rfl)]
  rw [Lib.run_noEscape]
  simp only [Result.andThen]
  rw [Oper.upon_value]
  go_wp2_with fail
  go_end0
  exact ⟨rfl, block_setCell HB.o rfl, (Kept.refl _ _).setCell (.inl (by simp)) _⟩
 ·have e3 := ptr_same w b
  go_enter Tryz.func120, Tryz.ntmps120
  go_wp2_with fail
  go_end0
  exact ⟨rfl, HB.o, Kept.refl _ _⟩
theorem tyByte : SliceTy Tryz.prog 82 5 1 1 (.int .u8 0) := ⟨Tryz.underlying82, by kernel_rfl, rfl, by decide⟩
theorem BW.opened {T : Nat} {W : World} {b : Nat} {w : World} {l : List UInt8} (h : BW T W b w l) : ∃ p a c, (p = .pointer none ∨ p = .pointer (some ⟨b, 0, none⟩)) ∧ w.heap[b]? = some (.cells #[p, .slice a l.length c] T (0, 0)) ∧ w.ownsRow W.heap.size 5 1 (.slice a l.length c) l.length (l.map bv) := by
 obtain ⟨p, v, hp, hb, hr⟩ := h.blk
 obtain ⟨a, c, rfl, -, -⟩ := (Slc.of_row hr).form
 exact ⟨p, a, c, hp, hb, hr⟩
theorem BW.wrote {T : Nat} {W : World} {b : Nat} {w w1 w2 : World} {l l' : List UInt8} {a a' : Option Addr} {c n' c' : Nat} (h : BW T W b w l) (hr : w.ownsRow W.heap.size 5 1 (.slice a l.length c) l.length (l.map bv))
  (hb1 : w1.heap[b]? = some (.cells #[.pointer (some ⟨b, 0, none⟩), .slice a l.length c] T (0, 0))) (hk1 : Kept [b] w w1) (hr2 : w2.ownsRow W.heap.size 5 1 (.slice a' n' c') n' (l'.map bv)) (hn : l'.length = n') (hk2 : Kept (Value.slice a l.length c).ownBlock.toList w1 w2) :
  w2.cell? ⟨b, 1, none⟩ = some (.slice a l.length c) ∧ w2.frozen? ⟨b, 1, none⟩ = false ∧ BW T W b (w2.setCell ⟨b, 1, none⟩ (.slice a' n' c')) l' ∧ KeptB b w (w2.setCell ⟨b, 1, none⟩ (.slice a' n' c')) := by
 subst hn
 have hlt := h.lt
 have hnb : b ∉ (Value.slice a l.length c).ownBlock.toList := fun hx => by
  have := (hr.lt _ (Option.mem_toList.1 hx)).1; omega
 have hb2 := hk2.heap hb1 hnb
 have kX : Kept (b :: (Value.slice a l.length c).ownBlock.toList) w (w2.setCell ⟨b, 1, none⟩ (.slice a' l'.length c')) :=
  ((hk1.mono (Y := b :: (Value.slice a l.length c).ownBlock.toList) (by simp)).trans' (hk2.mono (fun i hi => List.mem_cons_of_mem _ hi))).setCell (p := ⟨b, 1, none⟩) (.inl (List.mem_cons_self ..)) _
 refine ⟨cell_head hb2 rfl, free_head hb2, ⟨⟨_, _, .inr rfl, block_setCell hb2 rfl, ?_⟩, ?_, hlt⟩, KeptB.of kX ?_⟩
 ·exact row_kept hr2 ((Kept.refl [b] w2).setCell (p := ⟨b, 1, none⟩) (.inl (by simp)) _) (fun g hg hx => by
   simp at hx; have := (hr2.lt g hg).1; omega)
 ·exact h.kept.trans kX (fun i hi => by
   rcases List.mem_cons.1 hi with rfl | hi
   ·exact .inl (by simp)
   ·exact .inr (hr.lt i (Option.mem_toList.1 hi)).1)
 ·intro k hk
  rcases List.mem_cons.1 hk with rfl | hk
  ·exact .inl rfl
  ·exact .inr (row_kind hr (Option.mem_toList.1 hk))
theorem wbyte_any {T : Nat} (hT : Lies T) {W w : World} {b : Nat} {l : List UInt8} (h : BW T W b w l) (hl : l.length ≤ 100000000) (x : UInt8) :
  Calls Tryz.prog 88 #[.pointer (some ⟨b, 0, none⟩), .int .u8 x.toNat] w fun e w' => e = .returned .nilIface ∧ BW T W b w' (l ++ [x]) ∧ KeptB b w w' := by
 obtain ⟨p, a, c, hp, hb, hr⟩ := h.opened
 have H := qI h
 have HR := qI hr
 have CC := qI (copyCheck_any hT hp hb)
 have Gd : Hid (b < W.heap.size ∧ W.heap.size ≤ w.heap.size) := qI ⟨h.lt, h.kept.size⟩
 clear h hp hb hr
 go_enter Tryz.func88, Tryz.ntmps88
 go_wp2_with (first
  | (go_at_call 120; refine CC.o.mono ?_; rintro e w1 ⟨rfl, hb1, hk1⟩; have c1 := cell_head (o := 1) (v := .slice a l.length c) hb1 rfl; have Ge := qI hb1; have Ga := qI hk1; clear hb1 hk1)
  | (at_builtin; refine wpList_append_slc tyByte (row_kept HR.o (Ga.o.then ((Kept.refl [] w1).alloc (.cells #[.int .u8 x.toNat] 5))) (by intro g hg hx; have h1 := (HR.o.lt g hg).1; have h2 := Gd.o; simp at hx; omega)) (slc_one w1 (bv x) 5 _ rfl) (by simp [bv, Value.oneCell']) (by simp only [maxLen]; omega) (by omega) (by have h1 := Gd.o; have h2 := Ga.o.size; simp; omega) rfl _ _ rfl rfl rfl ?_; intro v2 w2 hown2 hk2 _ hb2; obtain ⟨a2, c2, rfl, -, -⟩ := (Slc.of_row hown2).form; obtain ⟨g1, g2, g3, g4⟩ := BW.wrote (l' := l ++ [x]) H.o HR.o (((Kept.refl [] w1).alloc (.cells #[.int .u8 x.toNat] 5)).heap Ge.o (by simp)) (Ga.o.then ((Kept.refl [] w1).alloc (.cells #[.int .u8 x.toNat] 5))) (by rw [List.map_append]; exact hown2) (by simp) hk2; have G3 := qI g3; have G4 := qI g4; clear hown2 hk2 hb2 g3 g4))
 go_ret
 exact ⟨rfl, G3.o, G4.o⟩
theorem wstring_any {T : Nat} (hT : Lies T) {W w : World} {b : Nat} {l : List UInt8} (h : BW T W b w l) (hl : l.length ≤ 100000000) (s : ByteArray) (hs : s.size ≤ 100000000) :
  Calls Tryz.prog 171 #[.pointer (some ⟨b, 0, none⟩), .string s] w fun e w' => e = .returned (.tuple #[.int .i64 s.size, .nilIface]) ∧ BW T W b w' (l ++ s.data.toList) ∧ KeptB b w w' := by
 obtain ⟨p, a, c, hp, hb, hr⟩ := h.opened
 obtain ⟨i0, hi, hz0, hz1, hz2⟩ := info_parts tyByte.info
 have H := qI h
 have HR := qI hr
 have HI := qI hi
 have HZ := qI (And.intro hz0 (And.intro hz1 hz2))
 have CC := qI (copyCheck_any hT hp hb)
 have Gd : Hid (b < W.heap.size ∧ W.heap.size ≤ w.heap.size) := qI ⟨h.lt, h.kept.size⟩
 have HL : Hid (s.data.toList.length = s.size) := qI (by simp)
 clear h hp hb hr hi hz0 hz1 hz2
 go_enter Tryz.func171, Tryz.ntmps171
 go_wp2_with (first
  | (go_at_call 120; refine CC.o.mono ?_; rintro e w1 ⟨rfl, hb1, hk1⟩; have c1 := cell_head (o := 1) (v := .slice a l.length c) hb1 rfl; have Ge := qI hb1; have Ga := qI hk1; clear hb1 hk1)
  | (at_builtin; refine Lib.wpList_append_own_string _ rfl _ _ 82 9 rfl W.heap.size 5 i0 Tryz.underlying82 Tryz.underlying9 HI.o HZ.o.1 HZ.o.2.1 HZ.o.2.2 (.slice a l.length c) l.length (l.map bv) rfl (row_kept HR.o Ga.o (by intro g hg hx; have h1 := (HR.o.lt g hg).1; have h2 := Gd.o; simp at hx; omega)) s rfl (by simp only [maxLen]; omega) (by omega) (by have h1 := Gd.o; have h2 := Ga.o.size; omega) ?_; intro v2 w2 hown2 hg2 _; obtain ⟨a2, c2, rfl, -, -⟩ := (Slc.of_row hown2).form; obtain ⟨g1, g2, g3, g4⟩ := BW.wrote (l' := l ++ s.data.toList) H.o HR.o Ge.o Ga.o (by rw [List.map_append]; exact hown2) (by rw [List.length_append, HL.o]) ((Kept.refl _ _).grown hg2 (fun k e => .inl (by simp [e]))); have G3 := qI g3; have G4 := qI g4; clear hown2 hg2 g3 g4))
 go_ret2
 exact ⟨rfl, G3.o, G4.o⟩
theorem freeze_kept {w : World} {g : Nat} (n : Nat) : Kept [g] w (w.freeze ⟨g, 0, none⟩ n) := by
 have h := Lib.below_freeze (Below.refl 0 w) (p := ⟨g, 0, none⟩) (Nat.zero_le _) n
 refine ⟨h.os, h.tape, h.output, h.size, fun k hk hx => ?_⟩
 unfold World.freeze
 split
 ·rfl
 ·simp only [Array.getElem?_modify]
  rw [if_neg (by simp at hx; omega)]
theorem bstring_any {T : Nat} {W w : World} {b : Nat} {l : List UInt8} (h : BW T W b w l) (hl : l.length ≤ 100000000) (h0 : l ≠ []) :
  Calls Tryz.prog 89 #[.pointer (some ⟨b, 0, none⟩)] w fun e w' => e = .returned (.string (strB l)) ∧ Kept [b] W w' ∧ KeptB b w w' := by
 obtain ⟨p, a, c, hp, hb, hr⟩ := h.opened
 have Gd : Hid (b < W.heap.size ∧ W.heap.size ≤ w.heap.size) := qI ⟨h.lt, h.kept.size⟩
 have Gq := qI h.kept
 have c1 := cell_head (o := 1) (v := .slice a l.length c) hb rfl
 have hl0 : l.length ≠ 0 := by simpa using h0
 obtain ⟨g, cap, cur, hv, hg, hbg, hnc, hcm, hcs, htake⟩ : ∃ g cap cur, (Value.slice a l.length c) = .slice (some ⟨g, 0, none⟩) l.length cap ∧ W.heap.size ≤ g ∧ w.heap[g]? = some (.cells cur 5 (0, 0)) ∧ l.length ≤ cap ∧ cap ≤ maxLen ∧ cur.size = cap * 1 ∧ cur.toList.take (l.length * 1) = l.map bv := by
  rcases hr.2 with ⟨_, hz⟩ | ⟨g, cap, cur, hv, r1, r2, r3, r4, r5, r6⟩
  ·exact absurd hz hl0
  ·exact ⟨g, cap, cur, hv, r1, r2, r3, r4, r5, r6⟩
 simp only [Value.slice.injEq] at hv
 obtain ⟨rfl, -, rfl⟩ := hv
 have hrow : ∀ j x, l[j]? = some x → w.drew.cell? ((⟨g, 0, none⟩ : Addr).add j) = some (.int .u8 x.toNat) := by
  intro j x hx
  have h2 := (Slc.of_row hr).2
  rcases h2 with ⟨h3, _⟩ | ⟨h3, _⟩ | ⟨g', o', cap', hv', _, _, hrow⟩
  ·cases h3
  ·exact absurd h3 hl0
  ·simp only [Value.slice.injEq, Option.some.injEq, Addr.mk.injEq] at hv'
   obtain ⟨⟨rfl, rfl, -⟩, -, -⟩ := hv'
   exact hrow.adds j (bv x) (by simp [hx])
 have hSD : ∀ W' : World, (Builtin.unsafeSliceData_ #[82] 156 #[.slice (some ⟨g, 0, none⟩) l.length c]).run Tryz.prog W' = .ok (.pointer (some ⟨g, 0, none⟩)) W' := fun W' => Lib.run_unsafeSliceData_row _ _ _ _ _ _ (by omega)
 have hUS : (Builtin.unsafeString_ #[156, 3] 9 #[.pointer (some ⟨g, 0, none⟩), .int .i64 l.length]).run Tryz.prog w.drew = .ok (.string (strB l)) (w.drew.freeze ⟨g, 0, none⟩ l.length) :=
  Lib.run_unsafeString_row w.drew 156 3 9 5 Tryz.underlying156 (by kernel_rfl) g cur.size (by have hg' : w.drew.heap[g]? = some (.cells cur 5 (0, 0)) := hbg; simp [World.shape?, hg']) l h0 (by omega) (by omega) hrow
 have HK : Hid (Kept [g] w (w.drew.freeze ⟨g, 0, none⟩ l.length)) := qI ((Kept.refl [g] w).drew.trans' (freeze_kept l.length))
 have HG : Hid (W.heap.size ≤ g ∧ kind w g = 5 + 2) := qI ⟨hg, kind_cells hbg⟩
 have Jk := qI hSD
 have Gu := qI hUS
 have hgb : b ≠ g := by have := Gd.o; omega
 clear h hp hb hr hbg hnc hcm hcs htake hrow hl0 hSD hUS hg h0
 go_enter Tryz.func89, Tryz.ntmps89
 go_wp2_with fail
 refine wp_region_last' (n := 12) (fun w' : World => w'.cell? ⟨b, 1, none⟩ = some (.slice (some ⟨g, 0, none⟩) l.length c)) 11 (by kernel_rfl) (by kernel_rfl) ?_
 change wpAnyT _ _ _ _ _ _ _ _ _ w.drew
 have hSS : (fun w' : World => w'.cell? ⟨b, 1, none⟩ = some (.slice (some ⟨g, 0, none⟩) l.length c)) w.drew := c1
 clear c1
 revert hSS Gu HK
 generalize w.drew = W2
 intro HK Gu hSS
 refine wpAnyT_start ?_
 intro O R hO hR
 have hQp : ∀ c a (d : Nat) v w, R (.panic c) (a.put (some d) v) w → R (.panic c) a w := by subst hR; exact fun _ _ _ _ _ h => h
 refine wpAnyT_take' (i := 0) (v := ?_) hO rfl rfl (by kernel_rfl) (by kernel_rfl) (by kernel_rfl) (by kernel_rfl) hQp (Or.inl ⟨by kernel_rfl, fun w hSw => ?_⟩) hSS ?_
 rotate_left
 ·go_simp; try with_reducible rfl
 try simp only [zA,zN,zB,zC,zD]
 refine wpAnyT_take' (i := 1) (v := ?_) hO rfl rfl (by kernel_rfl) (by kernel_rfl) (by kernel_rfl) (by kernel_rfl) hQp (Or.inl ⟨by kernel_rfl, fun w hSw => ?_⟩) hSS ?_
 rotate_left
 ·go_simp; try with_reducible rfl
 try simp only [zA,zN,zB,zC,zD]
 refine wpAnyT_take' (i := 2) (v := ?_) hO rfl rfl (by kernel_rfl) (by kernel_rfl) (by kernel_rfl) (by kernel_rfl) hQp (Or.inl ⟨by kernel_rfl, fun w hSw => ?_⟩) hSS ?_
 rotate_left
 ·go_simp; try with_reducible rfl
 try simp only [zA,zN,zB,zC,zD]
 refine wpAnyT_take' (i := 3) (v := ?_) hO rfl rfl (by kernel_rfl) (by kernel_rfl) (by kernel_rfl) (by kernel_rfl) hQp (Or.inl ⟨by kernel_rfl, fun w hSw => ?_⟩) hSS ?_
 rotate_left
 ·go_simp; try with_reducible rfl
 try simp only [zA,zN,zB,zC,zD]
 refine wpAnyT_take' (i := 5) (v := ?_) hO rfl rfl (by kernel_rfl) (by kernel_rfl) (by kernel_rfl) (by kernel_rfl) hQp (Or.inl ⟨by kernel_rfl, fun w hSw => ?_⟩) hSS ?_
 rotate_left
 ·go_simp; try with_reducible rfl
 try simp only [zA,zN,zB,zC,zD]
 refine wpAnyT_take' (i := 6) (v := ?_) hO rfl rfl (by kernel_rfl) (by kernel_rfl) (by kernel_rfl) (by kernel_rfl) hQp (Or.inl ⟨by kernel_rfl, fun w hSw => ?_⟩) hSS ?_
 rotate_left
 ·go_simp; try with_reducible rfl
 try simp only [zA,zN,zB,zC,zD]
 refine wpAnyT_take' (i := 7) (v := ?_) hO rfl rfl (by kernel_rfl) (by kernel_rfl) (by kernel_rfl) (by kernel_rfl) hQp (Or.inl ⟨by kernel_rfl, fun w hSw => ?_⟩) hSS ?_
 rotate_left
 ·go_simp; try with_reducible rfl
 try simp only [zA,zN,zB,zC,zD]
 refine wpAnyT_take' (i := 8) (v := ?_) hO rfl rfl (by kernel_rfl) (by kernel_rfl) (by kernel_rfl) (by kernel_rfl) hQp (Or.inl ⟨by kernel_rfl, fun w hSw => ?_⟩) hSS ?_
 rotate_left
 ·go_simp; try with_reducible rfl
 try simp only [zA,zN,zB,zC,zD]
 refine wpAnyT_take' (i := 9) (v := ?_) hO rfl rfl (by kernel_rfl) (by kernel_rfl) (by kernel_rfl) (by kernel_rfl) hQp (Or.inl ⟨by kernel_rfl, fun w hSw => ?_⟩) hSS ?_
 rotate_left
 ·go_simp; try with_reducible rfl
 try simp only [zA,zN,zB,zC,zD]
 have hSD := Jk.o
 refine wpAnyT_take' (i := 4) (v := ?_) hO rfl rfl (by kernel_rfl) (by kernel_rfl) (by kernel_rfl) (by kernel_rfl) hQp (Or.inl ⟨by kernel_rfl, fun w hSw => ?_⟩) hSS ?_
 rotate_left
 ·go_simp; try with_reducible rfl
 try simp only [zA,zN,zB,zC,zD]
 have hUS := Gu.o
 refine wpAnyT_one' (i := 10) hO rfl (by kernel_rfl) (by kernel_rfl) (fun K hK => ?_)
 go_simp
 have hS2 : (fun w' : World => w'.cell? ⟨b, 1, none⟩ = some (.slice (some ⟨g, 0, none⟩) l.length c)) (W2.freeze ⟨g, 0, none⟩ l.length) := (freeze_kept l.length).cell hSS (by simpa using hgb)
 refine hK _ _ (.inr hS2) ?_
 clear hK K
 try simp only [zA,zN,zB,zC,zD]
 clear hSS
 have hSS := hS2
 clear hS2 hSD hUS
 refine wpAnyT_one' (i := 11) hO rfl (by kernel_rfl) (by kernel_rfl) (fun K hK => ?_)
 go_simp
 refine hK _ _ (.inl rfl) ?_
 clear hK K
 try simp only [zA,zN,zB,zC,zD]
 refine wpAnyT_done' hO (by kernel_rfl) ?_ _
 subst hR
 try clear hQp hO O
 go_wp2_with fail
 go_ret
 refine ⟨rfl, Gq.o.trans HK.o (fun i hi => by simp at hi; subst hi; exact .inr HG.o.1), KeptB.of HK.o (fun i hi => by simp at hi; subst hi; exact .inr HG.o.2)⟩
structure Tabs (w : World) : Prop where
 utf : Lib.Utf8Tabs (Tryz.shDecode_ren.g 3) (Tryz.shDecode_ren.g 4) w
 pow : Lib.TabIs Tryz.prog w "internal/strconv.uint64pow10" .u64 Lib.pow10Tab
theorem Tabs.kept0 {w w' : World} (h : Tabs w) (k : Kept [] w w') : Tabs w' := by
 obtain ⟨h1, h3⟩ := h
 refine ⟨⟨fun c hc => k.cell (h1.1 c hc) (by simp), fun i hi => ⟨k.cell (h1.2 i hi).1 (by simp), k.cell (h1.2 i hi).2 (by simp)⟩⟩, ?_⟩
 ·have hs : (Tryz.prog.globalNamed "internal/strconv.uint64pow10").isSome = true := by kernel_rfl
  obtain ⟨g, hg⟩ := Option.isSome_iff_exists.1 hs
  exact Go.Joins.tab_stays hg h3 (k.below (Nat.le_refl _) (by simp)) (Nat.le_refl _)
theorem of_below {P : Program} {f : FuncId} {args : Array Value} {w : World} {r : Ending} (h : Calls P f args w fun e w' => e = r ∧ Below w.heap.size w w') : Calls P f args w fun e w' => e = r ∧ Kept [] w w' :=
 h.mono fun _ _ ⟨h1, h2⟩ => ⟨h1, Kept.of_below h2⟩
theorem of_same {P : Program} {f : FuncId} {args : Array Value} {w : World} {r : Ending} (h : Calls P f args w fun e w' => e = r ∧ w' = w) : Calls P f args w fun e w' => e = r ∧ w = w' :=
 h.mono fun _ _ ⟨h1, h2⟩ => ⟨h1, h2.symm⟩
theorem libValid {w : World} (ht : Tabs w) (s : ByteArray) (hs : s.size ≤ 281474976710656) : Calls Tryz.prog 118 #[.string s] w fun e w' => e = .returned (.bool (bytesOk s)) ∧ Kept [] w w' :=
 of_below (Any.utf8_ValidString Tryz.shValid s w (by omega) ht.utf)
theorem libIndexByte (s : ByteArray) (c : Int) (w : World) : Calls Tryz.prog 92 #[.string s, .int .u8 c] w fun e w' => e = .returned (.int .i64 (Lib.indexByte s.data.toList c.toNat.toUInt8)) ∧ w = w' :=
 of_same (Any.strings_IndexByte Tryz.shIndexByte s c w)
theorem libHasPrefix (s p : ByteArray) (w : World) : Calls Tryz.prog 153 #[.string s, .string p] w fun e w' => e = .returned (.bool (p.data.toList.isPrefixOf s.data.toList)) ∧ w = w' :=
 of_same (Any.strings_HasPrefix Tryz.shHasPrefix s p w)
theorem libFormatBool (b : Bool) (w : World) : Calls Tryz.prog 172 #[.bool b] w fun e w' => e = .returned (.string (strB (Lib.formatBool b))) ∧ w = w' :=
 of_same (Any.strconv_FormatBool Tryz.shFormatBool b w)
theorem kept_grow {w : World} (n : Nat) (os : Array Obj) : Kept [] w (Sort.grow (w.drewN n) os) :=
 ⟨rfl, rfl, rfl, by simp [Sort.grow], fun k hk _ => by
  show (w.heap ++ os)[k]? = w.heap[k]?
  rw [Array.getElem?_append_left hk]⟩
theorem libItoa {w : World} (ht : Tabs w) (n : Int) (h0 : -9223372036854775808 ≤ n) (h1 : n ≤ 9223372036854775807) : Calls Tryz.prog 157 #[.int .i64 n] w fun e w' => e = .returned (.string (strB (Lib.itoa n))) ∧ Kept [] w w' :=
 (Any.strconv_Itoa Tryz.shItoa n h0 h1 w ht.pow).mono fun e w' ⟨h1, k, os, h2⟩ => ⟨h1, by rw [h2]; exact kept_grow k os⟩
theorem libTrim (s cs : ByteArray) (w : World) (hs : s.size ≤ 281474976710656) (h1 : cs.size ≤ 100) (h2 : ∀ (j : Nat) b, cs.data.toList[j]? = some b → b.toNat < 128) : Calls Tryz.prog 90 #[.string s, .string cs] w fun e w' => e = .returned (.string (strB (Lib.trimS s.data.toList cs.data.toList))) ∧ Kept [] w w' :=
 of_below (Any.strings_Trim_laid Tryz.shTrim (by kernel_rfl) s cs w (by omega) (by omega) h2)
theorem utfValid {w : World} (ht : Tabs w) (s : ByteArray) (hs : s.size ≤ 281474976710656) : Calls Tryz.prog 82 #[.string s] w fun e w' => e = .returned (.bool (bytesOk s)) ∧ Kept [] w w' := by
 have C := qI (libValid ht s hs)
 clear ht
 go_enter Tryz.func82, Tryz.ntmps82
 go_wp2_with (go_at_call 118; refine C.o.mono ?_; rintro e w2 ⟨rfl, hk2⟩)
 go_ret
 exact ⟨rfl, hk2⟩
theorem Bytes.at {w : World} {a : Option Addr} {c : Nat} {l : List UInt8} (h : Bytes w (.slice a l.length c) l) {k : Nat} (hk : k < l.length) : ∃ g o, a = some ⟨g, o, none⟩ ∧ w.cell? ⟨g, o + k, none⟩ = some (.int .u8 l[k].toNat) := by
 rcases h.2 with ⟨_, h0⟩ | ⟨h0, _⟩ | ⟨g, o, cap, hv, _, _, hrow⟩
 ·omega
 ·omega
 ·simp only [Value.slice.injEq] at hv
  exact ⟨g, o, hv.1, hrow.cells k (bv l[k]) (by simp [hk])⟩
def hexL (l : List UInt8) : List UInt8 := l.flatMap (fun c => [hexd (c.toNat / 16), hexd (c.toNat % 16)])
theorem hexL_snoc (l : List UInt8) (c : UInt8) : hexL (l ++ [c]) = (hexL l ++ [hexd (c.toNat / 16)]) ++ [hexd (c.toNat % 16)] := by simp [hexL]
theorem hexL_len : ∀ (l : List UInt8), (hexL l).length = 2 * l.length
 | [] => rfl
 | c :: l => by
  have := hexL_len l
  simp only [hexL, List.flatMap_cons, List.length_append, List.length_cons, List.length_nil] at *
  omega
theorem hexc : ∀ (k : Nat) (h : k < 16), (⟨#[48, 49, 50, 51, 52, 53, 54, 55, 56, 57, 97, 98, 99, 100, 101, 102]⟩ : ByteArray)[k]'h = hexd k := by
 have h : ∀ k : Fin 16, (⟨#[48, 49, 50, 51, 52, 53, 54, 55, 56, 57, 97, 98, 99, 100, 101, 102]⟩ : ByteArray)[k.val]'k.isLt = hexd k.val := by decide
 exact fun k hk => h ⟨k, hk⟩
theorem hex_any {w : World} {a : Option Addr} {c : Nat} {l : List UInt8} (h : Bytes w (.slice a l.length c) l) (hl : l.length ≤ 1000000) (h0 : l ≠ []) :
  Calls Tryz.prog 44 #[.slice a l.length c] w fun e w' => e = .returned (.string (strB (hexL l))) ∧ Kept [] w w' := by
 have H := qI h
 obtain ⟨W0, Gf⟩ : ∃ W0, Hid (W0 = w.alloc (.cells #[.pointer none, .slice none 0 0] 121)) := ⟨_, qI rfl⟩
 have Gk : Hid (Kept [] w W0) := qI (by rw [Gf.o]; exact (Kept.refl _ _).alloc _)
 have Gv : Hid (BW 121 W0 w.heap.size W0 []) := qI (BW.new (by rw [Gf.o]; exact block_alloc rfl))
 clear h
 go_enter Tryz.func44, Tryz.ntmps44
 go_wp2_with fail
 rw [← Gf.o]
 go_loopw [8] (fun i wr => ∃ k : Nat, i = .int .i64 k ∧ k ≤ l.length ∧ BW 121 W0 w.heap.size wr (hexL (l.take k))) (fun i _ => l.length - (intOf i).toNat)
 case atStart => exact ⟨0, rfl, Nat.zero_le _, Gv.o⟩
 case round =>
  obtain ⟨k, rfl, hk, hb⟩ := hrel
  have HB := qI hb
  have Gq : Hid (Kept [] w wr) := qI (Gk.o.trans hb.kept (by intro i hi; simp at hi; subst hi; exact .inr (Nat.le_refl _)))
  clear hb
  by_cases hlt : k < l.length
  ·have hltI : (k : Int) < l.length := by omega
   obtain ⟨g, o, rfl, q0⟩ := Bytes.at (H.o.kept0 Gq.o) hlt
   have hx : (l[k].toNat : Int) ≤ 255 := by have := l[k].toNat_lt; omega
   have Gb : Hid (hexL (l.take (k + 1)) = (hexL (l.take k) ++ [hexd (l[k].toNat / 16)]) ++ [hexd (l[k].toNat % 16)]) := qI (by rw [List.take_succ_eq_append_getElem hlt, hexL_snoc])
   revert q0 hx Gb
   generalize l[k] = x
   intro q0 hx Gb
   have hlen : (hexL (l.take k)).length ≤ 50000000 := by rw [hexL_len, List.length_take]; omega
   go_wp2_with fail
   refine (wbyte_any lies_builder HB.o (by omega) _).mono ?_
   rintro e w1 ⟨rfl, hb1, -⟩
   rw [hexc _ (by omega)] at hb1
   have Ge := qI hb1
   clear hb1
   go_wp2_with fail
   refine (wbyte_any lies_builder Ge.o (by rw [List.length_append]; simp only [List.length_cons, List.length_nil]; omega) _).mono ?_
   rintro e w2 ⟨rfl, hb2, -⟩
   rw [hexc _ (by omega), ← Gb.o] at hb2
   have Gw := qI hb2
   clear hb2
   go_wp2_with fail
   case roundEnd => exact ⟨⟨k + 1, by go_num, by omega, Gw.o⟩, by simp [intOf]; omega⟩
  ·obtain rfl : k = l.length := by omega
   have Ge : Hid (BW 121 W0 w.heap.size wr (hexL l)) := qI (by have := HB.o; rw [List.take_length] at this; exact this)
   have H0 := qI h0
   clear h0
   have hlen : (hexL l).length ≤ 50000000 := by rw [hexL_len]; omega
   go_wp2_with (go_at_call 89; refine (bstring_any Ge.o (by omega) (by intro e; have h1 := congrArg List.length e; rw [hexL_len] at h1; simp only [List.length_nil] at h1; exact H0.o (List.eq_nil_of_length_eq_zero (by omega)))).mono ?_; rintro e w2 ⟨rfl, hk2, -⟩)
   go_ret
   exact ⟨rfl, Gk.o.trans hk2 (by intro i hi; simp at hi; subst hi; exact .inr (Nat.le_refl _))⟩
theorem wbyte_34 {T : Nat} (hT : Lies T) {W w : World} {b : Nat} {l : List UInt8} (h : BW T W b w l) (hl : l.length ≤ 100000000) :
  Calls Tryz.prog 88 #[.pointer (some ⟨b, 0, none⟩), .int .u8 34] w fun e w' => e = .returned .nilIface ∧ BW T W b w' (l ++ [34]) ∧ KeptB b w w' := wbyte_any hT h hl 34
theorem wbyte_92 {T : Nat} (hT : Lies T) {W w : World} {b : Nat} {l : List UInt8} (h : BW T W b w l) (hl : l.length ≤ 100000000) :
  Calls Tryz.prog 88 #[.pointer (some ⟨b, 0, none⟩), .int .u8 92] w fun e w' => e = .returned .nilIface ∧ BW T W b w' (l ++ [92]) ∧ KeptB b w w' := wbyte_any hT h hl 92
theorem quoteB_len (c : UInt8) : (quoteB c).length ≤ 6 := by
 unfold quoteB
 split
 ·simp
 ·split <;> simp
theorem quote_take (s : List UInt8) (k : Nat) : (((s.take k).flatMap quoteB)).length ≤ 6 * s.length := by
 have h : ∀ l : List UInt8, (l.flatMap quoteB).length ≤ 6 * l.length := by
  intro l
  induction l with
  | nil => simp
  | cons c l ih =>
   have := quoteB_len c
   simp only [List.flatMap_cons, List.length_append, List.length_cons]
   omega
 have h1 := h (s.take k)
 rw [List.length_take] at h1
 omega
theorem utfQuote {w : World} (ht : Tabs w) (s : ByteArray) (hs : s.size ≤ 1000000) (hv : bytesOk s = true) :
  Calls Tryz.prog 206 #[.string s] w fun e w' => e = .returned (.tuple #[.string (strB (quoteL s.data.toList)), .int .i64 0]) ∧ Kept [] w w' := by
 have CV := qI (utfValid ht s (by omega))
 rw [hv] at CV
 have HL : Hid (s.data.toList.length = s.size) := qI (by simp)
 clear ht hv
 go_enter Tryz.func206, Tryz.ntmps206
 go_wp2_with (go_at_call 82; refine CV.o.mono ?_; rintro e w1 ⟨rfl, hk1⟩; have Ga := qI hk1; clear hk1)
 obtain ⟨W0, Gf⟩ : ∃ W0, Hid (W0 = w1.alloc (.cells #[.pointer none, .slice none 0 0] 121)) := ⟨_, qI rfl⟩
 have Gk : Hid (Kept [] w1 W0) := qI (by rw [Gf.o]; exact (Kept.refl _ _).alloc _)
 have Gv : Hid (BW 121 W0 w1.heap.size W0 []) := qI (BW.new (by rw [Gf.o]; exact block_alloc rfl))
 rw [← Gf.o]
 refine (wbyte_34 lies_builder Gv.o (by simp)).mono ?_
 rintro e w2 ⟨rfl, hb2, -⟩
 have Gw := qI hb2
 clear hb2
 go_wp2_with fail
 go_loopw [13] (fun i wr => ∃ k : Nat, i = .int .i64 k ∧ k ≤ s.size ∧ BW 121 W0 w1.heap.size wr (34 :: (s.data.toList.take k).flatMap quoteB)) (fun i _ => s.size - (intOf i).toNat)
 case atStart => exact ⟨0, rfl, Nat.zero_le _, Gw.o⟩
 case round =>
  obtain ⟨k, rfl, hk, hb⟩ := hrel
  have HB := qI hb
  have Gq : Hid (Kept [] w1 wr) := qI (Gk.o.trans hb.kept (by intro i hi; simp at hi; subst hi; exact .inr (Nat.le_refl _)))
  clear hb
  have hq : (34 :: (s.data.toList.take k).flatMap quoteB : List UInt8).length ≤ 6000001 := by
   have := quote_take s.data.toList k
   rw [HL.o] at this
   rw [List.length_cons]
   omega
  by_cases hlt : k < s.size
  ·have hltI : (k : Int) < s.size := by omega
   have hlt' : k < s.data.toList.length := by rw [HL.o]; exact hlt
   have Gb : Hid (34 :: (s.data.toList.take (k + 1)).flatMap quoteB = (34 :: (s.data.toList.take k).flatMap quoteB) ++ quoteB (s[k]'hlt)) := qI (by
    rw [List.take_succ_eq_append_getElem hlt', List.flatMap_append, List.cons_append]
    simp only [List.flatMap_cons, List.flatMap_nil, List.append_nil]
    rfl)
   have hx : ((s[k]'hlt).toNat : Int) ≤ 255 := by have := (s[k]'hlt).toNat_lt; omega
   clear hlt'
   revert hx Gb
   generalize 34 :: (s.data.toList.take k).flatMap quoteB = L at *
   generalize hsk : s[k]'hlt = x
   intro Gb hx
   by_cases h32 : x.toNat < 32
   ·have h32I : (x.toNat : Int) < 32 := by omega
    have HQ : Hid (quoteB x = [92, 117, 48, 48] ++ hexL [x]) := qI (by unfold quoteB; rw [if_pos h32]; rfl)
    have CH := qI (hex_any (w := wr.alloc (.cells #[.int .u8 x.toNat] 5)) (a := some ⟨wr.heap.size, 0, none⟩) (c := 1) (l := [x]) (slc_one wr (bv x) 5 _ rfl) (by simp) (by simp))
    clear h32
    go_wp2_with (go_at_call 44; refine CH.o.mono ?_; rintro e w3 ⟨rfl, hk3⟩; have Jl := qI (((Kept.refl [] wr).alloc (.cells #[.int .u8 x.toNat] 5)).then hk3); clear hk3)
    have Jc : Hid ((({ data := #[92, 117, 48, 48] } : ByteArray) ++ strB (hexL [x])).data.toList = [92, 117, 48, 48] ++ hexL [x]) := qI (by
     rw [ByteArray.data_append, Array.toList_append, strB_list])
    refine (wstring_any lies_builder (HB.o.stay Jl.o) (by omega) _ (by rw [← ByteArray.size_data, ← Array.length_toList, Jc.o, List.length_append, hexL_len]; simp)).mono ?_
    rintro e w4 ⟨rfl, hb4, -⟩
    rw [Jc.o, ← HQ.o, ← Gb.o] at hb4
    have Gx := qI hb4
    clear hb4
    go_wp2_with fail
    case roundEnd => exact ⟨⟨k + 1, by go_num, by omega, Gx.o⟩, by simp [intOf]; omega⟩
   ·have h32I : ¬ (x.toNat : Int) < 32 := by omega
    by_cases hc : x = 34 ∨ x = 92
    ·have HQ : Hid (quoteB x = [92] ++ [x]) := qI (by unfold quoteB; rw [if_neg h32, if_pos hc]; rfl)
     have hg : ((x.toNat : Int) == 34) = true ∨ (((x.toNat : Int) == 34) = false ∧ ((x.toNat : Int) == 92) = true) := by
      rcases hc with rfl | rfl
      ·exact .inl rfl
      ·exact .inr ⟨rfl, rfl⟩
     clear hc h32
     rcases hg with g1 | ⟨g1, g2⟩
     all_goals
      go_wp2_with fail
      refine (wbyte_92 lies_builder HB.o (by omega)).mono ?_
      rintro e w3 ⟨rfl, hb3, -⟩
      have Gl := qI hb3
      clear hb3
      go_wp2_with fail
      refine (wbyte_any lies_builder Gl.o (by rw [List.length_append]; simp only [List.length_cons, List.length_nil]; omega) x).mono ?_
      rintro e w4 ⟨rfl, hb4, -⟩
      have Gx := qI hb4
      clear hb4
      go_wp2_with fail
      case roundEnd => exact ⟨⟨k + 1, by go_num, by omega, by rw [Gb.o, HQ.o, ← List.append_assoc]; exact Gx.o⟩, by simp [intOf]; omega⟩
    ·have HQ : Hid (quoteB x = [x]) := qI (by unfold quoteB; rw [if_neg h32, if_neg hc])
     have hn : ∀ v : UInt8, x ≠ v → ((x.toNat : Int) == (v.toNat : Int)) = false := fun v hv => (nat_ne (fun e => hv (UInt8.toNat_inj.1 e))).1
     have g1 : ((x.toNat : Int) == 34) = false := hn 34 (fun e => hc (.inl e))
     have g2 : ((x.toNat : Int) == 92) = false := hn 92 (fun e => hc (.inr e))
     clear hc h32 hn
     go_wp2_with fail
     refine (wbyte_any lies_builder HB.o (by omega) x).mono ?_
     rintro e w3 ⟨rfl, hb3, -⟩
     have Gl := qI hb3
     clear hb3
     go_wp2_with fail
     case roundEnd => exact ⟨⟨k + 1, by go_num, by omega, by rw [Gb.o, HQ.o]; exact Gl.o⟩, by simp [intOf]; omega⟩
  ·obtain rfl : k = s.size := by omega
   have HT : Hid ((34 :: (s.data.toList.take s.size).flatMap quoteB) ++ [34] = quoteL s.data.toList) := qI (by
    rw [List.take_of_length_le (by rw [HL.o]; exact Nat.le_refl _)]
    rfl)
   revert hq HB HT
   generalize 34 :: (s.data.toList.take s.size).flatMap quoteB = L
   intro HB hq HT
   go_wp2_with (first
    | (go_at_call 88; refine (wbyte_34 lies_builder HB.o (by omega)).mono ?_; rintro e w3 ⟨rfl, hb3, -⟩; rw [HT.o] at hb3; have Gl := qI hb3; clear hb3)
    | (go_at_call 89; refine (bstring_any Gl.o (by rw [← HT.o, List.length_append]; simp only [List.length_cons, List.length_nil]; omega) (by unfold quoteL; exact List.cons_ne_nil _ _)).mono ?_; rintro e w4 ⟨rfl, hk4, -⟩))
   go_ret2
   exact ⟨rfl, (Ga.o.then Gk.o).trans hk4 (by intro i hi; simp at hi; subst hi; exact .inr Ga.o.size)⟩
theorem commas_snoc : ∀ (l : List (List UInt8)) (x : List UInt8), commas (l ++ [x]) = if l = [] then x else commas l ++ 44 :: x
 | [], x => rfl
 | [a], x => rfl
 | a :: b :: t, x => by
  have ih := commas_snoc (b :: t) x
  rw [if_neg (by simp)] at ih
  rw [if_neg (by simp)]
  show a ++ (44 :: commas (b :: t ++ [x])) = (a ++ (44 :: commas (b :: t))) ++ 44 :: x
  rw [ih]
  simp
def preC (it : Nat → List UInt8) (k : Nat) : List UInt8 := commas ((List.range k).map it)
theorem preC_zero (it : Nat → List UInt8) : preC it 0 = [] := rfl
theorem preC_one (it : Nat → List UInt8) : preC it 1 = it 0 := rfl
theorem preC_succ (it : Nat → List UInt8) {k : Nat} (h : 0 < k) : preC it (k + 1) = (preC it k ++ [44]) ++ it k := by
 unfold preC
 rw [List.range_succ, List.map_append, List.map_cons, List.map_nil, commas_snoc, if_neg (by
  intro e
  have := congrArg List.length e
  simp at this
  omega)]
 simp
theorem preC_len (it : Nat → List UInt8) (k : Nat) : (preC it (k + 1)).length = (preC it k).length + (if k = 0 then 0 else 1) + (it k).length := by
 rcases Nat.eq_zero_or_pos k with rfl | h
 ·rw [preC_one, preC_zero]; simp
 ·rw [preC_succ it h, if_neg (by omega)]
  simp only [List.length_append, List.length_cons, List.length_nil]
theorem preC_le (it : Nat → List UInt8) {k n : Nat} (h : k ≤ n) : (preC it k).length ≤ (preC it n).length := by
 induction n with
 | zero => obtain rfl : k = 0 := by omega
           exact Nat.le_refl _
 | succ n ih =>
  by_cases e : k = n + 1
  ·subst e; exact Nat.le_refl _
  ·have := ih (by omega)
   have := preC_len it n
   omega
theorem preC_all {α : Type} (f : α → List UInt8) (xs : List α) : preC (fun k => (xs.map f).getD k []) xs.length = commas (xs.map f) := by
 unfold preC
 congr 1
 refine List.ext_getElem (by simp) fun i h1 h2 => ?_
 simp only [List.getElem_map, List.getElem_range]
 simp only [List.length_map, List.length_range] at h1
 simp [h1]
end Go.Proofs.YtckbnjipecclaaaGreatDoor

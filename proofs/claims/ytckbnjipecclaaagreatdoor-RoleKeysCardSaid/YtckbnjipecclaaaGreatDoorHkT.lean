/- Parts of one proof, merged: XIH XII XIJ. -/
import Derived.Test.YtckbnjipecclaaaGreatDoorHkS
import Derived.Laws.Cover3
import Derived.Test.YtckbnjipecclaaaGreatDoorHkO
set_option linter.all false
set_option maxHeartbeats 12800000
set_option maxRecDepth 10000
set_option linter.unusedVariables false
set_option linter.unusedSimpArgs false
set_option linter.unnecessarySimpa false
namespace Go.Proofs.YtckbnjipecclaaaGreatDoor
open Go.RowKit
theorem unhex_any (s : ByteArray) (hs : s.size ≤ 140737488355328) (w : World) : Calls Tryz.prog 45 #[.string s] w fun e w' => (match unhexS s with | none => e = .returned (.tuple #[.slice none 0 0, .int .i64 10]) | some l => ∃ a c, e = .returned (.tuple #[.slice a l.length c, .int .i64 0]) ∧ Bytes w' (.slice a l.length c) l ∧ ∀ g, vblk (.slice a l.length c) = some g → w.heap.size ≤ g) ∧ Kept [] w w' := by
 unfold unhexS
 by_cases h : s.size % 2 = 0 ∧ s.data.toList.all isLow = true
 ·rw [if_pos h]
  refine (unhex_yes s hs h.1 h.2 w).mono ?_
  rintro e w' ⟨⟨a, c, rfl, ho⟩, hk⟩
  exact ⟨⟨a, c, rfl, by
   have h1 := Slc.of_row ho
   exact h1, fun g hg => (ho.lt g (own_of_vblk hg)).1⟩, hk⟩
 ·rw [if_neg h]
  refine unhex_no s hs ?_ w
  rw [not_and] at h
  rcases Nat.mod_two_eq_zero_or_one s.size with h1 | h1
  ·exact .inr (by simpa using h h1)
  ·exact .inl h1
def zeros32 : List UInt8 := List.replicate 32 0
def zeroKey : KeyS := ⟨0, 0, zeros32⟩
theorem wpList_load34g {ops : Array Oper} {rest : List Oper} {op : Oper} {a : Act} {w : World} {Q : Exit → Act → World → Prop} (hw : Region.wanted op (yielded ops a.tmps) = true) (x : Operand) (ho : op.op = .load 24 x) {g : Nat} {k : KeyS} (h0 : KeyAt w g k) (hl : k.root.length = 32)
  (hx : a.eval x = .pointer (some ⟨g, 0, none⟩)) (h : wpList Tryz.prog ops Q rest (a.put op.dst (.agg (keyA k))) w) : wpList Tryz.prog ops Q (op :: rest) a w :=
 BigFrame.wpList_want hw fun _ hK => wp_load_mid 24 x ho g 0 hx (keyL k) _ h0.range Tryz.underlying24 rfl (by rw [keyL_len hl]; exact info34) (hK _ _ h)
theorem keyL_one (k : KeyS) : ∀ v ∈ keyL k, v.oneCell' = true := by
 intro v hv
 rcases List.mem_cons.1 hv with rfl | hv
 ·rfl
 rcases List.mem_cons.1 hv with rfl | hv
 ·rfl
 exact bvs_one _ v hv
theorem KeyAt.there {w : World} {g : Nat} {k : KeyS} (h : KeyAt w g k) (hl : k.root.length = 32) : w.there g 0 34 := fun j hj => by
 rw [Nat.zero_add]
 have hj' : j < (keyL k).length := by rw [keyL_len hl]; exact hj
 exact ⟨by rw [cell_head (v := (keyL k)[j]) h (by simp [keyA, hj'])]; rfl, free_head h⟩
theorem KeyAt.kept' {w w' : World} {g i : Nat} {k : KeyS} (h : KeyAt w g k) (hk : Kept [i] w w') (hi : g ≠ i) : KeyAt w' g k := hk.heap h (by simpa using hi)
theorem KeyAt.put {w : World} {g : Nat} {k k' : KeyS} (h : KeyAt w g k) (hl : k.root.length = 32) (hl' : k'.root.length = 32) : KeyAt (w.setCells g 0 (keyL k')) g k' := by
 obtain ⟨cur, h1, h2, h3⟩ := setCells_at g (keyL k') 0 w _ h
 have hz : (keyA k).size = 34 := by simp [keyA, keyL_len hl]
 have e : cur = keyA k' := by
  apply Array.ext
  ·rw [h2, hz]; simp [keyA, keyL_len hl']
  ·intro i hi1 hi2
   have hi3 : i < 34 := by rw [h2, hz] at hi1; exact hi1
   have h4 := h3 i (by rw [hz]; exact hi3)
   rw [if_pos (by rw [keyL_len hl']; omega), Array.getElem?_eq_getElem hi1, Nat.sub_zero, List.getElem?_eq_getElem (by rw [keyL_len hl']; exact hi3)] at h4
   rw [Option.some.inj h4]
   simp [keyA]
 unfold KeyAt
 rw [h1, e]
theorem KeyAt.setRoot {w : World} {g : Nat} {b h : Int} {r r' : List UInt8} (hk : KeyAt w g ⟨b, h, r⟩) (hl : r.length = 32) (hl' : r'.length = 32) : KeyAt (w.setCells g 2 (r'.map bv)) g ⟨b, h, r'⟩ := by
 obtain ⟨cur, h1, h2, h3⟩ := setCells_at g (r'.map bv) 2 w _ hk
 have hz : (keyA ⟨b, h, r⟩).size = 34 := by simp [keyA, keyL, hl]
 have e : cur = keyA ⟨b, h, r'⟩ := by
  apply Array.ext'
  apply List.ext_getElem?
  intro i
  have e0 : (keyA ⟨b, h, r'⟩).toList = .int .i64 b :: .int .i64 h :: r'.map bv := rfl
  rw [e0, Array.getElem?_toList]
  by_cases hi : i < 34
  ·rw [h3 i (by rw [hz]; exact hi)]
   by_cases h2i : 2 ≤ i
   ·rw [if_pos (by simp [hl']; omega)]
    obtain ⟨j, rfl⟩ : ∃ j, i = j + 2 := ⟨i - 2, by omega⟩
    rfl
   ·rw [if_neg (by omega)]
    obtain rfl | rfl : i = 0 ∨ i = 1 := by omega
    ·rfl
    ·rfl
  ·rw [Array.getElem?_eq_none (by rw [h2, hz]; omega), List.getElem?_eq_none (by simp [hl']; omega)]
 unfold KeyAt
 rw [h1, e]
theorem wpList_store34 {ops : Array Oper} {rest : List Oper} {op : Oper} {a : Act} {w : World} {Q : Exit → Act → World → Prop} (hgd : op.guard = none) (x y : Operand) (ho : op.op = .store 24 x y) {g : Nat} {k k0 : KeyS} (h0 : KeyAt w g k0) (hl0 : k0.root.length = 32) (hl : k.root.length = 32)
  (hx : a.eval x = .pointer (some ⟨g, 0, none⟩)) (hy : a.eval y = .agg (keyA k)) (h : ∀ w', KeyAt w' g k → Kept [g] w w' → wpList Tryz.prog ops Q rest (a.put op.dst undef) w') : wpList Tryz.prog ops Q (op :: rest) a w := by
 have hsz : (keyA k).size = 34 := by simp [keyA, keyL_len hl]
 refine wpList_store_mid hgd 24 x y ho g 0 (keyA k) hx hy (by rw [hsz]; exact h0.there hl0) (by rw [hsz]; exact info34) (all_oneCell_toArray (keyL_one k)) (h _ ?_ (setCells_kept _ _ _ _))
 exact h0.put hl0 hl
theorem KeyAt.var {w : World} {g : Nat} {k : KeyS} (h : KeyAt w g k) (hl : k.root.length = 32) : (loadVar 24 ⟨g, 0, none⟩).run Tryz.prog w = .ok (.agg (keyA k)) w := run_loadVar_mid (P := Tryz.prog) w g 0 24 (keyL k) _ h.range Tryz.underlying24 rfl (by rw [keyL_len hl]; exact info34)
theorem wpList_loadB {ops : Array Oper} {rest : List Oper} {op : Oper} {a : Act} {w : World} {Q : Exit → Act → World → Prop} (hgd : op.guard = none) (x : Operand) (ho : op.op = .load 22 x) {g of n c : Nat} {l : List UInt8} (h0 : Bytes w (.slice (some ⟨g, of, none⟩) n c) l) (hl : l.length = 32)
  (hx : a.eval x = .pointer (some ⟨g, of, none⟩)) (h : wpList Tryz.prog ops Q rest (a.put op.dst (.agg (l.map bv).toArray)) w) : wpList Tryz.prog ops Q (op :: rest) a w := by
 refine wpList_load_mid hgd 22 x ho g of hx (l.map bv) _ ?_ Tryz.underlying22 rfl (by rw [List.length_map, hl]; exact info32) h
 rcases h0.2 with ⟨h1, -⟩ | ⟨h1, -⟩ | ⟨g', o', cap, h1, -, -, h2⟩
 ·simp at h1
 ·omega
 ·simp only [Value.slice.injEq, Option.some.injEq, Addr.mk.injEq, and_true] at h1
  obtain ⟨⟨rfl, rfl⟩, -, rfl⟩ := h1
  exact h2.cells
theorem wpList_storeRoot {ops : Array Oper} {rest : List Oper} {op : Oper} {a : Act} {w : World} {Q : Exit → Act → World → Prop} (hgd : op.guard = none) (x y : Operand) (ho : op.op = .store 22 x y) {g : Nat} {b h : Int} {r l : List UInt8} (h0 : KeyAt w g ⟨b, h, r⟩) (hr : r.length = 32) (hl : l.length = 32)
  (hx : a.eval x = .pointer (some ⟨g, 2, none⟩)) (hy : a.eval y = .agg (l.map bv).toArray) (hh : ∀ w', KeyAt w' g ⟨b, h, l⟩ → Kept [g] w w' → wpList Tryz.prog ops Q rest (a.put op.dst undef) w') : wpList Tryz.prog ops Q (op :: rest) a w := by
 have hsz : (l.map bv).toArray.size = 32 := by simp [hl]
 refine wpList_store_mid hgd 22 x y ho g 2 (l.map bv).toArray hx hy (fun j hj => ?_) (by rw [hsz]; exact info32) (one32 _) (hh _ ?_ (setCells_kept _ _ _ _))
 ·rw [hsz] at hj
  have h1 := h0.there hr (2 + j) (by omega)
  rw [Nat.zero_add] at h1
  exact h1
 ·exact h0.setRoot hr hl
structure ReadS (n : Nat) where
 t : ByteArray × Bool
 s : ByteArray × Bool
 m : Option (V (n + 1)) × Bool
 u : VS (V n)
 bi : Int × Bool
 he : Int × Bool
 pu : ByteArray × Bool
def readS {n : Nat} (v : VS (V (n + 1))) : ReadS n :=
 let t := ftext v (decide (v.kind ≠ 6)) ⟨#[107, 101, 121, 116, 121, 112, 101]⟩ 64
 let s := ftext v t.2 ⟨#[115, 99, 104, 101, 109, 101]⟩ 64
 let m := fmap v s.2 ⟨#[107, 101, 121, 118, 97, 108]⟩
 let u : VS (V n) := m.1.getD (zeroV : VS (V n))
 let bi := fint u (decide (u.kind ≠ 6)) ⟨#[98, 105, 116, 115]⟩ 0 256
 let he := fint u bi.2 ⟨#[104, 101, 105, 103, 104, 116]⟩ 0 6
 ⟨t, s, m, u, bi, he, ftext u he.2 ⟨#[112, 117, 98, 108, 105, 99]⟩ 64⟩
def readKeyV {n : Nat} (v : VS (V (n + 1))) : Option KeyS :=
 let r := readS v
 match unhexS r.pu.1 with
 | none => none
 | some l => if r.m.2 = false ∧ r.pu.2 = false ∧ l.length = 32 ∧ r.t.1 = ⟨#[108, 97, 109, 112, 111, 114, 116, 45, 109, 101, 114, 107, 108, 101]⟩ ∧ r.s.1 = ⟨#[115, 104, 97, 50, 53, 54]⟩ ∧ mayKey ⟨r.bi.1, r.he.1, l⟩ = true then some ⟨r.bi.1, r.he.1, l⟩ else none
theorem lm_list : (⟨#[108, 97, 109, 112, 111, 114, 116, 45, 109, 101, 114, 107, 108, 101]⟩ : ByteArray).toList = [108, 97, 109, 112, 111, 114, 116, 45, 109, 101, 114, 107, 108, 101] := by decide +kernel
theorem sha_list : (⟨#[115, 104, 97, 50, 53, 54]⟩ : ByteArray).toList = [115, 104, 97, 50, 53, 54] := by decide +kernel
def ReadAns (e : Ending) : Option KeyS → Prop
 | none => e = .returned (.tuple #[.agg (keyA zeroKey), .int .i64 130])
 | some k => e = .returned (.tuple #[.agg (keyA k), .int .i64 0])
theorem fget_kid {n : Nat} {v : VS (V n)} {bad : Bool} {s : ByteArray} {kind : Int} {may : V n → Bool} {x : V n} {b : Bool} (h : fget v bad s kind may = (some x, b)) : x ∈ v.kids ∧ may x = true ∧ kindV n x = kind := by
 unfold fget at h
 split at h
 ·cases h
 ·split at h
  ·cases h
  ·rename_i y hy
   split at h
   ·rename_i hc
    simp only [Prod.mk.injEq, Option.some.injEq] at h
    obtain ⟨rfl, -⟩ := h
    unfold getV at hy
    split at hy
    ·obtain ⟨p, hp, rfl⟩ := Option.map_eq_some_iff.1 hy
     exact ⟨mem_m (List.mem_of_find?_eq_some hp), hc.2, hc.1⟩
    ·cases hy
   ·cases h
theorem ftext_le {n : Nat} (v : VS (V n)) (bad : Bool) (s : ByteArray) (lo : Nat) : (ftext v bad s lo).1.size ≤ lo := by
 unfold ftext
 cases h : fget v bad s 4 (fun x => decide (((strV n x).size : Int) ≤ lo)) with
 | mk r b =>
  cases r with
  | none => exact Nat.zero_le _
  | some x =>
   have := (fget_kid h).2.1
   simp only [decide_eq_true_eq] at this
   show (strV n x).size ≤ lo
   omega
theorem fint_in {n : Nat} (v : VS (V n)) (bad : Bool) (s : ByteArray) (lo hi : Int) (h0 : lo ≤ 0) (h1 : 0 ≤ hi) : lo ≤ (fint v bad s lo hi).1 ∧ (fint v bad s lo hi).1 ≤ hi := by
 unfold fint
 cases h : fget v bad s 3 (fun x => decide (lo ≤ numV n x) && decide (numV n x ≤ hi)) with
 | mk r b =>
  cases r with
  | none => exact ⟨h0, h1⟩
  | some x =>
   have := (fget_kid h).2.1
   simp only [Bool.and_eq_true, decide_eq_true_eq] at this
   exact this
theorem fmap_small {n : Nat} {v : VS (V (n + 1))} {bad : Bool} {s : ByteArray} (hs : Small (n + 2) v) : Small (n + 1) ((fmap v bad s).1.getD (zeroV : VS (V n))) := by
 unfold fmap
 cases h : fget v bad s 6 (fun _ => true) with
 | mk r b =>
  cases r with
  | none => exact small_zero
  | some x => exact hs.kid (fget_kid h).1
theorem Given.rep {n : Nat} {w w' : World} {e : Ending} {r : Option (V (n + 1))} (h : Given (n + 1) w w' e r) : ∃ k m s p i c q j d, e = .returned (.agg #[.int .i64 k, .int .i64 m, .string s, .slice p i c, .slice q j d]) ∧ Rep (n + 1) (fun _ => True) w' [.int .i64 k, .int .i64 m, .string s, .slice p i c, .slice q j d] (r.getD (zeroV : VS (V n)) : VS (V n)) := by
 cases r with
 | none => exact ⟨_, _, _, _, _, _, _, _, _, h, rep_zero _ _⟩
 | some x =>
  obtain ⟨k, m, s, p, i, c, q, j, d, h1, h2⟩ := new_fact h
  exact ⟨k, m, s, p, i, c, q, j, d, h1, h2.rep.mono (fun _ _ _ => trivial)⟩
theorem readKey_any {n : Nat} {S : Nat → Prop} {w : World} {cs : List Value} {v : VS (V (n + 1))} (h : Rep (n + 2) S w cs v) (hs : Small (n + 2) v) :
  Calls Tryz.prog 9 #[.agg cs.toArray] w fun e w' => ReadAns e (readKeyV v) ∧ Kept [] w w' := by
 obtain ⟨kd, nm, st, pa, la, ca, pb, lb, cb, rfl⟩ := h.conv
 obtain ⟨W0, Gg⟩ : ∃ W0, Hid (W0 = (w.alloc (.cells #[.int .i64 kd, .int .i64 nm, .string st, .slice pa la ca, .slice pb lb cb] 28)).alloc (.cells (keyA zeroKey) 24)) := ⟨_, qI rfl⟩
 have Gk : Hid (Kept [] w W0) := qI (by rw [Gg.o]; exact ((Kept.refl _ w).alloc _).alloc _)
 have Gp : Hid (BoxAt W0 w.heap.size kd nm st (.slice pa la ca) (.slice pb lb cb)) := qI (by rw [Gg.o]; exact (box_at _ _ _ _ _ _ _).kept0 ((Kept.refl [] _).alloc _))
 have Gy : Hid (KeyAt W0 (w.heap.size + 1) zeroKey) := qI (by rw [Gg.o]; exact block_alloc (by simp))
 have Gz : Hid (W0.heap.size = w.heap.size + 2) := qI (by rw [Gg.o]; simp)
 have COF := qI (roleOf_any (h.kept0 Gk.o))
 have Ja := qI hs
 obtain ⟨⟨t1, tb⟩, HT⟩ : ∃ x, Hid (ftext v (decide (v.kind ≠ 6)) ⟨#[107, 101, 121, 116, 121, 112, 101]⟩ 64 = x) := ⟨_, qI rfl⟩
 obtain ⟨⟨s1, sb⟩, HS⟩ : ∃ x, Hid (ftext v tb ⟨#[115, 99, 104, 101, 109, 101]⟩ 64 = x) := ⟨_, qI rfl⟩
 obtain ⟨⟨m1, mb⟩, HM⟩ : ∃ x, Hid (fmap v sb ⟨#[107, 101, 121, 118, 97, 108]⟩ = x) := ⟨_, qI rfl⟩
 obtain ⟨u, HU⟩ : ∃ u : VS (V n), Hid (u = m1.getD (zeroV : VS (V n))) := ⟨_, qI rfl⟩
 obtain ⟨⟨bi, bb⟩, Jb⟩ : ∃ x, Hid (fint u (decide (u.kind ≠ 6)) ⟨#[98, 105, 116, 115]⟩ 0 256 = x) := ⟨_, qI rfl⟩
 obtain ⟨⟨he, hb⟩, Jp⟩ : ∃ x, Hid (fint u bb ⟨#[104, 101, 105, 103, 104, 116]⟩ 0 6 = x) := ⟨_, qI rfl⟩
 obtain ⟨⟨p1, pb'⟩, Jc⟩ : ∃ x, Hid (ftext u hb ⟨#[112, 117, 98, 108, 105, 99]⟩ 64 = x) := ⟨_, qI rfl⟩
 have Jd : Hid (Small (n + 1) u) := qI (by have := fmap_small (bad := sb) (s := ⟨#[107, 101, 121, 118, 97, 108]⟩) hs; rw [HM.o] at this; rw [HU.o]; exact this)
 have Jw : Hid (p1.size ≤ 64) := qI (by have := ftext_le u hb ⟨#[112, 117, 98, 108, 105, 99]⟩ 64; rw [show ((64 : Nat) : Int) = 64 from rfl, Jc.o] at this; exact this)
 have Gh : Hid (readKeyV v = match unhexS p1 with
  | none => none
  | some l => if mb = false ∧ pb' = false ∧ l.length = 32 ∧ t1 = ⟨#[108, 97, 109, 112, 111, 114, 116, 45, 109, 101, 114, 107, 108, 101]⟩ ∧ s1 = ⟨#[115, 104, 97, 50, 53, 54]⟩ ∧ mayKey ⟨bi, he, l⟩ = true then some ⟨bi, he, l⟩ else none) := qI (by
  have e : readS v = ⟨(t1, tb), (s1, sb), (m1, mb), u, (bi, bb), (he, hb), (p1, pb')⟩ := by
   unfold readS
   simp only [HT.o, HS.o, HM.o, ← HU.o, Jb.o, Jp.o, Jc.o]
  unfold readKeyV
  rw [e])
 have Jx : Hid (wf64I bi) := qI (by have := fint_in u (decide (u.kind ≠ 6)) ⟨#[98, 105, 116, 115]⟩ 0 256 (by decide) (by decide); rw [Jb.o] at this; exact ⟨by have := this.1; simp only at this; omega, by have := this.2; simp only at this; omega⟩)
 clear h hs
 go_enter Tryz.func9, Tryz.ntmps9
 go_upto_region 1 with fail
 change Code.wp _ _ _ _ ((w.alloc (.cells #[.int .i64 kd, .int .i64 nm, .string st, .slice pa la ca, .slice pb lb cb] 28)).alloc (.cells (keyA zeroKey) 24))
 rw [← Gg.o]
 obtain ⟨c0, c1, c2, c3, c4⟩ := Gp.o
 go_upto_region 2 with (go_at_call 37; refine COF.o.mono ?_; rintro e w1 ⟨⟨g1, hg1, rfl, hf⟩, hk⟩; have Je := qI hg1; have Jy := qI hf; have Gv := qI hk; clear hg1 hf hk c0 c1 c2 c3 c4)
 have Jz : Hid (Kept [g1] W0 w1) := qI (Gv.o.mono (by simp))
 have CT1 : Hid _ := qI (ftext_any Jy.o Ja.o ⟨#[107, 101, 121, 116, 121, 112, 101]⟩ 64)
 rw [HT.o] at CT1
 have CT2 : Hid (∀ w1, Fld (n + 1) w1 g1 v tb → _) := qI (fun w1 (hf : Fld (n + 1) w1 g1 v tb) => ftext_any hf Ja.o ⟨#[115, 99, 104, 101, 109, 101]⟩ 64)
 rw [HS.o] at CT2
 have CM : Hid (∀ w1, Fld (n + 1) w1 g1 v sb → _) := qI (fun w1 (hf : Fld (n + 1) w1 g1 v sb) => fmap_any hf Ja.o ⟨#[107, 101, 121, 118, 97, 108]⟩)
 rw [HM.o] at CM
 go_upto_region 3 with first
  | (go_at_call 24; refine (CT2.o _ Ma.o).mono ?_; rintro e w3 ⟨rfl, hf, hk⟩; simp only at hf ⊢; have Mb := qI hf; have Mc : Hid (Kept [g1] W0 w3) := qI (Md.o.trans' hk); clear hf hk)
  | (go_at_call 24; refine CT1.o.mono ?_; rintro e w2 ⟨rfl, hf, hk⟩; simp only at hf ⊢; have Ma := qI hf; have Md : Hid (Kept [g1] W0 w2) := qI (Jz.o.trans' hk); clear hf hk)
 go_upto_region 4 with first
  | (go_at_call 26; refine (CM.o _ Mb.o).mono ?_; rintro e w4 ⟨hgv, hf, hk⟩; simp only at hf; obtain ⟨k3, m3, s3, p3, i3, c3, q3, j3, e3, rfl, hrp⟩ := Given.rep hgv; rw [← HU.o] at hrp; have Me := qI hrp; have Jq := qI hf; have Mf : Hid (Kept [g1] W0 w4) := qI (Mc.o.trans' hk); clear hf hk hgv hrp)
  | (go_at_call 37; refine (roleOf_any Me.o).mono ?_; rintro e w5 ⟨⟨g2, hg2, rfl, hf⟩, hk⟩; have Mg := qI hg2; have Mh := qI hf; have Mi := qI (Jq.o.kept0 hk); have Mj : Hid (Kept [g1] W0 w5) := qI (Mf.o.then hk); clear hg2 hf hk)
 have Gf : Hid (g1 < g2) := qI (by have := Jq.o.lt; have := Mg.o; omega)
 have Jf : Hid (Kept [g1, g2] W0 w5) := qI (Mj.o.mono (by simp))
 have CI1 : Hid _ := qI (fint_any Mh.o Jd.o ⟨#[98, 105, 116, 115]⟩ 0 256)
 rw [Jb.o] at CI1
 have CI2 : Hid (∀ w1, Fld n w1 g2 u bb → _) := qI (fun w1 (hf : Fld n w1 g2 u bb) => fint_any hf Jd.o ⟨#[104, 101, 105, 103, 104, 116]⟩ 0 6)
 rw [Jp.o] at CI2
 have CT3 : Hid (∀ w1, Fld n w1 g2 u hb → _) := qI (fun w1 (hf : Fld n w1 g2 u hb) => ftext_any hf Jd.o ⟨#[112, 117, 98, 108, 105, 99]⟩ 64)
 rw [Jc.o] at CT3
 go_upto_region 5 with first
  | (go_at_call 23; refine (CI2.o _ Mk.o).mono ?_; rintro e w7 ⟨rfl, hf, hk⟩; simp only at hf ⊢; have Gq := qI hf; have Ml := qI (Mm.o.kept hk (by intro i hi; simp at hi; subst hi; exact Gf.o)); have Mn : Hid (Kept [g1, g2] W0 w7) := qI (Mo.o.trans' (hk.mono (by simp))); clear hf hk)
  | (go_at_call 23; refine CI1.o.mono ?_; rintro e w6 ⟨rfl, hf, hk⟩; simp only at hf ⊢; have Mk := qI hf; have Mm := qI (Mi.o.kept hk (by intro i hi; simp at hi; subst hi; exact Gf.o)); have Mo : Hid (Kept [g1, g2] W0 w6) := qI (Jf.o.trans' (hk.mono (by simp))); clear hf hk)
  | (refine wpList_store34 (by rfl) (.tmp 8) (.tmp 24) (by rfl) (g := w7.heap.size) (k := ⟨bi, he, zeros32⟩) (k0 := zeroKey) (block_alloc rfl) (by rfl) (by rfl) (by rfl) (by rfl) ?_; intro w8 h8 hk8; have Jr := qI h8; have Jg : Hid (Kept [] w7 w8) := qI (((Kept.refl [] w7).alloc _).trans hk8 (by intro i hi; simp at hi; subst hi; exact .inr (Nat.le_refl _))); clear h8 hk8; simp only [Act.put])
 have Js : Hid (Kept [g1, g2] W0 w8) := qI (Mn.o.then Jg.o)
 have Jt := qI (Gq.o.kept0 Jg.o)
 have Ju := qI (Ml.o.kept0 Jg.o)
 have Mz : Hid (g2 < w7.heap.size) := qI Gq.o.lt
 have CU0 := fun w1 : World => unhex_any p1 (by have := Jw.o; omega) w1
 have Gl : Hid (∀ w9, Kept [g1, g2] W0 w9 → Kept [] w w9) := qI (fun w9 hk => Gk.o.trans hk (by
  have h0 := Gz.o
  have h1 := Je.o
  have h2 := Gf.o
  intro i hi
  simp at hi
  rcases hi with rfl | rfl
  ·exact .inr (by omega)
  ·exact .inr (by omega)))
 have Gc : Hid (∀ w9, Kept [g1, g2] W0 w9 → KeyAt w9 (w.heap.size + 1) zeroKey) := qI (fun w9 hk => hk.heap Gy.o (by
  have h0 := Gz.o
  have h1 := Je.o
  have h2 := Gf.o
  simp
  omega))
 have Gd : Hid (zeroKey.root.length = 32) := qI (by rfl)
 rcases hu : unhexS p1 with _ | l
 ·have CU : Hid (∀ w1 : World, Calls Tryz.prog 45 #[.string p1] w1 fun e w' => e = .returned (.tuple #[.slice none 0 0, .int .i64 10]) ∧ Kept [] w1 w') := qI (fun w1 => by have h1 := CU0 w1; rw [hu] at h1; exact h1)
  rw [hu] at Gh
  clear CU0 hu
  go_upto_region 6 with first
   | (go_at_call 45; refine (CU.o _).mono ?_; rintro e w10 ⟨rfl, hk⟩; have Gm := qI (Jh.o.kept0 hk); have Gn := qI (Ji.o.kept0 hk); have Gb : Hid (Kept [g1, g2] W0 w10) := qI (Jj.o.then hk); have Gi := qI (hk.heap Jk.o (by simp)); clear hk)
   | (go_at_call 24; refine (CT3.o _ Jt.o).mono ?_; rintro e w9 ⟨rfl, hf, hk⟩; simp only at hf ⊢; have Jh := qI hf; have Ji := qI (Ju.o.kept hk (by intro i hi; simp at hi; subst hi; exact Gf.o)); have Jj : Hid (Kept [g1, g2] W0 w9) := qI (Js.o.trans' (hk.mono (by simp))); have Jk := qI (hk.heap Jr.o (by have := Gq.o.lt; simp; omega)); clear hf hk)
  have CD1 := qI (fdone_any Gn.o)
  have CD2 := qI (fdone_any Gm.o)
  cases mb with
  | true =>
   simp only [doneZ, if_true] at CD1
   have Ge : Hid (readKeyV v = none) := qI (Gh.o)
   go_wp2_with first
    | (go_at_call 30; refine CDX.o.mono ?_; rintro e w11 ⟨rfl, rfl⟩)
    | (go_at_call 30; refine CD1.o.mono ?_; rintro e w11 ⟨rfl, rfl⟩; have CDX := CD2)
    | (refine wpList_store34 (by rfl) (.tmp 2) (.tmp 61) (by rfl) (g := w.heap.size + 1) (k := zeroKey) (Gc.o _ Gb.o) Gd.o Gd.o (by rfl) (by rfl) ?_; intro w20 h20 hk20; have H20 := qI h20; have Ga := qI hk20; clear h20 hk20; simp only [Act.put])
   have hres := H20.o.var Gd.o
   refine bodyPost_ret (v := .tuple #[.agg (keyA zeroKey), .int .i64 130]) (by simp only [results, Tryz.results9]; simp [hres, Sem.run_bind, asAddr, Act.put]) rfl ?_
   rw [Ge.o]
   exact ⟨rfl, (Gl.o _ Gb.o).trans Ga.o (by intro i hi; simp at hi; subst hi; exact .inr (by omega))⟩
  | false =>
   cases pb' with
   | true =>
    simp only [doneZ, if_true, if_false, Bool.false_eq_true] at CD1 CD2
    have Ge : Hid (readKeyV v = none) := qI (Gh.o)
    go_wp2_with first
     | (go_at_call 30; refine CDX.o.mono ?_; rintro e w11 ⟨rfl, rfl⟩)
     | (go_at_call 30; refine CD1.o.mono ?_; rintro e w11 ⟨rfl, rfl⟩; have CDX := CD2)
     | (refine wpList_store34 (by rfl) (.tmp 2) (.tmp 61) (by rfl) (g := w.heap.size + 1) (k := zeroKey) (Gc.o _ Gb.o) Gd.o Gd.o (by rfl) (by rfl) ?_; intro w20 h20 hk20; have H20 := qI h20; have Ga := qI hk20; clear h20 hk20; simp only [Act.put])
    have hres := H20.o.var Gd.o
    refine bodyPost_ret (v := .tuple #[.agg (keyA zeroKey), .int .i64 130]) (by simp only [results, Tryz.results9]; simp [hres, Sem.run_bind, asAddr, Act.put]) rfl ?_
    rw [Ge.o]
    exact ⟨rfl, (Gl.o _ Gb.o).trans Ga.o (by intro i hi; simp at hi; subst hi; exact .inr (by omega))⟩
   | false =>
    simp only [doneZ, if_false, Bool.false_eq_true] at CD1 CD2
    have Ge : Hid (readKeyV v = none) := qI (Gh.o)
    go_wp2_with first
     | (go_at_call 30; refine CDX.o.mono ?_; rintro e w11 ⟨rfl, rfl⟩)
     | (go_at_call 30; refine CD1.o.mono ?_; rintro e w11 ⟨rfl, rfl⟩; have CDX := CD2)
     | (refine wpList_store34 (by rfl) (.tmp 2) (.tmp 61) (by rfl) (g := w.heap.size + 1) (k := zeroKey) (Gc.o _ Gb.o) Gd.o Gd.o (by rfl) (by rfl) ?_; intro w20 h20 hk20; have H20 := qI h20; have Ga := qI hk20; clear h20 hk20; simp only [Act.put])
    have hres := H20.o.var Gd.o
    refine bodyPost_ret (v := .tuple #[.agg (keyA zeroKey), .int .i64 130]) (by simp only [results, Tryz.results9]; simp [hres, Sem.run_bind, asAddr, Act.put]) rfl ?_
    rw [Ge.o]
    exact ⟨rfl, (Gl.o _ Gb.o).trans Ga.o (by intro i hi; simp at hi; subst hi; exact .inr (by omega))⟩
 ·have CU : Hid (∀ w1 : World, Calls Tryz.prog 45 #[.string p1] w1 fun e w' => (∃ a c, e = .returned (.tuple #[.slice a l.length c, .int .i64 0]) ∧ Bytes w' (.slice a l.length c) l ∧ ∀ g, vblk (.slice a l.length c) = some g → w1.heap.size ≤ g) ∧ Kept [] w1 w') := qI (fun w1 => by have h1 := CU0 w1; rw [hu] at h1; exact h1)
  rw [hu] at Gh
  clear CU0 hu
  go_upto_region 6 with first
   | (go_at_call 45; refine (CU.o _).mono ?_; rintro e w10 ⟨⟨ua, uc, rfl, hub, huv⟩, hk⟩; have Jv := qI hub; have Ya := qI huv; have Gm := qI (Jh.o.kept0 hk); have Gn := qI (Ji.o.kept0 hk); have Gb : Hid (Kept [g1, g2] W0 w10) := qI (Jj.o.then hk); have Gi := qI (hk.heap Jk.o (by simp)); clear hk hub huv)
   | (go_at_call 24; refine (CT3.o _ Jt.o).mono ?_; rintro e w9 ⟨rfl, hf, hk⟩; simp only at hf ⊢; have Jh := qI hf; have Ji := qI (Ju.o.kept hk (by intro i hi; simp at hi; subst hi; exact Gf.o)); have Jj : Hid (Kept [g1, g2] W0 w9) := qI (Js.o.trans' (hk.mono (by simp))); have Jk := qI (hk.heap Jr.o (by have := Gq.o.lt; simp; omega)); clear hf hk)
  have CD1 := qI (fdone_any Gn.o)
  have CD2 := qI (fdone_any Gm.o)
  have CMY := qI (signMay_any ⟨bi, he, zeros32⟩ Jx.o w10)
  have Mp : Hid (mayKey ⟨bi, he, zeros32⟩ = mayKey ⟨bi, he, l⟩) := qI rfl
  rw [Mp.o] at CMY
  cases mb with
  | true =>
   simp only [doneZ, if_true] at CD1
   have Ge : Hid (readKeyV v = none) := qI (by rw [Gh.o]; exact if_neg (fun h => by cases h.1))
   go_wp2_with first
    | (go_at_call 30; refine CDX.o.mono ?_; rintro e w11 ⟨rfl, rfl⟩)
    | (go_at_call 30; refine CD1.o.mono ?_; rintro e w11 ⟨rfl, rfl⟩; have CDX := CD2)
    | (refine wpList_store34 (by rfl) (.tmp 2) (.tmp 61) (by rfl) (g := w.heap.size + 1) (k := zeroKey) (Gc.o _ Gb.o) Gd.o Gd.o (by rfl) (by rfl) ?_; intro w20 h20 hk20; have H20 := qI h20; have Ga := qI hk20; clear h20 hk20; simp only [Act.put])
   have hres := H20.o.var Gd.o
   refine bodyPost_ret (v := .tuple #[.agg (keyA zeroKey), .int .i64 130]) (by simp only [results, Tryz.results9]; simp [hres, Sem.run_bind, asAddr, Act.put]) rfl ?_
   rw [Ge.o]
   exact ⟨rfl, (Gl.o _ Gb.o).trans Ga.o (by intro i hi; simp at hi; subst hi; exact .inr (by omega))⟩
  | false =>
  cases pb' with
  | true =>
   simp only [doneZ, if_true, if_false, Bool.false_eq_true] at CD1 CD2
   have Ge : Hid (readKeyV v = none) := qI (by rw [Gh.o]; exact if_neg (fun h => by cases h.2.1))
   go_wp2_with first
    | (go_at_call 30; refine CDX.o.mono ?_; rintro e w11 ⟨rfl, rfl⟩)
    | (go_at_call 30; refine CD1.o.mono ?_; rintro e w11 ⟨rfl, rfl⟩; have CDX := CD2)
    | (refine wpList_store34 (by rfl) (.tmp 2) (.tmp 61) (by rfl) (g := w.heap.size + 1) (k := zeroKey) (Gc.o _ Gb.o) Gd.o Gd.o (by rfl) (by rfl) ?_; intro w20 h20 hk20; have H20 := qI h20; have Ga := qI hk20; clear h20 hk20; simp only [Act.put])
   have hres := H20.o.var Gd.o
   refine bodyPost_ret (v := .tuple #[.agg (keyA zeroKey), .int .i64 130]) (by simp only [results, Tryz.results9]; simp [hres, Sem.run_bind, asAddr, Act.put]) rfl ?_
   rw [Ge.o]
   exact ⟨rfl, (Gl.o _ Gb.o).trans Ga.o (by intro i hi; simp at hi; subst hi; exact .inr (by omega))⟩
  | false =>
  simp only [doneZ, if_false, Bool.false_eq_true] at CD1 CD2
  by_cases hl : l.length = 32
  rotate_left
  ·have f1 := (int_ne (a := (l.length : Int)) (b := 32) (by omega)).2
   have Ge : Hid (readKeyV v = none) := qI (by rw [Gh.o]; exact if_neg (fun h => hl h.2.2.1))
   clear hl
   go_wp2_with first
    | (go_at_call 30; refine CDX.o.mono ?_; rintro e w11 ⟨rfl, rfl⟩)
    | (go_at_call 30; refine CD1.o.mono ?_; rintro e w11 ⟨rfl, rfl⟩; have CDX := CD2)
    | (refine wpList_store34 (by rfl) (.tmp 2) (.tmp 61) (by rfl) (g := w.heap.size + 1) (k := zeroKey) (Gc.o _ Gb.o) Gd.o Gd.o (by rfl) (by rfl) ?_; intro w20 h20 hk20; have H20 := qI h20; have Ga := qI hk20; clear h20 hk20; simp only [Act.put])
   have hres := H20.o.var Gd.o
   refine bodyPost_ret (v := .tuple #[.agg (keyA zeroKey), .int .i64 130]) (by simp only [results, Tryz.results9]; simp [hres, Sem.run_bind, asAddr, Act.put]) rfl ?_
   rw [Ge.o]
   exact ⟨rfl, (Gl.o _ Gb.o).trans Ga.o (by intro i hi; simp at hi; subst hi; exact .inr (by omega))⟩
  have f1 := (int_eq (a := (l.length : Int)) (b := 32) (by omega)).2
  have HL := qI hl
  clear hl
  by_cases ht : t1 = ⟨#[108, 97, 109, 112, 111, 114, 116, 45, 109, 101, 114, 107, 108, 101]⟩
  rotate_left
  ·have f2 : ¬ t1.toList = [108, 97, 109, 112, 111, 114, 116, 45, 109, 101, 114, 107, 108, 101] := fun e => ht (toList_inj (e.trans lm_list.symm))
   have Ge : Hid (readKeyV v = none) := qI (by rw [Gh.o]; exact if_neg (fun h => ht h.2.2.2.1))
   clear ht
   go_wp2_with first
    | (go_at_call 30; refine CDX.o.mono ?_; rintro e w11 ⟨rfl, rfl⟩)
    | (go_at_call 30; refine CD1.o.mono ?_; rintro e w11 ⟨rfl, rfl⟩; have CDX := CD2)
    | (refine wpList_store34 (by rfl) (.tmp 2) (.tmp 61) (by rfl) (g := w.heap.size + 1) (k := zeroKey) (Gc.o _ Gb.o) Gd.o Gd.o (by rfl) (by rfl) ?_; intro w20 h20 hk20; have H20 := qI h20; have Ga := qI hk20; clear h20 hk20; simp only [Act.put])
   have hres := H20.o.var Gd.o
   refine bodyPost_ret (v := .tuple #[.agg (keyA zeroKey), .int .i64 130]) (by simp only [results, Tryz.results9]; simp [hres, Sem.run_bind, asAddr, Act.put]) rfl ?_
   rw [Ge.o]
   exact ⟨rfl, (Gl.o _ Gb.o).trans Ga.o (by intro i hi; simp at hi; subst hi; exact .inr (by omega))⟩
  have f2 : t1.toList = [108, 97, 109, 112, 111, 114, 116, 45, 109, 101, 114, 107, 108, 101] := by rw [ht]; exact lm_list
  have Mq := qI ht
  clear ht
  by_cases hs : s1 = ⟨#[115, 104, 97, 50, 53, 54]⟩
  rotate_left
  ·have f4 : ¬ s1.toList = [115, 104, 97, 50, 53, 54] := fun e => hs (toList_inj (e.trans sha_list.symm))
   have Ge : Hid (readKeyV v = none) := qI (by rw [Gh.o]; exact if_neg (fun h => hs h.2.2.2.2.1))
   clear hs
   go_wp2_with first
    | (go_at_call 30; refine CDX.o.mono ?_; rintro e w11 ⟨rfl, rfl⟩)
    | (go_at_call 30; refine CD1.o.mono ?_; rintro e w11 ⟨rfl, rfl⟩; have CDX := CD2)
    | (refine wpList_store34 (by rfl) (.tmp 2) (.tmp 61) (by rfl) (g := w.heap.size + 1) (k := zeroKey) (Gc.o _ Gb.o) Gd.o Gd.o (by rfl) (by rfl) ?_; intro w20 h20 hk20; have H20 := qI h20; have Ga := qI hk20; clear h20 hk20; simp only [Act.put])
   have hres := H20.o.var Gd.o
   refine bodyPost_ret (v := .tuple #[.agg (keyA zeroKey), .int .i64 130]) (by simp only [results, Tryz.results9]; simp [hres, Sem.run_bind, asAddr, Act.put]) rfl ?_
   rw [Ge.o]
   exact ⟨rfl, (Gl.o _ Gb.o).trans Ga.o (by intro i hi; simp at hi; subst hi; exact .inr (by omega))⟩
  have f4 : s1.toList = [115, 104, 97, 50, 53, 54] := by rw [hs]; exact sha_list
  have Mr := qI hs
  clear hs
  rcases Bool.eq_false_or_eq_true (mayKey ⟨bi, he, l⟩) with hm | hm
  rotate_left
  ·rw [hm] at CMY
   have Ge : Hid (readKeyV v = none) := qI (by rw [Gh.o]; exact if_neg (fun h => by rw [hm] at h; cases h.2.2.2.2.2))
   clear hm
   go_wp2_with first
    | (go_at_call 30; refine CDX.o.mono ?_; rintro e w11 ⟨rfl, rfl⟩)
    | (go_at_call 30; refine CD1.o.mono ?_; rintro e w11 ⟨rfl, rfl⟩; have CDX := CD2)
    | (refine wpList_load34g (by rfl) (.tmp 8) (by rfl) Gi.o (by rfl) (by rfl) ?_)
    | (go_at_call 39; refine CMY.o.mono ?_; rintro e w12 ⟨rfl, hk⟩; have Gj : Hid (Kept [g1, g2] W0 w12) := qI (Gb.o.then hk); have Gr := qI (hk.heap Gi.o (by simp)); have Gs := qI hk; clear hk)
    | (refine wpList_store34 (by rfl) (.tmp 2) (.tmp 61) (by rfl) (g := w.heap.size + 1) (k := zeroKey) (Gc.o _ Gj.o) Gd.o Gd.o (by rfl) (by rfl) ?_; intro w20 h20 hk20; have H20 := qI h20; have Ga := qI hk20; clear h20 hk20; simp only [Act.put])
   have hres := H20.o.var Gd.o
   refine bodyPost_ret (v := .tuple #[.agg (keyA zeroKey), .int .i64 130]) (by simp only [results, Tryz.results9]; simp [hres, Sem.run_bind, asAddr, Act.put]) rfl ?_
   rw [Ge.o]
   exact ⟨rfl, (Gl.o _ Gj.o).trans Ga.o (by intro i hi; simp at hi; subst hi; exact .inr (by omega))⟩
  rw [hm] at CMY
  have Ms : Hid (readKeyV v = some ⟨bi, he, l⟩) := qI (by rw [Gh.o]; exact if_pos ⟨rfl, rfl, HL.o, Mq.o, Mr.o, hm⟩)
  clear hm
  obtain ⟨ug, uo, rfl⟩ : ∃ g o, ua = some ⟨g, o, none⟩ := by
   rcases Jv.o.2 with ⟨h1, h2⟩ | ⟨h1, -⟩ | ⟨g, o, cap, h1, -, -, -⟩
   ·have := HL.o; omega
   ·have := HL.o; omega
   ·simp only [Value.slice.injEq] at h1
    exact ⟨g, o, h1.1⟩
  go_upto_region 8 with first
   | (go_at_call 30; refine CDX.o.mono ?_; rintro e w11 ⟨rfl, rfl⟩)
   | (go_at_call 30; refine CD1.o.mono ?_; rintro e w11 ⟨rfl, rfl⟩; have CDX := CD2)
   | (refine wpList_load34g (by rfl) (.tmp 8) (by rfl) Gi.o (by rfl) (by rfl) ?_)
   | (go_at_call 39; refine CMY.o.mono ?_; rintro e w12 ⟨rfl, hk⟩; have Gj : Hid (Kept [g1, g2] W0 w12) := qI (Gb.o.then hk); have Gr := qI (hk.heap Gi.o (by simp)); have Gs := qI hk; clear hk)
  have Yb := HL
  have harr : ∀ W : World, (Instr.arrayAt 22 (.slice (some ⟨ug, uo, none⟩) l.length uc)).run Tryz.prog W = .ok (.pointer (some ⟨ug, uo, none⟩)) W := fun W => run_arrayAt (P := Tryz.prog) (w := W) 22 _ 32 _ _ _ Tryz.underlying22 (by rw [HL.o]; exact Nat.le_refl _)
  have Gt : Hid (w.heap.size + 2 ≤ w7.heap.size) := qI (by have h0 := Gz.o; have h1 := Je.o; have h2 := Gf.o; have h3 := Gq.o.lt; omega)
  have Mt : Hid (w.heap.size + 1 ≠ w7.heap.size) := qI (by have := Gt.o; omega)
  have Jl := qI (Jv.o.kept0 Gs.o)
  go_wp2_with first
   | (refine wpList_loadB (by rfl) (.tmp 63) (by rfl) Jl.o HL.o (by rfl) ?_)
   | (refine wpList_storeRoot (by rfl) (.tmp 65) (.tmp 64) (by rfl) Gr.o (by rfl) HL.o (by rfl) (by rfl) ?_; intro w20 h20 hk20; have H20 := qI h20; have Ga := qI hk20; clear h20 hk20; simp only [Act.put])
   | (refine wpList_load34 (by rfl) (.tmp 8) (by rfl) H20.o HL.o (by rfl) ?_)
   | (refine wpList_store34 (by rfl) (.tmp 2) (.tmp 66) (by rfl) (g := w.heap.size + 1) (k := ⟨bi, he, l⟩) ((Gc.o _ Gj.o).kept' Ga.o Mt.o) Gd.o HL.o (by rfl) (by rfl) ?_; intro w21 h21 hk21; have H21 := qI h21; have Jm := qI hk21; clear h21 hk21; simp only [Act.put])
  have hres := H21.o.var HL.o
  refine bodyPost_ret (v := .tuple #[.agg (keyA ⟨bi, he, l⟩), .int .i64 0]) (by simp only [results, Tryz.results9]; simp [hres, Sem.run_bind, asAddr, Act.put]) rfl ?_
  rw [Ms.o]
  exact ⟨rfl, ((Gl.o _ Gj.o).trans Ga.o (by intro i hi; simp at hi; subst hi; exact .inr (by have := Gt.o; omega))).trans Jm.o (by intro i hi; simp at hi; subst hi; exact .inr (by omega))⟩
def isIdB (s : ByteArray) : Bool := match unhexS s with | none => false | some l => decide (l.length = 32)
theorem isId_any (s : ByteArray) (hs : s.size ≤ 140737488355328) (w : World) : Calls Tryz.prog 67 #[.string s] w fun e w' => e = .returned (.bool (isIdB s)) ∧ Kept [] w w' := by
 have CU := unhex_any s hs w
 have HI : Hid (isIdB s = match unhexS s with | none => false | some l => decide (l.length = 32)) := qI rfl
 clear hs
 rcases hu : unhexS s with _ | l
 ·rw [hu] at CU HI
  have CU := qI CU
  clear hu
  go_enter Tryz.func67, Tryz.ntmps67
  go_wp2_with (go_at_call 45; refine CU.o.mono ?_; rintro e w1 ⟨rfl, hk⟩; have HK := qI hk; clear hk)
  go_ret
  exact ⟨by rw [HI.o]; rfl, HK.o⟩
 ·rw [hu] at CU HI
  have CU := qI CU
  have HI : Hid (isIdB s = decide (l.length = 32)) := qI HI.o
  clear hu
  by_cases hl : l.length = 32
  ·have f1 := (int_eq (a := (l.length : Int)) (b := 32) (by omega)).1
   rw [decide_eq_true hl] at HI
   clear hl
   go_enter Tryz.func67, Tryz.ntmps67
   go_wp2_with (go_at_call 45; refine CU.o.mono ?_; rintro e w1 ⟨⟨a, c, rfl, -, -⟩, hk⟩; have HK := qI hk; clear hk)
   go_ret
   exact ⟨by rw [HI.o]; rfl, HK.o⟩
  ·have f1 := (int_ne (a := (l.length : Int)) (b := 32) (by omega)).1
   rw [decide_eq_false hl] at HI
   clear hl
   go_enter Tryz.func67, Tryz.ntmps67
   go_wp2_with (go_at_call 45; refine CU.o.mono ?_; rintro e w1 ⟨⟨a, c, rfl, -, -⟩, hk⟩; have HK := qI hk; clear hk)
   go_ret
   exact ⟨by rw [HI.o]; rfl, HK.o⟩
structure RoleS where
 keys : List ByteArray
 thr : Int
def idsGo : List ByteArray → List ByteArray → Bool
 | _, [] => true
 | seen, k :: t => !(seen.any (fun x => decide (x = k))) && isIdB k && idsGo (seen ++ [k]) t
def mayRole (r : RoleS) : Bool := decide (r.keys.length ≤ 16) && (decide (1 ≤ r.thr) && (decide (r.thr ≤ r.keys.length) && idsGo [] r.keys))
def Texts (w : World) (v : Value) (l : List ByteArray) : Prop := Slc w 1 v l.length (l.map Value.string)
theorem Texts.kept0 {w w' : World} {v : Value} {l : List ByteArray} (h : Texts w v l) (k : Kept [] w w') : Texts w' v l := Slc.kept0 h k
theorem Texts.at {w : World} {a : Option Addr} {c : Nat} {l : List ByteArray} (h : Texts w (.slice a l.length c) l) {k : Nat} (hk : k < l.length) : ∃ g o, a = some ⟨g, o, none⟩ ∧ w.cell? ⟨g, o + k, none⟩ = some (.string l[k]) := by
 rcases h.2 with ⟨-, h0⟩ | ⟨h0, -⟩ | ⟨g, o, cap, h1, -, -, hr⟩
 ·omega
 ·omega
 ·simp only [Value.slice.injEq] at h1
  exact ⟨g, o, h1.1, by have := hr.at (j := k) (by simpa using hk); simpa using this⟩
theorem mayRole_any {w : World} {r : RoleS} {a : Option Addr} {c : Nat} (h : Texts w (.slice a r.keys.length c) r.keys) (hz : ∀ k, k ∈ r.keys → k.size ≤ 140737488355328) (hlen : r.keys.length ≤ 1000000000000) :
  Calls Tryz.prog 19 #[.agg #[.slice a r.keys.length c, .int .i64 r.thr]] w fun e w' => e = .returned (.bool (mayRole r)) ∧ Kept [] w w' := by
 obtain ⟨W0, Gg⟩ : ∃ W0, Hid (W0 = w.alloc (.cells #[.slice a r.keys.length c, .int .i64 r.thr] 43)) := ⟨_, qI rfl⟩
 have Gk : Hid (Kept [] w W0) := qI (by rw [Gg.o]; exact (Kept.refl _ w).alloc _)
 have Gp : Hid (W0.heap[w.heap.size]? = some (.cells #[.slice a r.keys.length c, .int .i64 r.thr] 43 (0, 0))) := qI (by rw [Gg.o]; exact block_alloc rfl)
 have H := qI (h.kept0 Gk.o)
 have HZ := qI hz
 have HM : Hid (mayRole r = (decide (r.keys.length ≤ 16) && (decide (1 ≤ r.thr) && (decide (r.thr ≤ r.keys.length) && idsGo [] r.keys)))) := qI rfl
 have c0 := cell_head (o := 0) (v := .slice a r.keys.length c) Gp.o rfl
 have c1 := cell_head (o := 1) (v := .int .i64 r.thr) Gp.o rfl
 have HL := qI hlen
 clear h hz hlen
 by_cases k1 : r.keys.length ≤ 16
 rotate_left
 ·have k1I : (16 : Int) < r.keys.length := by omega
  rw [decide_eq_false k1] at HM
  clear k1
  go_enter Tryz.func19, Tryz.ntmps19
  go_upto_region 1 with fail
  rw [← Gg.o]
  go_wp2_with fail
  go_ret
  exact ⟨by rw [HM.o]; rfl, Gk.o⟩
 have k1I : (r.keys.length : Int) ≤ 16 := by omega
 rw [decide_eq_true k1] at HM
 by_cases k2 : 1 ≤ r.thr
 rotate_left
 ·have k2I : r.thr < 1 := by omega
  rw [decide_eq_false k2] at HM
  clear k1 k2
  go_enter Tryz.func19, Tryz.ntmps19
  go_upto_region 1 with fail
  rw [← Gg.o]
  go_wp2_with fail
  go_ret
  exact ⟨by rw [HM.o]; rfl, Gk.o⟩
 rw [decide_eq_true k2] at HM
 by_cases k3 : r.thr ≤ r.keys.length
 rotate_left
 ·have k3I : (r.keys.length : Int) < r.thr := by omega
  rw [decide_eq_false k3] at HM
  clear k1 k3
  go_enter Tryz.func19, Tryz.ntmps19
  go_upto_region 1 with fail
  rw [← Gg.o]
  go_wp2_with fail
  go_ret
  exact ⟨by rw [HM.o]; rfl, Gk.o⟩
 rw [decide_eq_true k3] at HM
 have Jn : Hid (mayRole r = idsGo [] r.keys) := qI (by rw [HM.o]; simp)
 have Mu := qI k1
 clear k1
 have hmm := @run_makeMap Tryz.prog
 obtain ⟨W1, Jo⟩ : ∃ W1, Hid (W1 = W0.alloc (.map #[] 0)) := ⟨_, qI rfl⟩
 have Gv : Hid (Kept [] W0 W1) := qI (by rw [Jo.o]; exact (Kept.refl _ _).alloc _)
 have Mv : Hid (SeenAt W1 W0.heap.size []) := qI (by rw [Jo.o]; exact seen_new rfl)
 have Yc : Hid (W0.heap.size = w.heap.size + 1) := qI (by rw [Gg.o]; simp)
 go_enter Tryz.func19, Tryz.ntmps19
 go_upto_region 1 with fail
 rw [← Gg.o]
 go_upto_region 4 with fail
 rw [← Jo.o]
 clear c0 c1 hmm
 have c0 := Gv.o.cell (cell_head (o := 0) (v := .slice a r.keys.length c) Gp.o rfl) (by simp)
 go_wp2_with fail
 clear c0
 go_loopw [5, 27] (fun _ i wr => ∃ k : Nat, i = .int .i64 k ∧ k ≤ r.keys.length ∧ SeenAt wr W0.heap.size (r.keys.take k) ∧ idsGo (r.keys.take k) (r.keys.drop k) = idsGo [] r.keys ∧ Kept [] W0 wr) (fun _ i _ => r.keys.length - (intOf i).toNat)
 case atStart => exact ⟨0, rfl, Nat.zero_le _, Mv.o, rfl, Gv.o⟩
 case round =>
  obtain ⟨k, rfl, hk, hs, hg, hkr⟩ := hrel
  have HS := qI hs
  have HG := qI hg
  have Gu := qI hkr
  clear hs hg hkr
  by_cases hlt : k < r.keys.length
  ·have hltI : (k : Int) < r.keys.length := by omega
   obtain ⟨g, o, rfl, q0⟩ := (H.o.kept0 Gu.o).at hlt
   have hks : r.keys[k].size ≤ 140737488355328 := HZ.o _ (List.getElem_mem hlt)
   have Gw : Hid (r.keys.take (k + 1) = r.keys.take k ++ [r.keys[k]]) := qI (List.take_succ_eq_append_getElem hlt)
   have HD : Hid (idsGo (r.keys.take k) (r.keys.drop k) = (!((r.keys.take k).any (fun x => decide (x = r.keys[k]))) && isIdB r.keys[k] && idsGo (r.keys.take k ++ [r.keys[k]]) (r.keys.drop (k + 1)))) := qI (by
    conv => lhs; rw [List.drop_eq_getElem_cons hlt]
    rfl)
   have hsl : (r.keys.take k).length ≤ 20000 := by have := Mu.o; rw [List.length_take]; omega
   have CI := qI (isId_any r.keys[k] hks wr)
   revert q0 hks Gw HD CI
   generalize r.keys[k] = key
   intro q0 hks Gw HD CI
   have hlook := HS.o.look key (by omega)
   revert hlook HD CI
   generalize (r.keys.take k).any (fun x => decide (x = key)) = b
   generalize isIdB key = ok
   intro HD CI hlook
   have Mw := qI hks
   clear hks
   cases b with
   | true =>
    go_wp2_with fail
    go_ret
    rw [Jn.o, ← HG.o, HD.o]
    exact ⟨by simp, Gk.o.then Gu.o⟩
   | false =>
    cases ok with
    | false =>
     go_wp2_with (go_at_call 67; refine CI.o.mono ?_; rintro e w2 ⟨rfl, hk2⟩; have Gx := qI hk2; clear hk2)
     go_ret
     rw [Jn.o, ← HG.o, HD.o]
     exact ⟨by simp, (Gk.o.then Gu.o).then Gx.o⟩
    | true =>
     go_wp2_with (go_at_call 67; refine CI.o.mono ?_; rintro e w2 ⟨rfl, hk2⟩; have Gx := qI hk2; obtain ⟨w3, hput, hs3, hk3⟩ := (HS.o.kept0 Gx.o).put key (by have := Mw.o; omega) (by omega); have Mx := qI hs3; have My := qI hk3; clear hk2 hs3 hk3)
     case roundEnd =>
      refine ⟨⟨k + 1, by go_num, by omega, ?_, ?_, ?_⟩, by simp [intOf]; omega⟩
      ·rw [Gw.o]; exact Mx.o
      ·rw [← HG.o, HD.o, Gw.o]; simp
      ·exact (Gu.o.then Gx.o).trans My.o (fun i hi => by simp at hi; subst hi; exact .inr (Nat.le_refl _))
  ·obtain rfl : k = r.keys.length := by omega
   go_wp2_with fail
   go_ret
   rw [Jn.o, ← HG.o, List.drop_length]
   exact ⟨rfl, Gk.o.then Gu.o⟩
def textC (s : ByteArray) : List Value := [.int .i64 4, .int .i64 0, .string s, .slice none 0 0, .slice none 0 0]
def tV (n : Nat) (s : ByteArray) : V (n + 1) := (textV s : VS (V n))
def keysV (n : Nat) (l : List ByteArray) : VS (V (n + 1)) := listV (l.map (tV n))
def iV (n : Nat) (z : Int) : V (n + 1) := (intV z : VS (V n))
def roleV (r : RoleS) : V 3 := (mapV [(⟨#[107, 101, 121, 105, 100, 115]⟩, (keysV 0 r.keys : V 2)), (⟨#[116, 104, 114, 101, 115, 104, 111, 108, 100]⟩, iV 1 r.thr)] : VS (V 2))
def pairsFact (n : Nat) (m : List (ByteArray × V n)) : Fact (Kept []) := ⟨fun v b w => ∃ g mcs, v = .slice (some ⟨g, 0, none⟩) m.length m.length ∧ b.1 ≤ g ∧ g < b.2 ∧ Slc w 6 (.slice (some ⟨g, 0, none⟩) m.length m.length) m.length (pairCs mcs) ∧ All2 (pairR (Rep n (fun _ => True) w)) mcs m,
 fun _ _ _ _ ⟨g, mcs, h1, h3, h4, h2, h5⟩ k => ⟨g, mcs, h1, h3, h4, h2.kept0 k, h5.mono fun _ _ _ r => ⟨r.1, r.2.kept0 k⟩⟩⟩
def pairRepFact (n : Nat) (key : ByteArray) (v : V n) : Fact (Kept []) := ⟨fun u _ w => ∃ k m s p i c q j d, u = .agg #[.string key, .int .i64 k, .int .i64 m, .string s, .slice p i c, .slice q j d] ∧ Rep n (fun _ => True) w [.int .i64 k, .int .i64 m, .string s, .slice p i c, .slice q j d] v,
 fun _ _ _ _ ⟨k, m, s, p, i, c, q, j, d, h1, h2⟩ kk => ⟨k, m, s, p, i, c, q, j, d, h1, h2.kept0 kk⟩⟩
theorem rep_texts {n : Nat} (S : Nat → Prop) (w : World) (l : List ByteArray) : All2 (Rep (n + 1) S w) (l.map textC) (l.map (tV n)) := by
 refine ⟨by simp, ?_⟩
 intro j x y hx hy
 rw [List.getElem?_map, Option.map_eq_some_iff] at hx hy
 obtain ⟨s, hs, rfl⟩ := hx
 obtain ⟨s', hs', rfl⟩ := hy
 rw [hs] at hs'
 obtain rfl := Option.some.inj hs'
 exact rep_text S w s
theorem texts_bytes : ∀ (l : List ByteArray) (B : Nat), (∀ s, s ∈ l → s.size ≤ B) → (((l.map (tV 0)).map (bytesV 1)).sum) ≤ l.length * B
 | [], B, _ => by simp
 | s :: l, B, h => by
  have h1 := texts_bytes l B (fun t ht => h t (List.mem_cons_of_mem _ ht))
  have h2 := h s (List.mem_cons_self ..)
  have e : bytesV 1 (tV 0 s) = s.size + 0 + 0 := rfl
  simp only [List.map_cons, List.sum_cons, List.length_cons, e, Nat.add_mul]
  omega
theorem texts_count : ∀ (l : List ByteArray), (((l.map (tV 0)).map (countV 1)).sum) = l.length
 | [] => rfl
 | s :: l => by
  have e : countV 1 (tV 0 s) = 1 + 0 := rfl
  simp only [List.map_cons, List.sum_cons, List.length_cons, e, texts_count l]
  omega
theorem isId_size {s : ByteArray} (h : isIdB s = true) : s.size = 64 := by
 unfold isIdB unhexS at h
 split at h
 ·cases h
 ·rename_i l hl
  split at hl
  ·rename_i hc
   simp only [Option.some.injEq] at hl
   have h1 := pairsH_len s.data.toList
   rw [hl] at h1
   simp only [decide_eq_true_eq] at h
   have h2 : s.data.toList.length = s.size := by simp
   omega
  ·cases hl
theorem ids_all : ∀ (l seen : List ByteArray), idsGo seen l = true → ∀ s, s ∈ l → isIdB s = true
 | [], _, _, _, h => by cases h
 | k :: t, seen, h, s, hs => by
  unfold idsGo at h
  simp only [Bool.and_eq_true] at h
  rcases List.mem_cons.1 hs with rfl | hs
  ·exact h.1.2
  ·exact ids_all t _ h.2 s hs
theorem mayRole_ids {r : RoleS} (h : mayRole r = true) : r.keys.length ≤ 16 ∧ 1 ≤ r.thr ∧ r.thr ≤ 16 ∧ r.thr ≤ r.keys.length ∧ ∀ s, s ∈ r.keys → isIdB s = true ∧ s.size = 64 := by
 unfold mayRole at h
 simp only [Bool.and_eq_true, decide_eq_true_eq] at h
 exact ⟨h.1, h.2.1, by omega, h.2.2.1, fun s hs => ⟨ids_all _ _ h.2.2.2 s hs, isId_size (ids_all _ _ h.2.2.2 s hs)⟩⟩
theorem small_keys {r : RoleS} (h : mayRole r = true) : Small 2 (keysV 0 r.keys) := by
 obtain ⟨h1, -, -, -, h2⟩ := mayRole_ids h
 have e1 : countV 2 (keysV 0 r.keys) = 1 + (((keysV 0 r.keys).kids).map (countV 1)).sum := rfl
 have e2 : bytesV 2 (keysV 0 r.keys) = 0 + 0 + (((keysV 0 r.keys).kids).map (bytesV 1)).sum := rfl
 have e3 : (keysV 0 r.keys).kids = r.keys.map (tV 0) := by show _ ++ _ = _; exact List.append_nil _
 have h3 := texts_bytes r.keys 64 (fun s hs => by rw [(h2 s hs).2]; exact Nat.le_refl _)
 have h4 := texts_count r.keys
 refine ⟨?_, ?_⟩
 ·rw [e1, e3, h4]; omega
 ·rw [e2, e3]; omega
theorem small_role {r : RoleS} (h : mayRole r = true) : Small 3 (roleV r) := by
 have h1 := small_keys h
 obtain ⟨h2, -⟩ := mayRole_ids h
 have e1 : countV 3 (roleV r) = 1 + (countV 2 (keysV 0 r.keys) + ((1 + 0) + 0)) := rfl
 have e2 : bytesV 3 (roleV r) = 0 + (6 + (9 + 0)) + (bytesV 2 (keysV 0 r.keys) + ((0 + 0 + 0) + 0)) := rfl
 have e3 : countV 2 (keysV 0 r.keys) = 1 + (((keysV 0 r.keys).kids).map (countV 1)).sum := rfl
 have e4 : bytesV 2 (keysV 0 r.keys) = 0 + 0 + (((keysV 0 r.keys).kids).map (bytesV 1)).sum := rfl
 have e5 : (keysV 0 r.keys).kids = r.keys.map (tV 0) := by show _ ++ _ = _; exact List.append_nil _
 have h3 := texts_bytes r.keys 64 (fun s hs => by rw [((mayRole_ids h).2.2.2.2 s hs).2]; exact Nat.le_refl _)
 have h4 := texts_count r.keys
 refine ⟨?_, ?_⟩
 ·rw [e1, e3, e5, h4]; omega
 ·rw [e2, e4, e5]; omega
end Go.Proofs.YtckbnjipecclaaaGreatDoor

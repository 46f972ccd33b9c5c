/- Parts of one proof, merged: XIA XVC XKT XKE XSn XKH. -/
import Derived.Test.YtckbnjipecclaaaGreatDoorHkM
import Derived.Test.YtckbnjipecclaaaGreatDoorHkN
import Derived.Shelf.SlicesQ.IndexFunc
import Derived.Test.YtckbnjipecclaaaGreatDoorHkC
import Derived.Test.YtckbnjipecclaaaGreatDoorHkD
import Derived.Test.YtckbnjipecclaaaGreatDoorHkI
import Derived.Test.YtckbnjipecclaaaGreatDoorHkL
import Derived.Test.YtckbnjipecclaaaGreatDoorHkG
import Derived.BigQuiet
import Derived.Maps.OwnSet
import Derived.StringKeys
set_option linter.all false
set_option maxHeartbeats 12800000
set_option maxRecDepth 10000
set_option linter.unusedVariables false
set_option linter.unusedSimpArgs false
set_option linter.unnecessarySimpa false
namespace Go.Proofs.YtckbnjipecclaaaGreatDoor
open Go.RowKit
theorem idx_spec {α : Type} (p : α → Bool) (x : α) : ∀ (zs : List α) (k : Nat), (Lib.idxByFrom (fun _ y => p y) x zs k = -1 ∧ ∀ i (h : i < zs.length), p zs[i] = false) ∨ ∃ i, ∃ h : i < zs.length, Lib.idxByFrom (fun _ y => p y) x zs k = ((k + i : Nat) : Int) ∧ p zs[i] = true ∧ ∀ j (hj : j < i), p (zs[j]'(by omega)) = false
 | [], k => .inl ⟨rfl, fun i h => by cases h⟩
 | z :: zs, k => by
  unfold Lib.idxByFrom
  cases hz : p z with
  | true =>
   refine .inr ⟨0, by simp, ?_, hz, fun j hj => by omega⟩
   simp
  | false =>
   simp only [Bool.false_eq_true, if_false]
   rcases idx_spec p x zs (k + 1) with ⟨h1, h2⟩ | ⟨i, h, h1, h2, h3⟩
   ·refine .inl ⟨h1, fun i hi => ?_⟩
    cases i with
    | zero => exact hz
    | succ i => exact h2 i (by simpa using hi)
   ·refine .inr ⟨i + 1, by simpa using h, by rw [h1]; congr 1; omega, by simpa using h2, fun j hj => ?_⟩
    cases j with
    | zero => exact hz
    | succ j => simpa using h3 j (by omega)
def KeyIx {α : Type} (m : List (ByteArray × α)) (s : ByteArray) (r : Int) : Prop := (r = -1 ∧ ∀ i (h : i < m.length), m[i].1 ≠ s) ∨ ∃ i, ∃ h : i < m.length, r = (i : Int) ∧ m[i].1 = s ∧ ∀ j (hj : j < i), (m[j]'(by omega)).1 ≠ s
section
variable {w : World}
set_option maxRecDepth 100000 in
theorem indexNone (a : Option Addr) (c : Nat) (fv : Value) :
  Calls Tryz.prog 144 #[.slice a 0 c, fv] w fun e w' => e = .returned (.int .i64 (-1)) ∧ Kept [] w w' := by
 go_enter Tryz.func144, Tryz.ntmps144
 go_wp2_with fail
 go_loopw [8] (fun i wr => i = .int .i64 0 ∧ w = wr) (fun _ _ => 0)
 case atStart => exact ⟨rfl, rfl⟩
 case round =>
  obtain ⟨rfl, rfl⟩ := hrel
  go_wp2_with fail
  go_ret
  exact ⟨rfl, Kept.refl _ _⟩
set_option maxRecDepth 100000 in
theorem sameKey_any (x : PC) (s : ByteArray) (b : Nat) (h : w.cell? ⟨b, 0, none⟩ = some (.string s)) :
  Calls Tryz.prog 145 #[.agg x.enc.toArray, .pointer (some ⟨b, 0, none⟩)] w fun e w' => e = .returned (.bool (decide (x.key = s))) ∧ Kept [] w w' := by
 have hc : ∀ o : Obj, (w.alloc o).cell? ⟨b, 0, none⟩ = some (.string s) := fun o => ((Kept.refl [] w).alloc o).cell h (by simp)
 have HK : Hid (∀ o : Obj, Kept [] w (w.alloc o)) := qI (fun o => (Kept.refl [] w).alloc o)
 have he : x.enc.toArray = #[.string x.key, .int .i64 x.k, .int .i64 x.m, .string x.s, .slice x.p x.i x.c, .slice x.q x.j x.d] := rfl
 rw [he]
 clear h he
 by_cases e : x.key = s
 ·obtain ⟨f1, f2⟩ := str_eq e
  rw [decide_eq_true e]
  clear e
  go_enter Tryz.func145, Tryz.ntmps145
  go_wp2_with fail
  go_ret
  exact ⟨rfl, HK.o _⟩
 ·obtain ⟨f1, f2⟩ := str_ne e
  rw [decide_eq_false e]
  clear e
  go_enter Tryz.func145, Tryz.ntmps145
  go_wp2_with fail
  go_ret
  exact ⟨rfl, HK.o _⟩
theorem aggPair (w : World) : (isAgg (Tryz.shIndexFunc_ren.t 23)).run Tryz.prog w = .ok true w := Tryz.isAgg78 w
theorem sizePair (w : World) : (Go.sizeOf (Tryz.shIndexFunc_ren.t 23)).run Tryz.prog w = .ok 6 w := Tryz.sizeOf78 w
theorem enter_same : ∀ (args : Array Value) (w : World), (callFunc 145 args).run Tryz.prog w = .ok (.enter 145 args) w := enters_of Tryz.func145 (by kernel_rfl) rfl
section
variable {n : Nat} {S : Nat → Prop} {cs : List Value} {v : VS (V n)} {vl vm : Value} {lcs : List (List Value)} {mcs : List (ByteArray × List Value)}
theorem indexPairs (h : RepOne (Rep n S w) S w cs v vl vm lcs mcs) {b : Nat} {s : ByteArray} (hb : w.cell? ⟨b, 0, none⟩ = some (.string s)) (hl : v.m.length ≤ 1000000) :
  Calls Tryz.prog 144 #[vm, .func (.func 145) #[] #[.pointer (some ⟨b, 0, none⟩)]] w fun e w' => (∃ r, e = .returned (.int .i64 r) ∧ KeyIx v.m s r) ∧ Kept [] w w' := by
 obtain ⟨ds, e1, e2⟩ := pcs_of h.allm
 have hlen : ds.length = v.m.length := by rw [← h.allm.1, e1, List.length_map]
 have hkey : ∀ i (hi : i < v.m.length), (ds[i]'(by omega)).key = v.m[i].1 := fun i hi => by
  have h9 := (h.allm.2 i ((ds[i]'(by omega)).key, (ds[i]'(by omega)).cs) v.m[i] (by rw [e1, List.getElem?_map, List.getElem?_eq_getElem (by omega)]; rfl) (List.getElem?_eq_getElem hi)).1
  exact h9
 by_cases h0 : v.m.length = 0
 ·have hs := h.slcm
  rw [h0] at hs
  obtain ⟨a, c, rfl, -, -⟩ := hs.form
  refine (indexNone a c _).mono ?_
  rintro e w' ⟨rfl, hk⟩
  exact ⟨⟨-1, rfl, .inl ⟨rfl, fun i hi => by omega⟩⟩, hk⟩
 rcases h.slcm.2 with ⟨-, q⟩ | ⟨q, -⟩ | ⟨g, o, cap, rfl, -, hm, hr⟩
 ·omega
 ·omega
 rw [e2] at hr
 refine (AnyQ.slices_IndexFunc Tryz.shIndexFunc 6 aggPair sizePair PC.enc PC.enc_len (fun x => decide (x.key = s)) 145 #[.pointer (some ⟨b, 0, none⟩)] enter_same g o v.m.length cap ds w (fun W x hbl => ?_) (by omega) (by omega) hr.2 (fun j hj i u hu => ?_)).mono ?_
 ·have hcb : W.cell? ⟨b, 0, none⟩ = some (.string s) := (Kept.of_below hbl).cell hb (by simp)
  refine (sameKey_any x s b hcb).mono ?_
  rintro e w' ⟨rfl, hk⟩
  exact ⟨rfl, ((Kept.of_below hbl).then hk).below (Nat.le_refl _) (by simp)⟩
 ·rw [getElem!_pos ds j hj] at hu
  have hi6 : i < 6 := by
   rcases Nat.lt_or_ge i 6 with q | q
   ·exact q
   ·rw [List.getElem?_eq_none (by rw [PC.enc_len]; exact q)] at hu; cases hu
  have h2 := flat_get (size := 6) (ds.map PC.enc) j i (by intro c hc; obtain ⟨x, _, rfl⟩ := List.mem_map.1 hc; rfl) (by simpa using hj) hi6
  rw [List.getElem_map] at h2
  have h3 := hr.cells (j * 6 + i) u (by rw [show ds.flatMap PC.enc = (ds.map PC.enc).flatten by simp [List.flatMap], h2]; exact hu)
  rw [← Nat.add_assoc] at h3
  exact h3
 ·rintro e w' ⟨rfl, hbl⟩
  refine ⟨⟨_, rfl, ?_⟩, Kept.of_below hbl⟩
  rw [List.take_of_length_le (by omega)]
  unfold Lib.idxBy
  rcases idx_spec (fun x : PC => decide (x.key = s)) default ds 0 with ⟨q1, q2⟩ | ⟨i, hi, q1, q2, q3⟩
  ·rw [q1]
   refine .inl ⟨rfl, fun i hi => ?_⟩
   have := q2 i (by omega)
   rw [hkey i hi] at this
   simpa using this
  ·rw [q1]
   refine .inr ⟨i, by omega, by rw [Nat.zero_add], ?_, fun j hj => ?_⟩
   ·rw [hkey i (by omega)] at q2
    simpa using q2
   ·have := q3 j hj
    rw [hkey j (by omega)] at this
    simpa using this
end
end
def getV {α : Type} (v : VS α) (s : ByteArray) : Option α := if v.kind = 6 then (v.m.find? (fun p => decide (p.1 = s))).map (fun p => p.2) else none
theorem find_ix {α : Type} {m : List (ByteArray × α)} {s : ByteArray} {r : Int} (h : KeyIx m s r) : (r = -1 ∧ m.find? (fun p => decide (p.1 = s)) = none) ∨ ∃ i, ∃ hi : i < m.length, r = (i : Int) ∧ m.find? (fun p => decide (p.1 = s)) = some m[i] := by
 rcases h with ⟨h1, h2⟩ | ⟨i, hi, h1, h2, h3⟩
 ·refine .inl ⟨h1, List.find?_eq_none.2 fun p hp => ?_⟩
  obtain ⟨j, hj, rfl⟩ := List.getElem_of_mem hp
  simpa using h2 j hj
 ·refine .inr ⟨i, hi, h1, ?_⟩
  rw [List.find?_eq_some_iff_getElem]
  refine ⟨by simpa using h2, i, hi, rfl, fun j hj => ?_⟩
  simpa using h3 j hj
theorem box_of {w : World} {g : Nat} {k m : Int} {s : ByteArray} {a b : Value} {t : Nat} {f : Nat × Nat} (h : w.heap[g]? = some (.cells #[.int .i64 k, .int .i64 m, .string s, a, b] t f)) : BoxAt w g k m s a b := ⟨cell_head h rfl, cell_head h rfl, cell_head h rfl, cell_head h rfl, cell_head h rfl⟩
def put5 (w : World) (g : Nat) (k m : Int) (s : ByteArray) (a b : Value) : World := ((((w.setCell ⟨g, 0, none⟩ (.int .i64 k)).setCell ⟨g, 1, none⟩ (.int .i64 m)).setCell ⟨g, 2, none⟩ (.string s)).setCell ⟨g, 3, none⟩ a).setCell ⟨g, 4, none⟩ b
theorem put5_kept (w : World) (g : Nat) (k m : Int) (s : ByteArray) (a b : Value) : Kept [g] w (put5 w g k m s a b) := by
 unfold put5
 exact (((((Kept.refl [g] w).setCell (.inl (by simp)) _).setCell (.inl (by simp)) _).setCell (.inl (by simp)) _).setCell (.inl (by simp)) _).setCell (.inl (by simp)) _
theorem put5_at {w : World} {g : Nat} {c0 c1 c2 c3 c4 : Value} {t : Nat} {f : Nat × Nat} (h : w.heap[g]? = some (.cells #[c0, c1, c2, c3, c4] t f)) (k m : Int) (s : ByteArray) (a b : Value) : (put5 w g k m s a b).heap[g]? = some (.cells #[.int .i64 k, .int .i64 m, .string s, a, b] t f) := by
 unfold put5
 have h1 := block_setCell (i := 0) (v := .int .i64 k) (d := #[.int .i64 k, c1, c2, c3, c4]) h rfl
 have h2 := block_setCell (i := 1) (v := .int .i64 m) (d := #[.int .i64 k, .int .i64 m, c2, c3, c4]) h1 rfl
 have h3 := block_setCell (i := 2) (v := .string s) (d := #[.int .i64 k, .int .i64 m, .string s, c3, c4]) h2 rfl
 have h4 := block_setCell (i := 3) (v := a) (d := #[.int .i64 k, .int .i64 m, .string s, a, c4]) h3 rfl
 have h5 := block_setCell (i := 4) (v := b) (d := #[.int .i64 k, .int .i64 m, .string s, a, b]) h4 rfl
 exact h5
def zero5 : Value := .agg #[.int .i64 0, .int .i64 0, .string ⟨#[]⟩, .slice none 0 0, .slice none 0 0]
section
variable {n : Nat} {v : VS (V n)} {S : Nat → Prop} {w : World} {cs : List Value}
theorem at_any (h : Rep (n + 1) S w cs v) (hl : v.m.length ≤ 1000000) (s : ByteArray) :
  Calls Tryz.prog 108 #[.agg cs.toArray, .string s] w fun e w' => (∃ r, e = .returned (.int .i64 r) ∧ ((r = -1 ∧ getV v s = none) ∨ ∃ i, ∃ hi : i < v.m.length, r = (i : Int) ∧ getV v s = some v.m[i].2)) ∧ Kept [] w w' := by
 obtain ⟨vl, vm, lcs, mcs, h⟩ := h
 obtain ⟨pa, pc, pb, pd, rfl, rfl, rfl⟩ := h.forms
 have H := qI h
 obtain ⟨W0, Gc⟩ : ∃ W0, Hid (W0 = (w.alloc (.cells #[.int .i64 v.kind, .int .i64 v.num, .string v.s, .slice pa v.l.length pc, .slice pb v.m.length pd] 28)).alloc (.cells #[.string s] 9)) := ⟨_, qI rfl⟩
 have Ge : Hid (Kept [] w W0) := qI (by rw [Gc.o]; exact ((Kept.refl _ w).alloc _).alloc _)
 have HB : Hid (W0.heap[w.heap.size]? = some (.cells #[.int .i64 v.kind, .int .i64 v.num, .string v.s, .slice pa v.l.length pc, .slice pb v.m.length pd] 28 (0, 0))) := qI (by rw [Gc.o]; exact ((Kept.refl [] _).alloc _).heap (block_alloc rfl) (by simp))
 have HC : Hid (W0.cell? ⟨w.heap.size + 1, 0, none⟩ = some (.string s)) := qI (by rw [Gc.o]; exact cell_head (block_alloc (by simp)) rfl)
 have CI : Hid (Calls Tryz.prog 144 #[.slice pb v.m.length pd, .func (.func 145) #[] #[.pointer (some ⟨w.heap.size + 1, 0, none⟩)]] W0 fun e w' => (∃ r, e = .returned (.int .i64 r) ∧ KeyIx v.m s r) ∧ Kept [] W0 w') := qI (by
  have hr := Rep.open_ (Rep.kept0 (RepOne.close h) Ge.o)
  obtain ⟨vl', vm', lcs', mcs', h'⟩ := hr
  have e1 := h'.cells
  simp only [List.cons.injEq, and_true, true_and] at e1
  obtain ⟨rfl, rfl⟩ := e1
  exact indexPairs h' HC.o hl)
 have c0 := cell_head (o := 0) (v := .int .i64 v.kind) HB.o rfl
 have c4 := cell_head (o := 4) (v := .slice pb v.m.length pd) HB.o rfl
 clear h
 by_cases k6 : v.kind = 6
 ·have f1 := (int_eq k6).1
  have f2 := (int_eq k6).2
  have HG : Hid (getV v s = (v.m.find? (fun p => decide (p.1 = s))).map (fun p => p.2)) := qI (by unfold getV; rw [if_pos k6])
  clear k6
  go_enter Tryz.func108, Tryz.ntmps108
  go_upto_region 1 with fail
  rw [← Gc.o]
  go_wp2_with (go_at_call 144; refine CI.o.mono ?_; rintro e w2 ⟨⟨r, rfl, hr⟩, hk2⟩; have HR := qI hr; have Ga := qI hk2; clear hr hk2)
  go_ret
  refine ⟨⟨_, rfl, ?_⟩, Ge.o.then Ga.o⟩
  rw [HG.o]
  rcases find_ix HR.o with ⟨h1, h2⟩ | ⟨i, hi, h1, h2⟩
  ·exact .inl ⟨h1, by rw [h2]; rfl⟩
  ·exact .inr ⟨i, hi, h1, by rw [h2]; rfl⟩
 ·have f1 := (int_ne k6).1
  have f2 := (int_ne k6).2
  have HG : Hid (getV v s = none) := qI (by unfold getV; rw [if_neg k6])
  clear k6
  go_enter Tryz.func108, Tryz.ntmps108
  go_upto_region 1 with fail
  rw [← Gc.o]
  go_wp2_with fail
  go_ret
  exact ⟨⟨_, rfl, .inl ⟨rfl, HG.o⟩⟩, Ge.o⟩
def GetAns (n : Nat) (B : Nat) (w' : World) (e : Ending) : Option (V n) → Prop
 | none => e = .returned (.tuple #[zero5, .bool false])
 | some x => ∃ cs' : List Value, e = .returned (.tuple #[.agg cs'.toArray, .bool true]) ∧ OwnD n (fun g => B ≤ g ∧ g < w'.heap.size) w' cs' x
theorem get_any (h : Rep (n + 1) S w cs v) (hs : Small (n + 1) v) (s : ByteArray) :
  Calls Tryz.prog 76 #[.agg cs.toArray, .string s] w fun e w' => GetAns n w.heap.size w' e (getV v s) ∧ Kept [] w w' := by
 have CA0 := fun (w1 : World) (k : Kept [] w w1) => at_any (h.kept0 k) (by have := kids_few v; have := hs.1; omega) s
 obtain ⟨vl, vm, lcs, mcs, h⟩ := h
 obtain ⟨pa, pc, pb, pd, rfl, rfl, rfl⟩ := h.forms
 have H := qI h
 have HS := qI hs
 have CA := qI CA0
 obtain ⟨W0, Gc⟩ : ∃ W0, Hid (W0 = (w.alloc (.cells #[.int .i64 v.kind, .int .i64 v.num, .string v.s, .slice pa v.l.length pc, .slice pb v.m.length pd] 28)).alloc (.cells #[.int .i64 0, .int .i64 0, .string ⟨#[]⟩, .slice none 0 0, .slice none 0 0] 28)) := ⟨_, qI rfl⟩
 have Ge : Hid (Kept [] w W0) := qI (by rw [Gc.o]; exact ((Kept.refl _ w).alloc _).alloc _)
 have HB : Hid (BoxAt W0 w.heap.size v.kind v.num v.s (.slice pa v.l.length pc) (.slice pb v.m.length pd)) := qI (by rw [Gc.o]; exact (box_at _ _ _ _ _ _ _).kept0 ((Kept.refl [] _).alloc _))
 have HR : Hid (W0.heap[w.heap.size + 1]? = some (.cells #[.int .i64 0, .int .i64 0, .string ⟨#[]⟩, .slice none 0 0, .slice none 0 0] 28 (0, 0))) := qI (by rw [Gc.o]; exact block_alloc (by simp))
 clear h hs CA0
 obtain ⟨c0, c1, c2, c3, c4⟩ := HB.o
 go_enter Tryz.func76, Tryz.ntmps76
 go_upto_region 1 with fail
 rw [← Gc.o]
 go_upto_region 2 with (go_at_call 108; refine (CA.o _ Ge.o).mono ?_; rintro e w2 ⟨⟨r, rfl, hr⟩, hk2⟩; have Gv := qI hr; have Ga := qI hk2; clear hr hk2)
 clear c0 c1 c2 c3 c4
 obtain ⟨c0, c1, c2, c3, c4⟩ := HB.o.kept0 Ga.o
 have Gg := qI (Ga.o.heap HR.o (by simp))
 rcases Gv.o with ⟨rfl, hg⟩ | ⟨i, hi, rfl, hg⟩
 ·have HG := qI hg
  clear hg
  have r0 := cell_head (o := 0) (v := .int .i64 0) Gg.o rfl
  have r1 := cell_head (o := 1) (v := .int .i64 0) Gg.o rfl
  have r2 := cell_head (o := 2) (v := .string ⟨#[]⟩) Gg.o rfl
  have r3 := cell_head (o := 3) (v := .slice none 0 0) Gg.o rfl
  have r4 := cell_head (o := 4) (v := .slice none 0 0) Gg.o rfl
  have z : ∀ j, w2.frozen? ⟨w.heap.size + 1, j, none⟩ = false := fun j => free_head Gg.o
  go_wp2_with fail
  change bodyPost _ _ _ _ _ (put5 w2 (w.heap.size + 1) 0 0 ⟨#[]⟩ (.slice none 0 0) (.slice none 0 0))
  have Gf := put5_kept w2 (w.heap.size + 1) 0 0 ⟨#[]⟩ (.slice none 0 0) (.slice none 0 0)
  have Gh := put5_at Gg.o 0 0 ⟨#[]⟩ (.slice none 0 0) (.slice none 0 0)
  revert Gf Gh
  generalize put5 w2 (w.heap.size + 1) 0 0 ⟨#[]⟩ (.slice none 0 0) (.slice none 0 0) = WF
  intro Gf Gh
  obtain ⟨y0, y1, y2, y3, y4⟩ := box_of Gh
  exact bodyPost_ret (v := .tuple #[zero5, .bool false]) (by simp [results, Tryz.results76, go_sem, y0, y1, y2, y3, y4, zero5]) rfl ⟨by rw [HG.o]; rfl, ((Ge.o.then Ga.o).trans Gf (by intro i hi; simp at hi; subst hi; exact .inr (by simp)))⟩
 ·have HX := qI (H.o.at_m (Ge.o.then Ga.o) i hi)
  obtain ⟨g, o, cap, kd, nm, st, a1, b1, he, q0, q1, q2, q3, q4, q5, hr⟩ := HX.o
  simp only [Value.slice.injEq] at he
  obtain ⟨rfl, -, rfl⟩ := he
  obtain ⟨p1, i1, d1, p2, i2, d2, rfl, rfl⟩ := hr.sl
  have CC := qI (cloneD_any n v.m[i].2 hr (HS.o.kid (mem_m (List.getElem_mem hi))))
  have HG := qI hg
  have hiI : (i : Int) < v.m.length := by omega
  clear hr HX hg
  go_wp2_with (go_at_call 87; refine CC.o.mono ?_; rintro e w3 ⟨⟨cs3, rfl, ho3⟩, hk3⟩; obtain ⟨k3, m3, s3, x3, j3, c3, y3, l3, e3, rfl⟩ := ho3.rep.conv; have Gw := qI ho3; have Gi := qI hk3; have Gj := qI (hk3.heap Gg.o (by simp)); have r0 := cell_head (o := 0) (v := .int .i64 0) Gj.o rfl; have r1 := cell_head (o := 1) (v := .int .i64 0) Gj.o rfl; have r2 := cell_head (o := 2) (v := .string ⟨#[]⟩) Gj.o rfl; have r3 := cell_head (o := 3) (v := .slice none 0 0) Gj.o rfl; have r4 := cell_head (o := 4) (v := .slice none 0 0) Gj.o rfl; have z : ∀ j, w3.frozen? ⟨w.heap.size + 1, j, none⟩ = false := fun j => free_head Gj.o; clear ho3 hk3)
  change bodyPost _ _ _ _ _ (put5 w3 (w.heap.size + 1) k3 m3 s3 (.slice x3 j3 c3) (.slice y3 l3 e3))
  have Gf := put5_kept w3 (w.heap.size + 1) k3 m3 s3 (.slice x3 j3 c3) (.slice y3 l3 e3)
  have Gh := put5_at Gj.o k3 m3 s3 (.slice x3 j3 c3) (.slice y3 l3 e3)
  revert Gf Gh
  generalize put5 w3 (w.heap.size + 1) k3 m3 s3 (.slice x3 j3 c3) (.slice y3 l3 e3) = WF
  intro Gf Gh
  obtain ⟨z0, z1, z2, z3, z4⟩ := box_of Gh
  refine bodyPost_ret (v := .tuple #[.agg #[.int .i64 k3, .int .i64 m3, .string s3, .slice x3 j3 c3, .slice y3 l3 e3], .bool true]) (by simp [results, Tryz.results76, go_sem, z0, z1, z2, z3, z4]) rfl ⟨by
   rw [HG.o]
   have hsz : W0.heap.size = w.heap.size + 2 := by rw [Gc.o]; simp
   have h2 := Ga.o.size
   exact ⟨_, rfl, (Gw.o.kept Gf (by intro k hk; simp at hk; subst hk; omega)).mono (fun g ⟨h5, h6⟩ => ⟨by omega, Nat.lt_of_lt_of_le h6 Gf.size⟩)⟩, (((Ge.o.then Ga.o).then Gi.o).trans Gf (by intro i hi; simp at hi; subst hi; exact .inr (by simp)))⟩
end
theorem commas_snoc : ∀ (l : List (List UInt8)) (x : List UInt8), commas (l ++ [x]) = if l = [] then x else commas l ++ 44 :: x
 | [], x => rfl
 | [a], x => rfl
 | a :: b :: t, x => by
  have ih := commas_snoc (b :: t) x
  rw [if_neg (by simp)] at ih
  rw [if_neg (by simp)]
  show a ++ (44 :: commas (b :: t ++ [x])) = (a ++ (44 :: commas (b :: t))) ++ 44 :: x
  rw [ih]
  simp
theorem leK_of_lt {α : Type} {a b : ByteArray × α} (h : ltB a.1 b.1 = true) : leK a b = true := by
 unfold ltB at h; unfold leK
 rw [decide_eq_true_iff] at *
 exact List.le_of_lt h
theorem leK_of_not {α : Type} {a b : ByteArray × α} (h : ltB a.1 b.1 = false) : leK b a = true := by
 unfold ltB at h; unfold leK
 rw [decide_eq_true_iff]
 rw [decide_eq_false_iff_not, List.not_lt] at h
 exact h
theorem put_sorted {α : Type} {l : List (ByteArray × α)} {p : ByteArray × α} {k : Nat} (hs : l.Pairwise (fun x y => leK x y = true)) (hk : k ≤ l.length)
  (h1 : ∀ j (hj : j < l.length), k ≤ j → ltB p.1 l[j].1 = true) (h2 : k = 0 ∨ ∃ h : k - 1 < l.length, ltB p.1 (l[k - 1]).1 = false) :
  (l.take k ++ p :: l.drop k).Pairwise (fun x y => leK x y = true) := by
 have hd : l.take k ++ l.drop k = l := List.take_append_drop k l
 rw [← hd, List.pairwise_append] at hs
 obtain ⟨s1, s2, s3⟩ := hs
 rw [List.pairwise_append, List.pairwise_cons]
 refine ⟨s1, ⟨?_, s2⟩, ?_⟩
 ·intro y hy
  obtain ⟨j, hj, rfl⟩ := List.getElem_of_mem hy
  rw [List.length_drop] at hj
  rw [List.getElem_drop]
  exact leK_of_lt (h1 (k + j) (by omega) (by omega))
 ·intro x hx y hy
  rcases List.mem_cons.1 hy with rfl | hy
  ·rcases h2 with rfl | ⟨h, h2⟩
   ·simp at hx
   ·have hlast : leK (l[k - 1]) y = true := leK_of_not h2
    obtain ⟨j, hj, rfl⟩ := List.getElem_of_mem hx
    rw [List.length_take] at hj
    rw [List.getElem_take]
    by_cases e : j = k - 1
    ·subst e; exact hlast
    ·refine leK_trans _ _ _ ?_ hlast
     have := (List.pairwise_iff_getElem.1 s1) j (k - 1) (by rw [List.length_take]; omega) (by rw [List.length_take]; omega) (by omega)
     simpa using this
  ·exact s3 x hx y hy
theorem put_perm {α : Type} (l : List (ByteArray × α)) (p : ByteArray × α) (k : Nat) : (l.take k ++ p :: l.drop k).Perm (l ++ [p]) := by
 have h1 : (l.take k ++ p :: l.drop k).Perm (p :: (l.take k ++ l.drop k)) := List.perm_middle
 rw [List.take_append_drop] at h1
 exact h1.trans (List.perm_append_singleton p l).symm
def preC (it : Nat → List UInt8) (k : Nat) : List UInt8 := commas ((List.range k).map it)
theorem preC_zero (it : Nat → List UInt8) : preC it 0 = [] := rfl
theorem preC_one (it : Nat → List UInt8) : preC it 1 = it 0 := rfl
theorem preC_succ (it : Nat → List UInt8) {k : Nat} (h : 0 < k) : preC it (k + 1) = (preC it k ++ [44]) ++ it k := by
 unfold preC
 rw [List.range_succ, List.map_append, List.map_cons, List.map_nil, commas_snoc, if_neg (by
  intro e
  have := congrArg List.length e
  simp at this
  omega)]
 simp
theorem preC_len (it : Nat → List UInt8) (k : Nat) : (preC it (k + 1)).length = (preC it k).length + (if k = 0 then 0 else 1) + (it k).length := by
 rcases Nat.eq_zero_or_pos k with rfl | h
 ·rw [preC_one, preC_zero]; simp
 ·rw [preC_succ it h, if_neg (by omega)]
  simp only [List.length_append, List.length_cons, List.length_nil]
theorem preC_le (it : Nat → List UInt8) {k n : Nat} (h : k ≤ n) : (preC it k).length ≤ (preC it n).length := by
 induction n with
 | zero => obtain rfl : k = 0 := by omega
           exact Nat.le_refl _
 | succ n ih =>
  by_cases e : k = n + 1
  ·subst e; exact Nat.le_refl _
  ·have := ih (by omega)
   have := preC_len it n
   omega
theorem preC_all {α : Type} (f : α → List UInt8) (xs : List α) : preC (fun k => (xs.map f).getD k []) xs.length = commas (xs.map f) := by
 unfold preC
 congr 1
 refine List.ext_getElem (by simp) fun i h1 h2 => ?_
 simp only [List.getElem_map, List.getElem_range]
 simp only [List.length_map, List.length_range] at h1
 simp [h1]
def TabsB (b : Nat) (W : World) : Prop := ∃ Wt, Tabs Wt ∧ Kept [] Wt W ∧ Wt.heap.size ≤ b
theorem TabsB.at {b : Nat} {W w : World} (h : TabsB b W) (k : Kept [b] W w) : Tabs w := by
 obtain ⟨Wt, h1, h2, h3⟩ := h
 exact h1.kept0 (h2.trans k (fun i hi => by simp at hi; subst hi; exact .inr h3))
theorem wbyte_44 {T : Nat} (hT : Lies T) {W w : World} {b : Nat} {l : List UInt8} (h : BW T W b w l) (hl : l.length ≤ 100000000) :
  Calls Tryz.prog 88 #[.pointer (some ⟨b, 0, none⟩), .int .u8 44] w fun e w' => e = .returned .nilIface ∧ BW T W b w' (l ++ [44]) ∧ KeptB b w w' := wbyte_any hT h hl 44
theorem wbyte_58 {T : Nat} (hT : Lies T) {W w : World} {b : Nat} {l : List UInt8} (h : BW T W b w l) (hl : l.length ≤ 100000000) :
  Calls Tryz.prog 88 #[.pointer (some ⟨b, 0, none⟩), .int .u8 58] w fun e w' => e = .returned .nilIface ∧ BW T W b w' (l ++ [58]) ∧ KeptB b w w' := wbyte_any hT h hl 58
theorem wquote_any {W w : World} {b : Nat} {l : List UInt8} (h : BW 172 W b w l) (ht : TabsB b W) (hl : l.length ≤ 90000000) (s : ByteArray) (hs : s.size ≤ 1000000) (hv : bytesOk s = true) :
  Calls Tryz.prog 173 #[.pointer (some ⟨b, 0, none⟩), .string s] w fun e w' => e = .returned (.tuple #[]) ∧ BW 172 W b w' (l ++ quoteL s.data.toList) ∧ KeptB b w w' := by
 have CQ := qI (utfQuote (ht.at h.kept) s hs hv)
 have HB := qI h
 have HL : Hid ((strB (quoteL s.data.toList)).size ≤ 100000000) := qI (by
  have := quote_len s.data.toList
  rw [strB_size]
  have e : s.data.toList.length = s.size := by simp
  omega)
 clear h ht hv
 go_enter Tryz.func173, Tryz.ntmps173
 go_wp2_with (first
  | (go_at_call 206; refine CQ.o.mono ?_; rintro e w1 ⟨rfl, hk1⟩; have Gl := qI hk1; clear hk1)
  | (go_at_call 171; refine (wstring_any lies_writer (HB.o.stay Gl.o) (by omega) (strB (quoteL s.data.toList)) HL.o).mono ?_; rintro e w2 ⟨rfl, hb2, hk2⟩; rw [strB_list] at hb2; have Gd := qI hb2; have Ga := qI hk2; clear hb2 hk2))
 go_end0
 exact ⟨rfl, Gd.o, (KeptB.of0 Gl.o).trans Ga.o⟩
theorem between1_any {W w : World} {b b2 b3 n : Nat} {l : List UInt8} {J : World → Prop} {it : Nat → List UInt8} {o c : UInt8}
  (HJ : ∀ w1 w2, J w1 → KeptB b w1 w2 → J w2)
  (HC : ∀ k w1 l1, k < n → J w1 → BW 172 W b w1 l1 → l1.length + (it k).length ≤ 50000000 → Calls Tryz.prog 175 #[.int .i64 k, .pointer (some ⟨b2, 0, none⟩), .pointer (some ⟨b3, 0, none⟩)] w1 fun r w2 => r = .returned (.tuple #[]) ∧ BW 172 W b w2 (l1 ++ it k) ∧ KeptB b w1 w2)
  (hJ : J w) (hb : BW 172 W b w l) (hn : n ≤ 20000) (hl : l.length + (preC it n).length ≤ 49999998) :
  Calls Tryz.prog 174 #[.pointer (some ⟨b, 0, none⟩), .int .u8 o.toNat, .int .i64 n, .func (.func 175) #[] #[.pointer (some ⟨b2, 0, none⟩), .pointer (some ⟨b3, 0, none⟩)], .int .u8 c.toNat] w
   fun r w' => r = .returned (.tuple #[]) ∧ BW 172 W b w' (l ++ (o :: (preC it n ++ [c]))) ∧ KeptB b w w' := by
 have HB := qI hb
 have Gm := qI hJ
 have Gn := qI HC
 have Gp := qI HJ
 clear hb hJ HC HJ
 go_enter Tryz.func174, Tryz.ntmps174
 go_wp2_with (go_at_call 88; refine (wbyte_any lies_writer HB.o (by omega) o).mono ?_; rintro e w1 ⟨rfl, hb1, hk1⟩; have Gr := qI hb1; have Gl := qI hk1; clear hb1 hk1)
 go_loopw [17] (fun i wr => ∃ k : Nat, i = .int .i64 k ∧ k ≤ n ∧ BW 172 W b wr (l ++ [o] ++ preC it k) ∧ KeptB b w wr) (fun i _ => n - (intOf i).toNat)
 case atStart => exact ⟨0, rfl, Nat.zero_le _, by rw [preC_zero, List.append_nil]; exact Gr.o, Gl.o⟩
 case round =>
  obtain ⟨k, rfl, hk, hb, hkw⟩ := hrel
  have Gk := qI hb
  have Gb := qI hkw
  have hle := preC_le it hk
  have hlen : (l ++ [o] ++ preC it k).length = l.length + 1 + (preC it k).length := by simp only [List.length_append, List.length_cons, List.length_nil]
  clear hb hkw
  by_cases hlt : k < n
  ·have hltI : (k : Int) < n := by omega
   have hst := preC_len it k
   have hle2 := preC_le it (show k + 1 ≤ n from hlt)
   by_cases h0 : k = 0
   ·subst h0
    have CI := qI (Gn.o _ _ _ hlt (Gp.o _ _ Gm.o Gb.o) Gk.o (by simp only [if_true] at hst; omega))
    have HE : Hid (l ++ [o] ++ preC it 0 ++ it 0 = l ++ [o] ++ preC it (0 + 1)) := qI (by rw [preC_zero, preC_one, List.append_nil])
    clear hst hlen hle hle2
    rw [show (((0 : Nat) : Nat) : Int) = 0 from rfl] at *
    go_wp2_with (go_at_call 175; refine CI.o.mono ?_; rintro e w2 ⟨rfl, hb2, hk2⟩; rw [HE.o] at hb2; have Gd := qI hb2; have Ga := qI hk2; clear hb2 hk2)
    case roundEnd => exact ⟨⟨0 + 1, by go_num, by omega, Gd.o, Gb.o.trans Ga.o⟩, by simp [intOf]; omega⟩
   ·have h0I : (0 : Int) < k := by omega
    rw [if_neg h0] at hst
    have HE : Hid (l ++ [o] ++ preC it k ++ [44] ++ it k = l ++ [o] ++ preC it (k + 1)) := qI (by rw [preC_succ it (by omega)]; simp)
    go_wp2_with (first
     | (go_at_call 88; refine (wbyte_44 lies_writer Gk.o (by omega)).mono ?_; rintro e w2 ⟨rfl, hb2, hk2⟩; have Gd := qI hb2; have Ga := qI hk2; clear hb2 hk2)
     | (go_at_call 175; refine (Gn.o _ _ _ hlt (Gp.o _ _ Gm.o (Gb.o.trans Ga.o)) Gd.o (by rw [List.length_append, hlen]; simp only [List.length_cons, List.length_nil]; omega)).mono ?_; rintro e w3 ⟨rfl, hb3, hk3⟩; rw [HE.o] at hb3; have Gs := qI hb3; have Gi := qI hk3; clear hb3 hk3))
    case roundEnd => exact ⟨⟨k + 1, by go_num, by omega, Gs.o, (Gb.o.trans Ga.o).trans Gi.o⟩, by simp [intOf]; omega⟩
  ·obtain rfl : k = n := by omega
   have HE : Hid (l ++ [o] ++ preC it k ++ [c] = l ++ (o :: (preC it k ++ [c]))) := qI (by simp)
   go_wp2_with (go_at_call 88; refine (wbyte_any lies_writer Gk.o (by omega) c).mono ?_; rintro e w2 ⟨rfl, hb2, hk2⟩; rw [HE.o] at hb2; have Gd := qI hb2; have Ga := qI hk2; clear hb2 hk2)
   go_end0
   exact ⟨rfl, Gd.o, Gb.o.trans Ga.o⟩
theorem between2_any {W w : World} {b b2 b3 n : Nat} {l : List UInt8} {J : World → Prop} {it : Nat → List UInt8} {o c : UInt8}
  (HJ : ∀ w1 w2, J w1 → KeptB b w1 w2 → J w2)
  (HC : ∀ k w1 l1, k < n → J w1 → BW 172 W b w1 l1 → l1.length + (it k).length ≤ 50000000 → Calls Tryz.prog 176 #[.int .i64 k, .pointer (some ⟨b2, 0, none⟩), .pointer (some ⟨b3, 0, none⟩)] w1 fun r w2 => r = .returned (.tuple #[]) ∧ BW 172 W b w2 (l1 ++ it k) ∧ KeptB b w1 w2)
  (hJ : J w) (hb : BW 172 W b w l) (hn : n ≤ 20000) (hl : l.length + (preC it n).length ≤ 49999998) :
  Calls Tryz.prog 174 #[.pointer (some ⟨b, 0, none⟩), .int .u8 o.toNat, .int .i64 n, .func (.func 176) #[] #[.pointer (some ⟨b2, 0, none⟩), .pointer (some ⟨b3, 0, none⟩)], .int .u8 c.toNat] w
   fun r w' => r = .returned (.tuple #[]) ∧ BW 172 W b w' (l ++ (o :: (preC it n ++ [c]))) ∧ KeptB b w w' := by
 have HB := qI hb
 have Gm := qI hJ
 have Gn := qI HC
 have Gp := qI HJ
 clear hb hJ HC HJ
 go_enter Tryz.func174, Tryz.ntmps174
 go_wp2_with (go_at_call 88; refine (wbyte_any lies_writer HB.o (by omega) o).mono ?_; rintro e w1 ⟨rfl, hb1, hk1⟩; have Gr := qI hb1; have Gl := qI hk1; clear hb1 hk1)
 go_loopw [17] (fun i wr => ∃ k : Nat, i = .int .i64 k ∧ k ≤ n ∧ BW 172 W b wr (l ++ [o] ++ preC it k) ∧ KeptB b w wr) (fun i _ => n - (intOf i).toNat)
 case atStart => exact ⟨0, rfl, Nat.zero_le _, by rw [preC_zero, List.append_nil]; exact Gr.o, Gl.o⟩
 case round =>
  obtain ⟨k, rfl, hk, hb, hkw⟩ := hrel
  have Gk := qI hb
  have Gb := qI hkw
  have hle := preC_le it hk
  have hlen : (l ++ [o] ++ preC it k).length = l.length + 1 + (preC it k).length := by simp only [List.length_append, List.length_cons, List.length_nil]
  clear hb hkw
  by_cases hlt : k < n
  ·have hltI : (k : Int) < n := by omega
   have hst := preC_len it k
   have hle2 := preC_le it (show k + 1 ≤ n from hlt)
   by_cases h0 : k = 0
   ·subst h0
    have CI := qI (Gn.o _ _ _ hlt (Gp.o _ _ Gm.o Gb.o) Gk.o (by simp only [if_true] at hst; omega))
    have HE : Hid (l ++ [o] ++ preC it 0 ++ it 0 = l ++ [o] ++ preC it (0 + 1)) := qI (by rw [preC_zero, preC_one, List.append_nil])
    clear hst hlen hle hle2
    rw [show (((0 : Nat) : Nat) : Int) = 0 from rfl] at *
    go_wp2_with (go_at_call 176; refine CI.o.mono ?_; rintro e w2 ⟨rfl, hb2, hk2⟩; rw [HE.o] at hb2; have Gd := qI hb2; have Ga := qI hk2; clear hb2 hk2)
    case roundEnd => exact ⟨⟨0 + 1, by go_num, by omega, Gd.o, Gb.o.trans Ga.o⟩, by simp [intOf]; omega⟩
   ·have h0I : (0 : Int) < k := by omega
    rw [if_neg h0] at hst
    have HE : Hid (l ++ [o] ++ preC it k ++ [44] ++ it k = l ++ [o] ++ preC it (k + 1)) := qI (by rw [preC_succ it (by omega)]; simp)
    go_wp2_with (first
     | (go_at_call 88; refine (wbyte_44 lies_writer Gk.o (by omega)).mono ?_; rintro e w2 ⟨rfl, hb2, hk2⟩; have Gd := qI hb2; have Ga := qI hk2; clear hb2 hk2)
     | (go_at_call 176; refine (Gn.o _ _ _ hlt (Gp.o _ _ Gm.o (Gb.o.trans Ga.o)) Gd.o (by rw [List.length_append, hlen]; simp only [List.length_cons, List.length_nil]; omega)).mono ?_; rintro e w3 ⟨rfl, hb3, hk3⟩; rw [HE.o] at hb3; have Gs := qI hb3; have Gi := qI hk3; clear hb3 hk3))
    case roundEnd => exact ⟨⟨k + 1, by go_num, by omega, Gs.o, (Gb.o.trans Ga.o).trans Gi.o⟩, by simp [intOf]; omega⟩
  ·obtain rfl : k = n := by omega
   have HE : Hid (l ++ [o] ++ preC it k ++ [c] = l ++ (o :: (preC it k ++ [c]))) := qI (by simp)
   go_wp2_with (go_at_call 88; refine (wbyte_any lies_writer Gk.o (by omega) c).mono ?_; rintro e w2 ⟨rfl, hb2, hk2⟩; rw [HE.o] at hb2; have Gd := qI hb2; have Ga := qI hk2; clear hb2 hk2)
   go_end0
   exact ⟨rfl, Gd.o, Gb.o.trans Ga.o⟩
def BareIs {α : Type} (v : VS α) (m : Int) (s : ByteArray) (l k : Nat) : Prop :=
 (v.kind = 1 ∧ m = 0 ∧ s = ⟨#[]⟩ ∧ l = 0 ∧ k = 0) ∨ (v.kind = 2 ∧ (v.num = 0 ∨ v.num = 1) ∧ m = v.num ∧ s = ⟨#[]⟩ ∧ l = 0 ∧ k = 0) ∨
 (v.kind = 3 ∧ (-9007199254740991 ≤ v.num ∧ v.num ≤ 9007199254740991) ∧ m = v.num ∧ s = ⟨#[]⟩ ∧ l = 0 ∧ k = 0) ∨ (v.kind = 4 ∧ bytesOk v.s = true ∧ m = 0 ∧ s = v.s ∧ l = 0 ∧ k = 0) ∨
 (v.kind = 5 ∧ m = 0 ∧ s = ⟨#[]⟩ ∧ l = v.l.length ∧ k = 0) ∨ (v.kind = 6 ∧ m = 0 ∧ s = ⟨#[]⟩ ∧ l = 0 ∧ k = v.m.length)
theorem isEmpty_len {α : Type} (l : List α) : l.isEmpty = decide (l.length = 0) := by cases l <;> simp
theorem bare_own {α : Type} {v : VS α} {m : Int} {s : ByteArray} {l k : Nat} (h : BareIs v m s l k) :
  ownRight v = (decide (v.num = m) && decide (v.s = s) && decide (v.l.length = l) && decide (v.m.length = k) && (if v.kind = 6 then keysOk v.m else true)) := by
 unfold ownRight noneS
 simp only [isEmpty_len]
 rcases h with ⟨h1, rfl, rfl, rfl, rfl⟩ | ⟨h1, h2, rfl, rfl, rfl, rfl⟩ | ⟨h1, h2, rfl, rfl, rfl, rfl⟩ | ⟨h1, h2, rfl, rfl, rfl, rfl⟩ | ⟨h1, rfl, rfl, rfl, rfl⟩ | ⟨h1, rfl, rfl, rfl, rfl⟩
 ·rw [h1]; simp
 ·rw [h1]; simp [h2]
 ·rw [h1]; simp [h2]
 ·rw [h1]; simp [h2, Bool.and_assoc]
 ·rw [h1]; simp
 ·rw [h1]
  simp only [if_neg (show ¬ ((6 : Int) = 1) by decide), if_neg (show ¬ ((6 : Int) = 2) by decide), if_neg (show ¬ ((6 : Int) = 3) by decide), if_neg (show ¬ ((6 : Int) = 4) by decide), if_neg (show ¬ ((6 : Int) = 5) by decide), if_pos]
  cases keysOk v.m <;> cases decide (v.num = 0) <;> cases decide (v.s = ⟨#[]⟩) <;> cases decide (v.l.length = 0) <;> simp
def pairsOk {α : Type} (r : α → Bool) : List ByteArray → List (ByteArray × α) → Bool
 | _, [] => true
 | seen, p :: t => bytesOk p.1 && r p.2 && !(seen.any (fun k => decide (k = p.1))) && pairsOk r (seen ++ [p.1]) t
theorem pairsOk_eq {α : Type} (r : α → Bool) : ∀ (m : List (ByteArray × α)) (seen : List ByteArray), seen.Nodup →
  (pairsOk r seen m = true ↔ (∀ p, p ∈ m → bytesOk p.1 = true ∧ r p.2 = true) ∧ (seen ++ m.map (fun p => p.1)).Nodup)
 | [], seen, hs => by simp [pairsOk, hs]
 | p :: t, seen, hs => by
  unfold pairsOk
  rw [Bool.and_eq_true, Bool.and_eq_true, Bool.and_eq_true]
  by_cases hk : p.1 ∈ seen
  ·have h1 : (seen.any (fun k => decide (k = p.1))) = true := List.any_eq_true.2 ⟨p.1, hk, by simp⟩
   rw [h1]
   constructor
   ·rintro ⟨⟨_, h⟩, _⟩; simp at h
   ·rintro ⟨_, h⟩
    exact absurd hk (fun q => by
     have := (List.nodup_append.1 h).2.2 p.1 q p.1 (by simp)
     exact this rfl)
  ·have h1 : (seen.any (fun k => decide (k = p.1))) = false := by
    rw [List.any_eq_false]
    intro x hx e
    exact hk (by rw [decide_eq_true_iff] at e; rw [← e]; exact hx)
   have hs' : (seen ++ [p.1]).Nodup := by
    refine List.nodup_append.2 ⟨hs, by simp, ?_⟩
    intro a ha b hb e
    simp at hb
    exact hk (by rw [← hb, ← e]; exact ha)
   rw [h1, pairsOk_eq r t (seen ++ [p.1]) hs']
   simp only [List.map_cons, List.append_assoc, List.cons_append, List.nil_append, Bool.not_false, and_true, List.mem_cons, forall_eq_or_imp]
   constructor
   ·rintro ⟨h2, h3, h4⟩; exact ⟨⟨h2, h3⟩, h4⟩
   ·rintro ⟨⟨h2, h3⟩, h4⟩; exact ⟨h2, h3, h4⟩
theorem pairsOk_all {α : Type} (r : α → Bool) (m : List (ByteArray × α)) : pairsOk r [] m = (keysOk m && m.all (fun p => r p.2)) := by
 rw [Bool.eq_iff_iff, pairsOk_eq r m [] List.nodup_nil, Bool.and_eq_true]
 unfold keysOk
 rw [Bool.and_eq_true, List.all_eq_true, List.all_eq_true, decide_eq_true_iff, List.nil_append]
 constructor
 ·rintro ⟨h1, h2⟩; exact ⟨⟨fun p hp => (h1 p hp).1, h2⟩, fun p hp => (h1 p hp).2⟩
 ·rintro ⟨⟨h1, h2⟩, h3⟩; exact ⟨fun p hp => ⟨h1 p hp, h3 p hp⟩, h2⟩
theorem right_bare {n : Nat} {v : VS (V n)} {m : Int} {s : ByteArray} {l k : Nat} (h : BareIs v m s l k) :
  rightV (n + 1) v = (decide (v.num = m) && decide (v.s = s) && decide (v.l.length = l) && decide (v.m.length = k) && v.l.all (rightV n) && pairsOk (rightV n) [] v.m) := by
 have e : rightV (n + 1) v = (ownRight v && v.kids.all (rightV n)) := rfl
 have ek : v.kids.all (rightV n) = (v.l.all (rightV n) && v.m.all (fun p => rightV n p.2)) := by
  unfold VS.kids
  rw [List.all_append, List.all_map]
  rfl
 rw [e, bare_own h, ek, pairsOk_all]
 by_cases h6 : v.kind = 6
 ·rw [if_pos h6]
  cases keysOk v.m <;> cases v.l.all (rightV n) <;> cases v.m.all (fun p => rightV n p.2) <;> simp
 ·rw [if_neg h6]
  have hk : k = 0 := by
   rcases h with h | h | h | h | h | h
   ·exact h.2.2.2.2
   ·exact h.2.2.2.2.2
   ·exact h.2.2.2.2.2
   ·exact h.2.2.2.2.2
   ·exact h.2.2.2.2
   ·exact absurd h.1 h6
  subst hk
  by_cases hm : v.m.length = 0
  ·have := List.eq_nil_of_length_eq_zero hm
   rw [this]
   cases v.l.all (rightV n) <;> simp [keysOk]
  ·simp [hm]
open Go.Maps (Keyed)
theorem keyStr : Keyed Tryz.prog 9 := Maps.string_keyed Tryz.underlying9
theorem sameStr (x y : List UInt8) : (Lit.string x).sameKey (.string y) = decide (x = y) := by
 by_cases h : x = y <;> simp [Lit.sameKey, h]
theorem keyOfStr (s : ByteArray) (hs : s.size ≤ 281474976710656) : keyOf Tryz.prog 9 (.string s) = some (.string s.data.toList) := Go.WideMaps.keyOf_string_mk (P := Tryz.prog) Tryz.underlying9 (by simp only [maxLen]; omega)
def SeenAt (w : World) (b : Nat) (seen : List ByteArray) : Prop :=
 ∃ n M, MapAt Tryz.prog w 9 b n M ∧ n ≤ seen.length ∧ ∀ s : ByteArray, M (.string s.data.toList) = if seen.any (fun k => decide (k = s)) = true then some (Value.bool true) else none
theorem seen_new {w : World} {b : Nat} (hb : w.heap.size = b) : SeenAt (w.alloc (.map #[] 0)) b [] := by
 subst hb
 exact ⟨0, _, mapAt_made _ w _, Nat.le_refl _, fun s => by simp⟩
theorem SeenAt.kept {w w' : World} {b : Nat} {seen : List ByteArray} {X : List Nat} (h : SeenAt w b seen) (k : Kept X w w') (hb : b ∉ X) : SeenAt w' b seen := by
 obtain ⟨n, M, h1, h2, h3⟩ := h
 exact ⟨n, M, h1.kept k hb, h2, h3⟩
theorem SeenAt.kept0 {w w' : World} {b : Nat} {seen : List ByteArray} (h : SeenAt w b seen) (k : Kept [] w w') : SeenAt w' b seen := h.kept k (by simp)
theorem SeenAt.look {w : World} {b : Nat} {seen : List ByteArray} (h : SeenAt w b seen) (s : ByteArray) (hs : s.size ≤ 281474976710656) :
  (Instr.lookup 99 (.map (some b)) (.string s) false).run Tryz.prog w = .ok (.bool (seen.any (fun k => decide (k = s)))) w := by
 obtain ⟨n, M, h1, h2, h3⟩ := h
 have h4 := (h1.lookup keyStr Tryz.underlying99 (z := .bool false) (Tryz.zeroValue4 w) (keyOfStr s hs)).2
 rw [h4, h3 s]
 cases seen.any (fun k => decide (k = s)) <;> rfl
theorem SeenAt.put {w : World} {b : Nat} {seen : List ByteArray} (h : SeenAt w b seen) (s : ByteArray) (hs : s.size ≤ 281474976710656) (hl : seen.length ≤ 100000000) :
  ∃ w', (Instr.mapUpdate 99 (.map (some b)) (.string s) (.bool true)).run Tryz.prog w = .ok () w' ∧ SeenAt w' b (seen ++ [s]) ∧ Kept [b] w w' := by
 obtain ⟨n, M, h1, h2, h3⟩ := h
 obtain ⟨w', hr, h4, h5, _⟩ := h1.update keyStr Tryz.underlying99 (by simp only [maxLen]; omega) (keyOfStr s hs) (.bool true)
 refine ⟨w', hr, ⟨n + 1, _, h4, by rw [List.length_append]; simp; omega, fun t => ?_⟩, h5⟩
 show (if (Lit.string t.data.toList).sameKey (.string s.data.toList) = true then some (Value.bool true) else M (.string t.data.toList)) = _
 rw [sameStr, List.any_append]
 by_cases e : t = s
 ·subst e
  rw [if_pos (by simp), if_pos (by simp)]
 ·have h7 : t.data.toList ≠ s.data.toList := fun q => e (ba_eq q)
  have h8 : [s].any (fun k => decide (k = t)) = false := by simp [Ne.symm e]
  rw [if_neg (by simpa using h7), h3 t, h8, Bool.or_false]
def keysGo : List ByteArray → List ByteArray → Bool
 | _, [] => true
 | seen, k :: t => !(seen.any (fun x => decide (x = k))) && bytesOk k && keysGo (seen ++ [k]) t
theorem keysGo_eq : ∀ (l seen : List ByteArray), seen.Nodup → (keysGo seen l = true ↔ (∀ k, k ∈ l → bytesOk k = true) ∧ (seen ++ l).Nodup)
 | [], seen, hs => by simp [keysGo, hs]
 | k :: t, seen, hs => by
  unfold keysGo
  rw [Bool.and_eq_true, Bool.and_eq_true]
  by_cases hk : k ∈ seen
  ·have h1 : (seen.any (fun x => decide (x = k))) = true := List.any_eq_true.2 ⟨k, hk, by simp⟩
   rw [h1]
   constructor
   ·rintro ⟨⟨h, _⟩, _⟩; simp at h
   ·rintro ⟨_, h⟩
    exact absurd rfl ((List.nodup_append.1 h).2.2 k hk k (by simp))
  ·have h1 : (seen.any (fun x => decide (x = k))) = false := by
    rw [List.any_eq_false]
    intro x hx e
    rw [decide_eq_true_iff] at e
    exact hk (e ▸ hx)
   have hs' : (seen ++ [k]).Nodup := by
    refine List.nodup_append.2 ⟨hs, by simp, ?_⟩
    intro a ha b hb e
    simp at hb
    exact hk (by rw [← hb, ← e]; exact ha)
   rw [h1, keysGo_eq t (seen ++ [k]) hs']
   simp only [List.append_assoc, List.cons_append, List.nil_append, Bool.not_false, true_and, List.mem_cons, forall_eq_or_imp]
   constructor
   ·rintro ⟨h2, h3, h4⟩; exact ⟨⟨h2, h3⟩, h4⟩
   ·rintro ⟨⟨h2, h3⟩, h4⟩; exact ⟨h2, h3, h4⟩
theorem keysGo_all {α : Type} (m : List (ByteArray × α)) : keysGo [] (m.map (fun p => p.1)) = keysOk m := by
 rw [Bool.eq_iff_iff, keysGo_eq _ [] List.nodup_nil]
 unfold keysOk
 rw [Bool.and_eq_true, List.all_eq_true, decide_eq_true_iff, List.nil_append]
 constructor
 ·rintro ⟨h1, h2⟩; exact ⟨fun p hp => h1 p.1 (List.mem_map.2 ⟨p, hp, rfl⟩), h2⟩
 ·rintro ⟨h1, h2⟩; exact ⟨fun k hk => by obtain ⟨p, hp, rfl⟩ := List.mem_map.1 hk; exact h1 p hp, h2⟩
theorem keys_any {n : Nat} {v : VS (V n)} {S : Nat → Prop} {w : World} {cs : List Value} {vl : Value} {b : Option Addr} {e : Nat} {lcs : List (List Value)} {mcs : List (ByteArray × List Value)}
  (h : RepOne (Rep n S w) S w cs v vl (.slice b v.m.length e) lcs mcs) (hm : v.m.length ≤ 20000) (hk : ∀ p, p ∈ v.m → p.1.size ≤ 400000) (ht : Tabs w) :
  Calls Tryz.prog 225 #[.slice b v.m.length e] w fun e w' => e = .returned (.bool (keysOk v.m)) ∧ Kept [] w w' := by
 have H := qI h
 have Gt := qI hk
 have HT := qI ht
 have Gu := qI (keysGo_all v.m)
 obtain ⟨W0, Gc⟩ : ∃ W0, Hid (W0 = w.alloc (.map #[] 0)) := ⟨_, qI rfl⟩
 have Ge : Hid (Kept [] w W0) := qI (by rw [Gc.o]; exact (Kept.refl _ _).alloc _)
 have Gx : Hid (SeenAt W0 w.heap.size []) := qI (by rw [Gc.o]; exact seen_new rfl)
 clear h hk ht
 have hmm := @run_makeMap Tryz.prog
 go_enter Tryz.func225, Tryz.ntmps225
 go_wp2_with fail
 clear hmm
 rw [← Gc.o]
 go_loopw [9] (fun i wr => ∃ k : Nat, i = .int .i64 k ∧ k ≤ v.m.length ∧ SeenAt wr w.heap.size ((v.m.take k).map (fun p => p.1)) ∧ keysGo ((v.m.take k).map (fun p => p.1)) ((v.m.drop k).map (fun p => p.1)) = keysGo [] (v.m.map (fun p => p.1)) ∧ Kept [] w wr) (fun i _ => v.m.length - (intOf i).toNat)
 case atStart => exact ⟨0, rfl, Nat.zero_le _, Gx.o, rfl, Ge.o⟩
 case round =>
  obtain ⟨k, rfl, hk, hs, hg, hkr⟩ := hrel
  have HS := qI hs
  have HG := qI hg
  have Gb := qI hkr
  clear hs hg hkr
  by_cases hlt : k < v.m.length
  ·have hltI : (k : Int) < v.m.length := by omega
   obtain ⟨g, o, cap, kd, nm, st, a1, b1, he, q0, q1, q2, q3, q4, q5, hr⟩ := H.o.at_m Gb.o k hlt
   simp only [Value.slice.injEq] at he
   obtain ⟨rfl, -, rfl⟩ := he
   obtain ⟨p1, i1, d1, p2, i2, d2, rfl, rfl⟩ := hr.sl
   have hks : v.m[k].1.size ≤ 400000 := Gt.o _ (List.getElem_mem hlt)
   have Gq : Hid ((v.m.take (k + 1)).map (fun p => p.1) = (v.m.take k).map (fun p => p.1) ++ [v.m[k].1]) := qI (take_map_succ _ _ _ hlt)
   have HD : Hid (keysGo ((v.m.take k).map (fun p => p.1)) ((v.m.drop k).map (fun p => p.1)) = (!(((v.m.take k).map (fun p => p.1)).any (fun x => decide (x = v.m[k].1))) && bytesOk v.m[k].1 && keysGo ((v.m.take k).map (fun p => p.1) ++ [v.m[k].1]) ((v.m.drop (k + 1)).map (fun p => p.1)))) := qI (by
    conv => lhs; rw [List.drop_eq_getElem_cons hlt]
    rfl)
   have hsl : ((v.m.take k).map (fun p => p.1)).length ≤ 20000 := by rw [List.length_map, List.length_take]; omega
   clear hr
   revert q0 hks Gq HD
   generalize v.m[k].1 = key
   intro q0 hks Gq HD
   have HA := qI ((Kept.refl [] wr).alloc (.cells #[.string key, .int .i64 kd, .int .i64 nm, .string st, .slice p1 i1 d1, .slice p2 i2 d2] 78))
   have hlook := (HS.o.kept0 HA.o).look key (by omega)
   have Gy := qI (pbox_at (w := wr) rfl key kd nm st (.slice p1 i1 d1) (.slice p2 i2 d2) 78)
   have CV := qI (utfValid (HT.o.kept0 (Gb.o.then HA.o)) key (by omega))
   revert hlook HD CV
   generalize ((v.m.take k).map (fun p => p.1)).any (fun x => decide (x = key)) = r
   generalize bytesOk key = ok
   intro HD hlook CV
   cases r with
   | true =>
    go_wp2_with fail
    go_ret
    rw [← Gu.o, ← HG.o, HD.o]
    exact ⟨by simp, Gb.o.then HA.o⟩
   | false =>
    cases ok with
    | false =>
     go_wp2_with (go_at_call 82; refine CV.o.mono ?_; rintro e w2 ⟨rfl, hk2⟩)
     go_ret
     rw [← Gu.o, ← HG.o, HD.o]
     exact ⟨by simp, (Gb.o.then HA.o).then hk2⟩
    | true =>
     go_wp2_with (go_at_call 82; refine CV.o.mono ?_; rintro e w2 ⟨rfl, hk2⟩; have Ga := qI (HA.o.then hk2); obtain ⟨y0, -, -, -, -, -⟩ := Gy.o.kept0 hk2; obtain ⟨w3, hput, hs3, hk3⟩ := (HS.o.kept0 Ga.o).put key (by omega) (by omega); have Gz := qI hs3; have Gi := qI hk3; clear hk2 hs3 hk3)
     case roundEnd =>
      refine ⟨⟨k + 1, by go_num, by omega, ?_, ?_, ?_⟩, by simp [intOf]; omega⟩
      ·rw [Gq.o]; exact Gz.o
      ·rw [← HG.o, HD.o, Gq.o]; simp
      ·exact (Gb.o.then Ga.o).trans Gi.o (fun i hi => by simp at hi; subst hi; exact .inr (Nat.le_refl _))
  ·obtain rfl : k = v.m.length := by omega
   go_wp2_with fail
   go_ret
   rw [← Gu.o, ← HG.o, List.drop_length]
   exact ⟨rfl, Gb.o⟩
end Go.Proofs.YtckbnjipecclaaaGreatDoor

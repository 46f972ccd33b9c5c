/- Parts of one proof, merged: XBase XLast XQ XJA XV. -/
import Derived.Test.YtckbnjipecclaaaGreatDoorChecked
import Derived.WalkKit
import Derived.WalkSmall
import Derived.Maps.RangeWalk
import Derived.Maps.AppendAt
import Derived.Lib.Hide
import Derived.OrdersHeld
import Derived.Deep.DrawnRows
import Derived.Deep.RegionHeld3
import Derived.BigQuiet
import Derived.Laws.BitsLemmas
set_option linter.all false
set_option maxHeartbeats 12800000
set_option maxRecDepth 10000
set_option linter.unusedVariables false
set_option linter.unusedSimpArgs false
set_option linter.unnecessarySimpa false
namespace Go.Proofs.YtckbnjipecclaaaGreatDoor
theorem qI {p : Prop} (h : p) : RowKit.Hid p := Lib.hid h
theorem _root_.Go.RowKit.Hid.o {p : Prop} (h : RowKit.Hid p) : p := h.out
theorem zA (a : Act) (n : Nat) (v : Value) : a.put (some n) v = { a with tmps := a.tmps.setIfInBounds n v } := rfl
theorem zN (a : Act) (v : Value) : a.put none v = a := rfl
theorem zB {α : Type} (l : List α) (i : Nat) (a : α) : l.toArray.setIfInBounds i a = (l.set i a).toArray := List.setIfInBounds_toArray ..
theorem zC {α : Type} (x a : α) (l : List α) : (x :: l).set 0 a = a :: l := rfl
theorem zD {α : Type} (x a : α) (l : List α) (n : Nat) : (x :: l).set (n+1) a = x :: l.set n a := rfl
open Go.RowKit
def lim : Nat := 140737488351232
def kind (w : World) (k : Nat) : Nat :=
 match w.heap[k]? with
 | some (.cells _ e _) => e + 2
 | some (.map _ _) => 1
 | _ => 0
theorem kind_cells {w : World} {k : Nat} {c : Array Value} {e : Nat} {f : Nat × Nat} (h : w.heap[k]? = some (.cells c e f)) : kind w k = e + 2 := by simp [kind, h]
theorem ne_kind {w : World} {a b x y : Nat} (ha : kind w a = x) (hb : kind w b = y) (h : x ≠ y) : a ≠ b := by
 intro e; subst e; exact h (ha.symm.trans hb)
theorem cell_head {w : World} {b o : Nat} {cs : Array Value} {t : Nat} {f : Nat × Nat} {v : Value} (h : w.heap[b]? = some (.cells cs t f)) (hv : cs[o]? = some v) : w.cell? ⟨b, o, none⟩ = some v := by simp [World.cell?, h, hv]
theorem free_head {w : World} {b o : Nat} {cs : Array Value} {t : Nat} (h : w.heap[b]? = some (.cells cs t (0, 0))) : w.frozen? ⟨b, o, none⟩ = false := by simp [World.frozen?, h]
structure Kept (X : List Nat) (w w' : World) : Prop where
 os : w'.os = w.os
 tape : w'.tape = w.tape
 output : w'.output = w.output
 size : w.heap.size ≤ w'.heap.size
 block : ∀ k, k < w.heap.size → k ∉ X → w'.heap[k]? = w.heap[k]?
theorem Kept.refl (X : List Nat) (w : World) : Kept X w w := ⟨rfl, rfl, rfl, Nat.le_refl _, fun _ _ _ => rfl⟩
theorem Kept.mono {X Y : List Nat} {w w' : World} (h : Kept X w w') (hs : ∀ k, k ∈ X → k ∈ Y) : Kept Y w w' :=
 ⟨h.os, h.tape, h.output, h.size, fun k hk hx => h.block k hk (fun e => hx (hs k e))⟩
theorem Kept.trans {X Y : List Nat} {a b c : World} (h : Kept X a b) (k : Kept Y b c) (hs : ∀ i, i ∈ Y → i ∈ X ∨ a.heap.size ≤ i) : Kept X a c :=
 ⟨k.os.trans h.os, k.tape.trans h.tape, k.output.trans h.output, Nat.le_trans h.size k.size, fun i hi hx =>
  (k.block i (Nat.lt_of_lt_of_le hi h.size) (fun e => by rcases hs i e with g | g; exact hx g; omega)).trans (h.block i hi hx)⟩
theorem Kept.trans' {X : List Nat} {a b c : World} (h : Kept X a b) (k : Kept X b c) : Kept X a c := h.trans k (fun _ e => .inl e)
theorem Kept.then {X : List Nat} {a b c : World} (h : Kept X a b) (k : Kept [] b c) : Kept X a c := h.trans k (fun _ e => by simp at e)
theorem Kept.drew {X : List Nat} {a w : World} (h : Kept X a w) : Kept X a w.drew := ⟨h.os, h.tape, h.output, h.size, h.block⟩
theorem Kept.alloc {X : List Nat} {a w : World} (h : Kept X a w) (o : Obj) : Kept X a (w.alloc o) :=
 h.then ⟨rfl, rfl, rfl, by simp, fun k hk _ => Below.heap_alloc _ _ _ hk⟩
theorem Kept.setCell {X : List Nat} {a w : World} (h : Kept X a w) {p : Addr} (hp : p.block ∈ X ∨ a.heap.size ≤ p.block) (u : Value) : Kept X a (w.setCell p u) :=
 h.trans (Y := [p.block]) ⟨rfl, rfl, rfl, by simp [World.setCell], fun k hk hx => Below.heap_setCell _ _ _ _ (by simpa using hx)⟩ (fun i e => by simp at e; subst e; exact hp)
theorem Kept.grown {X : List Nat} {a w w' : World} {row : Option Nat} (h : Kept X a w) (hg : w.grownBy w' row) (hr : ∀ k, row = some k → k ∈ X ∨ a.heap.size ≤ k) : Kept X a w' :=
 h.trans (Y := row.toList) ⟨hg.os, hg.tape, hg.output, hg.size, fun k hk hx => hg.block k hk (by intro e; apply hx; rw [← e]; simp)⟩ (fun i e => by simp at e; exact hr i e)
theorem Kept.of_below {w w' : World} (h : Below w.heap.size w w') : Kept [] w w' := ⟨h.os, h.tape, h.output, h.size, fun k hk _ => h.block k hk⟩
theorem Kept.below {X : List Nat} {w w' : World} {B : Nat} (h : Kept X w w') (hB : B ≤ w.heap.size) (hX : ∀ k, k ∈ X → B ≤ k) : Below B w w' :=
 ⟨h.os, h.tape, h.output, h.size, fun k hk => h.block k (by omega) (fun e => by have := hX k e; omega)⟩
theorem Kept.cell {X : List Nat} {w w' : World} (h : Kept X w w') {p : Addr} {u : Value} (hc : w.cell? p = some u) (hp : p.block ∉ X) : w'.cell? p = some u :=
 (World.cell?_of_block (h.block p.block (World.block_lt_of_cell? w p hc) hp)).trans hc
theorem Kept.kind {X : List Nat} {w w' : World} (h : Kept X w w') {k : Nat} (hl : k < w.heap.size) (hp : k ∉ X) : kind w' k = kind w k := by simp [Go.Proofs.YtckbnjipecclaaaGreatDoor.kind, h.block k hl hp]
theorem Kept.heap {X : List Nat} {w w' : World} (h : Kept X w w') {k : Nat} {o : Obj} (hk : w.heap[k]? = some o) (hp : k ∉ X) : w'.heap[k]? = some o :=
 (h.block k (lt_of_block hk) hp).trans hk
theorem wf64 {i : Int} (h0 : -9223372036854775808 ≤ i) (h1 : i ≤ 9223372036854775807) : (Lit.int .i64 i).wf = true := by
 have e0 : IntKind.i64.min = -9223372036854775808 := by decide
 have e1 : IntKind.i64.max = 9223372036854775807 := by decide
 show (decide (IntKind.i64.min ≤ i) && decide (i ≤ IntKind.i64.max)) = true
 rw [e0, e1, decide_eq_true h0, decide_eq_true h1]
 rfl
def bv (b : UInt8) : Value := .int .u8 b.toNat
theorem bvs_one (l : List UInt8) : ∀ u ∈ l.map bv, u.oneCell' = true := by
 intro u hu
 obtain ⟨b, _, rfl⟩ := List.mem_map.1 hu
 rfl
structure Row (w : World) (g o : Nat) (xs : List Value) : Prop where
 cells : ∀ j u, xs[j]? = some u → w.cell? ⟨g, o + j, none⟩ = some u
 lt : g < w.heap.size
theorem Row.kept {X : List Nat} {w w' : World} {g o : Nat} {xs : List Value} (h : Row w g o xs) (k : Kept X w w') (hg : g ∉ X) : Row w' g o xs :=
 ⟨fun j u e => k.cell (h.cells j u e) hg, Nat.lt_of_lt_of_le h.lt k.size⟩
theorem Row.at {w : World} {g o : Nat} {xs : List Value} (h : Row w g o xs) {j : Nat} (hj : j < xs.length) : w.cell? ⟨g, o + j, none⟩ = some xs[j] :=
 h.cells j _ (by simp [hj])
theorem Row.adds {w : World} {g o : Nat} {xs : List Value} (h : Row w g o xs) : ∀ j u, xs[j]? = some u → w.cell? ((⟨g, o, none⟩ : Addr).add j) = some u := by
 intro j u hu
 have := h.cells j u hu
 unfold Addr.add
 split
 ·rename_i h0; subst h0; simpa using this
 ·exact this
theorem Row.drop {w : World} {g o : Nat} {xs : List Value} (h : Row w g o xs) (k : Nat) : Row w g (o + k) (xs.drop k) := by
 refine ⟨?_, h.lt⟩
 intro j u hu
 rw [List.getElem?_drop] at hu
 rw [Nat.add_assoc]
 exact h.cells (k + j) u hu
theorem Row.take {w : World} {g o : Nat} {xs : List Value} (h : Row w g o xs) (k : Nat) : Row w g o (xs.take k) := by
 refine ⟨?_, h.lt⟩
 intro j u hu
 rw [List.getElem?_take] at hu
 split at hu
 ·exact h.cells j u hu
 ·cases hu
def vblk : Value → Option Nat
 | .slice (some a) (_ + 1) _ => some a.block
 | _ => none
theorem own_of_vblk {v : Value} {g : Nat} (h : vblk v = some g) : v.ownBlock = some g := by
 unfold vblk at h
 split at h
 ·simpa [Value.ownBlock] using h
 ·cases h
theorem vblk_len {a : Option Addr} {n c g : Nat} (h : vblk (.slice a n c) = some g) : 0 < n ∧ (Value.slice a n c).ownBlock = some g := by
 refine ⟨?_, own_of_vblk h⟩
 cases n with
 | zero => simp [vblk] at h
 | succ n => omega
theorem vblk_mk {a : Addr} {n c : Nat} (h : 0 < n) : vblk (.slice (some a) n c) = some a.block := by
 cases n with
 | zero => omega
 | succ n => rfl
def Slc (w : World) (size : Nat) (v : Value) (n : Nat) (xs : List Value) : Prop :=
 xs.length = n * size ∧ ((v = .slice none 0 0 ∧ n = 0) ∨ (n = 0 ∧ ∃ a cap, v = .slice (some a) 0 cap ∧ cap ≤ maxLen) ∨ ∃ g o cap, v = .slice (some ⟨g, o, none⟩) n cap ∧ n ≤ cap ∧ cap ≤ maxLen ∧ Row w g o xs)
theorem Slc.kept {X : List Nat} {w w' : World} {size : Nat} {v : Value} {n : Nat} {xs : List Value} (h : Slc w size v n xs) (k : Kept X w w') (hg : ∀ g, vblk v = some g → g ∉ X) : Slc w' size v n xs := by
 refine ⟨h.1, ?_⟩
 rcases h.2 with h | h | ⟨g, o, cap, rfl, h1, h2, h3⟩
 ·exact .inl h
 ·exact .inr (.inl h)
 ·cases n with
  | zero => exact .inr (.inl ⟨rfl, _, _, rfl, h2⟩)
  | succ n => exact .inr (.inr ⟨g, o, cap, rfl, h1, h2, h3.kept k (hg g rfl)⟩)
theorem Slc.kept0 {w w' : World} {size : Nat} {v : Value} {n : Nat} {xs : List Value} (h : Slc w size v n xs) (k : Kept [] w w') : Slc w' size v n xs := h.kept k (by simp)
theorem Slc.lt {w : World} {size : Nat} {v : Value} {n : Nat} {xs : List Value} (h : Slc w size v n xs) {g : Nat} (hg : vblk v = some g) : g < w.heap.size := by
 rcases h.2 with ⟨rfl, _⟩ | ⟨rfl, a, cap, rfl, _⟩ | ⟨g', o, cap, rfl, h1, h2, h3⟩
 ·simp [vblk] at hg
 ·simp [vblk] at hg
 ·have := (vblk_len hg).2
  simp [Value.ownBlock] at this
  subst this
  exact h3.lt
theorem slc_nil (w : World) (size : Nat) : Slc w size (.slice none 0 0) 0 [] := ⟨by simp, .inl ⟨rfl, rfl⟩⟩
theorem Slc.of_row {w : World} {base e size : Nat} {v : Value} {n : Nat} {xs : List Value} (h : w.ownsRow base e size v n xs) : Slc w size v n xs := by
 refine ⟨h.1, ?_⟩
 rcases h.2 with h2 | ⟨g, cap, cur, hv, hg, hh, hc, hm, hs, ht⟩
 ·exact .inl h2
 ·subst hv
  refine .inr (.inr ⟨g, 0, cap, rfl, hc, hm, ⟨?_, lt_of_block hh⟩⟩)
  intro j u hu
  rw [cell_of_row w g (0 + j) cur e (0, 0) hh]
  rw [← ht, List.getElem?_take] at hu
  split at hu
  ·simpa using hu
  ·cases hu
theorem row_kind {w : World} {base e size : Nat} {v : Value} {n : Nat} {xs : List Value} (h : w.ownsRow base e size v n xs) {g : Nat} (hg : v.ownBlock = some g) : kind w g = e + 2 := by
 rcases h.2 with ⟨rfl, _⟩ | ⟨g', cap, cur, rfl, _, hh, _⟩
 ·simp [Value.ownBlock] at hg
 ·simp [Value.ownBlock] at hg
  subst hg
  exact kind_cells hh
theorem row_kept {X : List Nat} {w w' : World} {base e size : Nat} {v : Value} {n : Nat} {xs : List Value} (h : w.ownsRow base e size v n xs) (k : Kept X w w') (hg : ∀ g, v.ownBlock = some g → g ∉ X) : w'.ownsRow base e size v n xs := by
 refine ⟨h.1, ?_⟩
 rcases h.2 with h2 | ⟨g, cap, cur, hv, hb, hh, r⟩
 ·exact .inl h2
 ·exact .inr ⟨g, cap, cur, hv, hb, k.heap hh (hg g (by rw [hv]; rfl)), r⟩
theorem row_base {w : World} {base base' e size : Nat} {v : Value} {n : Nat} {xs : List Value} (h : w.ownsRow base e size v n xs) (hb : ∀ g, v.ownBlock = some g → base' ≤ g) : w.ownsRow base' e size v n xs := by
 refine ⟨h.1, ?_⟩
 rcases h.2 with h2 | ⟨g, cap, cur, hv, hb', hh, r⟩
 ·exact .inl h2
 ·exact .inr ⟨g, cap, cur, hv, hb g (by rw [hv]; rfl), hh, r⟩
abbrev Bytes (w : World) (v : Value) (l : List UInt8) : Prop := Slc w 1 v l.length (l.map bv)
def All2 {α β : Type} (R : α → β → Prop) (xs : List α) (ys : List β) : Prop := xs.length = ys.length ∧ ∀ (j : Nat) (x : α) (y : β), xs[j]? = some x → ys[j]? = some y → R x y
theorem All2.nil {α β : Type} (R : α → β → Prop) : All2 R [] [] := ⟨rfl, by simp⟩
theorem All2.cons {α β : Type} {R : α → β → Prop} {x : α} {y : β} {xs : List α} {ys : List β} (h : R x y) (t : All2 R xs ys) : All2 R (x :: xs) (y :: ys) := by
 refine ⟨by simp [t.1], ?_⟩
 intro j a b ha hb
 cases j with
 | zero => simp at ha hb; subst ha; subst hb; exact h
 | succ j => simp at ha hb; exact t.2 j a b ha hb
theorem All2.mono {α β : Type} {R S : α → β → Prop} {xs : List α} {ys : List β} (h : All2 R xs ys) (hs : ∀ x y, x ∈ xs → R x y → S x y) : All2 S xs ys :=
 ⟨h.1, fun j x y hx hy => hs x y (List.mem_of_getElem? hx) (h.2 j x y hx hy)⟩
theorem All2.app {α β : Type} {R : α → β → Prop} {xs xs' : List α} {ys ys' : List β} (h : All2 R xs ys) (h' : All2 R xs' ys') : All2 R (xs ++ xs') (ys ++ ys') := by
 refine ⟨by simp [h.1, h'.1], ?_⟩
 intro j a b ha hb
 rw [List.getElem?_append] at ha hb
 rw [h.1] at ha
 split at ha
 ·rename_i hj; rw [if_pos hj] at hb; exact h.2 j a b ha hb
 ·rename_i hj; rw [if_neg hj] at hb; exact h'.2 _ a b ha hb
theorem All2.set {α β : Type} {R : α → β → Prop} {xs : List α} {ys : List β} (h : All2 R xs ys) (i : Nat) {x : α} {y : β} (hr : R x y) : All2 R (xs.set i x) (ys.set i y) := by
 refine ⟨by simp [h.1], ?_⟩
 intro j a b ha hb
 rw [List.getElem?_set] at ha hb
 split at ha
 ·rename_i hij
  rw [if_pos hij] at hb
  split at ha
  ·split at hb
   ·cases ha; cases hb; exact hr
   ·cases hb
  ·cases ha
 ·rename_i hij
  rw [if_neg hij] at hb
  exact h.2 j a b ha hb
theorem take_flat_succ {α : Type} (ls : List (List α)) (j : Nat) (h : j < ls.length) : (ls.take (j + 1)).flatten = (ls.take j).flatten ++ ls[j] := by
 rw [List.take_succ_eq_append_getElem h, List.flatten_append, List.flatten_cons, List.flatten_nil, List.append_nil]
theorem take_flat_le {α : Type} (ls : List (List α)) (j : Nat) : (ls.take j).flatten.length ≤ ls.flatten.length := by
 conv => rhs; rw [← List.take_append_drop j ls]
 rw [List.flatten_append, List.length_append]
 omega
theorem Slc.form {w : World} {size : Nat} {v : Value} {n : Nat} {xs : List Value} (h : Slc w size v n xs) : ∃ a c, v = .slice a n c ∧ n ≤ c ∧ c ≤ maxLen := by
 rcases h.2 with ⟨rfl, rfl⟩ | ⟨rfl, a, cap, rfl, h2⟩ | ⟨g, o, cap, rfl, h1, h2, _⟩
 ·exact ⟨_, _, rfl, Nat.le_refl _, by decide⟩
 ·exact ⟨_, _, rfl, Nat.zero_le _, h2⟩
 ·exact ⟨_, _, rfl, h1, h2⟩
structure SliceTy (P : Program) (t e size bytes : Nat) (z : Value) : Prop where
 und : P.underlying t = some (.slice e)
 info : (P.info? e).map (fun i => (i.zero, i.size, i.bytes)) = some (some z, size, bytes)
 zs : z.cells.size = size
 pos : 0 < size
theorem addr_add (g o k : Nat) : (⟨g, o, none⟩ : Addr).add k = ⟨g, o + k, none⟩ := by
 unfold Addr.add
 split
 ·rename_i h; subst h; rfl
 ·rfl
theorem Slc.cut {P : Program} {t e size bytes : Nat} {z : Value} (T : SliceTy P t e size bytes z) {w : World} {v : Value} {n : Nat} {xs : List Value} (h : Slc w size v n xs) (i k : Nat) (hi : i ≤ k) (hk : k ≤ n) :
  ∃ v', (∀ W, (Instr.slice t v (some (.int .i64 i)) (some (.int .i64 k)) none).run P W = .ok v' W) ∧ (k = n → ∀ W, (Instr.slice t v (some (.int .i64 i)) none none).run P W = .ok v' W) ∧
   (i = 0 → ∀ W, (Instr.slice t v none (some (.int .i64 k)) none).run P W = .ok v' W) ∧ Slc w size v' (k - i) ((xs.drop (i * size)).take ((k - i) * size)) ∧ (∀ g, vblk v' = some g → vblk v = some g) := by
 obtain ⟨inf, hinf, hz, hs, hb⟩ := info_parts T.info
 rcases h.2 with ⟨rfl, rfl⟩ | ⟨rfl, ad, cap, rfl, hm⟩ | ⟨g, o, cap, rfl, hc, hm, hr⟩
 ·obtain rfl : k = 0 := by omega
  obtain rfl : i = 0 := by omega
  refine ⟨.slice none 0 0, fun W => ?_, fun _ W => ?_, fun _ W => ?_, by simp [Slc], by simp [vblk]⟩
  all_goals simp [Instr.slice, Instr.sliceBounds, Instr.sliceBound, asIntOf, run_underlying T.und, sizeOf, typeInfo, hinf]
 ·obtain rfl : k = 0 := by omega
  obtain rfl : i = 0 := by omega
  have e0 : ad.add 0 = ad := by simp [Addr.add]
  refine ⟨.slice (some ad) 0 cap, fun W => ?_, fun _ W => ?_, fun _ W => ?_, ⟨by simp, .inr (.inl ⟨rfl, ad, cap, rfl, hm⟩)⟩, by simp [vblk]⟩
  all_goals simp [Instr.slice, Instr.sliceBounds, Instr.sliceBound, asIntOf, run_underlying T.und, sizeOf, typeInfo, hinf, e0]
 ·have hk' : k ≤ cap := by omega
  have hi' : i ≤ cap := by omega
  refine ⟨.slice (if cap = i then some ⟨g, o, none⟩ else some ⟨g, o + i * size, none⟩) (k - i) (cap - i), fun W => ?_, fun e W => ?_, fun e W => ?_, ⟨?_, .inr (.inr ?_)⟩, ?_⟩
  ·simp [Instr.slice, Instr.sliceBounds, Instr.sliceBound, asIntOf, run_underlying T.und, sizeOf, typeInfo, hinf, hs, hk', hi, addr_add]
  ·subst e
   simp [Instr.slice, Instr.sliceBounds, Instr.sliceBound, asIntOf, run_underlying T.und, sizeOf, typeInfo, hinf, hs, hk', hi, addr_add]
  ·subst e
   simp [Instr.slice, Instr.sliceBounds, Instr.sliceBound, asIntOf, run_underlying T.und, sizeOf, typeInfo, hinf, hs, hk', hi, addr_add]
  ·rw [List.length_take, List.length_drop, h.1, ← Nat.sub_mul]
   have := Nat.mul_le_mul_right size (Nat.sub_le_sub_right hk i)
   omega
  ·by_cases e : cap = i
   ·rw [if_pos e]
    have e2 : (k - i) * size = 0 := by rw [show k - i = 0 by omega]; simp
    rw [e2, List.take_zero]
    exact ⟨g, o, cap - i, rfl, by omega, by omega, ⟨by simp, hr.lt⟩⟩
   ·rw [if_neg e]
    exact ⟨g, o + i * size, cap - i, rfl, by omega, by omega, (hr.drop _).take _⟩
  ·intro g' hg'
   obtain ⟨hpos, hob⟩ := vblk_len hg'
   have hgg : g' = g := by split at hob <;> simpa [Value.ownBlock, eq_comm] using hob
   subst hgg
   exact vblk_mk (by omega)
theorem Bytes.mid {P : Program} {t e bytes : Nat} {z : Value} (T : SliceTy P t e 1 bytes z) {w : World} {v : Value} {l : List UInt8} (h : Bytes w v l) (i k : Nat) (hi : i ≤ k) (hk : k ≤ l.length) :
  ∃ a c, (∀ W, (Instr.slice t v (some (.int .i64 i)) (some (.int .i64 k)) none).run P W = .ok (.slice a (k - i) c) W) ∧ Bytes w (.slice a (k - i) c) ((l.drop i).take (k - i)) ∧ (∀ g, vblk (Value.slice a (k - i) c) = some g → vblk v = some g) := by
 obtain ⟨v', h3, -, -, h4, h5⟩ := h.cut T i k hi hk
 obtain ⟨a, c, rfl, -, -⟩ := h4.form
 have e1 : ((l.drop i).take (k - i)).length = k - i := by rw [List.length_take, List.length_drop]; omega
 refine ⟨a, c, h3, ?_, h5⟩
 unfold Bytes
 rw [e1, List.map_take, List.map_drop]
 simpa using h4
theorem run_append_slc {P : Program} {t e size bytes : Nat} {z : Value} (T : SliceTy P t e size bytes z) (w : World) (ty base : Nat) (v : Value) (n : Nat) (xs : List Value) (hown : w.ownsRow base e size v n xs)
  (vx : Value) (m : Nat) (news : List Value) (hsrc : Slc w size vx m news) (h1 : ∀ u ∈ news, u.oneCell' = true) (h63 : n + m ≤ maxLen) (hbytes : (n + m) * bytes ≤ 140737488355328) (hbase : base ≤ w.heap.size) :
  ∃ v' w', (Builtin.append_ #[t, t] ty #[v, vx]).run P w = .ok v' w' ∧ w'.ownsRow base e size v' (n + m) (xs ++ news) ∧ Kept v.ownBlock.toList w w' ∧
   (v' = .slice none 0 0 ↔ v = .slice none 0 0 ∧ m = 0) ∧ (v'.ownBlock = v.ownBlock ∨ v'.ownBlock = some w.heap.size) := by
 obtain ⟨i, hi, hz, hs, hb⟩ := info_parts T.info
 rcases hsrc.2 with ⟨rfl, rfl⟩ | ⟨rfl, ad, cap, rfl, hm⟩ | ⟨g, o, cap, rfl, hc, hm, hr⟩
 ·have hnews : news = [] := List.eq_nil_of_length_eq_zero (by simpa using hsrc.1)
  subst hnews
  refine ⟨v, w, run_append_owned_none w base t ty e i size T.und hi v n xs hown, by simpa using hown, Kept.refl _ _, by simp, .inl rfl⟩
 ·have hnews : news = [] := List.eq_nil_of_length_eq_zero (by simpa using hsrc.1)
  subst hnews
  obtain ⟨v', w', r1, r2, r3, r4, r5⟩ := run_append_own_at (P := P) w base t ty e i z size bytes T.und hi hz hs hb T.zs T.pos v n xs hown ad 0 cap [] hsrc.1 (by simp) h1 h63 hbytes hbase
  exact ⟨v', w', r1, r2, (Kept.refl _ _).grown r3 (fun k e => .inl (by simp [e])), r4, r5⟩
 ·obtain ⟨v', w', r1, r2, r3, r4, r5⟩ := run_append_own_at (P := P) w base t ty e i z size bytes T.und hi hz hs hb T.zs T.pos v n xs hown ⟨g, o, none⟩ m cap news hsrc.1 hr.adds h1 h63 hbytes hbase
  exact ⟨v', w', r1, r2, (Kept.refl _ _).grown r3 (fun k e => .inl (by simp [e])), r4, r5⟩
theorem wpList_append_slc {P : Program} {t e size bytes : Nat} {z : Value} (T : SliceTy P t e size bytes z) {w : World} {base : Nat} {v : Value} {n : Nat} {xs : List Value} (hown : w.ownsRow base e size v n xs)
  {vx : Value} {m : Nat} {news : List Value} (hsrc : Slc w size vx m news) (h1 : ∀ u ∈ news, u.oneCell' = true) (h63 : n + m ≤ maxLen) (hbytes : (n + m) * bytes ≤ 140737488355328) (hbase : base ≤ w.heap.size)
  {ops : Array Oper} {rest : List Oper} {o : Oper} {a : Act} {Q : Exit → Act → World → Prop} (hgd : o.guard = none) (s x : Operand)
  (ho : o.op = .call { callee := .builtin .append, args := #[s, x], argTypes := #[t, t] }) (hs : a.eval s = v) (hx : a.eval x = vx)
  (h : ∀ v' w', w'.ownsRow base e size v' (n + m) (xs ++ news) → Kept v.ownBlock.toList w w' → (v' = .slice none 0 0 ↔ v = .slice none 0 0 ∧ m = 0) → (v'.ownBlock = v.ownBlock ∨ v'.ownBlock = some w.heap.size) → wpList P ops Q rest (a.put o.dst v') w') :
  wpList P ops Q (o :: rest) a w := by
 refine wpList_plain hgd fun K hK => ?_
 obtain ⟨v', w', hr, h2, h3, h4, h5⟩ := run_append_slc T w o.type base v n xs hown vx m news hsrc h1 h63 hbytes hbase
 unfold Oper.wp execOp
 simp only [ho, resolve, invoke, builtin, Sem.run_bind, Sem.run_pure, Result.andThen_ok, List.map_toArray, List.map_cons, List.map_nil, hs, hx, hr]
 exact hK _ _ (h v' w' h2 h3 h4 h5)
theorem slc_one (w : World) (x : Value) (t g : Nat) (hg : w.heap.size = g) : Slc (w.alloc (.cells #[x] t)) 1 (.slice (some ⟨g, 0, none⟩) 1 1) 1 [x] := by
 subst hg
 refine ⟨rfl, .inr (.inr ⟨w.heap.size, 0, 1, rfl, Nat.le_refl _, by decide, ?_, by simp⟩)⟩
 intro j u hu
 rw [Nat.zero_add, cell_of_row _ w.heap.size j #[x] t (0, 0) (heap_alloc_new w _)]
 simpa using hu
theorem slc_new (w : World) (xs : List Value) (size n t g : Nat) (hg : w.heap.size = g) (hl : xs.length = n * size) (hm : n ≤ maxLen) : Slc (w.alloc (.cells xs.toArray t)) size (.slice (some ⟨g, 0, none⟩) n n) n xs := by
 subst hg
 refine ⟨hl, .inr (.inr ⟨w.heap.size, 0, n, rfl, Nat.le_refl _, hm, ?_, by simp⟩)⟩
 intro j u hu
 rw [Nat.zero_add, cell_of_row _ w.heap.size j xs.toArray t (0, 0) (heap_alloc_new w _)]
 simpa using hu
open Go.Maps (Keyed)
def heldE (v : Value) : Option (DataW Value × List MemPlace) := some (.held v, [])
def look (D : DataW Value) (kl : Lit) : Option Value := match D.atKey kl .nil with | .held v => some v | _ => none
def MapAt (P : Program) (w : World) (k b n : Nat) (M : Lit → Option Value) : Prop :=
 ∃ D, w.ownsMap P k heldE b n D ∧ ∀ kl, M kl = look D kl ∧ (Maps.has D kl = (M kl).isSome)
theorem isKey_of {P : Program} {k : TypeId} (K : Keyed P k) {key : Value} {kl : Lit} (h : keyOf P k key = some kl) : WideAt.IsKeyLit kl := K.key h
section
variable {P : Program} {w : World} {k b n : Nat} {M : Lit → Option Value}
theorem MapAt.kept {X : List Nat} {w' : World} (h : MapAt P w k b n M) (hk : Kept X w w') (hb : b ∉ X) : MapAt P w' k b n M := by
 obtain ⟨D, ⟨es, clock, h1, h2⟩, h3⟩ := h
 exact ⟨D, ⟨es, clock, hk.heap h1 hb, h2⟩, h3⟩
theorem mapAt_made (P : Program) (w : World) (k : Nat) : MapAt P (w.alloc (.map #[] 0)) k w.heap.size 0 (fun _ => none) :=
 ⟨.map [], World.ownsMap_made _ _ _ _, fun kl => ⟨by simp [look, DataW.atKey], by simp [Maps.has]⟩⟩
theorem MapAt.lookup {t e : TypeId} (h : MapAt P w k b n M) (K : Keyed P k) (ht : P.underlying t = some (.map k e)) {z : Value} (hz : (zeroValue e).run P w = .ok z w)
  {key : Value} {kl : Lit} (hkey : keyOf P k key = some kl) :
  (Instr.lookup t (.map (some b)) key true).run P w = .ok (.tuple #[(M kl).getD z, .bool (M kl).isSome]) w ∧ (Instr.lookup t (.map (some b)) key false).run P w = .ok ((M kl).getD z) w := by
 obtain ⟨D, ⟨es, clock, hb, F, hs, rfl⟩, h3⟩ := h
 obtain ⟨h3a, h3b⟩ := h3 kl
 have key1 : ∀ c, (Instr.lookup t (.map (some b)) key c).run P w = .ok (if c then .tuple #[(M kl).getD z, .bool (M kl).isSome] else (M kl).getD z) w := by
  intro c
  rcases Maps.fit_look c K ht hz hb F hkey with ⟨hrun, _, hat⟩ | ⟨e0, y, _, _, hrun, hRv, hat, _⟩
  ·have h0 := Maps.has_false_of_atKey hat
   rw [h3b] at h0
   cases hM : M kl with
   | none => simpa [hM] using hrun
   | some v => simp [hM] at h0
  ·have hy : y = (DataW.held e0.val, []) := by simpa [heldE, eq_comm] using hRv
   have hv : M kl = some e0.val := by rw [h3a, look, hat]; simp [hy]
   simpa [hv] using hrun
 exact ⟨by simpa using key1 true, by simpa using key1 false⟩
theorem MapAt.update {t e : TypeId} (h : MapAt P w k b n M) (K : Keyed P k) (ht : P.underlying t = some (.map k e)) (hn : n < maxLen) {key : Value} {kl : Lit} (hkey : keyOf P k key = some kl) (val : Value) :
  ∃ w', (Instr.mapUpdate t (.map (some b)) key val).run P w = .ok () w' ∧ MapAt P w' k b (n + 1) (fun z => if z.sameKey kl then some val else M z) ∧ Kept [b] w w' ∧ w'.heap.size = w.heap.size := by
 obtain ⟨D, hown, h3⟩ := h
 obtain ⟨w', hrun, r1, r2⟩ := hown.store K ht hn hkey (val := val) (R := heldE) (d := .held val) (ps := []) rfl
 refine ⟨w', hrun, ⟨_, r1, ?_⟩, ?_, ?_⟩
 ·intro z
  show (if z.sameKey kl then some val else M z) = look (D.put kl (.held val)) z ∧ Maps.has (D.put kl (.held val)) z = (if z.sameKey kl then some val else M z).isSome
  by_cases hz : z.sameKey kl = true
  ·have hz' := WideAt.sameKey_eq hz
   subst hz'
   rw [if_pos hz]
   refine ⟨?_, Maps.has_put_same hown.isMap (isKey_of K hkey) _⟩
   rw [look, Maps.atKey_put_same hown.isMap (isKey_of K hkey)]
  ·have hne : z ≠ kl := by
    intro e
    subst e
    exact hz (WideAt.sameKey_self (isKey_of K hkey))
   rw [if_neg hz]
   exact ⟨by rw [look, Maps.atKey_put_other hne]; exact (h3 z).1, by rw [Maps.has_put_other hne]; exact (h3 z).2⟩
 ·exact (Kept.refl _ _).grown r2.grown (fun k e => by simp at e; simp [e])
 ·obtain ⟨_, _, _, _, _, rfl⟩ := r2
  simp [Go.ChangeMaps.setBlock]
end
section
variable {P : Program} {ops : Array Oper} {Q : Exit → Act → World → Prop} {md : Region.Mode} {S : World → Prop} {L : Nat}
def wpAnyT (P : Program) (md : Region.Mode) (ops : Array Oper) (Q : Exit → Act → World → Prop) (S : World → Prop) (L : Nat) : Nat → Array Bool → Act → World → Prop
 | 0, listed, a, w => Region.ready md ops listed = [] ∧ Q .normal a w
 | fuel + 1, listed, a, w =>
  (Region.ready md ops listed = [] → Q .normal a w) ∧
  ∀ i ∈ Region.ready md ops listed, wpOp P ops Q i (fun a' w' => (i = L ∨ S w') ∧ wpAnyT P md ops Q S L fuel (listed.setIfInBounds i true) a' w') a w
theorem wpAny_of_last : ∀ (fuel : Nat) (listed : Array Bool) (a : Act) (w : World), wpAnyT P md ops Q S L fuel listed a w → wpAny P md ops Q fuel listed a w
 | 0, _, _, _, h => h
 | fuel + 1, _, _, _, h => ⟨h.1, fun i hi => wpOp_mono (fun a' w' h' => wpAny_of_last fuel _ a' w' h'.2) (h.2 i hi)⟩
def waitsFor (md : Region.Mode) (ops : Array Oper) (L i : Nat) : Bool := ((ops[L]?).map (·.after.any fun e => Region.binds md e && e.on == i)).getD false
def late (md : Region.Mode) (ops : Array Oper) (L i : Nat) : Bool := waitsFor md ops L i || decide (ops.size ≤ L)
theorem wpAnyT_first {i : Nat} {oi : Oper} {v : Value} (hi : ops[i]? = some oi) (hsel : ∀ (j : Nat) (o : Oper) cs b, ops[j]? = some o → o.op ≠ .select cs b)
  (hQ : ∀ c a w, Q (.panic c) (a.put oi.dst v) w → Q (.panic c) a w) (hL : late md ops L i = true) :
  ∀ (fuel : Nat) (listed : Array Bool) (a : Act) (w : World),
   (∀ j oj, ops[j]? = some oj → j ≠ i → listed.getD j true = false → (∀ e ∈ oj.after, Region.binds md e = true → e.on ≠ i) → oi.apart ops oj = true) →
   i ∈ Region.ready md ops listed → YieldsIf P ops S oi v a → S w →
   wpAnyT P md ops Q S L fuel (listed.setIfInBounds i true) (a.put oi.dst v) w → wpAnyT P md ops Q S L (fuel + 1) listed a w := by
 intro fuel
 induction fuel with
 | zero =>
  intro listed a w _ hr hy hS H
  refine ⟨fun h => (by rw [h] at hr; cases hr), fun j hj => ?_⟩
  by_cases hji : j = i
  ·subst hji; exact hy.wpOp hi hS ⟨.inr hS, H⟩
  ·have := ready_mono hj hji
   rw [H.1] at this
   cases this
 | succ fuel ih =>
  intro listed a w hfree hr hy hS H
  refine ⟨fun h => (by rw [h] at hr; cases hr), fun j hj => ?_⟩
  by_cases hji : j = i
  ·subst hji; exact hy.wpOp hi hS ⟨.inr hS, H⟩
  ·have h1 := H.2 j (ready_mono hj hji)
   obtain ⟨hjun, oj, hoj, hall⟩ := mem_ready.1 hj
   have hnot : ∀ e ∈ oj.after, Region.binds md e = true → e.on ≠ i := fun e he hb heq => by
    have h1 := hall e he hb
    have h0 := (mem_ready.1 hr).1
    rw [heq] at h1
    rcases Nat.lt_or_ge i listed.size with h' | h'
    ·simp [h'] at h0 h1; rw [h0] at h1; cases h1
    ·simp [Array.getElem?_eq_none h'] at h1
   have hjL : j ≠ L := by
    intro e
    subst e
    unfold late at hL
    rw [Bool.or_eq_true] at hL
    rcases hL with hL | hL
    rotate_left
    ·have h1 : ops.size ≤ j := by simpa using hL
     rw [Array.getElem?_eq_none h1] at hoj
     cases hoj
    unfold waitsFor at hL
    rw [hoj] at hL
    simp only [Option.map_some, Option.getD_some, Array.any_eq_true'] at hL
    obtain ⟨e, he, hb⟩ := hL
    simp only [Bool.and_eq_true, beq_iff_eq] at hb
    exact hnot e he hb.1 hb.2
   have h2 := wpOp_putIf hoj (hfree j oj hoj hji hjun hnot) (fun cs b => hsel i oi cs b hi) (fun cs b => hsel j oj cs b hoj) hQ hy h1
   have hfree' : ∀ k ok, ops[k]? = some ok → k ≠ i → (listed.setIfInBounds j true).getD k true = false →
     (∀ e ∈ ok.after, Region.binds md e = true → e.on ≠ i) → oi.apart ops ok = true := fun k ok hk hki hun hno => by
    refine hfree k ok hk hki ?_ hno
    by_cases hjk : j = k
    ·subst hjk; exact hjun
    ·rw [getD_set_ne true hjk] at hun; exact hun
   refine wpOp_mono (fun a' w' h3 => ?_) h2
   have hS' : S w' := by
    rcases h3.2.1 with g | g
    ·exact absurd g hjL
    ·exact g
   refine ⟨.inr hS', ih (listed.setIfInBounds j true) a' w' hfree' (ready_mono hr (Ne.symm hji)) h3.1 hS' ?_⟩
   rw [Array.setIfInBounds_comm _ _ hji]
   exact h3.2.2
theorem wpAnyT_take {i : Nat} {oi : Oper} {v : Value} {fuel : Nat} {listed : Array Bool} {a : Act} {w : World} (hi : ops[i]? = some oi)
  (hs : Region.noSelect ops = true) (hf : Region.free md ops listed i = true) (hr : (Region.ready md ops listed).contains i = true) (hL : late md ops L i = true)
  (hQ : ∀ c a w, Q (.panic c) (a.put oi.dst v) w → Q (.panic c) a w) (hy : YieldsIf P ops S oi v a) (hS : S w)
  (h : wpAnyT P md ops Q S L fuel (listed.setIfInBounds i true) (a.put oi.dst v) w) : wpAnyT P md ops Q S L (fuel + 1) listed a w :=
 wpAnyT_first hi (Region.noSelect_spec hs) hQ hL fuel listed a w (Region.free_spec hi hf) (by simpa using hr) hy hS h
theorem wpAnyT_one {i : Nat} {oi : Oper} {fuel : Nat} {listed : Array Bool} {a : Act} {w : World} (hi : ops[i]? = some oi) (hr : Region.ready md ops listed = [i]) (hw : Region.wanted oi (yielded ops a.tmps) = true)
  (h : ∀ K : Act → World → Prop, (∀ a' w', (i = L ∨ S w') → wpAnyT P md ops Q S L fuel (listed.setIfInBounds i true) a' w' → K a' w') → oi.wp P a w K Q) : wpAnyT P md ops Q S L (fuel + 1) listed a w := by
 refine ⟨fun h0 => (by rw [hr] at h0; cases h0), ?_⟩
 rw [hr]
 intro j hj
 have : j = i := by simpa using hj
 subst this
 unfold wpOp
 rw [hi]
 simp only
 rw [if_pos hw]
 exact .inl (h _ fun a' w' h1 h2 => ⟨h1, h2⟩)
theorem wpAnyT_done {listed : Array Bool} {a : Act} {w : World} (hr : Region.ready md ops listed = []) (h : Q .normal a w) :
  ∀ fuel, wpAnyT P md ops Q S L fuel listed a w
 | 0 => ⟨hr, h⟩
 | _ + 1 => ⟨fun _ => h, by rw [hr]; simp⟩
theorem wp_region_last {id : Nat} {a : Act} {w : World} (S : World → Prop) (L : Nat) (hm : P.follows .mixedOrders = true)
  (h : wpAnyT P .any ops Q S L ops.size (Array.replicate ops.size false) a { w with drawn := w.drawn + 1 }) : (Code.region id ops true).wp P Q a w :=
 wp_region_any hm (wpAny_of_last _ _ _ _ h)
theorem wp_region_last' {id n : Nat} {a : Act} {w : World} (S : World → Prop) (L : Nat) (hn : ops.size = n) (hm : P.follows .mixedOrders = true)
  (h : wpAnyT P .any ops Q S L n (Array.replicate n false) a { w with drawn := w.drawn + 1 }) : (Code.region id ops true).wp P Q a w := by
 subst hn
 exact wp_region_last S L hm h
theorem wpAnyT_start {fuel : Nat} {listed : Array Bool} {a : Act} {w : World}
  (h : ∀ O R, O = ops → R = Q → wpAnyT P md O R S L fuel listed a w) : wpAnyT P md ops Q S L fuel listed a w := h _ _ rfl rfl
theorem wpAnyT_take' {O : Array Oper} {i dst : Nat} {oi : Oper} {v : Value} {fuel : Nat} {listed : Array Bool} {a : Act} {w : World} (hO : O = ops) (hi : ops[i]? = some oi) (hd : oi.dst = some dst)
  (hs : Region.noSelect ops = true) (hf : Region.free md ops listed i = true) (hr : (Region.ready md ops listed).contains i = true) (hL : late md ops L i = true)
  (hQ : ∀ c a (d : Nat) v w, Q (.panic c) (a.put (some d) v) w → Q (.panic c) a w) (hy : YieldsIf P ops S oi v a) (hS : S w)
  (h : wpAnyT P md O Q S L fuel (listed.setIfInBounds i true) (a.put (some dst) v) w) : wpAnyT P md O Q S L (fuel + 1) listed a w := by
 subst hO
 exact wpAnyT_take hi hs hf hr hL (fun c a w h => hQ c a dst v w (by rw [hd] at h; exact h)) hy hS (by rw [hd]; exact h)
theorem wpAnyT_one' {O : Array Oper} {i : Nat} {oi : Oper} {fuel : Nat} {listed : Array Bool} {a : Act} {w : World} (hO : O = ops) (hi : ops[i]? = some oi) (hr : Region.ready md ops listed = [i]) (hw : Region.wanted oi (yielded ops a.tmps) = true)
  (h : ∀ K : Act → World → Prop, (∀ a' w', (i = L ∨ S w') → wpAnyT P md O Q S L fuel (listed.setIfInBounds i true) a' w' → K a' w') → oi.wp P a w K Q) : wpAnyT P md O Q S L (fuel + 1) listed a w := by
 subst hO
 exact wpAnyT_one hi hr hw h
theorem wpAnyT_done' {O : Array Oper} {listed : Array Bool} {a : Act} {w : World} (hO : O = ops) (hr : Region.ready md ops listed = []) (h : Q .normal a w) (fuel : Nat) : wpAnyT P md O Q S L fuel listed a w := by
 subst hO
 exact wpAnyT_done hr h fuel
end
structure Ext (W : World) where
 w : World
 k : Kept [] W w
instance extInh (W : World) : Nonempty (Ext W) := ⟨⟨W, Kept.refl _ _⟩⟩
theorem wp_region_ext {P : Program} {id : Nat} {Q : Exit → Act → World → Prop} {a : Act} {w : World} {l : List Oper} (W : World) (hm : P.follows .mixedOrders = true) (hB : Region.lexB .any l.toArray = true) (hC : Kept [] W w)
  (h : wpQuiet P l.toArray (fun w' => ∃ z : Ext W, w' = z.w) (fun a' => ∀ w', Kept [] W w' → Q .normal a' w') l a) : (Code.region id l.toArray true).wp P Q a w :=
 wp_region_quiet (C := fun w' => ∃ z : Ext W, w' = z.w) hm hB ⟨⟨_, hC.drew⟩, rfl⟩ (by
  have e : (fun a' : Act => ∀ w', (∃ z : Ext W, w' = z.w) → Q .normal a' w') = fun a' => ∀ w', Kept [] W w' → Q .normal a' w' := funext fun a' => propext ⟨fun h w' k => h w' ⟨⟨w', k⟩, rfl⟩, fun h w' ⟨z, e⟩ => e ▸ h z.w z.k⟩
  rw [e]
  simpa using h)
theorem ext_cell {W : World} {p : Addr} {v : Value} (h : W.cell? p = some v) : ∀ z : Ext W, z.w.cell? p = some v := fun z => z.k.cell h (by simp)
theorem ext_of {P : Program} {f : FuncId} {args : Array Value} {W : World} {z : Ext W} {v : Value} (h : Calls P f args z.w fun e w' => e = .returned v ∧ Kept [] z.w w') :
  Calls P f args z.w fun e w'' => e = .returned v ∧ ∃ z' : Ext W, w'' = z'.w :=
 h.mono fun _ _ ⟨h1, h2⟩ => ⟨h1, ⟨_, z.k.trans' h2⟩, rfl⟩
theorem ext_same {P : Program} {f : FuncId} {args : Array Value} {W : World} {z : Ext W} {v : Value} (h : Calls P f args z.w fun e w' => e = .returned v ∧ z.w = w') :
  Calls P f args z.w fun e w'' => e = .returned v ∧ ∃ z' : Ext W, w'' = z'.w :=
 h.mono fun _ _ ⟨h1, h2⟩ => ⟨h1, z, h2.symm⟩
def rotW (up down : Int) (x : Int) : Int := bits .or .u32 (x * up % 4294967296) (x / down)
def Turns (k up down : Int) : Prop := (k = 2 ∧ up = 1073741824 ∧ down = 4) ∨ (k = 6 ∧ up = 67108864 ∧ down = 64) ∨ (k = 7 ∧ up = 33554432 ∧ down = 128) ∨ (k = 11 ∧ up = 2097152 ∧ down = 2048) ∨ (k = 13 ∧ up = 524288 ∧ down = 8192) ∨ (k = 17 ∧ up = 32768 ∧ down = 131072) ∨ (k = 18 ∧ up = 16384 ∧ down = 262144) ∨ (k = 19 ∧ up = 8192 ∧ down = 524288) ∨ (k = 22 ∧ up = 1024 ∧ down = 4194304) ∨ (k = 25 ∧ up = 128 ∧ down = 33554432)
theorem rotl_any (w : World) (x : Int) (k : Int) (up down : Int) (h : Turns k up down) :
  Calls Tryz.prog 209 #[.int .u32 x, .int .i64 (-k)] w fun e w' => e = .returned (.int .u32 (rotW up down x)) ∧ Kept [] w w' := by
 unfold Turns at h
 have hw2 : bits BinOp.and IntKind.u64 (IntKind.u64.wrap (-2)) 31 = 30 := by kernel_rfl
 have hw6 : bits BinOp.and IntKind.u64 (IntKind.u64.wrap (-6)) 31 = 26 := by kernel_rfl
 have hw7 : bits BinOp.and IntKind.u64 (IntKind.u64.wrap (-7)) 31 = 25 := by kernel_rfl
 have hw11 : bits BinOp.and IntKind.u64 (IntKind.u64.wrap (-11)) 31 = 21 := by kernel_rfl
 have hw13 : bits BinOp.and IntKind.u64 (IntKind.u64.wrap (-13)) 31 = 19 := by kernel_rfl
 have hw17 : bits BinOp.and IntKind.u64 (IntKind.u64.wrap (-17)) 31 = 15 := by kernel_rfl
 have hw18 : bits BinOp.and IntKind.u64 (IntKind.u64.wrap (-18)) 31 = 14 := by kernel_rfl
 have hw19 : bits BinOp.and IntKind.u64 (IntKind.u64.wrap (-19)) 31 = 13 := by kernel_rfl
 have hw22 : bits BinOp.and IntKind.u64 (IntKind.u64.wrap (-22)) 31 = 10 := by kernel_rfl
 have hw25 : bits BinOp.and IntKind.u64 (IntKind.u64.wrap (-25)) 31 = 7 := by kernel_rfl
 rcases h with ⟨rfl, rfl, rfl⟩ | ⟨rfl, rfl, rfl⟩ | ⟨rfl, rfl, rfl⟩ | ⟨rfl, rfl, rfl⟩ | ⟨rfl, rfl, rfl⟩ | ⟨rfl, rfl, rfl⟩ | ⟨rfl, rfl, rfl⟩ | ⟨rfl, rfl, rfl⟩ | ⟨rfl, rfl, rfl⟩ | ⟨rfl, rfl, rfl⟩
 all_goals
  go_enter Tryz.func209, Tryz.ntmps209
  go_wp2_with fail
  go_ret
  exact ⟨by simp [rotW], Kept.refl _ _⟩
theorem right_any (w : World) (x : Int) (k : Int) (up down : Int) (h : Turns k up down) :
  Calls Tryz.prog 180 #[.int .u32 x, .int .i64 k] w fun e w' => e = .returned (.int .u32 (rotW up down x)) ∧ Kept [] w w' := by
 have CR := qI (rotl_any w x k up down h)
 unfold Turns at h
 rcases h with ⟨rfl, rfl, rfl⟩ | ⟨rfl, rfl, rfl⟩ | ⟨rfl, rfl, rfl⟩ | ⟨rfl, rfl, rfl⟩ | ⟨rfl, rfl, rfl⟩ | ⟨rfl, rfl, rfl⟩ | ⟨rfl, rfl, rfl⟩ | ⟨rfl, rfl, rfl⟩ | ⟨rfl, rfl, rfl⟩ | ⟨rfl, rfl, rfl⟩
 all_goals
  go_enter Tryz.func180, Tryz.ntmps180
  go_wp2_with fail
  refine CR.o.mono ?_
  rintro e w' ⟨rfl, hk⟩
  go_wp2_with fail
  go_ret
  exact ⟨rfl, hk⟩
structure VS (α : Type) where
 kind : Int
 num : Int
 s : ByteArray
 l : List α
 m : List (ByteArray × α)
def V : Nat → Type
 | 0 => Empty
 | n + 1 => VS (V n)
namespace VS
variable {α β : Type}
def kids (v : VS α) : List α := v.l ++ v.m.map (fun p => p.2)
def map (f : α → β) (v : VS α) : VS β := ⟨v.kind, v.num, v.s, v.l.map f, v.m.map (fun p => (p.1, f p.2))⟩
theorem kids_map (f : α → β) (v : VS α) : (v.map f).kids = v.kids.map f := by simp [kids, map, Function.comp_def]
theorem ext' {v w : VS α} (h1 : v.kind = w.kind) (h2 : v.num = w.num) (h3 : v.s = w.s) (h4 : v.l = w.l) (h5 : v.m = w.m) : v = w := by
 cases v; cases w; simp only at *; subst h1; subst h2; subst h3; subst h4; subst h5; rfl
def keyBytes (v : VS α) : Nat := (v.m.map (fun p => p.1.size)).sum
end VS
def maxL : List Nat → Nat
 | [] => 0
 | x :: l => max x (maxL l)
theorem maxL_le {l : List Nat} {b : Nat} : maxL l ≤ b ↔ ∀ x, x ∈ l → x ≤ b := by
 induction l with
 | nil => simp [maxL]
 | cons x l ih =>
  simp only [maxL, Nat.max_le, ih, List.mem_cons, forall_eq_or_imp]
theorem maxL_app (a b : List Nat) : maxL (a ++ b) = max (maxL a) (maxL b) := by
 induction a with
 | nil => simp [maxL]
 | cons x a ih => simp only [List.cons_append, maxL, ih]; omega
theorem le_maxL {l : List Nat} {x : Nat} (h : x ∈ l) : x ≤ maxL l := maxL_le.1 (Nat.le_refl _) x h
def depthV : (n : Nat) → V n → Nat
 | 0, _ => 0
 | n + 1, (v : VS (V n)) => 1 + maxL (v.kids.map (depthV n))
def countV : (n : Nat) → V n → Nat
 | 0, _ => 0
 | n + 1, (v : VS (V n)) => 1 + (v.kids.map (countV n)).sum
def bytesV : (n : Nat) → V n → Nat
 | 0, _ => 0
 | n + 1, (v : VS (V n)) => v.s.size + v.keyBytes + (v.kids.map (bytesV n)).sum
theorem sum_mem {l : List Nat} {x : Nat} (h : x ∈ l) : x ≤ l.sum := by
 induction l with
 | nil => cases h
 | cons y l ih =>
  rw [List.sum_cons]
  rcases List.mem_cons.1 h with rfl | h
  ·omega
  ·have := ih h; omega
theorem countV_kid {n : Nat} {v : VS (V n)} {x : V n} (h : x ∈ v.kids) : countV n x < countV (n + 1) v := by
 have := sum_mem (List.mem_map.2 ⟨x, h, rfl⟩ : countV n x ∈ v.kids.map (countV n))
 show _ < 1 + _
 omega
theorem bytesV_kid {n : Nat} {v : VS (V n)} {x : V n} (h : x ∈ v.kids) : bytesV n x ≤ bytesV (n + 1) v := by
 have := sum_mem (List.mem_map.2 ⟨x, h, rfl⟩ : bytesV n x ∈ v.kids.map (bytesV n))
 show _ ≤ v.s.size + v.keyBytes + _
 omega
theorem depthV_kid {n : Nat} {v : VS (V n)} {x : V n} (h : x ∈ v.kids) : depthV n x < depthV (n + 1) v := by
 have := le_maxL (List.mem_map.2 ⟨x, h, rfl⟩ : depthV n x ∈ v.kids.map (depthV n))
 show _ < 1 + _
 omega
theorem countV_pos {n : Nat} {v : V n} : n = 0 ∨ 1 ≤ countV n v := by
 cases n with
 | zero => exact .inl rfl
 | succ n => exact .inr (by show 1 ≤ 1 + _; omega)
theorem sum_ge_length {α : Type} (f : α → Nat) : ∀ (l : List α), (∀ x, x ∈ l → 1 ≤ f x) → l.length ≤ (l.map f).sum
 | [], _ => Nat.le_refl _
 | x :: l, h => by
  have := sum_ge_length f l (fun y hy => h y (List.mem_cons_of_mem _ hy))
  have := h x (List.mem_cons_self ..)
  simp only [List.map_cons, List.sum_cons, List.length_cons]
  omega
theorem kids_few {n : Nat} (v : VS (V n)) : v.l.length + v.m.length < countV (n + 1) v := by
 have h : v.kids.length ≤ (v.kids.map (countV n)).sum := sum_ge_length _ _ (fun x _ => by
  rcases countV_pos (v := x) with h | h
  ·subst h; exact nomatch x
  ·exact h)
 have e : v.kids.length = v.l.length + v.m.length := by simp [VS.kids]
 show _ < 1 + _
 omega
theorem mem_l {n : Nat} {v : VS (V n)} {x : V n} (h : x ∈ v.l) : x ∈ v.kids := List.mem_append_left _ h
theorem mem_m {n : Nat} {v : VS (V n)} {p : ByteArray × V n} (h : p ∈ v.m) : p.2 ∈ v.kids := List.mem_append_right _ (List.mem_map.2 ⟨p, h, rfl⟩)
theorem key_le {n : Nat} {v : VS (V n)} {p : ByteArray × V n} (h : p ∈ v.m) : p.1.size ≤ bytesV (n + 1) v := by
 have := sum_mem (List.mem_map.2 ⟨p, h, rfl⟩ : p.1.size ∈ v.m.map (fun p => p.1.size))
 show _ ≤ v.s.size + v.keyBytes + _
 unfold VS.keyBytes
 omega
def Small (n : Nat) (v : V n) : Prop := countV n v ≤ 20000 ∧ bytesV n v ≤ 400000
theorem Small.kid {n : Nat} {v : VS (V n)} (h : Small (n + 1) v) {x : V n} (hx : x ∈ v.kids) : Small n x :=
 ⟨Nat.le_trans (Nat.le_of_lt (countV_kid hx)) h.1, Nat.le_trans (bytesV_kid hx) h.2⟩
def up : (n : Nat) → V n → V (n + 1)
 | 0, v => nomatch v
 | n + 1, (v : VS (V n)) => v.map (up n)
end Go.Proofs.YtckbnjipecclaaaGreatDoor

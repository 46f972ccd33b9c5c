/- Parts of one proof, merged: XBase XQ XV XVL XVR XVF XLast XLastB XG XShS XSh XAV. -/
import Derived.Test.YtpbphdkjjoipnaaGreatDoorChecked
import Derived.WalkKit
import Derived.WalkSmall
import Derived.Maps.RangeWalk
import Derived.Maps.AppendAt
import Derived.Lib.Hide
import Derived.BigQuiet
import Derived.OrdersHeld
import Derived.Deep.DrawnRows
import Derived.Deep.RegionHeld3
import Derived.Shelf.SlSortCmp.WholeK
import Derived.Shelf.SlGeneric
import Derived.Ground.SlsfProg
import Derived.Test.YtpbphdkjjoipnaaGreatDoorProg
import Derived.Shelf.Strings.Prefix
import Derived.Shelf.Small.Strs
import Derived.Shelf.Small.Utf8
import Derived.Shelf.Small.Wraps
import Derived.Shelf.Strconv.Itoa3
import Derived.Shelf.Strings.CaseAny
import Derived.Shelf.Unicode.DecodeAny
import Derived.Shelf.Unicode.ValidAny
import Derived.Shelf.Utf8.AppendRunePlain
import Derived.Shelf.Bytes.SlEqualAll
import Derived.Shelf.Strings.SlTrimAscii
import Derived.Shelf.Strings.SplitShaped
import Derived.Shelf.Strings.OnBuilder
import Derived.Shelf.Strconv.AtoiAll
import Derived.Shelf.SlicesQ.IndexFunc
import Derived.Ground.NamesProg
import Derived.Ground.SlgfProg
import Derived.Deep.Slices
import Derived.OpenShut
import Derived.SizedLaws
set_option linter.all false
set_option maxHeartbeats 12800000
set_option maxRecDepth 10000
set_option linter.unusedVariables false
set_option linter.unusedSimpArgs false
set_option linter.unnecessarySimpa false
namespace Go.Proofs.YtpbphdkjjoipnaaGreatDoor
open Go.Proofs.Tryz
theorem qI {p : Prop} (h : p) : RowKit.Hid p := Lib.hid h
theorem _root_.Go.RowKit.Hid.o {p : Prop} (h : RowKit.Hid p) : p := h.out
theorem zA (a : Act) (n : Nat) (v : Value) : a.put (some n) v = { a with tmps := a.tmps.setIfInBounds n v } := rfl
theorem zN (a : Act) (v : Value) : a.put none v = a := rfl
theorem zB {α : Type} (l : List α) (i : Nat) (a : α) : l.toArray.setIfInBounds i a = (l.set i a).toArray := List.setIfInBounds_toArray ..
theorem zC {α : Type} (x a : α) (l : List α) : (x :: l).set 0 a = a :: l := rfl
theorem zD {α : Type} (x a : α) (l : List α) (n : Nat) : (x :: l).set (n+1) a = x :: l.set n a := rfl
open Go.RowKit
def lim : Nat := 140737488351232
def kind (w : World) (k : Nat) : Nat :=
 match w.heap[k]? with
 | some (.cells _ e _) => e + 2
 | some (.map _ _) => 1
 | _ => 0
theorem vF {w : World} {k : Nat} {c : Array Value} {e : Nat} {f : Nat × Nat} (h : w.heap[k]? = some (.cells c e f)) : kind w k = e + 2 := by simp [kind, h]
theorem bQ {w : World} {a b x y : Nat} (ha : kind w a = x) (hb : kind w b = y) (h : x ≠ y) : a ≠ b := by
 intro e; subst e; exact h (ha.symm.trans hb)
theorem za {w : World} {b o : Nat} {cs : Array Value} {t : Nat} {f : Nat × Nat} {v : Value} (h : w.heap[b]? = some (.cells cs t f)) (hv : cs[o]? = some v) : w.cell? ⟨b, o, none⟩ = some v := by simp [World.cell?, h, hv]
theorem zc {w : World} {b o : Nat} {cs : Array Value} {t : Nat} (h : w.heap[b]? = some (.cells cs t (0, 0))) : w.frozen? ⟨b, o, none⟩ = false := by simp [World.frozen?, h]
structure zb (X : List Nat) (w w' : World) : Prop where
 os : w'.os = w.os
 tape : w'.tape = w.tape
 output : w'.output = w.output
 size : w.heap.size ≤ w'.heap.size
 block : ∀ k, k < w.heap.size → k ∉ X → w'.heap[k]? = w.heap[k]?
theorem zb.refl (X : List Nat) (w : World) : zb X w w := ⟨rfl, rfl, rfl, Nat.le_refl _, fun _ _ _ => rfl⟩
theorem zb.mono {X Y : List Nat} {w w' : World} (h : zb X w w') (hs : ∀ k, k ∈ X → k ∈ Y) : zb Y w w' :=
 ⟨h.os, h.tape, h.output, h.size, fun k hk hx => h.block k hk (fun e => hx (hs k e))⟩
theorem zb.trans {X Y : List Nat} {a b c : World} (h : zb X a b) (k : zb Y b c) (hs : ∀ i, i ∈ Y → i ∈ X ∨ a.heap.size ≤ i) : zb X a c :=
 ⟨k.os.trans h.os, k.tape.trans h.tape, k.output.trans h.output, Nat.le_trans h.size k.size, fun i hi hx =>
  (k.block i (Nat.lt_of_lt_of_le hi h.size) (fun e => by rcases hs i e with g | g; exact hx g; omega)).trans (h.block i hi hx)⟩
theorem zb.trans' {X : List Nat} {a b c : World} (h : zb X a b) (k : zb X b c) : zb X a c := h.trans k (fun _ e => .inl e)
theorem zb.then {X : List Nat} {a b c : World} (h : zb X a b) (k : zb [] b c) : zb X a c := h.trans k (fun _ e => by simp at e)
theorem zb.drew {X : List Nat} {a w : World} (h : zb X a w) : zb X a w.drew := ⟨h.os, h.tape, h.output, h.size, h.block⟩
theorem zb.alloc {X : List Nat} {a w : World} (h : zb X a w) (o : Obj) : zb X a (w.alloc o) :=
 h.then ⟨rfl, rfl, rfl, by simp, fun k hk _ => Below.heap_alloc _ _ _ hk⟩
theorem zb.setCell {X : List Nat} {a w : World} (h : zb X a w) {p : Addr} (hp : p.block ∈ X ∨ a.heap.size ≤ p.block) (u : Value) : zb X a (w.setCell p u) :=
 h.trans (Y := [p.block]) ⟨rfl, rfl, rfl, by simp [World.setCell], fun k hk hx => Below.heap_setCell _ _ _ _ (by simpa using hx)⟩ (fun i e => by simp at e; subst e; exact hp)
theorem zb.grown {X : List Nat} {a w w' : World} {row : Option Nat} (h : zb X a w) (hg : w.grownBy w' row) (hr : ∀ k, row = some k → k ∈ X ∨ a.heap.size ≤ k) : zb X a w' :=
 h.trans (Y := row.toList) ⟨hg.os, hg.tape, hg.output, hg.size, fun k hk hx => hg.block k hk (by intro e; apply hx; rw [← e]; simp)⟩ (fun i e => by simp at e; exact hr i e)
theorem zb.of_below {w w' : World} (h : Below w.heap.size w w') : zb [] w w' := ⟨h.os, h.tape, h.output, h.size, fun k hk _ => h.block k hk⟩
theorem zb.below {X : List Nat} {w w' : World} {B : Nat} (h : zb X w w') (hB : B ≤ w.heap.size) (hX : ∀ k, k ∈ X → B ≤ k) : Below B w w' :=
 ⟨h.os, h.tape, h.output, h.size, fun k hk => h.block k (by omega) (fun e => by have := hX k e; omega)⟩
theorem zb.cell {X : List Nat} {w w' : World} (h : zb X w w') {p : Addr} {u : Value} (hc : w.cell? p = some u) (hp : p.block ∉ X) : w'.cell? p = some u :=
 (World.cell?_of_block (h.block p.block (World.block_lt_of_cell? w p hc) hp)).trans hc
theorem zb.heap {X : List Nat} {w w' : World} (h : zb X w w') {k : Nat} {o : Obj} (hk : w.heap[k]? = some o) (hp : k ∉ X) : w'.heap[k]? = some o :=
 (h.block k (lt_of_block hk) hp).trans hk
theorem wf64 {i : Int} (h0 : -9223372036854775808 ≤ i) (h1 : i ≤ 9223372036854775807) : (Lit.int .i64 i).wf = true := by
 have e0 : IntKind.i64.min = -9223372036854775808 := by decide
 have e1 : IntKind.i64.max = 9223372036854775807 := by decide
 show (decide (IntKind.i64.min ≤ i) && decide (i ≤ IntKind.i64.max)) = true
 rw [e0, e1, decide_eq_true h0, decide_eq_true h1]
 rfl
def bv (b : UInt8) : Value := .int .u8 b.toNat
structure Row (w : World) (g o : Nat) (xs : List Value) : Prop where
 cells : ∀ j u, xs[j]? = some u → w.cell? ⟨g, o + j, none⟩ = some u
 lt : g < w.heap.size
theorem Row.kept {X : List Nat} {w w' : World} {g o : Nat} {xs : List Value} (h : Row w g o xs) (k : zb X w w') (hg : g ∉ X) : Row w' g o xs :=
 ⟨fun j u e => k.cell (h.cells j u e) hg, Nat.lt_of_lt_of_le h.lt k.size⟩
theorem Row.at {w : World} {g o : Nat} {xs : List Value} (h : Row w g o xs) {j : Nat} (hj : j < xs.length) : w.cell? ⟨g, o + j, none⟩ = some xs[j] :=
 h.cells j _ (by simp [hj])
theorem Row.adds {w : World} {g o : Nat} {xs : List Value} (h : Row w g o xs) : ∀ j u, xs[j]? = some u → w.cell? ((⟨g, o, none⟩ : Addr).add j) = some u := by
 intro j u hu
 have := h.cells j u hu
 unfold Addr.add
 split
 ·rename_i h0; subst h0; simpa using this
 ·exact this
theorem Row.drop {w : World} {g o : Nat} {xs : List Value} (h : Row w g o xs) (k : Nat) : Row w g (o + k) (xs.drop k) := by
 refine ⟨?_, h.lt⟩
 intro j u hu
 rw [List.getElem?_drop] at hu
 rw [Nat.add_assoc]
 exact h.cells (k + j) u hu
theorem Row.take {w : World} {g o : Nat} {xs : List Value} (h : Row w g o xs) (k : Nat) : Row w g o (xs.take k) := by
 refine ⟨?_, h.lt⟩
 intro j u hu
 rw [List.getElem?_take] at hu
 split at hu
 ·exact h.cells j u hu
 ·cases hu
def jJ : Value → Option Nat
 | .slice (some a) (_ + 1) _ => some a.block
 | _ => none
theorem zz {v : Value} {g : Nat} (h : jJ v = some g) : v.ownBlock = some g := by
 unfold jJ at h
 split at h
 ·simpa [Value.ownBlock] using h
 ·cases h
theorem vblk_len {a : Option Addr} {n c g : Nat} (h : jJ (.slice a n c) = some g) : 0 < n ∧ (Value.slice a n c).ownBlock = some g := by
 refine ⟨?_, zz h⟩
 cases n with
 | zero => simp [jJ] at h
 | succ n => omega
theorem vblk_mk {a : Addr} {n c : Nat} (h : 0 < n) : jJ (.slice (some a) n c) = some a.block := by
 cases n with
 | zero => omega
 | succ n => rfl
def Slc (w : World) (size : Nat) (v : Value) (n : Nat) (xs : List Value) : Prop :=
 xs.length = n * size ∧ ((v = .slice none 0 0 ∧ n = 0) ∨ (n = 0 ∧ ∃ a cap, v = .slice (some a) 0 cap ∧ cap ≤ maxLen) ∨ ∃ g o cap, v = .slice (some ⟨g, o, none⟩) n cap ∧ n ≤ cap ∧ cap ≤ maxLen ∧ Row w g o xs)
theorem Slc.kept {X : List Nat} {w w' : World} {size : Nat} {v : Value} {n : Nat} {xs : List Value} (h : Slc w size v n xs) (k : zb X w w') (hg : ∀ g, jJ v = some g → g ∉ X) : Slc w' size v n xs := by
 refine ⟨h.1, ?_⟩
 rcases h.2 with h | h | ⟨g, o, cap, rfl, h1, h2, h3⟩
 ·exact .inl h
 ·exact .inr (.inl h)
 ·cases n with
  | zero => exact .inr (.inl ⟨rfl, _, _, rfl, h2⟩)
  | succ n => exact .inr (.inr ⟨g, o, cap, rfl, h1, h2, h3.kept k (hg g rfl)⟩)
theorem Slc.kept0 {w w' : World} {size : Nat} {v : Value} {n : Nat} {xs : List Value} (h : Slc w size v n xs) (k : zb [] w w') : Slc w' size v n xs := h.kept k (by simp)
theorem Slc.lt {w : World} {size : Nat} {v : Value} {n : Nat} {xs : List Value} (h : Slc w size v n xs) {g : Nat} (hg : jJ v = some g) : g < w.heap.size := by
 rcases h.2 with ⟨rfl, _⟩ | ⟨rfl, a, cap, rfl, _⟩ | ⟨g', o, cap, rfl, h1, h2, h3⟩
 ·simp [jJ] at hg
 ·simp [jJ] at hg
 ·have := (vblk_len hg).2
  simp [Value.ownBlock] at this
  subst this
  exact h3.lt
theorem jt (w : World) (size : Nat) : Slc w size (.slice none 0 0) 0 [] := ⟨by simp, .inl ⟨rfl, rfl⟩⟩
theorem Slc.of_row {w : World} {base e size : Nat} {v : Value} {n : Nat} {xs : List Value} (h : w.ownsRow base e size v n xs) : Slc w size v n xs := by
 refine ⟨h.1, ?_⟩
 rcases h.2 with h2 | ⟨g, cap, cur, hv, hg, hh, hc, hm, hs, ht⟩
 ·exact .inl h2
 ·subst hv
  refine .inr (.inr ⟨g, 0, cap, rfl, hc, hm, ⟨?_, lt_of_block hh⟩⟩)
  intro j u hu
  rw [cell_of_row w g (0 + j) cur e (0, 0) hh]
  rw [← ht, List.getElem?_take] at hu
  split at hu
  ·simpa using hu
  ·cases hu
theorem yu {w : World} {base e size : Nat} {v : Value} {n : Nat} {xs : List Value} (h : w.ownsRow base e size v n xs) {g : Nat} (hg : v.ownBlock = some g) : kind w g = e + 2 := by
 rcases h.2 with ⟨rfl, _⟩ | ⟨g', cap, cur, rfl, _, hh, _⟩
 ·simp [Value.ownBlock] at hg
 ·simp [Value.ownBlock] at hg
  subst hg
  exact vF hh
theorem zh {X : List Nat} {w w' : World} {base e size : Nat} {v : Value} {n : Nat} {xs : List Value} (h : w.ownsRow base e size v n xs) (k : zb X w w') (hg : ∀ g, v.ownBlock = some g → g ∉ X) : w'.ownsRow base e size v n xs := by
 refine ⟨h.1, ?_⟩
 rcases h.2 with h2 | ⟨g, cap, cur, hv, hb, hh, r⟩
 ·exact .inl h2
 ·exact .inr ⟨g, cap, cur, hv, hb, k.heap hh (hg g (by rw [hv]; rfl)), r⟩
theorem y8 {w : World} {base base' e size : Nat} {v : Value} {n : Nat} {xs : List Value} (h : w.ownsRow base e size v n xs) (hb : ∀ g, v.ownBlock = some g → base' ≤ g) : w.ownsRow base' e size v n xs := by
 refine ⟨h.1, ?_⟩
 rcases h.2 with h2 | ⟨g, cap, cur, hv, hb', hh, r⟩
 ·exact .inl h2
 ·exact .inr ⟨g, cap, cur, hv, hb g (by rw [hv]; rfl), hh, r⟩
abbrev xt (w : World) (v : Value) (l : List UInt8) : Prop := Slc w 1 v l.length (l.map bv)
def yc {α β : Type} (R : α → β → Prop) (xs : List α) (ys : List β) : Prop := xs.length = ys.length ∧ ∀ (j : Nat) (x : α) (y : β), xs[j]? = some x → ys[j]? = some y → R x y
theorem yc.nil {α β : Type} (R : α → β → Prop) : yc R [] [] := ⟨rfl, by simp⟩
theorem yc.cons {α β : Type} {R : α → β → Prop} {x : α} {y : β} {xs : List α} {ys : List β} (h : R x y) (t : yc R xs ys) : yc R (x :: xs) (y :: ys) := by
 refine ⟨by simp [t.1], ?_⟩
 intro j a b ha hb
 cases j with
 | zero => simp at ha hb; subst ha; subst hb; exact h
 | succ j => simp at ha hb; exact t.2 j a b ha hb
theorem yc.mono {α β : Type} {R S : α → β → Prop} {xs : List α} {ys : List β} (h : yc R xs ys) (hs : ∀ x y, x ∈ xs → R x y → S x y) : yc S xs ys :=
 ⟨h.1, fun j x y hx hy => hs x y (List.mem_of_getElem? hx) (h.2 j x y hx hy)⟩
theorem yc.app {α β : Type} {R : α → β → Prop} {xs xs' : List α} {ys ys' : List β} (h : yc R xs ys) (h' : yc R xs' ys') : yc R (xs ++ xs') (ys ++ ys') := by
 refine ⟨by simp [h.1, h'.1], ?_⟩
 intro j a b ha hb
 rw [List.getElem?_append] at ha hb
 rw [h.1] at ha
 split at ha
 ·rename_i hj; rw [if_pos hj] at hb; exact h.2 j a b ha hb
 ·rename_i hj; rw [if_neg hj] at hb; exact h'.2 _ a b ha hb
theorem yc.set {α β : Type} {R : α → β → Prop} {xs : List α} {ys : List β} (h : yc R xs ys) (i : Nat) {x : α} {y : β} (hr : R x y) : yc R (xs.set i x) (ys.set i y) := by
 refine ⟨by simp [h.1], ?_⟩
 intro j a b ha hb
 rw [List.getElem?_set] at ha hb
 split at ha
 ·rename_i hij
  rw [if_pos hij] at hb
  split at ha
  ·split at hb
   ·cases ha; cases hb; exact hr
   ·cases hb
  ·cases ha
 ·rename_i hij
  rw [if_neg hij] at hb
  exact h.2 j a b ha hb
theorem Slc.form {w : World} {size : Nat} {v : Value} {n : Nat} {xs : List Value} (h : Slc w size v n xs) : ∃ a c, v = .slice a n c ∧ n ≤ c ∧ c ≤ maxLen := by
 rcases h.2 with ⟨rfl, rfl⟩ | ⟨rfl, a, cap, rfl, h2⟩ | ⟨g, o, cap, rfl, h1, h2, _⟩
 ·exact ⟨_, _, rfl, Nat.le_refl _, by decide⟩
 ·exact ⟨_, _, rfl, Nat.zero_le _, h2⟩
 ·exact ⟨_, _, rfl, h1, h2⟩
structure kg (P : Program) (t e size bytes : Nat) (z : Value) : Prop where
 und : P.underlying t = some (.slice e)
 info : (P.info? e).map (fun i => (i.zero, i.size, i.bytes)) = some (some z, size, bytes)
 zs : z.cells.size = size
 pos : 0 < size
theorem vV (g o k : Nat) : (⟨g, o, none⟩ : Addr).add k = ⟨g, o + k, none⟩ := by
 unfold Addr.add
 split
 ·rename_i h; subst h; rfl
 ·rfl
theorem Slc.cut {P : Program} {t e size bytes : Nat} {z : Value} (T : kg P t e size bytes z) {w : World} {v : Value} {n : Nat} {xs : List Value} (h : Slc w size v n xs) (i k : Nat) (hi : i ≤ k) (hk : k ≤ n) :
  ∃ v', (∀ W, (Instr.slice t v (some (.int .i64 i)) (some (.int .i64 k)) none).run P W = .ok v' W) ∧ (k = n → ∀ W, (Instr.slice t v (some (.int .i64 i)) none none).run P W = .ok v' W) ∧
   (i = 0 → ∀ W, (Instr.slice t v none (some (.int .i64 k)) none).run P W = .ok v' W) ∧ Slc w size v' (k - i) ((xs.drop (i * size)).take ((k - i) * size)) ∧ (∀ g, jJ v' = some g → jJ v = some g) := by
 obtain ⟨inf, hinf, hz, hs, hb⟩ := info_parts T.info
 rcases h.2 with ⟨rfl, rfl⟩ | ⟨rfl, ad, cap, rfl, hm⟩ | ⟨g, o, cap, rfl, hc, hm, hr⟩
 ·obtain rfl : k = 0 := by omega
  obtain rfl : i = 0 := by omega
  refine ⟨.slice none 0 0, fun W => ?_, fun _ W => ?_, fun _ W => ?_, by simp [Slc], by simp [jJ]⟩
  all_goals simp [Instr.slice, Instr.sliceBounds, Instr.sliceBound, asIntOf, run_underlying T.und, sizeOf, typeInfo, hinf]
 ·obtain rfl : k = 0 := by omega
  obtain rfl : i = 0 := by omega
  have e0 : ad.add 0 = ad := by simp [Addr.add]
  refine ⟨.slice (some ad) 0 cap, fun W => ?_, fun _ W => ?_, fun _ W => ?_, ⟨by simp, .inr (.inl ⟨rfl, ad, cap, rfl, hm⟩)⟩, by simp [jJ]⟩
  all_goals simp [Instr.slice, Instr.sliceBounds, Instr.sliceBound, asIntOf, run_underlying T.und, sizeOf, typeInfo, hinf, e0]
 ·have hk' : k ≤ cap := by omega
  have hi' : i ≤ cap := by omega
  refine ⟨.slice (if cap = i then some ⟨g, o, none⟩ else some ⟨g, o + i * size, none⟩) (k - i) (cap - i), fun W => ?_, fun e W => ?_, fun e W => ?_, ⟨?_, .inr (.inr ?_)⟩, ?_⟩
  ·simp [Instr.slice, Instr.sliceBounds, Instr.sliceBound, asIntOf, run_underlying T.und, sizeOf, typeInfo, hinf, hs, hk', hi, vV]
  ·subst e
   simp [Instr.slice, Instr.sliceBounds, Instr.sliceBound, asIntOf, run_underlying T.und, sizeOf, typeInfo, hinf, hs, hk', hi, vV]
  ·subst e
   simp [Instr.slice, Instr.sliceBounds, Instr.sliceBound, asIntOf, run_underlying T.und, sizeOf, typeInfo, hinf, hs, hk', hi, vV]
  ·rw [List.length_take, List.length_drop, h.1, ← Nat.sub_mul]
   have := Nat.mul_le_mul_right size (Nat.sub_le_sub_right hk i)
   omega
  ·by_cases e : cap = i
   ·rw [if_pos e]
    have e2 : (k - i) * size = 0 := by rw [show k - i = 0 by omega]; simp
    rw [e2, List.take_zero]
    exact ⟨g, o, cap - i, rfl, by omega, by omega, ⟨by simp, hr.lt⟩⟩
   ·rw [if_neg e]
    exact ⟨g, o + i * size, cap - i, rfl, by omega, by omega, (hr.drop _).take _⟩
  ·intro g' hg'
   obtain ⟨hpos, hob⟩ := vblk_len hg'
   have hgg : g' = g := by split at hob <;> simpa [Value.ownBlock, eq_comm] using hob
   subst hgg
   exact vblk_mk (by omega)
theorem vY {P : Program} {t e size bytes : Nat} {z : Value} (T : kg P t e size bytes z) (w : World) (ty base : Nat) (v : Value) (n : Nat) (xs : List Value) (hown : w.ownsRow base e size v n xs)
  (vx : Value) (m : Nat) (news : List Value) (hsrc : Slc w size vx m news) (h1 : ∀ u ∈ news, u.oneCell' = true) (h63 : n + m ≤ maxLen) (hbytes : (n + m) * bytes ≤ 140737488355328) (hbase : base ≤ w.heap.size) :
  ∃ v' w', (Builtin.append_ #[t, t] ty #[v, vx]).run P w = .ok v' w' ∧ w'.ownsRow base e size v' (n + m) (xs ++ news) ∧ zb v.ownBlock.toList w w' ∧
   (v' = .slice none 0 0 ↔ v = .slice none 0 0 ∧ m = 0) ∧ (v'.ownBlock = v.ownBlock ∨ v'.ownBlock = some w.heap.size) := by
 obtain ⟨i, hi, hz, hs, hb⟩ := info_parts T.info
 rcases hsrc.2 with ⟨rfl, rfl⟩ | ⟨rfl, ad, cap, rfl, hm⟩ | ⟨g, o, cap, rfl, hc, hm, hr⟩
 ·have hnews : news = [] := List.eq_nil_of_length_eq_zero (by simpa using hsrc.1)
  subst hnews
  refine ⟨v, w, run_append_owned_none w base t ty e i size T.und hi v n xs hown, by simpa using hown, zb.refl _ _, by simp, .inl rfl⟩
 ·have hnews : news = [] := List.eq_nil_of_length_eq_zero (by simpa using hsrc.1)
  subst hnews
  obtain ⟨v', w', r1, r2, r3, r4, r5⟩ := run_append_own_at (P := P) w base t ty e i z size bytes T.und hi hz hs hb T.zs T.pos v n xs hown ad 0 cap [] hsrc.1 (by simp) h1 h63 hbytes hbase
  exact ⟨v', w', r1, r2, (zb.refl _ _).grown r3 (fun k e => .inl (by simp [e])), r4, r5⟩
 ·obtain ⟨v', w', r1, r2, r3, r4, r5⟩ := run_append_own_at (P := P) w base t ty e i z size bytes T.und hi hz hs hb T.zs T.pos v n xs hown ⟨g, o, none⟩ m cap news hsrc.1 hr.adds h1 h63 hbytes hbase
  exact ⟨v', w', r1, r2, (zb.refl _ _).grown r3 (fun k e => .inl (by simp [e])), r4, r5⟩
theorem yo {P : Program} {t e size bytes : Nat} {z : Value} (T : kg P t e size bytes z) {w : World} {base : Nat} {v : Value} {n : Nat} {xs : List Value} (hown : w.ownsRow base e size v n xs)
  {vx : Value} {m : Nat} {news : List Value} (hsrc : Slc w size vx m news) (h1 : ∀ u ∈ news, u.oneCell' = true) (h63 : n + m ≤ maxLen) (hbytes : (n + m) * bytes ≤ 140737488355328) (hbase : base ≤ w.heap.size)
  {ops : Array Oper} {rest : List Oper} {o : Oper} {a : Act} {Q : Exit → Act → World → Prop} (hgd : o.guard = none) (s x : Operand)
  (ho : o.op = .call { callee := .builtin .append, args := #[s, x], argTypes := #[t, t] }) (hs : a.eval s = v) (hx : a.eval x = vx)
  (h : ∀ v' w', w'.ownsRow base e size v' (n + m) (xs ++ news) → zb v.ownBlock.toList w w' → (v' = .slice none 0 0 ↔ v = .slice none 0 0 ∧ m = 0) → (v'.ownBlock = v.ownBlock ∨ v'.ownBlock = some w.heap.size) → wpList P ops Q rest (a.put o.dst v') w') :
  wpList P ops Q (o :: rest) a w := by
 refine wpList_plain hgd fun K hK => ?_
 obtain ⟨v', w', hr, h2, h3, h4, h5⟩ := vY T w o.type base v n xs hown vx m news hsrc h1 h63 hbytes hbase
 unfold Oper.wp execOp
 simp only [ho, resolve, invoke, builtin, Sem.run_bind, Sem.run_pure, Result.andThen_ok, List.map_toArray, List.map_cons, List.map_nil, hs, hx, hr]
 exact hK _ _ (h v' w' h2 h3 h4 h5)
theorem slc_one (w : World) (x : Value) (t g : Nat) (hg : w.heap.size = g) : Slc (w.alloc (.cells #[x] t)) 1 (.slice (some ⟨g, 0, none⟩) 1 1) 1 [x] := by
 subst hg
 refine ⟨rfl, .inr (.inr ⟨w.heap.size, 0, 1, rfl, Nat.le_refl _, by decide, ?_, by simp⟩)⟩
 intro j u hu
 rw [Nat.zero_add, cell_of_row _ w.heap.size j #[x] t (0, 0) (heap_alloc_new w _)]
 simpa using hu
theorem yL (w : World) (xs : List Value) (size n t g : Nat) (hg : w.heap.size = g) (hl : xs.length = n * size) (hm : n ≤ maxLen) : Slc (w.alloc (.cells xs.toArray t)) size (.slice (some ⟨g, 0, none⟩) n n) n xs := by
 subst hg
 refine ⟨hl, .inr (.inr ⟨w.heap.size, 0, n, rfl, Nat.le_refl _, hm, ?_, by simp⟩)⟩
 intro j u hu
 rw [Nat.zero_add, cell_of_row _ w.heap.size j xs.toArray t (0, 0) (heap_alloc_new w _)]
 simpa using hu
open Go.Maps (Keyed)
def heldE (v : Value) : Option (DataW Value × List MemPlace) := some (.held v, [])
def look (D : DataW Value) (kl : Lit) : Option Value := match D.atKey kl .nil with | .held v => some v | _ => none
def Zd (P : Program) (w : World) (k b n : Nat) (M : Lit → Option Value) : Prop :=
 ∃ D, w.ownsMap P k heldE b n D ∧ ∀ kl, M kl = look D kl ∧ (Maps.has D kl = (M kl).isSome)
theorem KW {P : Program} {k : TypeId} (K : Keyed P k) {key : Value} {kl : Lit} (h : keyOf P k key = some kl) : WideAt.IsKeyLit kl := K.key h
section
variable {P : Program} {w : World} {k b n : Nat} {M : Lit → Option Value}
theorem Zd.kept {X : List Nat} {w' : World} (h : Zd P w k b n M) (hk : zb X w w') (hb : b ∉ X) : Zd P w' k b n M := by
 obtain ⟨D, ⟨es, clock, h1, h2⟩, h3⟩ := h
 exact ⟨D, ⟨es, clock, hk.heap h1 hb, h2⟩, h3⟩
theorem mapAt_made (P : Program) (w : World) (k : Nat) : Zd P (w.alloc (.map #[] 0)) k w.heap.size 0 (fun _ => none) :=
 ⟨.map [], World.ownsMap_made _ _ _ _, fun kl => ⟨by simp [look, DataW.atKey], by simp [Maps.has]⟩⟩
theorem Zd.lookup {t e : TypeId} (h : Zd P w k b n M) (K : Keyed P k) (ht : P.underlying t = some (.map k e)) {z : Value} (hz : (zeroValue e).run P w = .ok z w)
  {key : Value} {kl : Lit} (hkey : keyOf P k key = some kl) :
  (Instr.lookup t (.map (some b)) key true).run P w = .ok (.tuple #[(M kl).getD z, .bool (M kl).isSome]) w ∧ (Instr.lookup t (.map (some b)) key false).run P w = .ok ((M kl).getD z) w := by
 obtain ⟨D, ⟨es, clock, hb, F, hs, rfl⟩, h3⟩ := h
 obtain ⟨h3a, h3b⟩ := h3 kl
 have key1 : ∀ c, (Instr.lookup t (.map (some b)) key c).run P w = .ok (if c then .tuple #[(M kl).getD z, .bool (M kl).isSome] else (M kl).getD z) w := by
  intro c
  rcases Maps.fit_look c K ht hz hb F hkey with ⟨hrun, _, hat⟩ | ⟨e0, y, _, _, hrun, hRv, hat, _⟩
  ·have h0 := Maps.has_false_of_atKey hat
   rw [h3b] at h0
   cases hM : M kl with
   | none => simpa [hM] using hrun
   | some v => simp [hM] at h0
  ·have hy : y = (DataW.held e0.val, []) := by simpa [heldE, eq_comm] using hRv
   have hv : M kl = some e0.val := by rw [h3a, look, hat]; simp [hy]
   simpa [hv] using hrun
 exact ⟨by simpa using key1 true, by simpa using key1 false⟩
theorem Zd.update {t e : TypeId} (h : Zd P w k b n M) (K : Keyed P k) (ht : P.underlying t = some (.map k e)) (hn : n < maxLen) {key : Value} {kl : Lit} (hkey : keyOf P k key = some kl) (val : Value) :
  ∃ w', (Instr.mapUpdate t (.map (some b)) key val).run P w = .ok () w' ∧ Zd P w' k b (n + 1) (fun z => if z.sameKey kl then some val else M z) ∧ zb [b] w w' ∧ w'.heap.size = w.heap.size := by
 obtain ⟨D, hown, h3⟩ := h
 obtain ⟨w', hrun, r1, r2⟩ := hown.store K ht hn hkey (val := val) (R := heldE) (d := .held val) (ps := []) rfl
 refine ⟨w', hrun, ⟨_, r1, ?_⟩, ?_, ?_⟩
 ·intro z
  show (if z.sameKey kl then some val else M z) = look (D.put kl (.held val)) z ∧ Maps.has (D.put kl (.held val)) z = (if z.sameKey kl then some val else M z).isSome
  by_cases hz : z.sameKey kl = true
  ·have hz' := WideAt.sameKey_eq hz
   subst hz'
   rw [if_pos hz]
   refine ⟨?_, Maps.has_put_same hown.isMap (KW K hkey) _⟩
   rw [look, Maps.atKey_put_same hown.isMap (KW K hkey)]
  ·have hne : z ≠ kl := by
    intro e
    subst e
    exact hz (WideAt.sameKey_self (KW K hkey))
   rw [if_neg hz]
   exact ⟨by rw [look, Maps.atKey_put_other hne]; exact (h3 z).1, by rw [Maps.has_put_other hne]; exact (h3 z).2⟩
 ·exact (zb.refl _ _).grown r2.grown (fun k e => by simp at e; simp [e])
 ·obtain ⟨_, _, _, _, _, rfl⟩ := r2
  simp [Go.ChangeMaps.setBlock]
end
structure Ext (W : World) where
 w : World
 k : zb [] W w
instance extInh (W : World) : Nonempty (Ext W) := ⟨⟨W, zb.refl _ _⟩⟩
theorem yd {P : Program} {id : Nat} {Q : Exit → Act → World → Prop} {a : Act} {w : World} {l : List Oper} (W : World) (hm : P.follows .mixedOrders = true) (hB : Region.lexB .any l.toArray = true) (hC : zb [] W w)
  (h : wpQuiet P l.toArray (fun w' => ∃ z : Ext W, w' = z.w) (fun a' => ∀ w', zb [] W w' → Q .normal a' w') l a) : (Code.region id l.toArray true).wp P Q a w :=
 wp_region_quiet (C := fun w' => ∃ z : Ext W, w' = z.w) hm hB ⟨⟨_, hC.drew⟩, rfl⟩ (by
  have e : (fun a' : Act => ∀ w', (∃ z : Ext W, w' = z.w) → Q .normal a' w') = fun a' => ∀ w', zb [] W w' → Q .normal a' w' := funext fun a' => propext ⟨fun h w' k => h w' ⟨⟨w', k⟩, rfl⟩, fun h w' ⟨z, e⟩ => e ▸ h z.w z.k⟩
  rw [e]
  simpa using h)
theorem zu {W : World} {p : Addr} {v : Value} (h : W.cell? p = some v) : ∀ z : Ext W, z.w.cell? p = some v := fun z => z.k.cell h (by simp)
theorem ext_of {P : Program} {f : FuncId} {args : Array Value} {W : World} {z : Ext W} {v : Value} (h : Calls P f args z.w fun e w' => e = .returned v ∧ zb [] z.w w') :
  Calls P f args z.w fun e w'' => e = .returned v ∧ ∃ z' : Ext W, w'' = z'.w :=
 h.mono fun _ _ ⟨h1, h2⟩ => ⟨h1, ⟨_, z.k.trans' h2⟩, rfl⟩
theorem Z3 {P : Program} {f : FuncId} {args : Array Value} {W : World} {z : Ext W} {v : Value} (h : Calls P f args z.w fun e w' => e = .returned v ∧ z.w = w') :
  Calls P f args z.w fun e w'' => e = .returned v ∧ ∃ z' : Ext W, w'' = z'.w :=
 h.mono fun _ _ ⟨h1, h2⟩ => ⟨h1, z, h2.symm⟩
structure VS (α : Type) where
 kind : Int
 num : Int
 s : ByteArray
 l : List α
 m : List (ByteArray × α)
def V : Nat → Type
 | 0 => Empty
 | n + 1 => VS (V n)
namespace VS
variable {α β : Type}
def kids (v : VS α) : List α := v.l ++ v.m.map (fun p => p.2)
def map (f : α → β) (v : VS α) : VS β := ⟨v.kind, v.num, v.s, v.l.map f, v.m.map (fun p => (p.1, f p.2))⟩
theorem kids_map (f : α → β) (v : VS α) : (v.map f).kids = v.kids.map f := by simp [kids, map, Function.comp_def]
theorem ext' {v w : VS α} (h1 : v.kind = w.kind) (h2 : v.num = w.num) (h3 : v.s = w.s) (h4 : v.l = w.l) (h5 : v.m = w.m) : v = w := by
 cases v; cases w; simp only at *; subst h1; subst h2; subst h3; subst h4; subst h5; rfl
def keyBytes (v : VS α) : Nat := (v.m.map (fun p => p.1.size)).sum
end VS
def xG : List Nat → Nat
 | [] => 0
 | x :: l => max x (xG l)
theorem jr {l : List Nat} {b : Nat} : xG l ≤ b ↔ ∀ x, x ∈ l → x ≤ b := by
 induction l with
 | nil => simp [xG]
 | cons x l ih =>
  simp only [xG, Nat.max_le, ih, List.mem_cons, forall_eq_or_imp]
theorem KO (a b : List Nat) : xG (a ++ b) = max (xG a) (xG b) := by
 induction a with
 | nil => simp [xG]
 | cons x a ih => simp only [List.cons_append, xG, ih]; omega
theorem zao {l : List Nat} {x : Nat} (h : x ∈ l) : x ≤ xG l := jr.1 (Nat.le_refl _) x h
def zG : (n : Nat) → V n → Nat
 | 0, _ => 0
 | n + 1, (v : VS (V n)) => 1 + xG (v.kids.map (zG n))
def ze : (n : Nat) → V n → Nat
 | 0, _ => 0
 | n + 1, (v : VS (V n)) => 1 + (v.kids.map (ze n)).sum
def zw : (n : Nat) → V n → Nat
 | 0, _ => 0
 | n + 1, (v : VS (V n)) => v.s.size + v.keyBytes + (v.kids.map (zw n)).sum
theorem Z2 {l : List Nat} {x : Nat} (h : x ∈ l) : x ≤ l.sum := by
 induction l with
 | nil => cases h
 | cons y l ih =>
  rw [List.sum_cons]
  rcases List.mem_cons.1 h with rfl | h
  ·omega
  ·have := ih h; omega
theorem QQ {n : Nat} {v : VS (V n)} {x : V n} (h : x ∈ v.kids) : ze n x < ze (n + 1) v := by
 have := Z2 (List.mem_map.2 ⟨x, h, rfl⟩ : ze n x ∈ v.kids.map (ze n))
 show _ < 1 + _
 omega
theorem bytesV_kid {n : Nat} {v : VS (V n)} {x : V n} (h : x ∈ v.kids) : zw n x ≤ zw (n + 1) v := by
 have := Z2 (List.mem_map.2 ⟨x, h, rfl⟩ : zw n x ∈ v.kids.map (zw n))
 show _ ≤ v.s.size + v.keyBytes + _
 omega
theorem QY {n : Nat} {v : VS (V n)} {x : V n} (h : x ∈ v.kids) : zG n x < zG (n + 1) v := by
 have := zao (List.mem_map.2 ⟨x, h, rfl⟩ : zG n x ∈ v.kids.map (zG n))
 show _ < 1 + _
 omega
theorem vo {n : Nat} {v : V n} : n = 0 ∨ 1 ≤ ze n v := by
 cases n with
 | zero => exact .inl rfl
 | succ n => exact .inr (by show 1 ≤ 1 + _; omega)
theorem Zg {α : Type} (f : α → Nat) : ∀ (l : List α), (∀ x, x ∈ l → 1 ≤ f x) → l.length ≤ (l.map f).sum
 | [], _ => Nat.le_refl _
 | x :: l, h => by
  have := Zg f l (fun y hy => h y (List.mem_cons_of_mem _ hy))
  have := h x (List.mem_cons_self ..)
  simp only [List.map_cons, List.sum_cons, List.length_cons]
  omega
theorem Q7 {n : Nat} (v : VS (V n)) : v.l.length + v.m.length < ze (n + 1) v := by
 have h : v.kids.length ≤ (v.kids.map (ze n)).sum := Zg _ _ (fun x _ => by
  rcases vo (v := x) with h | h
  ·subst h; exact nomatch x
  ·exact h)
 have e : v.kids.length = v.l.length + v.m.length := by simp [VS.kids]
 show _ < 1 + _
 omega
theorem xY {n : Nat} {v : VS (V n)} {x : V n} (h : x ∈ v.l) : x ∈ v.kids := List.mem_append_left _ h
theorem xV {n : Nat} {v : VS (V n)} {p : ByteArray × V n} (h : p ∈ v.m) : p.2 ∈ v.kids := List.mem_append_right _ (List.mem_map.2 ⟨p, h, rfl⟩)
theorem ZG {n : Nat} {v : VS (V n)} {p : ByteArray × V n} (h : p ∈ v.m) : p.1.size ≤ zw (n + 1) v := by
 have := Z2 (List.mem_map.2 ⟨p, h, rfl⟩ : p.1.size ∈ v.m.map (fun p => p.1.size))
 show _ ≤ v.s.size + v.keyBytes + _
 unfold VS.keyBytes
 omega
def zZ (n : Nat) (v : V n) : Prop := ze n v ≤ 20000 ∧ zw n v ≤ 400000
theorem zZ.kid {n : Nat} {v : VS (V n)} (h : zZ (n + 1) v) {x : V n} (hx : x ∈ v.kids) : zZ n x :=
 ⟨Nat.le_trans (Nat.le_of_lt (QQ hx)) h.1, Nat.le_trans (bytesV_kid hx) h.2⟩
def up : (n : Nat) → V n → V (n + 1)
 | 0, v => nomatch v
 | n + 1, (v : VS (V n)) => v.map (up n)
theorem count_up : ∀ (n : Nat) (v : V n), ze (n + 1) (up n v) = ze n v
 | 0, v => nomatch v
 | n + 1, (v : VS (V n)) => by
  show 1 + ((VS.map (up n) v).kids.map (ze (n + 1))).sum = 1 + (v.kids.map (ze n)).sum
  rw [VS.kids_map, List.map_map]
  congr 2
  exact List.map_congr_left fun x _ => count_up n x
def goL {α : Type} (f : α → Nat) : Nat → List α → Nat
 | a, [] => a
 | a, x :: l => if a ≤ 6000 then goL f (a + f x) l else a
theorem goL_stop {α : Type} (f : α → Nat) {a : Nat} (h : 6000 < a) (l : List α) : goL f a l = a := by
 cases l with
 | nil => rfl
 | cons x l => unfold goL; rw [if_neg (by omega)]
theorem goL_ge {α : Type} (f : α → Nat) : ∀ (l : List α) (a : Nat), a ≤ goL f a l
 | [], _ => Nat.le_refl _
 | x :: l, a => by
  unfold goL
  split
  ·have := goL_ge f l (a + f x); omega
  ·exact Nat.le_refl _
theorem zan {α : Type} (f : α → Nat) : ∀ (l : List α) (a : Nat), goL f a l ≤ 6000 → goL f a l = a + (l.map f).sum
 | [], a, _ => by simp [goL]
 | x :: l, a, h => by
  have ha : a ≤ 6000 := Nat.le_trans (goL_ge f (x :: l) a) h
  unfold goL at h ⊢
  rw [if_pos ha] at h ⊢
  rw [zan f l _ h]
  simp; omega
theorem goL_le {α : Type} (f : α → Nat) {B : Nat} : ∀ (l : List α) (a : Nat), (∀ x, x ∈ l → f x ≤ B) → a ≤ 6000 + B → goL f a l ≤ 6000 + B
 | [], _, _, h => h
 | x :: l, a, hf, h => by
  unfold goL
  split
  ·exact goL_le f l _ (fun y hy => hf y (List.mem_cons_of_mem _ hy)) (by have := hf x (List.mem_cons_self ..); omega)
  ·exact h
def qg {α : Type} (f : α → Nat) (p : ByteArray × α) : Nat := 1 + p.1.size / 10 + f p.2
def zF : (n : Nat) → Nat → V n → Nat
 | 0, _, _ => 0
 | n + 1, d, (v : VS (V n)) => if 20 < d ∨ 3000 < v.l.length + v.m.length then 10000 else goL (qg (zF n (d + 1))) (goL (zF n (d + 1)) (1 + v.s.size / 10) v.l) v.m
theorem kf {α : Type} {f g : α → Nat} : ∀ (l : List α), (∀ x, x ∈ l → f x ≤ g x) → (l.map f).sum ≤ (l.map g).sum
 | [], _ => Nat.le_refl _
 | x :: l, h => by
  have := kf l (fun y hy => h y (List.mem_cons_of_mem _ hy))
  have := h x (List.mem_cons_self ..)
  simp only [List.map_cons, List.sum_cons]
  omega
theorem Yy {α : Type} (c : Nat) (f : α → Nat) : ∀ (l : List α), (l.map (fun x => c * f x)).sum = c * (l.map f).sum
 | [] => rfl
 | x :: l => by
  have := Yy c f l
  simp only [List.map_cons, List.sum_cons, this, Nat.mul_add]
theorem YB {α : Type} (f g : α → Nat) : ∀ (l : List α), (l.map (fun x => f x + g x)).sum = (l.map f).sum + (l.map g).sum
 | [] => rfl
 | x :: l => by
  have := YB f g l
  simp only [List.map_cons, List.sum_cons, this]
  omega
theorem Qo {n d : Nat} {v : VS (V n)} (h : zF (n + 1) d v ≤ 6000) :
  d ≤ 20 ∧ v.l.length + v.m.length ≤ 3000 ∧ zF (n + 1) d v = 1 + v.s.size / 10 + (v.l.map (zF n (d + 1))).sum + (v.m.map (qg (zF n (d + 1)))).sum := by
 have e : zF (n + 1) d v = if 20 < d ∨ 3000 < v.l.length + v.m.length then 10000 else goL (qg (zF n (d + 1))) (goL (zF n (d + 1)) (1 + v.s.size / 10) v.l) v.m := rfl
 rw [e] at h ⊢
 split at h
 ·omega
 ·rename_i hc
  rw [if_neg hc]
  have h1 := zan _ _ _ h
  have h2 : goL (zF n (d + 1)) (1 + v.s.size / 10) v.l ≤ 6000 := Nat.le_trans (goL_ge _ _ _) h
  rw [h1, zan _ _ _ h2]
  exact ⟨by omega, by omega, rfl⟩
theorem large_kid {n d : Nat} {v : VS (V n)} (h : zF (n + 1) d v ≤ 6000) {x : V n} (hx : x ∈ v.kids) : zF n (d + 1) x ≤ 6000 := by
 obtain ⟨_, _, e⟩ := Qo h
 rcases List.mem_append.1 hx with hx | hx
 ·have := Z2 (List.mem_map.2 ⟨x, hx, rfl⟩ : zF n (d + 1) x ∈ v.l.map (zF n (d + 1)))
  omega
 ·obtain ⟨p, hp, rfl⟩ := List.mem_map.1 hx
  have := Z2 (List.mem_map.2 ⟨p, hp, rfl⟩ : qg (zF n (d + 1)) p ∈ v.m.map (qg (zF n (d + 1))))
  have e2 : qg (zF n (d + 1)) p = 1 + p.1.size / 10 + zF n (d + 1) p.2 := rfl
  omega
theorem xT {n : Nat} (f : V n → Nat) (v : VS (V n)) : (v.kids.map f).sum = (v.l.map f).sum + (v.m.map (fun p => f p.2)).sum := by
 simp [VS.kids, Function.comp_def]
theorem bl : ∀ (n d : Nat) (v : V n), zF n d v ≤ 6000 → ze n v ≤ zF n d v ∧ zw n v ≤ 10 * zF n d v ∧ (n = 0 ∨ d + zG n v ≤ 21)
 | 0, _, v, _ => nomatch v
 | n + 1, d, (v : VS (V n)), h => by
  obtain ⟨h1, h2, e⟩ := Qo h
  have ih := fun x (hx : x ∈ v.kids) => bl n (d + 1) x (large_kid h hx)
  have c1 : (v.l.map (ze n)).sum ≤ (v.l.map (zF n (d + 1))).sum := kf _ fun x hx => (ih x (xY hx)).1
  have c2 : (v.m.map (fun p => ze n p.2)).sum ≤ (v.m.map (qg (zF n (d + 1)))).sum := kf _ fun p hp => by
   have := (ih p.2 (xV hp)).1
   unfold qg; omega
  have b1 : (v.l.map (zw n)).sum ≤ 10 * (v.l.map (zF n (d + 1))).sum := by
   rw [← Yy]
   exact kf _ fun x hx => (ih x (xY hx)).2.1
  have b2 : (v.m.map (fun p => p.1.size + zw n p.2)).sum ≤ 10 * (v.m.map (qg (zF n (d + 1)))).sum := by
   rw [← Yy]
   exact kf _ fun p hp => by
    have := (ih p.2 (xV hp)).2.1
    unfold qg; omega
  rw [YB] at b2
  have ec : ze (n + 1) v = 1 + ((v.l.map (ze n)).sum + (v.m.map (fun p => ze n p.2)).sum) := by rw [← xT]; rfl
  have eb : zw (n + 1) v = v.s.size + (v.m.map (fun p => p.1.size)).sum + ((v.l.map (zw n)).sum + (v.m.map (fun p => zw n p.2)).sum) := by rw [← xT]; rfl
  refine ⟨by omega, by omega, .inr ?_⟩
  have hd : xG (v.kids.map (zG n)) ≤ 20 - d := by
   refine jr.2 fun x hx => ?_
   obtain ⟨y, hy, rfl⟩ := List.mem_map.1 hx
   rcases (ih y hy).2.2 with h3 | h3
   ·subst h3; exact nomatch y
   ·omega
  show d + (1 + xG (v.kids.map (zG n))) ≤ 21
  omega
def x9 (B : Nat) : (n : Nat) → V n → Prop
 | 0, _ => True
 | n + 1, (v : VS (V n)) => (v.s.size ≤ B ∧ v.l.length ≤ B ∧ v.m.length ≤ B) ∧ (∀ p, p ∈ v.m → p.1.size ≤ B) ∧ ∀ x, x ∈ v.kids → x9 B n x
theorem large_le {B : Nat} : ∀ (n d : Nat) (v : V n), x9 B n v → zF n d v ≤ (22 - d) * (20000 + 2 * B) + 20000
 | 0, _, v, _ => nomatch v
 | n + 1, d, (v : VS (V n)), h => by
  obtain ⟨⟨h1, _, _⟩, h2, h3⟩ := h
  have e : zF (n + 1) d v = if 20 < d ∨ 3000 < v.l.length + v.m.length then 10000 else goL (qg (zF n (d + 1))) (goL (zF n (d + 1)) (1 + v.s.size / 10) v.l) v.m := rfl
  rw [e]
  split
  ·omega
  ·rename_i hc
   have hd : d ≤ 20 := by omega
   have ih := fun x (hx : x ∈ v.kids) => large_le (B := B) n (d + 1) x (h3 x hx)
   have hm : (22 - d) * (20000 + 2 * B) = (22 - (d + 1)) * (20000 + 2 * B) + (20000 + 2 * B) := by
    rw [show 22 - d = (22 - (d + 1)) + 1 by omega, Nat.add_mul, Nat.one_mul]
   rw [hm]
   revert ih
   generalize (22 - (d + 1)) * (20000 + 2 * B) = Z
   intro ih
   have g1 : goL (zF n (d + 1)) (1 + v.s.size / 10) v.l ≤ 6000 + (Z + 20000 + B) := goL_le _ _ _ (fun x hx => by have := ih x (xY hx); omega) (by omega)
   have g2 : goL (qg (zF n (d + 1))) (goL (zF n (d + 1)) (1 + v.s.size / 10) v.l) v.m ≤ 6000 + (Z + 20001 + B) := goL_le _ _ _ (fun p hp => by
    have := ih p.2 (xV hp)
    have := h2 p hp
    unfold qg; omega) (by omega)
   omega
def zM (p : ByteArray × List Value) : List Value := .string p.1 :: p.2
def zQ (l : List (ByteArray × List Value)) : List Value := l.flatMap zM
def jj {α : Type} (R : List Value → α → Prop) (p : ByteArray × List Value) (q : ByteArray × α) : Prop := p.1 = q.1 ∧ R p.2 q.2
structure ya {α : Type} (R : List Value → α → Prop) (S : Nat → Prop) (w : World) (cs : List Value) (v : VS α) (vl vm : Value) (lcs : List (List Value)) (mcs : List (ByteArray × List Value)) : Prop where
 cells : cs = [.int .i64 v.kind, .int .i64 v.num, .string v.s, vl, vm]
 slcl : Slc w 5 vl v.l.length lcs.flatten
 alll : yc R lcs v.l
 slcm : Slc w 6 vm v.m.length (zQ mcs)
 allm : yc (jj R) mcs v.m
 inl : ∀ g, jJ vl = some g → S g
 inm : ∀ g, jJ vm = some g → S g
 wfk : (Lit.int .i64 v.kind).wf = true
 wfn : (Lit.int .i64 v.num).wf = true
def Rep : (n : Nat) → (Nat → Prop) → World → List Value → V n → Prop
 | 0, _, _, _, _ => False
 | n + 1, S, w, cs, (v : VS (V n)) => ∃ vl vm lcs mcs, ya (Rep n S w) S w cs v vl vm lcs mcs
theorem Rep.open_ {n : Nat} {S : Nat → Prop} {w : World} {cs : List Value} {v : VS (V n)} (h : Rep (n + 1) S w cs v) : ∃ vl vm lcs mcs, ya (Rep n S w) S w cs v vl vm lcs mcs := h
theorem ya.close {n : Nat} {S : Nat → Prop} {w : World} {cs : List Value} {v : VS (V n)} {vl vm : Value} {lcs : List (List Value)} {mcs : List (ByteArray × List Value)} (h : ya (Rep n S w) S w cs v vl vm lcs mcs) : Rep (n + 1) S w cs v := ⟨vl, vm, lcs, mcs, h⟩
theorem Rep.five : ∀ {n : Nat} {S : Nat → Prop} {w : World} {cs : List Value} {v : V n}, Rep n S w cs v → ∃ k m s vl vm, cs = [.int .i64 k, .int .i64 m, .string s, vl, vm]
 | 0, _, _, _, _, h => h.elim
 | _ + 1, _, _, _, _, h => by
  obtain ⟨vl, vm, lcs, mcs, h⟩ := h
  exact ⟨_, _, _, _, _, h.cells⟩
theorem Rep.len {n : Nat} {S : Nat → Prop} {w : World} {cs : List Value} {v : V n} (h : Rep n S w cs v) : cs.length = 5 := by
 obtain ⟨k, m, s, vl, vm, rfl⟩ := h.five
 rfl
theorem Rep.kept : ∀ {n : Nat} {S : Nat → Prop} {X : List Nat} {w w' : World} {cs : List Value} {v : V n}, Rep n S w cs v → zb X w w' → (∀ k, k ∈ X → ¬ S k) → Rep n S w' cs v
 | 0, _, _, _, _, _, _, h, _, _ => h.elim
 | n + 1, S, X, w, w', cs, v, h, k, hX => by
  obtain ⟨vl, vm, lcs, mcs, h⟩ := h
  exact ⟨vl, vm, lcs, mcs, {
   cells := h.cells
   slcl := h.slcl.kept k (fun g hg hx => hX g hx (h.inl g hg))
   alll := h.alll.mono fun _ _ _ r => Rep.kept r k hX
   slcm := h.slcm.kept k (fun g hg hx => hX g hx (h.inm g hg))
   allm := h.allm.mono fun _ _ _ r => ⟨r.1, Rep.kept r.2 k hX⟩
   inl := h.inl
   inm := h.inm
   wfk := h.wfk
   wfn := h.wfn }⟩
theorem Rep.kept0 {n : Nat} {S : Nat → Prop} {w w' : World} {cs : List Value} {v : V n} (h : Rep n S w cs v) (k : zb [] w w') : Rep n S w' cs v := h.kept k (by simp)
theorem Rep.mono : ∀ {n : Nat} {S T : Nat → Prop} {w : World} {cs : List Value} {v : V n}, Rep n S w cs v → (∀ k, k < w.heap.size → S k → T k) → Rep n T w cs v
 | 0, _, _, _, _, _, h, _ => h.elim
 | n + 1, S, T, w, cs, v, h, hT => by
  obtain ⟨vl, vm, lcs, mcs, h⟩ := h
  exact ⟨vl, vm, lcs, mcs, {
   cells := h.cells
   slcl := h.slcl
   alll := h.alll.mono fun _ _ _ r => Rep.mono r hT
   slcm := h.slcm
   allm := h.allm.mono fun _ _ _ r => ⟨r.1, Rep.mono r.2 hT⟩
   inl := fun g hg => hT g (h.slcl.lt hg) (h.inl g hg)
   inm := fun g hg => hT g (h.slcm.lt hg) (h.inm g hg)
   wfk := h.wfk
   wfn := h.wfn }⟩
theorem yc.map_right {α β γ : Type} {R : α → β → Prop} {Q : α → γ → Prop} {f : β → γ} {xs : List α} {ys : List β} (h : yc R xs ys) (hf : ∀ x y, R x y → Q x (f y)) : yc Q xs (ys.map f) := by
 refine ⟨by simp [h.1], ?_⟩
 intro j x z hx hz
 rw [List.getElem?_map, Option.map_eq_some_iff] at hz
 obtain ⟨y, hy, rfl⟩ := hz
 exact hf x y (h.2 j x y hx hy)
theorem Rep.up : ∀ {n : Nat} {S : Nat → Prop} {w : World} {cs : List Value} {v : V n}, Rep n S w cs v → Rep (n + 1) S w cs (Go.Proofs.YtpbphdkjjoipnaaGreatDoor.up n v)
 | 0, _, _, _, _, h => h.elim
 | n + 1, S, w, cs, v, h => by
  obtain ⟨vl, vm, lcs, mcs, h⟩ := h
  exact ⟨vl, vm, lcs, mcs, {
   cells := h.cells
   slcl := by have := h.slcl; show Slc w 5 vl (v.l.map _).length _; rw [List.length_map]; exact this
   alll := h.alll.map_right fun _ _ r => Rep.up r
   slcm := by have := h.slcm; show Slc w 6 vm (v.m.map _).length _; rw [List.length_map]; exact this
   allm := h.allm.map_right fun _ _ r => ⟨r.1, Rep.up r.2⟩
   inl := h.inl
   inm := h.inm
   wfk := h.wfk
   wfn := h.wfn }⟩
theorem yU {size : Nat} : ∀ (ls : List (List Value)) (j i : Nat), (∀ c, c ∈ ls → c.length = size) → (hj : j < ls.length) → i < size → ls.flatten[j * size + i]? = ls[j][i]?
 | [], j, i, _, hj, _ => by simp at hj
 | c :: ls, 0, i, h, _, hi => by
  have hc := h c (List.mem_cons_self ..)
  rw [List.flatten_cons, Nat.zero_mul, Nat.zero_add, List.getElem?_append_left (by omega)]
  rfl
 | c :: ls, j + 1, i, h, hj, hi => by
  have hc := h c (List.mem_cons_self ..)
  rw [List.flatten_cons, List.getElem?_append_right (by rw [hc, Nat.add_mul]; omega), hc, show (j + 1) * size + i - size = j * size + i by rw [Nat.add_mul]; omega]
  exact yU ls j i (fun d hd => h d (List.mem_cons_of_mem _ hd)) (by simpa using hj) hi
theorem qD {size : Nat} : ∀ (ls : List (List Value)), (∀ c, c ∈ ls → c.length = size) → ls.flatten.length = ls.length * size
 | [], _ => by simp
 | c :: ls, h => by
  rw [List.flatten_cons, List.length_append, qD ls (fun d hd => h d (List.mem_cons_of_mem _ hd)), h c (List.mem_cons_self ..), List.length_cons, Nat.add_mul]
  omega
theorem zP (l : List (ByteArray × List Value)) : zQ l = (l.map zM).flatten := by simp [zQ, List.flatMap]
section
variable {n : Nat} {S : Nat → Prop} {w : World} {cs : List Value} {v : VS (V n)} {vl vm : Value} {lcs : List (List Value)} {mcs : List (ByteArray × List Value)}
theorem ya.lens (h : ya (Rep n S w) S w cs v vl vm lcs mcs) : lcs.length = v.l.length ∧ mcs.length = v.m.length := ⟨h.alll.1, h.allm.1⟩
theorem ya.five_l (h : ya (Rep n S w) S w cs v vl vm lcs mcs) : ∀ c, c ∈ lcs → c.length = 5 := by
 intro c hc
 obtain ⟨j, hj, rfl⟩ := List.getElem_of_mem hc
 exact (h.alll.2 j _ _ (List.getElem?_eq_getElem hj) (List.getElem?_eq_getElem (by rw [← h.alll.1]; exact hj))).len
theorem ya.six_m (h : ya (Rep n S w) S w cs v vl vm lcs mcs) : ∀ c, c ∈ mcs.map zM → c.length = 6 := by
 intro c hc
 obtain ⟨p, hp, rfl⟩ := List.mem_map.1 hc
 obtain ⟨j, hj, rfl⟩ := List.getElem_of_mem hp
 have := (h.allm.2 j _ _ (List.getElem?_eq_getElem hj) (List.getElem?_eq_getElem (by rw [← h.allm.1]; exact hj))).2.len
 simp [zM, this]
theorem ya.at_lx (h : ya (Rep n S w) S w cs v vl vm lcs mcs) {w' : World} (k : zb [] w w') (j : Nat) (hj : j < v.l.length) :
  ∃ g o cap kd nm s a b, vl = .slice (some ⟨g, o, none⟩) v.l.length cap ∧ w'.cell? ⟨g, o + j * 5, none⟩ = some (.int .i64 kd) ∧ w'.cell? ⟨g, o + j * 5 + 1, none⟩ = some (.int .i64 nm) ∧ w'.cell? ⟨g, o + j * 5 + 2, none⟩ = some (.string s) ∧
   w'.cell? ⟨g, o + j * 5 + 3, none⟩ = some a ∧ w'.cell? ⟨g, o + j * 5 + 4, none⟩ = some b ∧ Rep n S w' [.int .i64 kd, .int .i64 nm, .string s, a, b] v.l[j] ∧ lcs[j]? = some [.int .i64 kd, .int .i64 nm, .string s, a, b] := by
 have hj' : j < lcs.length := by rw [h.lens.1]; exact hj
 have hr := h.alll.2 j _ _ (List.getElem?_eq_getElem hj') (List.getElem?_eq_getElem hj)
 obtain ⟨kd, nm, s, a, b, e⟩ := hr.five
 rcases (h.slcl.kept0 k).2 with ⟨_, h0⟩ | ⟨h0, _⟩ | ⟨g, o, cap, hsv, _, _, hrow⟩
 ·omega
 ·omega
 have hc : ∀ i, i < 5 → lcs.flatten[j * 5 + i]? = lcs[j][i]? := fun i hi => yU lcs j i h.five_l hj' hi
 rw [e] at hc hr
 refine ⟨g, o, cap, kd, nm, s, a, b, hsv, ?_, ?_, ?_, ?_, ?_, hr.kept0 k, by rw [List.getElem?_eq_getElem hj', e]⟩
 ·exact hrow.cells (j * 5 + 0) _ (hc 0 (by decide))
 all_goals rw [Nat.add_assoc]
 ·exact hrow.cells (j * 5 + 1) _ (hc 1 (by decide))
 ·exact hrow.cells (j * 5 + 2) _ (hc 2 (by decide))
 ·exact hrow.cells (j * 5 + 3) _ (hc 3 (by decide))
 ·exact hrow.cells (j * 5 + 4) _ (hc 4 (by decide))
theorem ya.at_l (h : ya (Rep n S w) S w cs v vl vm lcs mcs) {w' : World} (k : zb [] w w') (j : Nat) (hj : j < v.l.length) :
  ∃ g o cap kd nm s a b, vl = .slice (some ⟨g, o, none⟩) v.l.length cap ∧ w'.cell? ⟨g, o + j * 5, none⟩ = some (.int .i64 kd) ∧ w'.cell? ⟨g, o + j * 5 + 1, none⟩ = some (.int .i64 nm) ∧ w'.cell? ⟨g, o + j * 5 + 2, none⟩ = some (.string s) ∧
   w'.cell? ⟨g, o + j * 5 + 3, none⟩ = some a ∧ w'.cell? ⟨g, o + j * 5 + 4, none⟩ = some b ∧ Rep n S w' [.int .i64 kd, .int .i64 nm, .string s, a, b] v.l[j] := by
 obtain ⟨g, o, cap, kd, nm, s, a, b, h0, h1, h2, h3, h4, h5, h6, _⟩ := h.at_lx k j hj
 exact ⟨g, o, cap, kd, nm, s, a, b, h0, h1, h2, h3, h4, h5, h6⟩
theorem ya.at_mx (h : ya (Rep n S w) S w cs v vl vm lcs mcs) {w' : World} (k : zb [] w w') (j : Nat) (hj : j < v.m.length) :
  ∃ g o cap kd nm s a b, vm = .slice (some ⟨g, o, none⟩) v.m.length cap ∧ w'.cell? ⟨g, o + j * 6, none⟩ = some (.string v.m[j].1) ∧ w'.cell? ⟨g, o + j * 6 + 1, none⟩ = some (.int .i64 kd) ∧ w'.cell? ⟨g, o + j * 6 + 2, none⟩ = some (.int .i64 nm) ∧ w'.cell? ⟨g, o + j * 6 + 3, none⟩ = some (.string s) ∧
   w'.cell? ⟨g, o + j * 6 + 4, none⟩ = some a ∧ w'.cell? ⟨g, o + j * 6 + 5, none⟩ = some b ∧ Rep n S w' [.int .i64 kd, .int .i64 nm, .string s, a, b] v.m[j].2 ∧ mcs[j]? = some (v.m[j].1, [.int .i64 kd, .int .i64 nm, .string s, a, b]) := by
 have hj' : j < mcs.length := by rw [h.lens.2]; exact hj
 have hr := h.allm.2 j _ _ (List.getElem?_eq_getElem hj') (List.getElem?_eq_getElem hj)
 obtain ⟨kd, nm, s, a, b, e⟩ := hr.2.five
 rcases (h.slcm.kept0 k).2 with ⟨_, h0⟩ | ⟨h0, _⟩ | ⟨g, o, cap, hsv, _, _, hrow⟩
 ·omega
 ·omega
 have hc : ∀ i, i < 6 → (zQ mcs)[j * 6 + i]? = (zM mcs[j])[i]? := fun i hi => by
  rw [zP, yU (mcs.map zM) j i h.six_m (by simpa using hj') hi, List.getElem_map]
 have e2 : zM mcs[j] = [.string v.m[j].1, .int .i64 kd, .int .i64 nm, .string s, a, b] := by
  show Value.string mcs[j].1 :: mcs[j].2 = _
  rw [e, hr.1]
 have hr2 := hr.2
 rw [e] at hr2
 rw [e2] at hc
 refine ⟨g, o, cap, kd, nm, s, a, b, hsv, ?_, ?_, ?_, ?_, ?_, ?_, hr2.kept0 k, by rw [List.getElem?_eq_getElem hj']; exact congrArg some (Prod.ext hr.1 e)⟩
 ·exact hrow.cells (j * 6 + 0) _ (hc 0 (by decide))
 all_goals rw [Nat.add_assoc]
 ·exact hrow.cells (j * 6 + 1) _ (hc 1 (by decide))
 ·exact hrow.cells (j * 6 + 2) _ (hc 2 (by decide))
 ·exact hrow.cells (j * 6 + 3) _ (hc 3 (by decide))
 ·exact hrow.cells (j * 6 + 4) _ (hc 4 (by decide))
 ·exact hrow.cells (j * 6 + 5) _ (hc 5 (by decide))
theorem ya.at_m (h : ya (Rep n S w) S w cs v vl vm lcs mcs) {w' : World} (k : zb [] w w') (j : Nat) (hj : j < v.m.length) :
  ∃ g o cap kd nm s a b, vm = .slice (some ⟨g, o, none⟩) v.m.length cap ∧ w'.cell? ⟨g, o + j * 6, none⟩ = some (.string v.m[j].1) ∧ w'.cell? ⟨g, o + j * 6 + 1, none⟩ = some (.int .i64 kd) ∧ w'.cell? ⟨g, o + j * 6 + 2, none⟩ = some (.int .i64 nm) ∧ w'.cell? ⟨g, o + j * 6 + 3, none⟩ = some (.string s) ∧
   w'.cell? ⟨g, o + j * 6 + 4, none⟩ = some a ∧ w'.cell? ⟨g, o + j * 6 + 5, none⟩ = some b ∧ Rep n S w' [.int .i64 kd, .int .i64 nm, .string s, a, b] v.m[j].2 := by
 obtain ⟨g, o, cap, kd, nm, s, a, b, h0, h1, h2, h3, h4, h5, h6, h7, _⟩ := h.at_mx k j hj
 exact ⟨g, o, cap, kd, nm, s, a, b, h0, h1, h2, h3, h4, h5, h6, h7⟩
theorem ya.forms (h : ya (Rep n S w) S w cs v vl vm lcs mcs) : ∃ a c b d, vl = .slice a v.l.length c ∧ vm = .slice b v.m.length d ∧ cs = [.int .i64 v.kind, .int .i64 v.num, .string v.s, .slice a v.l.length c, .slice b v.m.length d] := by
 obtain ⟨a, c, e1, -, -⟩ := h.slcl.form
 obtain ⟨b, d, e2, -, -⟩ := h.slcm.form
 exact ⟨a, c, b, d, e1, e2, by rw [h.cells, e1, e2]⟩
end
theorem QG {n : Nat} (S : Nat → Prop) (w : World) (v : VS (V n)) (hl : v.l = []) (hm : v.m = []) (hk : (Lit.int .i64 v.kind).wf = true) (hn : (Lit.int .i64 v.num).wf = true) : Rep (n + 1) S w [.int .i64 v.kind, .int .i64 v.num, .string v.s, .slice none 0 0, .slice none 0 0] v :=
 ⟨.slice none 0 0, .slice none 0 0, [], [], {
  cells := rfl
  slcl := by rw [hl]; exact jt _ _
  alll := by rw [hl]; exact yc.nil _
  slcm := by rw [hm]; exact jt _ _
  allm := by rw [hm]; exact yc.nil _
  inl := by simp [jJ]
  inm := by simp [jJ]
  wfk := hk
  wfn := hn }⟩
theorem yc.pick {α β γ : Type} {R : α → β → Prop} {Q : α → γ → Prop} : ∀ (xs : List α) (ys : List β), yc R xs ys → (∀ x y, y ∈ ys → R x y → ∃ z, Q x z) → ∃ zs, yc Q xs zs
 | [], _, _, _ => ⟨[], yc.nil _⟩
 | x :: xs, [], h, _ => by have := h.1; simp at this
 | x :: xs, y :: ys, h, hq => by
  obtain ⟨z, hz⟩ := hq x y (List.mem_cons_self ..) (h.2 0 x y rfl rfl)
  obtain ⟨zs, hzs⟩ := yc.pick xs ys ⟨by simpa using h.1, fun j a b ha hb => h.2 (j + 1) a b (by simpa using ha) (by simpa using hb)⟩ (fun a b hb => hq a b (List.mem_cons_of_mem _ hb))
  exact ⟨z :: zs, hzs.cons hz⟩
def jW (n : Nat) (B : Nat) (S : Nat → Prop) (w : World) (cs : List Value) (v : V n) : Prop := Rep n S w cs v ∧ x9 B n v
theorem jW.fit : ∀ (n d : Nat) {B : Nat} {S : Nat → Prop} {w : World} {cs : List Value} {v : V n}, jW n B S w cs v → zG n v ≤ d → ∃ v' : V d, jW d B S w cs v'
 | 0, _, _, _, _, _, _, h, _ => h.1.elim
 | n + 1, 0, _, _, _, _, v, _, hd => by
  have : zG (n + 1) v = 1 + xG (VS.kids (α := V n) v |>.map (zG n)) := rfl
  omega
 | n + 1, d + 1, B, S, w, cs, v, h, hd => by
  obtain ⟨⟨vl, vm, lcs, mcs, h⟩, ht⟩ := h
  obtain ⟨t1, t2, t3⟩ := ht
  have hk : ∀ x, x ∈ VS.kids (α := V n) v → zG n x ≤ d := fun x hx => by have := QY hx; omega
  obtain ⟨zl, hl⟩ := yc.pick (Q := fun x (z : V d) => jW d B S w x z) _ _ h.alll (fun x y hy hr => jW.fit n d (v := y) ⟨hr, t3 y (xY hy)⟩ (hk y (xY hy)))
  obtain ⟨zm, hm⟩ := yc.pick (Q := fun x (z : ByteArray × V d) => jj (jW d B S w) x z ∧ z.1.size ≤ B) _ _ h.allm (fun x y hy hr => by
   obtain ⟨z, hz⟩ := jW.fit n d (v := y.2) ⟨hr.2, t3 _ (xV hy)⟩ (hk _ (xV hy))
   exact ⟨(y.1, z), ⟨hr.1, hz⟩, t2 y hy⟩)
  have el : zl.length = (VS.l (α := V n) v).length := hl.1.symm.trans h.alll.1
  have em : zm.length = (VS.m (α := V n) v).length := hm.1.symm.trans h.allm.1
  have getl : ∀ x, x ∈ zl → x9 B d x := fun x hx => by
   obtain ⟨j, hj, rfl⟩ := List.getElem_of_mem hx
   exact (hl.2 j _ _ (List.getElem?_eq_getElem (by rw [hl.1]; exact hj)) (List.getElem?_eq_getElem hj)).2
  have getm : ∀ p, p ∈ zm → x9 B d p.2 ∧ p.1.size ≤ B := fun x hx => by
   obtain ⟨j, hj, rfl⟩ := List.getElem_of_mem hx
   have := hm.2 j _ _ (List.getElem?_eq_getElem (by rw [hm.1]; exact hj)) (List.getElem?_eq_getElem hj)
   exact ⟨this.1.2.2, this.2⟩
  refine ⟨(⟨VS.kind (α := V n) v, VS.num (α := V n) v, VS.s (α := V n) v, zl, zm⟩ : VS (V d)), ⟨vl, vm, lcs, mcs, {
   cells := h.cells
   slcl := by have := h.slcl; rw [← el] at this; exact this
   alll := hl.mono fun _ _ _ r => r.1
   slcm := by have := h.slcm; rw [← em] at this; exact this
   allm := hm.mono fun _ _ _ r => ⟨r.1.1, r.1.2.1⟩
   inl := h.inl
   inm := h.inm
   wfk := h.wfk
   wfn := h.wfn }⟩, ⟨t1.1, by rw [el]; exact t1.2.1, by rw [em]; exact t1.2.2⟩, fun p hp => (getm p hp).2, fun x hx => ?_⟩
  rcases List.mem_append.1 hx with hx | hx
  ·exact getl x hx
  ·obtain ⟨p, hp, rfl⟩ := List.mem_map.1 hx
   exact (getm p hp).1
section
variable {P : Program} {ops : Array Oper} {Q : Exit → Act → World → Prop} {md : Region.Mode} {S : World → Prop} {L : Nat}
def zR (P : Program) (md : Region.Mode) (ops : Array Oper) (Q : Exit → Act → World → Prop) (S : World → Prop) (L : Nat) : Nat → Array Bool → Act → World → Prop
 | 0, listed, a, w => Region.ready md ops listed = [] ∧ Q .normal a w
 | fuel + 1, listed, a, w =>
  (Region.ready md ops listed = [] → Q .normal a w) ∧
  ∀ i ∈ Region.ready md ops listed, wpOp P ops Q i (fun a' w' => (i = L ∨ S w') ∧ zR P md ops Q S L fuel (listed.setIfInBounds i true) a' w') a w
theorem Zf : ∀ (fuel : Nat) (listed : Array Bool) (a : Act) (w : World), zR P md ops Q S L fuel listed a w → wpAny P md ops Q fuel listed a w
 | 0, _, _, _, h => h
 | fuel + 1, _, _, _, h => ⟨h.1, fun i hi => wpOp_mono (fun a' w' h' => Zf fuel _ a' w' h'.2) (h.2 i hi)⟩
def KD (md : Region.Mode) (ops : Array Oper) (L i : Nat) : Bool := ((ops[L]?).map (·.after.any fun e => Region.binds md e && e.on == i)).getD false
def JC (md : Region.Mode) (ops : Array Oper) (L i : Nat) : Bool := KD md ops L i || decide (ops.size ≤ L)
theorem wpAnyT_first {i : Nat} {oi : Oper} {v : Value} (hi : ops[i]? = some oi) (hsel : ∀ (j : Nat) (o : Oper) cs b, ops[j]? = some o → o.op ≠ .select cs b)
  (hQ : ∀ c a w, Q (.panic c) (a.put oi.dst v) w → Q (.panic c) a w) (hL : JC md ops L i = true) :
  ∀ (fuel : Nat) (listed : Array Bool) (a : Act) (w : World),
   (∀ j oj, ops[j]? = some oj → j ≠ i → listed.getD j true = false → (∀ e ∈ oj.after, Region.binds md e = true → e.on ≠ i) → oi.apart ops oj = true) →
   i ∈ Region.ready md ops listed → YieldsIf P ops S oi v a → S w →
   zR P md ops Q S L fuel (listed.setIfInBounds i true) (a.put oi.dst v) w → zR P md ops Q S L (fuel + 1) listed a w := by
 intro fuel
 induction fuel with
 | zero =>
  intro listed a w _ hr hy hS H
  refine ⟨fun h => (by rw [h] at hr; cases hr), fun j hj => ?_⟩
  by_cases hji : j = i
  ·subst hji; exact hy.wpOp hi hS ⟨.inr hS, H⟩
  ·have := ready_mono hj hji
   rw [H.1] at this
   cases this
 | succ fuel ih =>
  intro listed a w hfree hr hy hS H
  refine ⟨fun h => (by rw [h] at hr; cases hr), fun j hj => ?_⟩
  by_cases hji : j = i
  ·subst hji; exact hy.wpOp hi hS ⟨.inr hS, H⟩
  ·have h1 := H.2 j (ready_mono hj hji)
   obtain ⟨hjun, oj, hoj, hall⟩ := mem_ready.1 hj
   have hnot : ∀ e ∈ oj.after, Region.binds md e = true → e.on ≠ i := fun e he hb heq => by
    have h1 := hall e he hb
    have h0 := (mem_ready.1 hr).1
    rw [heq] at h1
    rcases Nat.lt_or_ge i listed.size with h' | h'
    ·simp [h'] at h0 h1; rw [h0] at h1; cases h1
    ·simp [Array.getElem?_eq_none h'] at h1
   have hjL : j ≠ L := by
    intro e
    subst e
    unfold JC at hL
    rw [Bool.or_eq_true] at hL
    rcases hL with hL | hL
    rotate_left
    ·have h1 : ops.size ≤ j := by simpa using hL
     rw [Array.getElem?_eq_none h1] at hoj
     cases hoj
    unfold KD at hL
    rw [hoj] at hL
    simp only [Option.map_some, Option.getD_some, Array.any_eq_true'] at hL
    obtain ⟨e, he, hb⟩ := hL
    simp only [Bool.and_eq_true, beq_iff_eq] at hb
    exact hnot e he hb.1 hb.2
   have h2 := wpOp_putIf hoj (hfree j oj hoj hji hjun hnot) (fun cs b => hsel i oi cs b hi) (fun cs b => hsel j oj cs b hoj) hQ hy h1
   have hfree' : ∀ k ok, ops[k]? = some ok → k ≠ i → (listed.setIfInBounds j true).getD k true = false →
     (∀ e ∈ ok.after, Region.binds md e = true → e.on ≠ i) → oi.apart ops ok = true := fun k ok hk hki hun hno => by
    refine hfree k ok hk hki ?_ hno
    by_cases hjk : j = k
    ·subst hjk; exact hjun
    ·rw [getD_set_ne true hjk] at hun; exact hun
   refine wpOp_mono (fun a' w' h3 => ?_) h2
   have hS' : S w' := by
    rcases h3.2.1 with g | g
    ·exact absurd g hjL
    ·exact g
   refine ⟨.inr hS', ih (listed.setIfInBounds j true) a' w' hfree' (ready_mono hr (Ne.symm hji)) h3.1 hS' ?_⟩
   rw [Array.setIfInBounds_comm _ _ hji]
   exact h3.2.2
theorem wpAnyT_take {i : Nat} {oi : Oper} {v : Value} {fuel : Nat} {listed : Array Bool} {a : Act} {w : World} (hi : ops[i]? = some oi)
  (hs : Region.noSelect ops = true) (hf : Region.free md ops listed i = true) (hr : (Region.ready md ops listed).contains i = true) (hL : JC md ops L i = true)
  (hQ : ∀ c a w, Q (.panic c) (a.put oi.dst v) w → Q (.panic c) a w) (hy : YieldsIf P ops S oi v a) (hS : S w)
  (h : zR P md ops Q S L fuel (listed.setIfInBounds i true) (a.put oi.dst v) w) : zR P md ops Q S L (fuel + 1) listed a w :=
 wpAnyT_first hi (Region.noSelect_spec hs) hQ hL fuel listed a w (Region.free_spec hi hf) (by simpa using hr) hy hS h
theorem wpAnyT_one {i : Nat} {oi : Oper} {fuel : Nat} {listed : Array Bool} {a : Act} {w : World} (hi : ops[i]? = some oi) (hr : Region.ready md ops listed = [i]) (hw : Region.wanted oi (yielded ops a.tmps) = true)
  (h : ∀ K : Act → World → Prop, (∀ a' w', (i = L ∨ S w') → zR P md ops Q S L fuel (listed.setIfInBounds i true) a' w' → K a' w') → oi.wp P a w K Q) : zR P md ops Q S L (fuel + 1) listed a w := by
 refine ⟨fun h0 => (by rw [hr] at h0; cases h0), ?_⟩
 rw [hr]
 intro j hj
 have : j = i := by simpa using hj
 subst this
 unfold wpOp
 rw [hi]
 simp only
 rw [if_pos hw]
 exact .inl (h _ fun a' w' h1 h2 => ⟨h1, h2⟩)
theorem wpAnyT_done {listed : Array Bool} {a : Act} {w : World} (hr : Region.ready md ops listed = []) (h : Q .normal a w) :
  ∀ fuel, zR P md ops Q S L fuel listed a w
 | 0 => ⟨hr, h⟩
 | _ + 1 => ⟨fun _ => h, by rw [hr]; simp⟩
theorem QS {id : Nat} {a : Act} {w : World} (S : World → Prop) (L : Nat) (hm : P.follows .mixedOrders = true)
  (h : zR P .any ops Q S L ops.size (Array.replicate ops.size false) a { w with drawn := w.drawn + 1 }) : (Code.region id ops true).wp P Q a w :=
 wp_region_any hm (Zf _ _ _ _ h)
theorem zk {id n : Nat} {a : Act} {w : World} (S : World → Prop) (L : Nat) (hn : ops.size = n) (hm : P.follows .mixedOrders = true)
  (h : zR P .any ops Q S L n (Array.replicate n false) a { w with drawn := w.drawn + 1 }) : (Code.region id ops true).wp P Q a w := by
 subst hn
 exact QS S L hm h
theorem zx {fuel : Nat} {listed : Array Bool} {a : Act} {w : World}
  (h : ∀ O R, O = ops → R = Q → zR P md O R S L fuel listed a w) : zR P md ops Q S L fuel listed a w := h _ _ rfl rfl
theorem xv {O : Array Oper} {i dst : Nat} {oi : Oper} {v : Value} {fuel : Nat} {listed : Array Bool} {a : Act} {w : World} (hO : O = ops) (hi : ops[i]? = some oi) (hd : oi.dst = some dst)
  (hs : Region.noSelect ops = true) (hf : Region.free md ops listed i = true) (hr : (Region.ready md ops listed).contains i = true) (hL : JC md ops L i = true)
  (hQ : ∀ c a (d : Nat) v w, Q (.panic c) (a.put (some d) v) w → Q (.panic c) a w) (hy : YieldsIf P ops S oi v a) (hS : S w)
  (h : zR P md O Q S L fuel (listed.setIfInBounds i true) (a.put (some dst) v) w) : zR P md O Q S L (fuel + 1) listed a w := by
 subst hO
 exact wpAnyT_take hi hs hf hr hL (fun c a w h => hQ c a dst v w (by rw [hd] at h; exact h)) hy hS (by rw [hd]; exact h)
theorem wpAnyT_one' {O : Array Oper} {i : Nat} {oi : Oper} {fuel : Nat} {listed : Array Bool} {a : Act} {w : World} (hO : O = ops) (hi : ops[i]? = some oi) (hr : Region.ready md ops listed = [i]) (hw : Region.wanted oi (yielded ops a.tmps) = true)
  (h : ∀ K : Act → World → Prop, (∀ a' w', (i = L ∨ S w') → zR P md O Q S L fuel (listed.setIfInBounds i true) a' w' → K a' w') → oi.wp P a w K Q) : zR P md O Q S L (fuel + 1) listed a w := by
 subst hO
 exact wpAnyT_one hi hr hw h
theorem qT (i : Nat) (v : Value) {O : Array Oper} {dst : Nat} {oi : Oper} {fuel : Nat} {listed : Array Bool} {a : Act} {w : World} (hO : O = ops) (hi : ops[i]? = some oi) (hd : oi.dst = some dst)
  (hb : (Region.noSelect ops && (Region.free md ops listed i && ((Region.ready md ops listed).contains i && (JC md ops L i && Region.wanted oi (yielded ops a.tmps))))) = true)
  (hQ : ∀ c a (d : Nat) v w, Q (.panic c) (a.put (some d) v) w → Q (.panic c) a w) (hy : ∀ w, S w → (execOp a.eval oi).run P w = .ok (.value v) w) (hS : S w)
  (h : zR P md O Q S L fuel (listed.setIfInBounds i true) (a.put (some dst) v) w) : zR P md O Q S L (fuel + 1) listed a w := by
 simp only [Bool.and_eq_true] at hb
 exact xv hO hi hd hb.1 hb.2.1 hb.2.2.1 hb.2.2.2.1 hQ (.inl ⟨hb.2.2.2.2, hy⟩) hS h
theorem qO (i : Nat) {O : Array Oper} {oi : Oper} {fuel : Nat} {listed : Array Bool} {a : Act} {w : World} (hO : O = ops) (hi : ops[i]? = some oi) (hb : ((Region.ready md ops listed == [i]) && Region.wanted oi (yielded ops a.tmps)) = true)
  (h : ∀ K : Act → World → Prop, (∀ a' w', (i = L ∨ S w') → zR P md O Q S L fuel (listed.setIfInBounds i true) a' w' → K a' w') → oi.wp P a w K Q) : zR P md O Q S L (fuel + 1) listed a w := by
 rw [Bool.and_eq_true, beq_iff_eq] at hb
 exact wpAnyT_one' hO hi hb.1 hb.2 h
theorem zv {O : Array Oper} {listed : Array Bool} {a : Act} {w : World} (hO : O = ops) (hr : Region.ready md ops listed = []) (h : Q .normal a w) (fuel : Nat) : zR P md O Q S L fuel listed a w := by
 subst hO
 exact wpAnyT_done hr h fuel
end
theorem v7 (listed : Array Bool) {i j : Nat} (h : i ≠ j) (d : Bool) : (listed.setIfInBounds i true).getD j d = listed.getD j d := by
 simp [Array.getD_eq_getD_getElem?, Array.getElem?_setIfInBounds, h]
section
variable {P : Program} {ops : Array Oper} {Q : Exit → Act → World → Prop} {md : Region.Mode} {S : World → Prop} {L : Nat}
def yl (P : Program) (md : Region.Mode) (ops : Array Oper) (Q : Exit → Act → World → Prop) (S : World → Prop) (L : Nat) : Nat → Array Bool → Act → World → Prop
 | 0, listed, a, w => Region.ready md ops listed = [] ∧ Q .normal a w
 | fuel + 1, listed, a, w =>
  (Region.ready md ops listed = [] → Q .normal a w) ∧
  ∀ i ∈ Region.ready md ops listed, wpOp P ops Q i (fun a' w' => (i = L ∨ listed.getD L false = true ∨ S w') ∧ yl P md ops Q S L fuel (listed.setIfInBounds i true) a' w') a w
theorem bD : ∀ (fuel : Nat) (listed : Array Bool) (a : Act) (w : World), yl P md ops Q S L fuel listed a w → wpAny P md ops Q fuel listed a w
 | 0, _, _, _, h => h
 | fuel + 1, _, _, _, h => ⟨h.1, fun i hi => wpOp_mono (fun a' w' h' => bD fuel _ a' w' h'.2) (h.2 i hi)⟩
theorem wpAnyU_first {i : Nat} {oi : Oper} {v : Value} (hi : ops[i]? = some oi) (hsel : ∀ (j : Nat) (o : Oper) cs b, ops[j]? = some o → o.op ≠ .select cs b)
  (hQ : ∀ c a w, Q (.panic c) (a.put oi.dst v) w → Q (.panic c) a w) (hL : JC md ops L i = true) (hne : i ≠ L) :
  ∀ (fuel : Nat) (listed : Array Bool) (a : Act) (w : World),
   (∀ j oj, ops[j]? = some oj → j ≠ i → listed.getD j true = false → (∀ e ∈ oj.after, Region.binds md e = true → e.on ≠ i) → oi.apart ops oj = true) →
   listed.getD L false = false → i ∈ Region.ready md ops listed → YieldsIf P ops S oi v a → S w →
   yl P md ops Q S L fuel (listed.setIfInBounds i true) (a.put oi.dst v) w → yl P md ops Q S L (fuel + 1) listed a w := by
 intro fuel
 induction fuel with
 | zero =>
  intro listed a w _ hU hr hy hS H
  refine ⟨fun h => (by rw [h] at hr; cases hr), fun j hj => ?_⟩
  by_cases hji : j = i
  ·subst hji; exact hy.wpOp hi hS ⟨.inr (.inr hS), H⟩
  ·have := ready_mono hj hji
   rw [H.1] at this
   cases this
 | succ fuel ih =>
  intro listed a w hfree hU hr hy hS H
  refine ⟨fun h => (by rw [h] at hr; cases hr), fun j hj => ?_⟩
  by_cases hji : j = i
  ·subst hji; exact hy.wpOp hi hS ⟨.inr (.inr hS), H⟩
  ·have h1 := H.2 j (ready_mono hj hji)
   obtain ⟨hjun, oj, hoj, hall⟩ := mem_ready.1 hj
   have hnot : ∀ e ∈ oj.after, Region.binds md e = true → e.on ≠ i := fun e he hb heq => by
    have h1 := hall e he hb
    have h0 := (mem_ready.1 hr).1
    rw [heq] at h1
    rcases Nat.lt_or_ge i listed.size with h' | h'
    ·simp [h'] at h0 h1; rw [h0] at h1; cases h1
    ·simp [Array.getElem?_eq_none h'] at h1
   have hjL : j ≠ L := by
    intro e
    subst e
    unfold JC at hL
    rw [Bool.or_eq_true] at hL
    rcases hL with hL | hL
    rotate_left
    ·have h1 : ops.size ≤ j := by simpa using hL
     rw [Array.getElem?_eq_none h1] at hoj
     cases hoj
    unfold KD at hL
    rw [hoj] at hL
    simp only [Option.map_some, Option.getD_some, Array.any_eq_true'] at hL
    obtain ⟨e, he, hb⟩ := hL
    simp only [Bool.and_eq_true, beq_iff_eq] at hb
    exact hnot e he hb.1 hb.2
   have h2 := wpOp_putIf hoj (hfree j oj hoj hji hjun hnot) (fun cs b => hsel i oi cs b hi) (fun cs b => hsel j oj cs b hoj) hQ hy h1
   have hfree' : ∀ k ok, ops[k]? = some ok → k ≠ i → (listed.setIfInBounds j true).getD k true = false →
     (∀ e ∈ ok.after, Region.binds md e = true → e.on ≠ i) → oi.apart ops ok = true := fun k ok hk hki hun hno => by
    refine hfree k ok hk hki ?_ hno
    by_cases hjk : j = k
    ·subst hjk; exact hjun
    ·rw [getD_set_ne true hjk] at hun; exact hun
   refine wpOp_mono (fun a' w' h3 => ?_) h2
   have hS' : S w' := by
    rcases h3.2.1 with g | g | g
    ·exact absurd g hjL
    ·by_cases hiL : i = L
     ·exact absurd hiL hne
     ·rw [v7 listed hiL false, hU] at g; cases g
    ·exact g
   refine ⟨.inr (.inr hS'), ih (listed.setIfInBounds j true) a' w' hfree' (by rw [v7 listed hjL false]; exact hU) (ready_mono hr (Ne.symm hji)) h3.1 hS' ?_⟩
   rw [Array.setIfInBounds_comm _ _ hji]
   exact h3.2.2
theorem zal {i : Nat} {oi : Oper} {v : Value} (hi : ops[i]? = some oi) (hsel : ∀ (j : Nat) (o : Oper) cs b, ops[j]? = some o → o.op ≠ .select cs b)
  (hQ : ∀ c a w, Q (.panic c) (a.put oi.dst v) w → Q (.panic c) a w) :
  ∀ (fuel : Nat) (listed : Array Bool) (a : Act) (w : World),
   (∀ j oj, ops[j]? = some oj → j ≠ i → listed.getD j true = false → (∀ e ∈ oj.after, Region.binds md e = true → e.on ≠ i) → oi.apart ops oj = true) →
   listed.getD L false = true → i ∈ Region.ready md ops listed → YieldsIf P ops (fun _ => True) oi v a →
   yl P md ops Q S L fuel (listed.setIfInBounds i true) (a.put oi.dst v) w → yl P md ops Q S L (fuel + 1) listed a w := by
 intro fuel
 induction fuel with
 | zero =>
  intro listed a w _ hU hr hy H
  refine ⟨fun h => (by rw [h] at hr; cases hr), fun j hj => ?_⟩
  by_cases hji : j = i
  ·subst hji; exact hy.wpOp hi trivial ⟨.inr (.inl hU), H⟩
  ·have := ready_mono hj hji
   rw [H.1] at this
   cases this
 | succ fuel ih =>
  intro listed a w hfree hU hr hy H
  refine ⟨fun h => (by rw [h] at hr; cases hr), fun j hj => ?_⟩
  by_cases hji : j = i
  ·subst hji; exact hy.wpOp hi trivial ⟨.inr (.inl hU), H⟩
  ·have h1 := H.2 j (ready_mono hj hji)
   obtain ⟨hjun, oj, hoj, hall⟩ := mem_ready.1 hj
   have hnot : ∀ e ∈ oj.after, Region.binds md e = true → e.on ≠ i := fun e he hb heq => by
    have h1 := hall e he hb
    have h0 := (mem_ready.1 hr).1
    rw [heq] at h1
    rcases Nat.lt_or_ge i listed.size with h' | h'
    ·simp [h'] at h0 h1; rw [h0] at h1; cases h1
    ·simp [Array.getElem?_eq_none h'] at h1
   have h2 := wpOp_putIf hoj (hfree j oj hoj hji hjun hnot) (fun cs b => hsel i oi cs b hi) (fun cs b => hsel j oj cs b hoj) hQ hy h1
   have hfree' : ∀ k ok, ops[k]? = some ok → k ≠ i → (listed.setIfInBounds j true).getD k true = false →
     (∀ e ∈ ok.after, Region.binds md e = true → e.on ≠ i) → oi.apart ops ok = true := fun k ok hk hki hun hno => by
    refine hfree k ok hk hki ?_ hno
    by_cases hjk : j = k
    ·subst hjk; exact hjun
    ·rw [getD_set_ne true hjk] at hun; exact hun
   refine wpOp_mono (fun a' w' h3 => ?_) h2
   have hU' : (listed.setIfInBounds j true).getD L false = true := by
    by_cases hjL : j = L
    ·subst hjL
     by_cases hz : j < listed.size
     ·simp [hz]
     ·rw [Array.setIfInBounds_eq_of_size_le (by omega)]; exact hU
    ·rw [v7 listed hjL false]; exact hU
   refine ⟨.inr (.inl hU), ih (listed.setIfInBounds j true) a' w' hfree' hU' (ready_mono hr (Ne.symm hji)) h3.1 ?_⟩
   rw [Array.setIfInBounds_comm _ _ hji]
   exact h3.2.2
theorem wpAnyU_take {i : Nat} {oi : Oper} {v : Value} {fuel : Nat} {listed : Array Bool} {a : Act} {w : World} (hi : ops[i]? = some oi)
  (hs : Region.noSelect ops = true) (hf : Region.free md ops listed i = true) (hr : (Region.ready md ops listed).contains i = true) (hL : JC md ops L i = true) (hne : i ≠ L) (hU : listed.getD L false = false)
  (hQ : ∀ c a w, Q (.panic c) (a.put oi.dst v) w → Q (.panic c) a w) (hy : YieldsIf P ops S oi v a) (hS : S w)
  (h : yl P md ops Q S L fuel (listed.setIfInBounds i true) (a.put oi.dst v) w) : yl P md ops Q S L (fuel + 1) listed a w :=
 wpAnyU_first hi (Region.noSelect_spec hs) hQ hL hne fuel listed a w (Region.free_spec hi hf) hU (by simpa using hr) hy hS h
theorem wpAnyU_one {i : Nat} {oi : Oper} {fuel : Nat} {listed : Array Bool} {a : Act} {w : World} (hi : ops[i]? = some oi) (hr : Region.ready md ops listed = [i]) (hw : Region.wanted oi (yielded ops a.tmps) = true)
  (h : ∀ K : Act → World → Prop, (∀ a' w', (i = L ∨ listed.getD L false = true ∨ S w') → yl P md ops Q S L fuel (listed.setIfInBounds i true) a' w' → K a' w') → oi.wp P a w K Q) : yl P md ops Q S L (fuel + 1) listed a w := by
 refine ⟨fun h0 => (by rw [hr] at h0; cases h0), ?_⟩
 rw [hr]
 intro j hj
 have : j = i := by simpa using hj
 subst this
 unfold wpOp
 rw [hi]
 simp only
 rw [if_pos hw]
 exact .inl (h _ fun a' w' h1 h2 => ⟨h1, h2⟩)
theorem wpAnyU_done {listed : Array Bool} {a : Act} {w : World} (hr : Region.ready md ops listed = []) (h : Q .normal a w) :
  ∀ fuel, yl P md ops Q S L fuel listed a w
 | 0 => ⟨hr, h⟩
 | _ + 1 => ⟨fun _ => h, by rw [hr]; simp⟩
theorem wp_regionU {id : Nat} {a : Act} {w : World} (S : World → Prop) (L : Nat) (hm : P.follows .mixedOrders = true)
  (h : yl P .any ops Q S L ops.size (Array.replicate ops.size false) a { w with drawn := w.drawn + 1 }) : (Code.region id ops true).wp P Q a w :=
 wp_region_any hm (bD _ _ _ _ h)
theorem xX {id n : Nat} {a : Act} {w : World} (S : World → Prop) (L : Nat) (hn : ops.size = n) (hm : P.follows .mixedOrders = true)
  (h : yl P .any ops Q S L n (Array.replicate n false) a { w with drawn := w.drawn + 1 }) : (Code.region id ops true).wp P Q a w := by
 subst hn
 exact wp_regionU S L hm h
theorem xC {fuel : Nat} {listed : Array Bool} {a : Act} {w : World}
  (h : ∀ O R, O = ops → R = Q → yl P md O R S L fuel listed a w) : yl P md ops Q S L fuel listed a w := h _ _ rfl rfl
theorem wpAnyU_take' {O : Array Oper} {i dst : Nat} {oi : Oper} {v : Value} {fuel : Nat} {listed : Array Bool} {a : Act} {w : World} (hO : O = ops) (hi : ops[i]? = some oi) (hd : oi.dst = some dst)
  (hs : Region.noSelect ops = true) (hf : Region.free md ops listed i = true) (hr : (Region.ready md ops listed).contains i = true) (hL : JC md ops L i = true) (hne : i ≠ L) (hU : listed.getD L false = false)
  (hQ : ∀ c a (d : Nat) v w, Q (.panic c) (a.put (some d) v) w → Q (.panic c) a w) (hy : YieldsIf P ops S oi v a) (hS : S w)
  (h : yl P md O Q S L fuel (listed.setIfInBounds i true) (a.put (some dst) v) w) : yl P md O Q S L (fuel + 1) listed a w := by
 subst hO
 exact wpAnyU_take hi hs hf hr hL hne hU (fun c a w h => hQ c a dst v w (by rw [hd] at h; exact h)) hy hS (by rw [hd]; exact h)
theorem wpAnyU_one' {O : Array Oper} {i : Nat} {oi : Oper} {fuel : Nat} {listed : Array Bool} {a : Act} {w : World} (hO : O = ops) (hi : ops[i]? = some oi) (hr : Region.ready md ops listed = [i]) (hw : Region.wanted oi (yielded ops a.tmps) = true)
  (h : ∀ K : Act → World → Prop, (∀ a' w', (i = L ∨ listed.getD L false = true ∨ S w') → yl P md O Q S L fuel (listed.setIfInBounds i true) a' w' → K a' w') → oi.wp P a w K Q) : yl P md O Q S L (fuel + 1) listed a w := by
 subst hO
 exact wpAnyU_one hi hr hw h
theorem zS {O : Array Oper} {listed : Array Bool} {a : Act} {w : World} (hO : O = ops) (hr : Region.ready md ops listed = []) (h : Q .normal a w) (fuel : Nat) : yl P md O Q S L fuel listed a w := by
 subst hO
 exact wpAnyU_done hr h fuel
theorem wpAnyU_pure {O : Array Oper} {i dst : Nat} {oi : Oper} {v : Value} {fuel : Nat} {listed : Array Bool} {a : Act} {w : World} (hO : O = ops) (hi : ops[i]? = some oi) (hd : oi.dst = some dst)
  (hs : Region.noSelect ops = true) (hf : Region.free md ops listed i = true) (hr : (Region.ready md ops listed).contains i = true) (hU : listed.getD L false = true)
  (hQ : ∀ c a (d : Nat) v w, Q (.panic c) (a.put (some d) v) w → Q (.panic c) a w) (hy : YieldsIf P ops (fun _ => True) oi v a)
  (h : yl P md O Q S L fuel (listed.setIfInBounds i true) (a.put (some dst) v) w) : yl P md O Q S L (fuel + 1) listed a w := by
 subst hO
 exact zal hi (Region.noSelect_spec hs) (fun c a w h => hQ c a dst v w (by rw [hd] at h; exact h)) fuel listed a w (Region.free_spec hi hf) hU (by simpa using hr) hy (by rw [hd]; exact h)
theorem yz {O : Array Oper} {i j : Nat} {oi oj : Oper} {fuel : Nat} {listed : Array Bool} {a : Act} {w : World} (hO : O = ops) (hi : ops[i]? = some oi) (hj : ops[j]? = some oj) (hr : Region.ready md ops listed = [i, j])
  (hwi : Region.wanted oi (yielded ops a.tmps) = true) (hwj : Region.wanted oj (yielded ops a.tmps) = true)
  (h1 : ∀ K : Act → World → Prop, (∀ a' w', (i = L ∨ listed.getD L false = true ∨ S w') → yl P md O Q S L fuel (listed.setIfInBounds i true) a' w' → K a' w') → oi.wp P a w K Q)
  (h2 : ∀ K : Act → World → Prop, (∀ a' w', (j = L ∨ listed.getD L false = true ∨ S w') → yl P md O Q S L fuel (listed.setIfInBounds j true) a' w' → K a' w') → oj.wp P a w K Q) : yl P md O Q S L (fuel + 1) listed a w := by
 subst hO
 refine ⟨fun h0 => (by rw [hr] at h0; cases h0), ?_⟩
 rw [hr]
 intro m hm
 simp only [List.mem_cons, List.not_mem_nil, or_false] at hm
 rcases hm with rfl | rfl
 ·unfold wpOp
  rw [hi]
  simp only
  rw [if_pos hwi]
  exact .inl (h1 _ fun a' w' e1 e2 => ⟨e1, e2⟩)
 ·unfold wpOp
  rw [hj]
  simp only
  rw [if_pos hwj]
  exact .inl (h2 _ fun a' w' e1 e2 => ⟨e1, e2⟩)
theorem qU (i : Nat) (v : Value) {O : Array Oper} {dst : Nat} {oi : Oper} {fuel : Nat} {listed : Array Bool} {a : Act} {w : World} (hO : O = ops) (hi : ops[i]? = some oi) (hd : oi.dst = some dst)
  (hb : (Region.noSelect ops && (Region.free md ops listed i && ((Region.ready md ops listed).contains i && (JC md ops L i && (!(i == L) && (!(listed.getD L false) && Region.wanted oi (yielded ops a.tmps))))))) = true)
  (hQ : ∀ c a (d : Nat) v w, Q (.panic c) (a.put (some d) v) w → Q (.panic c) a w) (hy : ∀ w, S w → (execOp a.eval oi).run P w = .ok (.value v) w) (hS : S w)
  (h : yl P md O Q S L fuel (listed.setIfInBounds i true) (a.put (some dst) v) w) : yl P md O Q S L (fuel + 1) listed a w := by
 simp only [Bool.and_eq_true, Bool.not_eq_true', beq_eq_false_iff_ne] at hb
 exact wpAnyU_take' hO hi hd hb.1 hb.2.1 hb.2.2.1 hb.2.2.2.1 hb.2.2.2.2.1 hb.2.2.2.2.2.1 hQ (.inl ⟨hb.2.2.2.2.2.2, hy⟩) hS h
theorem qV (i : Nat) {O : Array Oper} {oi : Oper} {fuel : Nat} {listed : Array Bool} {a : Act} {w : World} (hO : O = ops) (hi : ops[i]? = some oi) (hb : ((Region.ready md ops listed == [i]) && Region.wanted oi (yielded ops a.tmps)) = true)
  (h : ∀ K : Act → World → Prop, (∀ a' w', (i = L ∨ listed.getD L false = true ∨ S w') → yl P md O Q S L fuel (listed.setIfInBounds i true) a' w' → K a' w') → oi.wp P a w K Q) : yl P md O Q S L (fuel + 1) listed a w := by
 rw [Bool.and_eq_true, beq_iff_eq] at hb
 exact wpAnyU_one' hO hi hb.1 hb.2 h
theorem qW (i : Nat) (v : Value) {O : Array Oper} {dst : Nat} {oi : Oper} {fuel : Nat} {listed : Array Bool} {a : Act} {w : World} (hO : O = ops) (hi : ops[i]? = some oi) (hd : oi.dst = some dst)
  (hb : (Region.noSelect ops && (Region.free md ops listed i && ((Region.ready md ops listed).contains i && (listed.getD L false && Region.wanted oi (yielded ops a.tmps))))) = true)
  (hQ : ∀ c a (d : Nat) v w, Q (.panic c) (a.put (some d) v) w → Q (.panic c) a w) (hy : ∀ w, True → (execOp a.eval oi).run P w = .ok (.value v) w)
  (h : yl P md O Q S L fuel (listed.setIfInBounds i true) (a.put (some dst) v) w) : yl P md O Q S L (fuel + 1) listed a w := by
 simp only [Bool.and_eq_true] at hb
 exact wpAnyU_pure hO hi hd hb.1 hb.2.1 hb.2.2.1 hb.2.2.2.1 hQ (.inl ⟨hb.2.2.2.2, hy⟩) h
end
theorem yp {P : Program} {t e size bytes : Nat} {z : Value} (T : kg P t e size bytes z) {w : World} {base : Nat} {v : Value} {n : Nat} {xs : List Value} (hown : w.ownsRow base e size v n xs)
  {vx : Value} {m : Nat} {news : List Value} (hsrc : Slc w size vx m news) (h1 : ∀ u ∈ news, u.oneCell' = true) (h63 : n + m ≤ maxLen) (hbytes : (n + m) * bytes ≤ 140737488355328) (hbase : base ≤ w.heap.size)
  {o : Oper} {a : Act} {K : Act → World → Prop} {Q : Exit → Act → World → Prop} (s x : Operand)
  (ho : o.op = .call { callee := .builtin .append, args := #[s, x], argTypes := #[t, t] }) (hs : a.eval s = v) (hx : a.eval x = vx)
  (h : ∀ b c w', w'.ownsRow base e size (.slice b (n + m) c) (n + m) (xs ++ news) → zb v.ownBlock.toList w w' → ((Value.slice b (n + m) c).ownBlock = v.ownBlock ∨ (Value.slice b (n + m) c).ownBlock = some w.heap.size) → K (a.put o.dst (.slice b (n + m) c)) w') :
  Oper.wp P o a w K Q := by
 obtain ⟨v', w', hr, h2, h3, h4, h5⟩ := vY T w o.type base v n xs hown vx m news hsrc h1 h63 hbytes hbase
 obtain ⟨b, c, rfl, -, -⟩ := (Slc.of_row h2).form
 unfold Oper.wp execOp
 simp only [ho, resolve, invoke, builtin, Sem.run_bind, Sem.run_pure, Result.andThen_ok, List.map_toArray, List.map_cons, List.map_nil, hs, hx, hr]
 exact h b c w' h2 h3 h5
theorem YC {w : World} {b i : Nat} {c : Array Value} {t : Nat} {f : Nat × Nat} (h : w.heap[b]? = some (.cells c t f)) (v : Value) : (w.setCell ⟨b, i, none⟩ v).heap[b]? = some (.cells (c.setIfInBounds i v) t f) := by
 simp [World.setCell, Array.getElem?_modify, h]
theorem kh (g : Nat) : ∀ (vs : List Value) (o : Nat) (w : World), zb [g] w (w.setCells g o vs)
 | [], o, w => zb.refl _ _
 | v :: r, o, w => ((zb.refl [g] w).setCell (p := ⟨g, o, none⟩) (.inl (by simp)) v).trans' (kh g r (o + 1) _)
theorem jq (g : Nat) {e : Nat} {f : Nat × Nat} : ∀ (vs : List Value) (o : Nat) (w : World) (cur : Array Value), w.heap[g]? = some (.cells cur e f) →
  ∃ cur', (w.setCells g o vs).heap[g]? = some (.cells cur' e f) ∧ cur'.size = cur.size ∧ ∀ j, j < cur.size → cur'[j]? = if o ≤ j ∧ j < o + vs.length then vs[j - o]? else cur[j]?
 | [], o, w, cur, h => ⟨cur, h, rfl, fun j hj => by rw [if_neg (by simp)]⟩
 | v :: r, o, w, cur, h => by
  have h1 : (w.setCell ⟨g, o, none⟩ v).heap[g]? = some (.cells (cur.setIfInBounds o v) e f) := by simp [World.setCell, Array.getElem?_modify, h]
  obtain ⟨cur', h2, h3, h4⟩ := jq g r (o + 1) _ _ h1
  refine ⟨cur', h2, by rw [h3]; simp, ?_⟩
  intro j hj
  rw [h4 j (by simpa using hj)]
  simp only [List.length_cons]
  by_cases e1 : j = o
  ·subst e1
   rw [if_neg (by omega), if_pos (by omega)]
   simp [hj]
  ·by_cases e2 : o + 1 ≤ j ∧ j < o + 1 + r.length
   ·rw [if_pos e2, if_pos (by omega)]
    rw [show j - o = (j - (o + 1)) + 1 by omega]
    rfl
   ·rw [if_neg e2, if_neg (by omega)]
    rw [Array.getElem?_setIfInBounds]
    rw [if_neg (by omega)]
theorem zf {w : World} {b i : Nat} {c : Array Value} {t : Nat} {f : Nat × Nat} {v : Value} (h : w.heap[b]? = some (.cells c t f)) {d : Array Value} (hd : c.setIfInBounds i v = d) : (w.setCell ⟨b, i, none⟩ v).heap[b]? = some (.cells d t f) := by
 subst hd; exact YC h v
theorem zn {w : World} {o : Obj} {g : Nat} (hg : w.heap.size = g) : (w.alloc o).heap[g]? = some o := by
 subst hg; exact heap_alloc_new w o
structure kz (w : World) (g : Nat) (key : ByteArray) (k m : Int) (s : ByteArray) (a b : Value) : Prop where
 c0 : w.cell? ⟨g, 0, none⟩ = some (.string key)
 c1 : w.cell? ⟨g, 1, none⟩ = some (.int .i64 k)
 c2 : w.cell? ⟨g, 2, none⟩ = some (.int .i64 m)
 c3 : w.cell? ⟨g, 3, none⟩ = some (.string s)
 c4 : w.cell? ⟨g, 4, none⟩ = some a
 c5 : w.cell? ⟨g, 5, none⟩ = some b
theorem pbox_at {w : World} {g : Nat} (hg : w.heap.size = g) (key : ByteArray) (k m : Int) (s : ByteArray) (a b : Value) (t : Nat) : kz (w.alloc (.cells #[.string key, .int .i64 k, .int .i64 m, .string s, a, b] t)) g key k m s a b := by
 subst hg
 have hb := heap_alloc_new w (.cells #[.string key, .int .i64 k, .int .i64 m, .string s, a, b] t)
 exact ⟨za hb rfl, za hb rfl, za hb rfl, za hb rfl, za hb rfl, za hb rfl⟩
theorem kz.kept {w w' : World} {g : Nat} {key : ByteArray} {k m : Int} {s : ByteArray} {a b : Value} (h : kz w g key k m s a b) {X : List Nat} (hk : zb X w w') (hX : g ∉ X) : kz w' g key k m s a b :=
 ⟨hk.cell h.c0 hX, hk.cell h.c1 hX, hk.cell h.c2 hX, hk.cell h.c3 hX, hk.cell h.c4 hX, hk.cell h.c5 hX⟩
theorem kz.kept0 {w w' : World} {g : Nat} {key : ByteArray} {k m : Int} {s : ByteArray} {a b : Value} (h : kz w g key k m s a b) (hk : zb [] w w') : kz w' g key k m s a b := h.kept hk (by simp)
theorem Rep.move {n : Nat} {S T : Nat → Prop} {X : List Nat} {w w' : World} {cs : List Value} {v : V n} (h : Rep n S w cs v) (hk : zb X w w') (hS : ∀ g, g < w.heap.size → S g → g ∉ X ∧ T g) : Rep n T w' cs v :=
 ((h.mono (T := fun g => g ∉ X ∧ T g) hS).kept hk (fun g hx q => q.1 hx)).mono (fun _ _ q => q.2)
theorem Rep.sl {n : Nat} {S : Nat → Prop} {w : World} {k m : Int} {s : ByteArray} {a b : Value} {v : V n} (h : Rep n S w [.int .i64 k, .int .i64 m, .string s, a, b] v) : ∃ p i c q j d, a = .slice p i c ∧ b = .slice q j d := by
 match n, v, h with
 | n + 1, v, h =>
  obtain ⟨vl, vm, lcs, mcs, h⟩ := h
  obtain ⟨p, c, q, d, _, _, e⟩ := h.forms
  simp only [List.cons.injEq] at e
  exact ⟨_, _, _, _, _, _, e.2.2.2.1, e.2.2.2.2.1⟩
end Go.Proofs.YtpbphdkjjoipnaaGreatDoor
namespace Go.Proofs
open Go.Shelf
def Tryz.shSort_ren : Go.Shelf.Ren := ⟨fun | 6 => 112 | 15 => 149 | 14 => 148 | 28 => 193 | 29 => 194 | 20 => 185 | 21 => 186 | 22 => 187 | 23 => 188 | 24 => 189 | 25 => 190 | 26 => 191 | 27 => 192 | 46 => 219 | 47 => 220 | 48 => 221 | 49 => 222 | 50 => 223 | 57 => 247 | n => n, fun | 22 => 23 | 24 => 60 | 25 => 139 | 3 => 3 | 39 => 166 | 0 => 0 | 53 => 106 | 55 => 201 | 4 => 4 | 46 => 208 | 45 => 207 | 50 => 177 | 5 => 5 | 9 => 9 | 66 => 238 | 70 => 242 | 76 => 269 | 77 => 132 | n => n, fun | n => n⟩
theorem Tryz.shSort : Go.Proofs.SlLaysF0.n6 Tryz.prog Tryz.shSort_ren := {
 mixed := by kernel_rfl
 f6 := ⟨Tryz.f112.name, by decide, func112.trans (by kernel_rfl)⟩
 f14 := ⟨Tryz.f148.name, by decide, func148.trans (by kernel_rfl)⟩
 f15 := func149.trans (by kernel_rfl)
 f20 := ⟨Tryz.f185.name, by decide, func185.trans (by kernel_rfl)⟩
 f21 := ⟨Tryz.f186.name, by decide, func186.trans (by kernel_rfl)⟩
 f22 := ⟨Tryz.f187.name, by decide, func187.trans (by kernel_rfl)⟩
 f23 := ⟨Tryz.f188.name, by decide, func188.trans (by kernel_rfl)⟩
 f24 := ⟨Tryz.f189.name, by decide, func189.trans (by kernel_rfl)⟩
 f25 := ⟨Tryz.f190.name, by decide, func190.trans (by kernel_rfl)⟩
 f26 := ⟨Tryz.f191.name, by decide, func191.trans (by kernel_rfl)⟩
 f27 := ⟨Tryz.f192.name, by decide, func192.trans (by kernel_rfl)⟩
 f28 := func193.trans (by kernel_rfl)
 f29 := func194.trans (by kernel_rfl)
 f46 := ⟨Tryz.f219.name, by decide, func219.trans (by kernel_rfl)⟩
 f47 := func220.trans (by kernel_rfl)
 f48 := func221.trans (by kernel_rfl)
 f49 := ⟨Tryz.f222.name, by decide, func222.trans (by kernel_rfl)⟩
 f50 := ⟨Tryz.f223.name, by decide, func223.trans (by kernel_rfl)⟩
 f57 := ⟨Tryz.f247.name, by decide, func247.trans (by kernel_rfl)⟩
 t0 := underlying0
 a0 := isAgg0
 z0 := sizeOf0
 v0 := zeroValue0
 t3 := underlying3
 a3 := isAgg3
 z3 := sizeOf3
 v3 := zeroValue3
 t4 := underlying4
 a4 := isAgg4
 z4 := sizeOf4
 v4 := zeroValue4
 t5 := underlying5
 a5 := isAgg5
 z5 := sizeOf5
 v5 := zeroValue5
 t9 := underlying9
 a9 := isAgg9
 z9 := sizeOf9
 v9 := zeroValue9
 t22 := underlying23
 a22 := isAgg23
 z22 := sizeOf23
 v22 := zeroValue23
 t25 := underlying139
 a25 := isAgg139
 z25 := sizeOf139
 v25 := zeroValue139
 t39 := underlying166
 a39 := isAgg166
 z39 := sizeOf166
 v39 := zeroValue166
 t45 := underlying207
 a45 := isAgg207
 z45 := sizeOf207
 v45 := zeroValue207
 t46 := underlying208
 a46 := isAgg208
 z46 := sizeOf208
 v46 := zeroValue208
 t50 := underlying177
 a50 := isAgg177
 z50 := sizeOf177
 v50 := zeroValue177
 t53 := underlying106
 a53 := isAgg106
 z53 := sizeOf106
 v53 := zeroValue106
 t55 := underlying201
 a55 := isAgg201
 z55 := sizeOf201
 v55 := zeroValue201
 t66 := underlying238
 a66 := isAgg238
 z66 := sizeOf238
 v66 := zeroValue238
 t70 := underlying242
 a70 := isAgg242
 z70 := sizeOf242
 v70 := zeroValue242
 t76 := underlying269
 a76 := isAgg269
 z76 := sizeOf269
 v76 := zeroValue269
 t77 := underlying132
 a77 := isAgg132
 z77 := sizeOf132
 v77 := zeroValue132 }
end Go.Proofs
namespace Go.Proofs
def Tryz.shHasPrefix_ren : Go.Shelf.Ren := ⟨fun | 99 => 88 | 206 => 131 | n => n, fun | 9 => 9 | 4 => 4 | 3 => 3 | n => n, fun | n => n⟩
theorem Tryz.shHasPrefix : Go.Proofs.Lays.n99 Tryz.prog Tryz.shHasPrefix_ren := {
 mixed := by kernel_rfl
 f99 := func88.trans (by kernel_rfl)
 f206 := func131.trans (by kernel_rfl)
 t3 := underlying3
 a3 := isAgg3
 z3 := sizeOf3
 v3 := zeroValue3
 t4 := underlying4
 a4 := isAgg4
 z4 := sizeOf4
 v4 := zeroValue4
 t9 := underlying9
 a9 := isAgg9
 z9 := sizeOf9
 v9 := zeroValue9 }
def Tryz.shIndexByte_ren : Go.Shelf.Ren := ⟨fun | 137 => 116 | 217 => 156 | 266 => 197 | n => n, fun | 9 => 9 | 5 => 5 | 3 => 3 | n => n, fun | n => n⟩
theorem Tryz.shIndexByte : Go.Proofs.Lays.n137 Tryz.prog Tryz.shIndexByte_ren := {
 mixed := by kernel_rfl
 f137 := func116.trans (by kernel_rfl)
 f217 := func156.trans (by kernel_rfl)
 f266 := func197.trans (by kernel_rfl)
 t3 := underlying3
 a3 := isAgg3
 z3 := sizeOf3
 v3 := zeroValue3
 t5 := underlying5
 a5 := isAgg5
 z5 := sizeOf5
 v5 := zeroValue5
 t9 := underlying9
 a9 := isAgg9
 z9 := sizeOf9
 v9 := zeroValue9 }
def Tryz.shValidRune_ren : Go.Shelf.Ren := ⟨fun | 119 => 248 | n => n, fun | 21 => 21 | 4 => 4 | n => n, fun | n => n⟩
theorem Tryz.shValidRune : Go.Proofs.Lays.n119 Tryz.prog Tryz.shValidRune_ren := {
 mixed := by kernel_rfl
 f119 := func248.trans (by kernel_rfl)
 t4 := underlying4
 a4 := isAgg4
 z4 := sizeOf4
 v4 := zeroValue4
 t21 := underlying21
 a21 := isAgg21
 z21 := sizeOf21
 v21 := zeroValue21 }
def Tryz.shFormatBool_ren : Go.Shelf.Ren := ⟨fun | 121 => 93 | 214 => 137 | n => n, fun | 4 => 4 | 9 => 9 | n => n, fun | n => n⟩
theorem Tryz.shFormatBool : Go.Proofs.Lays.n121 Tryz.prog Tryz.shFormatBool_ren := {
 mixed := by kernel_rfl
 f121 := func93.trans (by kernel_rfl)
 f214 := func137.trans (by kernel_rfl)
 t4 := underlying4
 a4 := isAgg4
 z4 := sizeOf4
 v4 := zeroValue4
 t9 := underlying9
 a9 := isAgg9
 z9 := sizeOf9
 v9 := zeroValue9 }
def Tryz.shItoa_ren : Go.Shelf.Ren := ⟨fun | 171 => 76 | 243 => 111 | 246 => 147 | 283 => 181 | 284 => 182 | 285 => 183 | 286 => 184 | 129 => 194 | 317 => 215 | 318 => 216 | 319 => 217 | 320 => 218 | 337 => 245 | 338 => 246 | n => n, fun | 3 => 3 | 9 => 9 | 2 => 2 | 4 => 4 | 171 => 200 | 0 => 0 | 53 => 201 | 37 => 28 | 5 => 5 | 173 => 204 | 212 => 236 | 51 => 106 | 20 => 20 | 213 => 237 | 46 => 166 | 232 => 281 | 233 => 282 | n => n, fun | 17 => 1 | 18 => 6 | 19 => 7 | n => n⟩
theorem Tryz.shItoa : Go.Proofs.LaysM.n171 Tryz.prog Tryz.shItoa_ren := {
 mixed := by kernel_rfl
 f129 := func194.trans (by kernel_rfl)
 f171 := func76.trans (by kernel_rfl)
 f243 := func111.trans (by kernel_rfl)
 f246 := func147.trans (by kernel_rfl)
 f283 := func181.trans (by kernel_rfl)
 f284 := func182.trans (by kernel_rfl)
 f285 := func183.trans (by kernel_rfl)
 f286 := func184.trans (by kernel_rfl)
 f317 := func215.trans (by kernel_rfl)
 f318 := func216.trans (by kernel_rfl)
 f319 := func217.trans (by kernel_rfl)
 f320 := func218.trans (by kernel_rfl)
 f337 := func245.trans (by kernel_rfl)
 f338 := func246.trans (by kernel_rfl)
 t0 := underlying0
 a0 := isAgg0
 z0 := sizeOf0
 v0 := zeroValue0
 t2 := underlying2
 a2 := isAgg2
 z2 := sizeOf2
 v2 := zeroValue2
 t3 := underlying3
 a3 := isAgg3
 z3 := sizeOf3
 v3 := zeroValue3
 t4 := underlying4
 a4 := isAgg4
 z4 := sizeOf4
 v4 := zeroValue4
 t5 := underlying5
 a5 := isAgg5
 z5 := sizeOf5
 v5 := zeroValue5
 t9 := underlying9
 a9 := isAgg9
 z9 := sizeOf9
 v9 := zeroValue9
 t20 := underlying20
 a20 := isAgg20
 z20 := sizeOf20
 v20 := zeroValue20
 t37 := underlying28
 a37 := isAgg28
 z37 := sizeOf28
 v37 := zeroValue28
 t46 := underlying166
 a46 := isAgg166
 z46 := sizeOf166
 v46 := zeroValue166
 t51 := underlying106
 a51 := isAgg106
 z51 := sizeOf106
 v51 := zeroValue106
 t53 := underlying201
 a53 := isAgg201
 z53 := sizeOf201
 v53 := zeroValue201
 t171 := underlying200
 a171 := isAgg200
 z171 := sizeOf200
 v171 := zeroValue200
 t173 := underlying204
 a173 := isAgg204
 z173 := sizeOf204
 v173 := zeroValue204
 t212 := underlying236
 a212 := isAgg236
 z212 := sizeOf236
 v212 := zeroValue236
 t213 := underlying237
 a213 := isAgg237
 z213 := sizeOf237
 t232 := underlying281
 a232 := isAgg281
 z232 := sizeOf281
 v232 := zeroValue281
 t233 := underlying282
 a233 := isAgg282
 z233 := sizeOf282
 v233 := zeroValue282
 g17 := by kernel_rfl
 g18 := by kernel_rfl
 g19 := by kernel_rfl
 i0 := by kernel_rfl
 i2 := by kernel_rfl
 i3 := by kernel_rfl
 i4 := by kernel_rfl
 i5 := by kernel_rfl
 i9 := by kernel_rfl
 i20 := by kernel_rfl
 i37 := by kernel_rfl
 i46 := by kernel_rfl
 i51 := by kernel_rfl
 i53 := by kernel_rfl
 i171 := by kernel_rfl
 i173 := by kernel_rfl
 i212 := by kernel_rfl
 i232 := by kernel_rfl
 i233 := by kernel_rfl
 m17 := by kernel_rfl
 m18 := by kernel_rfl
 m19 := by kernel_rfl }
def Tryz.shToLower_ren : Go.Shelf.Ren := ⟨fun | 159 => 263 | 165 => 132 | 166 => 55 | 167 => 98 | 169 => 57 | 230 => 268 | 204 => 269 | 240 => 84 | 241 => 175 | 197 => 172 | 118 => 273 | 168 => 199 | 270 => 274 | 262 => 275 | 276 => 124 | 277 => 210 | 260 => 206 | 242 => 227 | 313 => 277 | 278 => 251 | 274 => 279 | 275 => 280 | n => n, fun | 9 => 9 | 4 => 4 | 3 => 3 | 5 => 5 | 72 => 70 | 0 => 0 | 76 => 75 | 75 => 74 | 107 => 289 | 70 => 68 | 20 => 20 | 37 => 28 | 127 => 120 | 21 => 21 | 105 => 194 | 164 => 145 | 162 => 294 | 203 => 292 | 119 => 187 | 46 => 166 | 139 => 258 | 138 => 257 | 51 => 106 | 160 => 295 | 208 => 301 | 206 => 299 | 80 => 64 | n => n, fun | 13 => 8 | 3 => 2 | 4 => 3 | n => n⟩
theorem Tryz.shToLower : Go.Proofs.Lays.n159 Tryz.prog Tryz.shToLower_ren := {
 mixed := by kernel_rfl
 f118 := func273.trans (by kernel_rfl)
 f159 := func263.trans (by kernel_rfl)
 f165 := func132.trans (by kernel_rfl)
 f166 := func55.trans (by kernel_rfl)
 f167 := func98.trans (by kernel_rfl)
 f168 := func199.trans (by kernel_rfl)
 f169 := func57.trans (by kernel_rfl)
 f197 := func172.trans (by kernel_rfl)
 f204 := func269.trans (by kernel_rfl)
 f230 := func268.trans (by kernel_rfl)
 f240 := func84.trans (by kernel_rfl)
 f241 := func175.trans (by kernel_rfl)
 f242 := func227.trans (by kernel_rfl)
 f260 := func206.trans (by kernel_rfl)
 f262 := func275.trans (by kernel_rfl)
 f270 := func274.trans (by kernel_rfl)
 f274 := func279.trans (by kernel_rfl)
 f275 := func280.trans (by kernel_rfl)
 f276 := func124.trans (by kernel_rfl)
 f277 := func210.trans (by kernel_rfl)
 f278 := func251.trans (by kernel_rfl)
 f313 := func277.trans (by kernel_rfl)
 t0 := underlying0
 a0 := isAgg0
 z0 := sizeOf0
 v0 := zeroValue0
 t3 := underlying3
 a3 := isAgg3
 z3 := sizeOf3
 v3 := zeroValue3
 t4 := underlying4
 a4 := isAgg4
 z4 := sizeOf4
 v4 := zeroValue4
 t5 := underlying5
 a5 := isAgg5
 z5 := sizeOf5
 v5 := zeroValue5
 t9 := underlying9
 a9 := isAgg9
 z9 := sizeOf9
 v9 := zeroValue9
 t20 := underlying20
 a20 := isAgg20
 z20 := sizeOf20
 v20 := zeroValue20
 t21 := underlying21
 a21 := isAgg21
 z21 := sizeOf21
 v21 := zeroValue21
 t37 := underlying28
 a37 := isAgg28
 z37 := sizeOf28
 v37 := zeroValue28
 t46 := underlying166
 a46 := isAgg166
 z46 := sizeOf166
 v46 := zeroValue166
 t51 := underlying106
 a51 := isAgg106
 z51 := sizeOf106
 v51 := zeroValue106
 t70 := underlying68
 a70 := isAgg68
 z70 := sizeOf68
 v70 := zeroValue68
 t72 := underlying70
 a72 := isAgg70
 z72 := sizeOf70
 v72 := zeroValue70
 t75 := underlying74
 a75 := isAgg74
 z75 := sizeOf74
 v75 := zeroValue74
 t76 := underlying75
 a76 := isAgg75
 z76 := sizeOf75
 v76 := zeroValue75
 t105 := underlying194
 a105 := isAgg194
 z105 := sizeOf194
 v105 := zeroValue194
 t107 := underlying289
 a107 := isAgg289
 z107 := sizeOf289
 v107 := zeroValue289
 t119 := underlying187
 a119 := isAgg187
 z119 := sizeOf187
 t127 := underlying120
 a127 := isAgg120
 z127 := sizeOf120
 v127 := zeroValue120
 t138 := underlying257
 a138 := isAgg257
 z138 := sizeOf257
 v138 := zeroValue257
 t139 := underlying258
 a139 := isAgg258
 z139 := sizeOf258
 v139 := zeroValue258
 t160 := underlying295
 a160 := isAgg295
 z160 := sizeOf295
 v160 := zeroValue295
 t162 := underlying294
 a162 := isAgg294
 z162 := sizeOf294
 v162 := zeroValue294
 t164 := underlying145
 a164 := isAgg145
 z164 := sizeOf145
 v164 := zeroValue145
 t203 := underlying292
 a203 := isAgg292
 z203 := sizeOf292
 v203 := zeroValue292
 t206 := underlying299
 a206 := isAgg299
 z206 := sizeOf299
 v206 := zeroValue299
 t208 := underlying301
 a208 := isAgg301
 z208 := sizeOf301
 v208 := zeroValue301
 g3 := by kernel_rfl
 g4 := by kernel_rfl
 g13 := by kernel_rfl }
def Tryz.shDecode_ren : Go.Shelf.Ren := ⟨fun | 197 => 172 | 260 => 206 | n => n, fun | 9 => 9 | 21 => 21 | 3 => 3 | 4 => 4 | 5 => 5 | 105 => 194 | 119 => 187 | 0 => 0 | 46 => 166 | 139 => 258 | 138 => 257 | n => n, fun | 3 => 2 | 4 => 3 | n => n⟩
theorem Tryz.shDecode : Go.Proofs.Lays.n197 Tryz.prog Tryz.shDecode_ren := {
 mixed := by kernel_rfl
 f197 := func172.trans (by kernel_rfl)
 f260 := func206.trans (by kernel_rfl)
 t0 := underlying0
 a0 := isAgg0
 z0 := sizeOf0
 v0 := zeroValue0
 t3 := underlying3
 a3 := isAgg3
 z3 := sizeOf3
 v3 := zeroValue3
 t4 := underlying4
 a4 := isAgg4
 z4 := sizeOf4
 v4 := zeroValue4
 t5 := underlying5
 a5 := isAgg5
 z5 := sizeOf5
 v5 := zeroValue5
 t9 := underlying9
 a9 := isAgg9
 z9 := sizeOf9
 v9 := zeroValue9
 t21 := underlying21
 a21 := isAgg21
 z21 := sizeOf21
 v21 := zeroValue21
 t46 := underlying166
 a46 := isAgg166
 z46 := sizeOf166
 v46 := zeroValue166
 t105 := underlying194
 a105 := isAgg194
 z105 := sizeOf194
 v105 := zeroValue194
 t119 := underlying187
 a119 := isAgg187
 z119 := sizeOf187
 t138 := underlying257
 a138 := isAgg257
 z138 := sizeOf257
 v138 := zeroValue257
 t139 := underlying258
 a139 := isAgg258
 z139 := sizeOf258
 v139 := zeroValue258
 g3 := by kernel_rfl
 g4 := by kernel_rfl }
def Tryz.shValid_ren : Go.Shelf.Ren := ⟨fun | 196 => 213 | 259 => 243 | n => n, fun | 9 => 9 | 4 => 4 | 3 => 3 | 5 => 5 | 12 => 12 | 119 => 187 | 0 => 0 | 46 => 166 | 139 => 258 | 138 => 257 | 53 => 201 | n => n, fun | 3 => 2 | 4 => 3 | n => n⟩
theorem Tryz.shValid : Go.Proofs.Lays.n196 Tryz.prog Tryz.shValid_ren := {
 mixed := by kernel_rfl
 f196 := func213.trans (by kernel_rfl)
 f259 := func243.trans (by kernel_rfl)
 t0 := underlying0
 a0 := isAgg0
 z0 := sizeOf0
 v0 := zeroValue0
 t3 := underlying3
 a3 := isAgg3
 z3 := sizeOf3
 v3 := zeroValue3
 t4 := underlying4
 a4 := isAgg4
 z4 := sizeOf4
 v4 := zeroValue4
 t5 := underlying5
 a5 := isAgg5
 z5 := sizeOf5
 v5 := zeroValue5
 t9 := underlying9
 a9 := isAgg9
 z9 := sizeOf9
 v9 := zeroValue9
 t12 := underlying12
 a12 := isAgg12
 z12 := sizeOf12
 v12 := zeroValue12
 t46 := underlying166
 a46 := isAgg166
 z46 := sizeOf166
 v46 := zeroValue166
 t53 := underlying201
 a53 := isAgg201
 z53 := sizeOf201
 v53 := zeroValue201
 t119 := underlying187
 a119 := isAgg187
 z119 := sizeOf187
 t138 := underlying257
 a138 := isAgg257
 z138 := sizeOf257
 v138 := zeroValue257
 t139 := underlying258
 a139 := isAgg258
 z139 := sizeOf258
 v139 := zeroValue258
 g3 := by kernel_rfl
 g4 := by kernel_rfl }
def Tryz.shAppendRune_ren : Go.Shelf.Ren := ⟨fun | 242 => 227 | 278 => 251 | n => n, fun | 37 => 28 | 21 => 21 | 51 => 106 | 4 => 4 | 5 => 5 | 46 => 166 | n => n, fun | n => n⟩
theorem Tryz.shAppendRune : Go.Proofs.Lays.n242 Tryz.prog Tryz.shAppendRune_ren := {
 mixed := by kernel_rfl
 f242 := func227.trans (by kernel_rfl)
 f278 := func251.trans (by kernel_rfl)
 t4 := underlying4
 a4 := isAgg4
 z4 := sizeOf4
 v4 := zeroValue4
 t5 := underlying5
 a5 := isAgg5
 z5 := sizeOf5
 v5 := zeroValue5
 t21 := underlying21
 a21 := isAgg21
 z21 := sizeOf21
 v21 := zeroValue21
 t37 := underlying28
 a37 := isAgg28
 z37 := sizeOf28
 v37 := zeroValue28
 t46 := underlying166
 a46 := isAgg166
 z46 := sizeOf166
 v46 := zeroValue166
 t51 := underlying106
 a51 := isAgg106
 z51 := sizeOf106
 v51 := zeroValue106 }
def Tryz.shTrim_ren : Go.Shelf.Ren := ⟨fun | 160 => 266 | 232 => 270 | 231 => 150 | 227 => 151 | 234 => 271 | 233 => 152 | 236 => 272 | 235 => 153 | 228 => 195 | 271 => 276 | 151 => 196 | 197 => 172 | 120 => 278 | 152 => 224 | 260 => 206 | 137 => 116 | 119 => 248 | 224 => 208 | 225 => 207 | 217 => 156 | 266 => 197 | n => n, fun | 9 => 9 | 4 => 4 | 3 => 3 | 5 => 5 | 117 => 170 | 116 => 169 | 0 => 0 | 124 => 173 | 21 => 21 | 105 => 194 | 46 => 166 | 119 => 187 | 139 => 258 | 138 => 257 | n => n, fun | 3 => 2 | 4 => 3 | n => n⟩
theorem Tryz.shTrim : Go.Proofs.Lays.n160 Tryz.prog Tryz.shTrim_ren := {
 mixed := by kernel_rfl
 f119 := func248.trans (by kernel_rfl)
 f120 := func278.trans (by kernel_rfl)
 f137 := func116.trans (by kernel_rfl)
 f151 := func196.trans (by kernel_rfl)
 f152 := func224.trans (by kernel_rfl)
 f160 := func266.trans (by kernel_rfl)
 f197 := func172.trans (by kernel_rfl)
 f217 := func156.trans (by kernel_rfl)
 f224 := func208.trans (by kernel_rfl)
 f225 := func207.trans (by kernel_rfl)
 f227 := func151.trans (by kernel_rfl)
 f228 := func195.trans (by kernel_rfl)
 f231 := func150.trans (by kernel_rfl)
 f232 := func270.trans (by kernel_rfl)
 f233 := func152.trans (by kernel_rfl)
 f234 := func271.trans (by kernel_rfl)
 f235 := func153.trans (by kernel_rfl)
 f236 := func272.trans (by kernel_rfl)
 f260 := func206.trans (by kernel_rfl)
 f266 := func197.trans (by kernel_rfl)
 f271 := func276.trans (by kernel_rfl)
 t0 := underlying0
 a0 := isAgg0
 z0 := sizeOf0
 v0 := zeroValue0
 t3 := underlying3
 a3 := isAgg3
 z3 := sizeOf3
 v3 := zeroValue3
 t4 := underlying4
 a4 := isAgg4
 z4 := sizeOf4
 v4 := zeroValue4
 t5 := underlying5
 a5 := isAgg5
 z5 := sizeOf5
 v5 := zeroValue5
 t9 := underlying9
 a9 := isAgg9
 z9 := sizeOf9
 v9 := zeroValue9
 t21 := underlying21
 a21 := isAgg21
 z21 := sizeOf21
 v21 := zeroValue21
 t46 := underlying166
 a46 := isAgg166
 z46 := sizeOf166
 v46 := zeroValue166
 t105 := underlying194
 a105 := isAgg194
 z105 := sizeOf194
 v105 := zeroValue194
 t116 := underlying169
 a116 := isAgg169
 z116 := sizeOf169
 t117 := underlying170
 a117 := isAgg170
 z117 := sizeOf170
 v117 := zeroValue170
 t119 := underlying187
 a119 := isAgg187
 z119 := sizeOf187
 t124 := underlying173
 a124 := isAgg173
 z124 := sizeOf173
 v124 := zeroValue173
 t138 := underlying257
 a138 := isAgg257
 z138 := sizeOf257
 v138 := zeroValue257
 t139 := underlying258
 a139 := isAgg258
 z139 := sizeOf258
 v139 := zeroValue258
 g3 := by kernel_rfl
 g4 := by kernel_rfl }
def Tryz.shTrimLeft_ren : Go.Shelf.Ren := ⟨fun | 161 => 114 | 231 => 150 | 227 => 151 | 233 => 152 | 235 => 153 | 228 => 195 | 197 => 172 | 151 => 196 | 260 => 206 | 152 => 224 | 137 => 116 | 119 => 248 | 224 => 208 | 225 => 207 | 217 => 156 | 266 => 197 | n => n, fun | 9 => 9 | 4 => 4 | 3 => 3 | 5 => 5 | 117 => 170 | 116 => 169 | 0 => 0 | 124 => 173 | 105 => 194 | 21 => 21 | 119 => 187 | 46 => 166 | 139 => 258 | 138 => 257 | n => n, fun | 3 => 2 | 4 => 3 | n => n⟩
theorem Tryz.shTrimLeft : Go.Proofs.Lays.n161 Tryz.prog Tryz.shTrimLeft_ren := {
 mixed := by kernel_rfl
 f119 := func248.trans (by kernel_rfl)
 f137 := func116.trans (by kernel_rfl)
 f151 := func196.trans (by kernel_rfl)
 f152 := func224.trans (by kernel_rfl)
 f161 := func114.trans (by kernel_rfl)
 f197 := func172.trans (by kernel_rfl)
 f217 := func156.trans (by kernel_rfl)
 f224 := func208.trans (by kernel_rfl)
 f225 := func207.trans (by kernel_rfl)
 f227 := func151.trans (by kernel_rfl)
 f228 := func195.trans (by kernel_rfl)
 f231 := func150.trans (by kernel_rfl)
 f233 := func152.trans (by kernel_rfl)
 f235 := func153.trans (by kernel_rfl)
 f260 := func206.trans (by kernel_rfl)
 f266 := func197.trans (by kernel_rfl)
 t0 := underlying0
 a0 := isAgg0
 z0 := sizeOf0
 v0 := zeroValue0
 t3 := underlying3
 a3 := isAgg3
 z3 := sizeOf3
 v3 := zeroValue3
 t4 := underlying4
 a4 := isAgg4
 z4 := sizeOf4
 v4 := zeroValue4
 t5 := underlying5
 a5 := isAgg5
 z5 := sizeOf5
 v5 := zeroValue5
 t9 := underlying9
 a9 := isAgg9
 z9 := sizeOf9
 v9 := zeroValue9
 t21 := underlying21
 a21 := isAgg21
 z21 := sizeOf21
 v21 := zeroValue21
 t46 := underlying166
 a46 := isAgg166
 z46 := sizeOf166
 v46 := zeroValue166
 t105 := underlying194
 a105 := isAgg194
 z105 := sizeOf194
 v105 := zeroValue194
 t116 := underlying169
 a116 := isAgg169
 z116 := sizeOf169
 t117 := underlying170
 a117 := isAgg170
 z117 := sizeOf170
 v117 := zeroValue170
 t119 := underlying187
 a119 := isAgg187
 z119 := sizeOf187
 t124 := underlying173
 a124 := isAgg173
 z124 := sizeOf173
 v124 := zeroValue173
 t138 := underlying257
 a138 := isAgg257
 z138 := sizeOf257
 v138 := zeroValue257
 t139 := underlying258
 a139 := isAgg258
 z139 := sizeOf258
 v139 := zeroValue258
 g3 := by kernel_rfl
 g4 := by kernel_rfl }
def Tryz.shSplit_ren : Go.Shelf.Ren := ⟨fun | 146 => 58 | 221 => 87 | 268 => 128 | 138 => 129 | 143 => 130 | 195 => 171 | 197 => 172 | 218 => 173 | 219 => 174 | 260 => 206 | 217 => 156 | 225 => 207 | 224 => 208 | 267 => 209 | 266 => 197 | 314 => 237 | n => n, fun | 9 => 9 | 31 => 39 | 3 => 3 | 4 => 4 | 0 => 0 | 105 => 194 | 21 => 21 | 5 => 5 | 46 => 166 | 119 => 187 | 139 => 258 | 138 => 257 | 146 => 259 | 51 => 106 | n => n, fun | 1 => 0 | 3 => 2 | 4 => 3 | n => n⟩
theorem Tryz.shSplit : Go.Proofs.LaysM.n146 Tryz.prog Tryz.shSplit_ren := {
 mixed := by kernel_rfl
 f138 := func129.trans (by kernel_rfl)
 f143 := func130.trans (by kernel_rfl)
 f146 := func58.trans (by kernel_rfl)
 f195 := func171.trans (by kernel_rfl)
 f197 := func172.trans (by kernel_rfl)
 f217 := func156.trans (by kernel_rfl)
 f218 := func173.trans (by kernel_rfl)
 f219 := func174.trans (by kernel_rfl)
 f221 := func87.trans (by kernel_rfl)
 f224 := func208.trans (by kernel_rfl)
 f225 := func207.trans (by kernel_rfl)
 f260 := func206.trans (by kernel_rfl)
 f266 := func197.trans (by kernel_rfl)
 f267 := func209.trans (by kernel_rfl)
 f268 := func128.trans (by kernel_rfl)
 f314 := func237.trans (by kernel_rfl)
 t0 := underlying0
 a0 := isAgg0
 z0 := sizeOf0
 v0 := zeroValue0
 t3 := underlying3
 a3 := isAgg3
 z3 := sizeOf3
 v3 := zeroValue3
 t4 := underlying4
 a4 := isAgg4
 z4 := sizeOf4
 v4 := zeroValue4
 t5 := underlying5
 a5 := isAgg5
 z5 := sizeOf5
 v5 := zeroValue5
 t9 := underlying9
 a9 := isAgg9
 z9 := sizeOf9
 v9 := zeroValue9
 t21 := underlying21
 a21 := isAgg21
 z21 := sizeOf21
 v21 := zeroValue21
 t31 := underlying39
 a31 := isAgg39
 z31 := sizeOf39
 v31 := zeroValue39
 t46 := underlying166
 a46 := isAgg166
 z46 := sizeOf166
 v46 := zeroValue166
 t51 := underlying106
 a51 := isAgg106
 z51 := sizeOf106
 v51 := zeroValue106
 t105 := underlying194
 a105 := isAgg194
 z105 := sizeOf194
 v105 := zeroValue194
 t119 := underlying187
 a119 := isAgg187
 z119 := sizeOf187
 t138 := underlying257
 a138 := isAgg257
 z138 := sizeOf257
 v138 := zeroValue257
 t139 := underlying258
 a139 := isAgg258
 z139 := sizeOf258
 v139 := zeroValue258
 t146 := underlying259
 a146 := isAgg259
 z146 := sizeOf259
 v146 := zeroValue259
 g1 := by kernel_rfl
 g3 := by kernel_rfl
 g4 := by kernel_rfl
 i0 := by kernel_rfl
 i3 := by kernel_rfl
 i4 := by kernel_rfl
 i5 := by kernel_rfl
 i9 := by kernel_rfl
 i21 := by kernel_rfl
 i31 := by kernel_rfl
 i46 := by kernel_rfl
 i51 := by kernel_rfl
 i105 := by kernel_rfl
 i138 := by kernel_rfl
 i139 := by kernel_rfl
 i146 := by kernel_rfl
 m1 := by kernel_rfl
 s1_3 := fun w h => Go.Proofs.cell_of_shapedOpen_int (zero := #[.int .i64 0]) (t := 3) h (of_decide_eq_true (by kernel_rfl)) (by kernel_rfl) rfl (by kernel_rfl) (by kernel_rfl) underlying3
 m3 := by kernel_rfl
 m4 := by kernel_rfl }
def Tryz.shJoin_ren : Go.Shelf.Ren := ⟨fun | 156 => 89 | 165 => 132 | 166 => 55 | 169 => 57 | 240 => 84 | 241 => 175 | 276 => 124 | 277 => 210 | n => n, fun | 31 => 39 | 9 => 9 | 3 => 3 | 4 => 4 | 0 => 0 | 20 => 20 | 72 => 70 | 76 => 75 | 70 => 68 | 37 => 28 | 75 => 74 | 127 => 120 | 164 => 145 | 5 => 5 | 80 => 64 | n => n, fun | n => n⟩
theorem Tryz.shJoin : Go.Proofs.Lays.n156 Tryz.prog Tryz.shJoin_ren := {
 mixed := by kernel_rfl
 f156 := func89.trans (by kernel_rfl)
 f165 := func132.trans (by kernel_rfl)
 f166 := func55.trans (by kernel_rfl)
 f169 := func57.trans (by kernel_rfl)
 f240 := func84.trans (by kernel_rfl)
 f241 := func175.trans (by kernel_rfl)
 f276 := func124.trans (by kernel_rfl)
 f277 := func210.trans (by kernel_rfl)
 t0 := underlying0
 a0 := isAgg0
 z0 := sizeOf0
 v0 := zeroValue0
 t3 := underlying3
 a3 := isAgg3
 z3 := sizeOf3
 v3 := zeroValue3
 t4 := underlying4
 a4 := isAgg4
 z4 := sizeOf4
 v4 := zeroValue4
 t9 := underlying9
 a9 := isAgg9
 z9 := sizeOf9
 v9 := zeroValue9
 t20 := underlying20
 a20 := isAgg20
 z20 := sizeOf20
 v20 := zeroValue20
 t31 := underlying39
 a31 := isAgg39
 z31 := sizeOf39
 v31 := zeroValue39
 t37 := underlying28
 a37 := isAgg28
 z37 := sizeOf28
 v37 := zeroValue28
 t70 := underlying68
 a70 := isAgg68
 z70 := sizeOf68
 v70 := zeroValue68
 t72 := underlying70
 a72 := isAgg70
 z72 := sizeOf70
 v72 := zeroValue70
 t75 := underlying74
 a75 := isAgg74
 z75 := sizeOf74
 v75 := zeroValue74
 t76 := underlying75
 a76 := isAgg75
 z76 := sizeOf75
 v76 := zeroValue75
 t127 := underlying120
 a127 := isAgg120
 z127 := sizeOf120
 v127 := zeroValue120
 t164 := underlying145
 a164 := isAgg145
 z164 := sizeOf145
 v164 := zeroValue145 }
def Tryz.shAtoi_ren : Go.Shelf.Ren := ⟨fun | 172 => 176 | 244 => 211 | 245 => 212 | 247 => 238 | 279 => 239 | 280 => 240 | 281 => 241 | 282 => 242 | 287 => 259 | 316 => 260 | 171 => 76 | 205 => 261 | 321 => 264 | 322 => 265 | 243 => 111 | 246 => 147 | 283 => 181 | 284 => 182 | 285 => 183 | 286 => 184 | 129 => 194 | 317 => 215 | 318 => 216 | 319 => 217 | 320 => 218 | 337 => 245 | 338 => 246 | n => n, fun | 9 => 9 | 3 => 3 | 75 => 74 | 76 => 75 | 4 => 4 | 5 => 5 | 167 => 261 | 37 => 28 | 0 => 0 | 85 => 262 | 2 => 2 | 168 => 264 | 53 => 201 | 175 => 276 | 46 => 166 | 210 => 279 | 127 => 120 | 145 => 287 | 143 => 285 | 21 => 21 | 171 => 200 | 173 => 204 | 212 => 236 | 51 => 106 | 20 => 20 | 213 => 237 | 232 => 281 | 233 => 282 | 80 => 64 | n => n, fun | 15 => 4 | 16 => 5 | 17 => 1 | 18 => 6 | 19 => 7 | n => n⟩
theorem Tryz.shAtoi : Go.Proofs.LaysC.n172 Tryz.prog Tryz.shAtoi_ren := {
 mixed := by kernel_rfl
 f129 := func194.trans (by kernel_rfl)
 f171 := func76.trans (by kernel_rfl)
 f172 := func176.trans (by kernel_rfl)
 f205 := func261.trans (by kernel_rfl)
 f243 := func111.trans (by kernel_rfl)
 f244 := func211.trans (by kernel_rfl)
 f245 := func212.trans (by kernel_rfl)
 f246 := func147.trans (by kernel_rfl)
 f247 := func238.trans (by kernel_rfl)
 f279 := func239.trans (by kernel_rfl)
 f280 := func240.trans (by kernel_rfl)
 f281 := func241.trans (by kernel_rfl)
 f282 := func242.trans (by kernel_rfl)
 f283 := func181.trans (by kernel_rfl)
 f284 := func182.trans (by kernel_rfl)
 f285 := func183.trans (by kernel_rfl)
 f286 := func184.trans (by kernel_rfl)
 f287 := func259.trans (by kernel_rfl)
 f316 := func260.trans (by kernel_rfl)
 f317 := func215.trans (by kernel_rfl)
 f318 := func216.trans (by kernel_rfl)
 f319 := func217.trans (by kernel_rfl)
 f320 := func218.trans (by kernel_rfl)
 f321 := func264.trans (by kernel_rfl)
 f322 := func265.trans (by kernel_rfl)
 f337 := func245.trans (by kernel_rfl)
 f338 := func246.trans (by kernel_rfl)
 t0 := underlying0
 a0 := isAgg0
 z0 := sizeOf0
 v0 := zeroValue0
 t2 := underlying2
 a2 := isAgg2
 z2 := sizeOf2
 v2 := zeroValue2
 t3 := underlying3
 a3 := isAgg3
 z3 := sizeOf3
 v3 := zeroValue3
 t4 := underlying4
 a4 := isAgg4
 z4 := sizeOf4
 v4 := zeroValue4
 t5 := underlying5
 a5 := isAgg5
 z5 := sizeOf5
 v5 := zeroValue5
 t9 := underlying9
 a9 := isAgg9
 z9 := sizeOf9
 v9 := zeroValue9
 t20 := underlying20
 a20 := isAgg20
 z20 := sizeOf20
 v20 := zeroValue20
 t21 := underlying21
 a21 := isAgg21
 z21 := sizeOf21
 v21 := zeroValue21
 t37 := underlying28
 a37 := isAgg28
 z37 := sizeOf28
 v37 := zeroValue28
 t46 := underlying166
 a46 := isAgg166
 z46 := sizeOf166
 v46 := zeroValue166
 t51 := underlying106
 a51 := isAgg106
 z51 := sizeOf106
 v51 := zeroValue106
 t53 := underlying201
 a53 := isAgg201
 z53 := sizeOf201
 v53 := zeroValue201
 t75 := underlying74
 a75 := isAgg74
 z75 := sizeOf74
 v75 := zeroValue74
 t76 := underlying75
 a76 := isAgg75
 z76 := sizeOf75
 v76 := zeroValue75
 t85 := underlying262
 a85 := isAgg262
 z85 := sizeOf262
 v85 := zeroValue262
 t127 := underlying120
 a127 := isAgg120
 z127 := sizeOf120
 v127 := zeroValue120
 t143 := underlying285
 a143 := isAgg285
 z143 := sizeOf285
 v143 := zeroValue285
 t145 := underlying287
 a145 := isAgg287
 z145 := sizeOf287
 v145 := zeroValue287
 t167 := underlying261
 a167 := isAgg261
 z167 := sizeOf261
 v167 := zeroValue261
 t168 := underlying264
 a168 := isAgg264
 z168 := sizeOf264
 v168 := zeroValue264
 t171 := underlying200
 a171 := isAgg200
 z171 := sizeOf200
 v171 := zeroValue200
 t173 := underlying204
 a173 := isAgg204
 z173 := sizeOf204
 v173 := zeroValue204
 t175 := underlying276
 a175 := isAgg276
 z175 := sizeOf276
 v175 := zeroValue276
 t210 := underlying279
 a210 := isAgg279
 z210 := sizeOf279
 v210 := zeroValue279
 t212 := underlying236
 a212 := isAgg236
 z212 := sizeOf236
 v212 := zeroValue236
 t213 := underlying237
 a213 := isAgg237
 z213 := sizeOf237
 t232 := underlying281
 a232 := isAgg281
 z232 := sizeOf281
 v232 := zeroValue281
 t233 := underlying282
 a233 := isAgg282
 z233 := sizeOf282
 v233 := zeroValue282
 g15 := by kernel_rfl
 g16 := by kernel_rfl
 g17 := by kernel_rfl
 g18 := by kernel_rfl
 g19 := by kernel_rfl
 t80 := underlying64
 a80 := isAgg64
 z80 := sizeOf64
 v80 := zeroValue64
 i0 := by kernel_rfl
 i2 := by kernel_rfl
 i3 := by kernel_rfl
 i4 := by kernel_rfl
 i5 := by kernel_rfl
 i9 := by kernel_rfl
 i20 := by kernel_rfl
 i21 := by kernel_rfl
 i37 := by kernel_rfl
 i46 := by kernel_rfl
 i51 := by kernel_rfl
 i53 := by kernel_rfl
 i75 := by kernel_rfl
 i76 := by kernel_rfl
 i80 := by kernel_rfl
 i85 := by kernel_rfl
 i127 := by kernel_rfl
 i143 := by kernel_rfl
 i145 := by kernel_rfl
 i167 := by kernel_rfl
 i168 := by kernel_rfl
 i171 := by kernel_rfl
 i173 := by kernel_rfl
 i175 := by kernel_rfl
 i210 := by kernel_rfl
 i212 := by kernel_rfl
 i232 := by kernel_rfl
 i233 := by kernel_rfl
 m15 := by kernel_rfl
 m16 := by kernel_rfl
 m17 := by kernel_rfl
 m18 := by kernel_rfl
 m19 := by kernel_rfl
 c0 := by kernel_rfl
 c2 := by kernel_rfl
 c3 := by kernel_rfl
 c4 := by kernel_rfl
 c5 := by kernel_rfl
 c9 := by kernel_rfl
 c20 := by kernel_rfl
 c21 := by kernel_rfl
 c37 := by kernel_rfl
 c46 := by kernel_rfl
 c51 := by kernel_rfl
 c53 := by kernel_rfl
 c75 := by kernel_rfl
 c76 := by kernel_rfl
 c80 := by kernel_rfl
 c85 := by kernel_rfl
 c127 := by kernel_rfl
 c143 := by kernel_rfl
 c145 := by kernel_rfl
 c167 := by kernel_rfl
 c168 := by kernel_rfl
 c171 := by kernel_rfl
 c173 := by kernel_rfl
 c175 := by kernel_rfl
 c210 := by kernel_rfl
 c212 := by kernel_rfl
 c213 := by kernel_rfl
 c232 := by kernel_rfl
 c233 := by kernel_rfl }
def Tryz.shIndexFunc_ren : Go.Shelf.Ren := ⟨fun | 6 => 134 | n => n, fun | 22 => 23 | 23 => 60 | 25 => 152 | 3 => 3 | 0 => 0 | 4 => 4 | n => n, fun | n => n⟩
theorem Tryz.shIndexFunc : Go.Proofs.SlLaysH0.n6 Tryz.prog Tryz.shIndexFunc_ren := {
 mixed := by kernel_rfl
 f6 := ⟨Tryz.f134.name, by decide, func134.trans (by kernel_rfl)⟩
 t0 := underlying0
 a0 := isAgg0
 z0 := sizeOf0
 v0 := zeroValue0
 t3 := underlying3
 a3 := isAgg3
 z3 := sizeOf3
 v3 := zeroValue3
 t4 := underlying4
 a4 := isAgg4
 z4 := sizeOf4
 v4 := zeroValue4
 t22 := underlying23
 a22 := isAgg23
 z22 := sizeOf23
 v22 := zeroValue23
 t25 := underlying152
 a25 := isAgg152
 z25 := sizeOf152
 v25 := zeroValue152 }
end Go.Proofs
namespace Go.Proofs.YtpbphdkjjoipnaaGreatDoor
open Go.Proofs.Tryz
open Go.RowKit
theorem cellsIntV : Tryz.prog.cellsOf 3 = 1 := by kernel_rfl
theorem J3 : Tryz.prog.cellsOf 9 = 1 := by kernel_rfl
theorem cellsVals : Tryz.prog.cellsOf 22 = 1 := by kernel_rfl
theorem cellsPairs : Tryz.prog.cellsOf 23 = 1 := by kernel_rfl
theorem Kw : Tryz.prog.cellsOf 25 = 5 := by kernel_rfl
theorem JN : Tryz.prog.cellsOf 60 = 6 := by kernel_rfl
section
variable {H : Type} {enc : TypeId × Value → H} {w : World} {held : Bool}
theorem be {P : Program} {e : TypeId} : ∀ {l : List (DataW H)} {d : DataW H} {k : Nat}, d ∈ l → k ∈ d.weights P e → k ∈ DataW.weightsAll P e l
 | [], _, _, h, _ => by cases h
 | a :: l, d, k, h, hk => by
  rw [DataW.weightsAll, List.mem_append]
  rcases List.mem_cons.1 h with rfl | h
  ·exact .inl hk
  ·exact .inr (be h hk)
theorem Zh {P : Program} {t : TypeId} {fs : Array Field} {xs : List (DataW H × List MemPlace)} (h : P.underlying t = some (.struct fs)) {j : Nat} {tt : TypeId} {y : DataW H × List MemPlace} {k : Nat} (ht : (fs.toList.map (·.type))[j]? = some tt) (hy : xs[j]? = some y) (hk : k ∈ y.1.weights P tt) : k ∈ (DataW.agg (xs.map (·.1)) : DataW H).weights P t := by
 rw [DataW.weights, h]
 exact DataW.weights_mem_each (j := j) ht (by rw [List.getElem?_map, hy]; rfl) k hk
theorem zad {P : Program} {t e size : Nat} (ht : P.underlying t = some (.slice e)) (hc : P.cellsOf e = size) (hpos : 0 < size) {fuel : Nat} {v : Value} {x : DataW H × List MemPlace} {B : Nat}
  (h : DataW.trod enc P w 0 (fun _ => true) held fuel t [v] = some x) (hw : ∀ k, k ∈ x.1.weights P t → k ≤ B) (hb : 0 < P.bytesOf e) :
  ∃ n xs, Slc w size v n xs ∧ n ≤ B ∧ (n = 0 ∨ ∃ m, fuel = m + 1 ∧ ∀ i, i < n → ∃ y, DataW.trod enc P w 0 (fun _ => true) held m e ((xs.drop (i * size)).take size) = some y ∧ ∀ k, k ∈ y.1.weights P e → k ≤ B) := by
 rcases DataW.trod_slice ht h with ⟨hcs, _⟩ | ⟨a, len, cap, elems, rest, m, hfuel, hcs, hxe, _, hl, hm, hel, hx, _⟩
 ·obtain rfl : v = .slice none 0 0 := by simpa using hcs
  exact ⟨0, [], jt _ _, Nat.zero_le _, .inl rfl⟩
 ·obtain rfl : v = .slice (some a) len cap := by simpa using hcs
  rw [hc] at hx
  by_cases h0 : len = 0
  ·subst h0
   exact ⟨0, [], ⟨by simp, .inr (.inl ⟨rfl, a, cap, rfl, hm⟩)⟩, Nat.zero_le _, .inl rfl⟩
  ·rw [hxe] at hw
   have hwe : (DataW.slice (elems.map (·.1)) (rest.map (·.1)) : DataW H).weights P t = ((elems.map (·.1)).length + (rest.map (·.1)).length) * P.bytesOf e :: (DataW.weightsAll P e (elems.map (·.1)) ++ DataW.weightsAll P e (rest.map (·.1))) := by
    rw [DataW.weights, ht]
   simp only at hw
   rw [hwe] at hw
   have hlenB : len ≤ B := by
    have h1 := hw _ (List.mem_cons_self ..)
    rw [List.length_map, List.length_map, hel] at h1
    have h2 : (len + rest.length) * 1 ≤ (len + rest.length) * P.bytesOf e := Nat.mul_le_mul_left _ hb
    omega
   have hx' : ∀ i, i < len → ∃ cs', w.cells? 0 (a.add (i * size)) size = some cs' ∧ ∃ y, DataW.trod enc P w 0 (fun _ => true) held m e cs' = some y ∧ ∀ k, k ∈ y.1.weights P e → k ≤ B := by
    intro i hi
    have h1 := hx i hi
    rw [List.getElem?_eq_getElem (by omega)] at h1
    obtain ⟨cs', h2, h3⟩ := Option.bind_eq_some_iff.1 h1
    exact ⟨cs', h2, _, h3, fun k hk => hw k (List.mem_cons_of_mem _ (List.mem_append_left _ (be (List.mem_map_of_mem (List.getElem_mem (by omega))) hk)))⟩
   have hcell : ∀ j, j < len * size → ∃ u, w.cell? (a.add j) = some u := by
    intro j hj
    have hi : j / size < len := Nat.div_lt_of_lt_mul (by rw [Nat.mul_comm]; exact hj)
    obtain ⟨cs', h1, _⟩ := hx' _ hi
    obtain ⟨_, h2, h3⟩ := World.cells?_some h1
    have hr := Nat.mod_lt j hpos
    have h4 := h3 _ hr
    rw [Deep.add_add, show j / size * size + j % size = j by rw [Nat.mul_comm]; exact Nat.div_add_mod j size] at h4
    rw [h4]
    exact ⟨cs'[j % size], by simp [h2, hr]⟩
   have hpos2 : 0 < len * size := Nat.mul_pos (by omega) hpos
   obtain ⟨u0, hu0⟩ := hcell 0 hpos2
   obtain ⟨g, o, spot⟩ := a
   have hspot : spot = none := by simpa [Addr.add] using World.cell?_spot hu0
   subst hspot
   have hlt : g < w.heap.size := by
    rcases Nat.lt_or_ge g w.heap.size with h | h
    ·exact h
    ·exfalso
     simp [World.cell?, Addr.add, Array.getElem?_eq_none h] at hu0
   refine ⟨len, (List.range (len * size)).map fun j => (w.cell? ⟨g, o + j, none⟩).getD (.bool false), ⟨by simp, .inr (.inr ⟨g, o, cap, rfl, hl, hm, ⟨?_, hlt⟩⟩)⟩, hlenB, .inr ⟨m, hfuel, ?_⟩⟩
   ·intro j u hu
    rw [List.getElem?_map] at hu
    by_cases hj : j < len * size
    ·obtain ⟨u', hu'⟩ := hcell j hj
     rw [vV] at hu'
     simp [hj, hu'] at hu
     rw [hu', hu]
    ·simp [hj] at hu
   ·intro i hi
    obtain ⟨cs', h1, h2⟩ := hx' i (by omega)
    obtain ⟨_, h3, h4⟩ := World.cells?_some h1
    have hle : i * size + size ≤ len * size := by
     have := Nat.mul_le_mul_right size (show i + 1 ≤ len by omega)
     rw [Nat.add_mul, Nat.one_mul] at this
     exact this
    have e1 : (((List.range (len * size)).map fun j => (w.cell? ⟨g, o + j, none⟩).getD (.bool false)).drop (i * size)).take size = cs' := by
     apply List.ext_getElem?
     intro r
     by_cases hr : r < size
     ·have h5 := h4 r hr
      rw [Deep.add_add, vV] at h5
      rw [List.getElem?_take, if_pos hr, List.getElem?_drop, List.getElem?_map, List.getElem?_range (by omega)]
      simp only [Option.map_some]
      rw [h5]
      simp [h3, hr]
     ·rw [List.getElem?_eq_none (by rw [List.length_take]; omega), List.getElem?_eq_none (by omega)]
    rw [e1]
    exact h2
theorem Ks {α : Type} {l : List α} (h : l.length = 5) : ∃ a b c d e, l = [a, b, c, d, e] := by
 match l, h with
 | [a, b, c, d, e], _ => exact ⟨a, b, c, d, e, rfl⟩
theorem list_sixV {α : Type} {l : List α} (h : l.length = 6) : ∃ a b c d e f, l = [a, b, c, d, e, f] := by
 match l, h with
 | [a, b, c, d, e, f], _ => exact ⟨a, b, c, d, e, f, rfl⟩
theorem texts_up {B : Nat} : ∀ (n : Nat) (v : V n), x9 B n v → x9 B (n + 1) (up n v)
 | 0, v, _ => nomatch v
 | n + 1, (v : VS (V n)), ⟨⟨h1, h2, h3⟩, h4, h5⟩ => by
  refine ⟨⟨h1, ?_, ?_⟩, ?_, ?_⟩
  ·show (v.l.map _).length ≤ B; rw [List.length_map]; exact h2
  ·show (v.m.map _).length ≤ B; rw [List.length_map]; exact h3
  ·intro p hp
   obtain ⟨q, hq, rfl⟩ := List.mem_map.1 hp
   exact h4 q hq
  ·intro x hx
   have hx' : x ∈ (VS.map (up n) v).kids := hx
   rw [VS.kids_map] at hx'
   obtain ⟨y, hy, rfl⟩ := List.mem_map.1 hx'
   exact texts_up n y (h5 y hy)
theorem jW.up {n B : Nat} {S : Nat → Prop} {cs : List Value} {v : V n} (h : jW n B S w cs v) : jW (n + 1) B S w cs (Go.Proofs.YtpbphdkjjoipnaaGreatDoor.up n v) := ⟨h.1.up, texts_up n v h.2⟩
def xJ (size : Nat) (xs : List Value) (n : Nat) : List (List Value) := (List.range n).map fun i => (xs.drop (i * size)).take size
theorem bd {size : Nat} : ∀ (n : Nat) (xs : List Value), xs.length = n * size → (xJ size xs n).flatten = xs
 | 0, xs, h => by
  rw [Nat.zero_mul] at h
  rw [List.eq_nil_of_length_eq_zero h]
  rfl
 | n + 1, xs, h => by
  have h' : (xs.drop size).length = n * size := by rw [List.length_drop, h, Nat.add_mul, Nat.one_mul]; omega
  have ih := bd n (xs.drop size) h'
  unfold xJ at ih ⊢
  rw [List.range_succ_eq_map, List.map_cons, List.flatten_cons, Nat.zero_mul, List.drop_zero, List.map_map]
  have e : ((fun i => (xs.drop (i * size)).take size) ∘ Nat.succ) = fun i => ((xs.drop size).drop (i * size)).take size := by
   funext i
   simp only [Function.comp, List.drop_drop]
   rw [show Nat.succ i * size = size + i * size by rw [Nat.succ_mul]; omega]
  rw [e, ih]
  exact List.take_append_drop size xs
def pairF (c : List Value) : ByteArray × List Value := (match c.head? with | some (.string s) => s | _ => ⟨#[]⟩, c.tail)
theorem Kf {B : Nat} : ∀ (fuel : Nat) {cs : List Value} {x : DataW H × List MemPlace}, DataW.trod enc Tryz.prog w 0 (fun _ => true) held fuel 25 cs = some x → (∀ k, k ∈ x.1.weights Tryz.prog 25 → k ≤ B) → ∃ v : V fuel, jW fuel B (fun g => g < w.heap.size) w cs v := by
 intro fuel
 induction fuel using Nat.strongRecOn with
 | ind fuel IH =>
  intro cs x h hw
  obtain ⟨xs, n, hfu, hxe, hl, hlen, hf⟩ := DataW.trod_struct underlying25 h
  subst hfu
  rw [Kw] at hl
  obtain ⟨c0, c1, c2, c3, c4, rfl⟩ := Ks hl
  obtain ⟨y0, y1, y2, y3, y4, rfl⟩ := Ks hlen
  have h0 : DataW.trod enc Tryz.prog w 0 (fun _ => true) held n 3 (([c0, c1, c2, c3, c4].drop 0).take (Tryz.prog.cellsOf 3)) = some y0 := hf 0 _ rfl
  have h1 : DataW.trod enc Tryz.prog w 0 (fun _ => true) held n 3 (([c0, c1, c2, c3, c4].drop 1).take (Tryz.prog.cellsOf 3)) = some y1 := hf 1 _ rfl
  have h2 : DataW.trod enc Tryz.prog w 0 (fun _ => true) held n 9 (([c0, c1, c2, c3, c4].drop 2).take (Tryz.prog.cellsOf 9)) = some y2 := hf 2 _ rfl
  have h3 : DataW.trod enc Tryz.prog w 0 (fun _ => true) held n 22 (([c0, c1, c2, c3, c4].drop 3).take (Tryz.prog.cellsOf 22)) = some y3 := hf 3 _ rfl
  have h4 : DataW.trod enc Tryz.prog w 0 (fun _ => true) held n 23 (([c0, c1, c2, c3, c4].drop 4).take (Tryz.prog.cellsOf 23)) = some y4 := hf 4 _ rfl
  rw [cellsIntV] at h0 h1
  rw [J3] at h2
  rw [cellsVals] at h3
  rw [cellsPairs] at h4
  have hwf : ∀ (j : Nat) (tt : TypeId) (y : DataW H × List MemPlace), ([3, 3, 9, 22, 23] : List TypeId)[j]? = some tt → [y0, y1, y2, y3, y4][j]? = some y → ∀ k, k ∈ y.1.weights Tryz.prog tt → k ≤ B := by
   intro j tt y ht hy k hk
   refine hw k ?_
   rw [hxe]
   exact Zh underlying25 ht hy hk
  obtain ⟨i, e0, _, w0⟩ := DataW.trod_int underlying3 (x := y0) h0
  obtain ⟨j, e1, _, w1⟩ := DataW.trod_int underlying3 (x := y1) h1
  obtain ⟨s, e2, f2, -⟩ := DataW.trod_string underlying9 (x := y2) h2
  have w2 : s.size ≤ B := by
   have h9 := hwf 2 _ y2 rfl rfl s.data.toList.length (by rw [f2]; show _ ∈ DataW.weights Tryz.prog 9 (.lit (.string s.data.toList)); simp [DataW.weights])
   simpa using h9
  have hL := zad (v := c3) (x := y3) underlying22 Kw (by decide) h3 (hwf 3 _ y3 rfl rfl) (by rw [show Tryz.prog.bytesOf 25 = 80 by kernel_rfl]; decide)
  have hM := zad (v := c4) (x := y4) underlying23 JN (by decide) h4 (hwf 4 _ y4 rfl rfl) (by rw [show Tryz.prog.bytesOf 60 = 96 by kernel_rfl]; decide)
  simp only [List.drop_zero, List.drop_succ_cons, List.take_succ_cons, List.take_zero, List.cons.injEq, and_true] at e0 e1 e2
  subst e0 e1 e2
  obtain ⟨nl, xl, sl, ml, hl⟩ := hL
  obtain ⟨nm, xm, sm, mm, hm⟩ := hM
  have gl : ∃ zl : List (V n), yc (jW n B (fun g => g < w.heap.size) w) (xJ 5 xl nl) zl := by
   refine yc.pick (R := fun (c : List Value) (k : Nat) => ∃ z : V n, jW n B (fun g => g < w.heap.size) w c z) _ (List.range nl) ⟨by simp [xJ], ?_⟩ (fun _ _ _ r => r)
   intro q c k hc hk
   have hq : q < nl := by
    have := (List.getElem?_eq_some_iff.1 hk).1
    simpa using this
   unfold xJ at hc
   rw [List.getElem?_map, List.getElem?_range hq] at hc
   simp only [Option.map_some, Option.some.injEq] at hc
   subst hc
   rcases hl with h0 | ⟨m, hm, hl⟩
   ·omega
   obtain ⟨y, hy, hwy⟩ := hl q hq
   obtain ⟨z, hz⟩ := IH m (by omega) hy hwy
   subst hm
   exact ⟨_, hz.up⟩
  have gm : ∃ zm : List (ByteArray × V n), yc (fun c (z : ByteArray × V n) => (c = .string z.1 :: c.tail ∧ jW n B (fun g => g < w.heap.size) w c.tail z.2) ∧ z.1.size ≤ B) (xJ 6 xm nm) zm := by
   refine yc.pick (R := fun (c : List Value) (k : Nat) => ∃ z : ByteArray × V n, (c = .string z.1 :: c.tail ∧ jW n B (fun g => g < w.heap.size) w c.tail z.2) ∧ z.1.size ≤ B) _ (List.range nm) ⟨by simp [xJ], ?_⟩ (fun _ _ _ r => r)
   intro q c k hc hk
   have hq : q < nm := by
    have := (List.getElem?_eq_some_iff.1 hk).1
    simpa using this
   unfold xJ at hc
   rw [List.getElem?_map, List.getElem?_range hq] at hc
   simp only [Option.map_some, Option.some.injEq] at hc
   subst hc
   rcases hm with h0 | ⟨m, hm', hm⟩
   ·omega
   obtain ⟨y, hy, hwy⟩ := hm q hq
   obtain ⟨ys, n2, hf2, hye, hl2, hlen2, hg2⟩ := DataW.trod_struct underlying60 hy
   rw [JN] at hl2
   revert hl2 hg2
   generalize (xm.drop (q * 6)).take 6 = c6
   intro hl2 hg2
   obtain ⟨d0, d1, d2, d3, d4, d5, rfl⟩ := list_sixV hl2
   obtain ⟨z0, z1, rfl⟩ : ∃ z0 z1, ys = [z0, z1] := by
    match ys, hlen2 with
    | [a, b], _ => exact ⟨a, b, rfl⟩
   have k0 : DataW.trod enc Tryz.prog w 0 (fun _ => true) held n2 9 (([d0, d1, d2, d3, d4, d5].drop 0).take (Tryz.prog.cellsOf 9)) = some z0 := hg2 0 _ rfl
   have k1 : DataW.trod enc Tryz.prog w 0 (fun _ => true) held n2 25 (([d0, d1, d2, d3, d4, d5].drop 1).take (Tryz.prog.cellsOf 25)) = some z1 := hg2 1 _ rfl
   rw [J3] at k0
   rw [Kw] at k1
   have hwp : ∀ (j : Nat) (tt : TypeId) (y' : DataW H × List MemPlace), ([9, 25] : List TypeId)[j]? = some tt → [z0, z1][j]? = some y' → ∀ k, k ∈ y'.1.weights Tryz.prog tt → k ≤ B := by
    intro j tt y' ht hy' k hk
    refine hwy k ?_
    rw [hye]
    exact Zh underlying60 ht hy' hk
   obtain ⟨s2, q0, f2', -⟩ := DataW.trod_string underlying9 (x := z0) k0
   simp only [List.drop_zero, List.take_succ_cons, List.take_zero, List.cons.injEq, and_true] at q0
   subst q0
   have q2 : s2.size ≤ B := by
    have h9 := hwp 0 _ z0 rfl rfl s2.data.toList.length (by rw [f2']; show _ ∈ DataW.weights Tryz.prog 9 (.lit (.string s2.data.toList)); simp [DataW.weights])
    simpa using h9
   have k1' : DataW.trod enc Tryz.prog w 0 (fun _ => true) held n2 25 [d1, d2, d3, d4, d5] = some z1 := k1
   obtain ⟨z, hz⟩ := IH n2 (by omega) k1' (hwp 1 _ z1 rfl rfl)
   subst hf2
   subst hm'
   exact ⟨(s2, Go.Proofs.YtpbphdkjjoipnaaGreatDoor.up _ (Go.Proofs.YtpbphdkjjoipnaaGreatDoor.up _ z)), ⟨rfl, hz.up.up⟩, q2⟩
  obtain ⟨zl, al⟩ := gl
  obtain ⟨zm, am⟩ := gm
  have el : zl.length = nl := by rw [← al.1]; simp [xJ]
  have em : zm.length = nm := by rw [← am.1]; simp [xJ]
  have getl : ∀ x, x ∈ zl → x9 B n x := fun x hx => by
   obtain ⟨j, hj, rfl⟩ := List.getElem_of_mem hx
   exact (al.2 j _ _ (List.getElem?_eq_getElem (by rw [al.1]; exact hj)) (List.getElem?_eq_getElem hj)).2
  have getm : ∀ p, p ∈ zm → x9 B n p.2 ∧ p.1.size ≤ B := fun x hx => by
   obtain ⟨j, hj, rfl⟩ := List.getElem_of_mem hx
   have := am.2 j _ _ (List.getElem?_eq_getElem (by rw [am.1]; exact hj)) (List.getElem?_eq_getElem hj)
   exact ⟨this.1.2.2, this.2⟩
  have hfix : ∀ c, c ∈ xJ 6 xm nm → zM (pairF c) = c := fun c hc => by
   obtain ⟨j, hj, rfl⟩ := List.getElem_of_mem hc
   have h5 := (am.2 j _ _ (List.getElem?_eq_getElem hj) (List.getElem?_eq_getElem (by rw [← am.1]; exact hj))).1.1
   rw [h5]
   rfl
  have hcm : zQ ((xJ 6 xm nm).map pairF) = xm := by
   rw [zP, List.map_map]
   have e : (xJ 6 xm nm).map (zM ∘ pairF) = xJ 6 xm nm := by
    conv => rhs; rw [← List.map_id (xJ 6 xm nm)]
    exact List.map_congr_left fun c hc => hfix c hc
   rw [e]
   exact bd nm xm sm.1
  have hcl : (xJ 5 xl nl).flatten = xl := bd nl xl sl.1
  refine ⟨(⟨i, j, s, zl, zm⟩ : VS (V n)), ⟨c3, c4, xJ 5 xl nl, (xJ 6 xm nm).map pairF, {
   cells := rfl
   slcl := by rw [el, hcl]; exact sl
   alll := al.mono fun _ _ _ r => r.1
   slcm := by rw [em, hcm]; exact sm
   allm := ?_
   inl := fun g hg => sl.lt hg
   inm := fun g hg => sm.lt hg
   wfk := w0
   wfn := w1 }⟩, ⟨w2, by rw [el]; exact ml, by rw [em]; exact mm⟩, fun p hp => (getm p hp).2, fun x hx => ?_⟩
  ·refine ⟨by rw [List.length_map]; exact am.1, ?_⟩
   intro q c z hc hz
   rw [List.getElem?_map, Option.map_eq_some_iff] at hc
   obtain ⟨c', hc', rfl⟩ := hc
   have h5 := (am.2 q c' z hc' hz).1
   refine ⟨?_, h5.2.1⟩
   rw [h5.1]
   rfl
  ·rcases List.mem_append.1 hx with hx | hx
   ·exact getl x hx
   ·obtain ⟨p, hp, rfl⟩ := List.mem_map.1 hx
    exact (getm p hp).1
end
end Go.Proofs.YtpbphdkjjoipnaaGreatDoor

/- Plain words on worlds: what is kept, what a slice of bytes reads as, what kind a block is. No program is in sight here. -/
import Derived.Test.YtfkdoinlbdcaaaaChecked
import Derived.WalkKit
import Derived.WalkSmall
import Derived.Maps.RangeWalk
import Derived.Maps.AppendAt
import Derived.Lib.Hide
namespace Go.Proofs.Ytfkdoinlbdcaaaa
open Go.RowKit

/-- How many bytes one slice takes at most. -/
def lim : Nat := 140737488351232

/-- What kind of thing a block is: of cells of type e: e and 2; a map: 1; else 0. -/
def kind (w : World) (k : Nat) : Nat :=
  match w.heap[k]? with
  | some (.cells _ e _) => e + 2
  | some (.map _ _) => 1
  | _ => 0

theorem kind_cells {w : World} {k : Nat} {c : Array Value} {e : Nat} {f : Nat × Nat} (h : w.heap[k]? = some (.cells c e f)) : kind w k = e + 2 := by simp [kind, h]
theorem kind_map {w : World} {k : Nat} {c : Array MapEntry} {e : Nat} (h : w.heap[k]? = some (.map c e)) : kind w k = 1 := by simp [kind, h]
theorem ne_kind {w : World} {a b x y : Nat} (ha : kind w a = x) (hb : kind w b = y) (h : x ≠ y) : a ≠ b := by
  intro e; subst e; exact h (ha.symm.trans hb)
theorem kind_lt {w : World} {k : Nat} (h : kind w k ≠ 0) : k < w.heap.size := by
  rcases Nat.lt_or_ge k w.heap.size with g | g
  · exact g
  · exact absurd (by simp [kind, Array.getElem?_eq_none g]) h

theorem cell_head {w : World} {b o : Nat} {cs : Array Value} {t : Nat} {f : Nat × Nat} {v : Value} (h : w.heap[b]? = some (.cells cs t f)) (hv : cs[o]? = some v) : w.cell? ⟨b, o, none⟩ = some v := by simp [World.cell?, h, hv]
theorem free_head {w : World} {b o : Nat} {cs : Array Value} {t : Nat} (h : w.heap[b]? = some (.cells cs t (0, 0))) : w.frozen? ⟨b, o, none⟩ = false := by simp [World.frozen?, h]

/-- Every block of w that is not in X is in w' as it was. -/
structure Kept (X : List Nat) (w w' : World) : Prop where
  os : w'.os = w.os
  tape : w'.tape = w.tape
  output : w'.output = w.output
  size : w.heap.size ≤ w'.heap.size
  block : ∀ k, k < w.heap.size → k ∉ X → w'.heap[k]? = w.heap[k]?

theorem Kept.refl (X : List Nat) (w : World) : Kept X w w := ⟨rfl, rfl, rfl, Nat.le_refl _, fun _ _ _ => rfl⟩
theorem Kept.mono {X Y : List Nat} {w w' : World} (h : Kept X w w') (hs : ∀ k, k ∈ X → k ∈ Y) : Kept Y w w' :=
  ⟨h.os, h.tape, h.output, h.size, fun k hk hx => h.block k hk (fun e => hx (hs k e))⟩
/-- Two steps; what the second one turns is in X, or was not there ahead of the first one. -/
theorem Kept.trans {X Y : List Nat} {a b c : World} (h : Kept X a b) (k : Kept Y b c) (hs : ∀ i, i ∈ Y → i ∈ X ∨ a.heap.size ≤ i) : Kept X a c :=
  ⟨k.os.trans h.os, k.tape.trans h.tape, k.output.trans h.output, Nat.le_trans h.size k.size, fun i hi hx =>
    (k.block i (Nat.lt_of_lt_of_le hi h.size) (fun e => by rcases hs i e with g | g; exact hx g; omega)).trans (h.block i hi hx)⟩
theorem Kept.trans' {X : List Nat} {a b c : World} (h : Kept X a b) (k : Kept X b c) : Kept X a c := h.trans k (fun _ e => .inl e)
theorem Kept.then {X : List Nat} {a b c : World} (h : Kept X a b) (k : Kept [] b c) : Kept X a c := h.trans k (fun _ e => by simp at e)
theorem Kept.drew {X : List Nat} {a w : World} (h : Kept X a w) : Kept X a w.drew := ⟨h.os, h.tape, h.output, h.size, h.block⟩
theorem Kept.drewN {X : List Nat} {a w : World} (h : Kept X a w) (n : Nat) : Kept X a (w.drewN n) := ⟨h.os, h.tape, h.output, h.size, h.block⟩
theorem Kept.alloc {X : List Nat} {a w : World} (h : Kept X a w) (o : Obj) : Kept X a (w.alloc o) :=
  h.then ⟨rfl, rfl, rfl, by simp, fun k hk _ => Below.heap_alloc _ _ _ hk⟩
theorem Kept.setCell {X : List Nat} {a w : World} (h : Kept X a w) {p : Addr} (hp : p.block ∈ X ∨ a.heap.size ≤ p.block) (u : Value) : Kept X a (w.setCell p u) :=
  h.trans (Y := [p.block]) ⟨rfl, rfl, rfl, by simp [World.setCell], fun k hk hx => Below.heap_setCell _ _ _ _ (by simpa using hx)⟩ (fun i e => by simp at e; subst e; exact hp)
theorem Kept.grown {X : List Nat} {a w w' : World} {row : Option Nat} (h : Kept X a w) (hg : w.grownBy w' row) (hr : ∀ k, row = some k → k ∈ X ∨ a.heap.size ≤ k) : Kept X a w' :=
  h.trans (Y := row.toList) ⟨hg.os, hg.tape, hg.output, hg.size, fun k hk hx => hg.block k hk (by intro e; apply hx; rw [← e]; simp)⟩ (fun i e => by simp at e; exact hr i e)
theorem Kept.of_below {w w' : World} (h : Below w.heap.size w w') : Kept [] w w' := ⟨h.os, h.tape, h.output, h.size, fun k hk _ => h.block k hk⟩
theorem Kept.below {X : List Nat} {w w' : World} {B : Nat} (h : Kept X w w') (hB : B ≤ w.heap.size) (hX : ∀ k, k ∈ X → B ≤ k) : Below B w w' :=
  ⟨h.os, h.tape, h.output, h.size, fun k hk => h.block k (by omega) (fun e => by have := hX k e; omega)⟩
theorem Kept.cell {X : List Nat} {w w' : World} (h : Kept X w w') {p : Addr} {u : Value} (hc : w.cell? p = some u) (hp : p.block ∉ X) : w'.cell? p = some u :=
  (World.cell?_of_block (h.block p.block (World.block_lt_of_cell? w p hc) hp)).trans hc
theorem Kept.frozen {X : List Nat} {w w' : World} (h : Kept X w w') {p : Addr} (hl : p.block < w.heap.size) (hp : p.block ∉ X) : w'.frozen? p = w.frozen? p :=
  World.frozen?_of_block (h.block p.block hl hp)
theorem Kept.kind {X : List Nat} {w w' : World} (h : Kept X w w') {k : Nat} (hl : k < w.heap.size) (hp : k ∉ X) : kind w' k = kind w k := by simp [Go.Proofs.Ytfkdoinlbdcaaaa.kind, h.block k hl hp]
theorem Kept.heap {X : List Nat} {w w' : World} (h : Kept X w w') {k : Nat} {o : Obj} (hk : w.heap[k]? = some o) (hp : k ∉ X) : w'.heap[k]? = some o :=
  (h.block k (lt_of_block hk) hp).trans hk

theorem wf64 {i : Int} (h0 : -9223372036854775808 ≤ i) (h1 : i ≤ 9223372036854775807) : (Lit.int .i64 i).wf = true := by
  have e0 : IntKind.i64.min = -9223372036854775808 := by decide
  have e1 : IntKind.i64.max = 9223372036854775807 := by decide
  show (decide (IntKind.i64.min ≤ i) && decide (i ≤ IntKind.i64.max)) = true
  rw [e0, e1, decide_eq_true h0, decide_eq_true h1]
  rfl

/-- A byte as a cell holds it. -/
def bv (b : UInt8) : Value := .int .u8 b.toNat
theorem bv_inj {a b : UInt8} (h : bv a = bv b) : a = b := by
  simp only [bv, Value.int.injEq, true_and] at h
  exact UInt8.toNat_inj.1 (by omega)
theorem bvs_one (l : List UInt8) : ∀ u ∈ l.map bv, u.oneCell' = true := by
  intro u hu
  obtain ⟨b, _, rfl⟩ := List.mem_map.1 hu
  rfl

/-- Cells one behind another, from offset o of block g on. -/
structure Row (w : World) (g o : Nat) (xs : List Value) : Prop where
  cells : ∀ j u, xs[j]? = some u → w.cell? ⟨g, o + j, none⟩ = some u
  lt : g < w.heap.size

theorem Row.kept {X : List Nat} {w w' : World} {g o : Nat} {xs : List Value} (h : Row w g o xs) (k : Kept X w w') (hg : g ∉ X) : Row w' g o xs :=
  ⟨fun j u e => k.cell (h.cells j u e) hg, Nat.lt_of_lt_of_le h.lt k.size⟩
theorem Row.at {w : World} {g o : Nat} {xs : List Value} (h : Row w g o xs) {j : Nat} (hj : j < xs.length) : w.cell? ⟨g, o + j, none⟩ = some xs[j] :=
  h.cells j _ (by simp [hj])
theorem Row.adds {w : World} {g o : Nat} {xs : List Value} (h : Row w g o xs) : ∀ j u, xs[j]? = some u → w.cell? ((⟨g, o, none⟩ : Addr).add j) = some u := by
  intro j u hu
  have := h.cells j u hu
  unfold Addr.add
  split
  · rename_i h0; subst h0; simpa using this
  · exact this
theorem Row.drop {w : World} {g o : Nat} {xs : List Value} (h : Row w g o xs) (k : Nat) : Row w g (o + k) (xs.drop k) := by
  refine ⟨?_, h.lt⟩
  intro j u hu
  rw [List.getElem?_drop] at hu
  rw [Nat.add_assoc]
  exact h.cells (k + j) u hu
theorem Row.take {w : World} {g o : Nat} {xs : List Value} (h : Row w g o xs) (k : Nat) : Row w g o (xs.take k) := by
  refine ⟨?_, h.lt⟩
  intro j u hu
  rw [List.getElem?_take] at hu
  split at hu
  · exact h.cells j u hu
  · cases hu
theorem Row.drew {w : World} {g o : Nat} {xs : List Value} (h : Row w g o xs) : Row w.drew g o xs := ⟨h.cells, h.lt⟩

/-- The block that a slice value leads to, if there is anything to be read behind it. -/
def vblk : Value → Option Nat
  | .slice (some a) (_ + 1) _ => some a.block
  | _ => none
theorem own_of_vblk {v : Value} {g : Nat} (h : vblk v = some g) : v.ownBlock = some g := by
  unfold vblk at h
  split at h
  · simpa [Value.ownBlock] using h
  · cases h
theorem vblk_len {a : Option Addr} {n c g : Nat} (h : vblk (.slice a n c) = some g) : 0 < n ∧ (Value.slice a n c).ownBlock = some g := by
  refine ⟨?_, own_of_vblk h⟩
  cases n with
  | zero => simp [vblk] at h
  | succ n => omega

theorem vblk_mk {a : Addr} {n c : Nat} (h : 0 < n) : vblk (.slice (some a) n c) = some a.block := by
  cases n with
  | zero => omega
  | succ n => rfl

/-- The slice value v has n elements of 'size' cells each, and these are the cells xs. (An empty one may lead anywhere.) -/
def Slc (w : World) (size : Nat) (v : Value) (n : Nat) (xs : List Value) : Prop :=
  xs.length = n * size ∧ ((v = .slice none 0 0 ∧ n = 0) ∨ (n = 0 ∧ ∃ a cap, v = .slice (some a) 0 cap ∧ cap ≤ maxLen) ∨ ∃ g o cap, v = .slice (some ⟨g, o, none⟩) n cap ∧ n ≤ cap ∧ cap ≤ maxLen ∧ Row w g o xs)

theorem Slc.kept {X : List Nat} {w w' : World} {size : Nat} {v : Value} {n : Nat} {xs : List Value} (h : Slc w size v n xs) (k : Kept X w w') (hg : ∀ g, vblk v = some g → g ∉ X) : Slc w' size v n xs := by
  refine ⟨h.1, ?_⟩
  rcases h.2 with h | h | ⟨g, o, cap, rfl, h1, h2, h3⟩
  · exact .inl h
  · exact .inr (.inl h)
  · cases n with
    | zero => exact .inr (.inl ⟨rfl, _, _, rfl, h2⟩)
    | succ n => exact .inr (.inr ⟨g, o, cap, rfl, h1, h2, h3.kept k (hg g rfl)⟩)
theorem Slc.kept0 {w w' : World} {size : Nat} {v : Value} {n : Nat} {xs : List Value} (h : Slc w size v n xs) (k : Kept [] w w') : Slc w' size v n xs := h.kept k (by simp)
theorem Slc.lt {w : World} {size : Nat} {v : Value} {n : Nat} {xs : List Value} (h : Slc w size v n xs) {g : Nat} (hg : vblk v = some g) : g < w.heap.size := by
  rcases h.2 with ⟨rfl, _⟩ | ⟨rfl, a, cap, rfl, _⟩ | ⟨g', o, cap, rfl, h1, h2, h3⟩
  · simp [vblk] at hg
  · simp [vblk] at hg
  · have := (vblk_len hg).2
    simp [Value.ownBlock] at this
    subst this
    exact h3.lt
theorem Slc.drew {w : World} {size : Nat} {v : Value} {n : Nat} {xs : List Value} (h : Slc w size v n xs) : Slc w.drew size v n xs := h.kept0 (Kept.refl _ _).drew
theorem slc_nil (w : World) (size : Nat) : Slc w size (.slice none 0 0) 0 [] := ⟨by simp, .inl ⟨rfl, rfl⟩⟩
/-- From the kit's word for a row of the call's own. -/
theorem Slc.of_row {w : World} {base e size : Nat} {v : Value} {n : Nat} {xs : List Value} (h : w.ownsRow base e size v n xs) : Slc w size v n xs := by
  refine ⟨h.1, ?_⟩
  rcases h.2 with h2 | ⟨g, cap, cur, hv, hg, hh, hc, hm, hs, ht⟩
  · exact .inl h2
  · subst hv
    refine .inr (.inr ⟨g, 0, cap, rfl, hc, hm, ⟨?_, lt_of_block hh⟩⟩)
    intro j u hu
    rw [cell_of_row w g (0 + j) cur e (0, 0) hh]
    rw [← ht, List.getElem?_take] at hu
    split at hu
    · simpa using hu
    · cases hu
theorem row_kind {w : World} {base e size : Nat} {v : Value} {n : Nat} {xs : List Value} (h : w.ownsRow base e size v n xs) {g : Nat} (hg : v.ownBlock = some g) : kind w g = e + 2 := by
  rcases h.2 with ⟨rfl, _⟩ | ⟨g', cap, cur, rfl, _, hh, _⟩
  · simp [Value.ownBlock] at hg
  · simp [Value.ownBlock] at hg
    subst hg
    exact kind_cells hh
theorem row_kept {X : List Nat} {w w' : World} {base e size : Nat} {v : Value} {n : Nat} {xs : List Value} (h : w.ownsRow base e size v n xs) (k : Kept X w w') (hg : ∀ g, v.ownBlock = some g → g ∉ X) : w'.ownsRow base e size v n xs := by
  refine ⟨h.1, ?_⟩
  rcases h.2 with h2 | ⟨g, cap, cur, hv, hb, hh, r⟩
  · exact .inl h2
  · exact .inr ⟨g, cap, cur, hv, hb, k.heap hh (hg g (by rw [hv]; rfl)), r⟩
theorem row_base {w : World} {base base' e size : Nat} {v : Value} {n : Nat} {xs : List Value} (h : w.ownsRow base e size v n xs) (hb : ∀ g, v.ownBlock = some g → base' ≤ g) : w.ownsRow base' e size v n xs := by
  refine ⟨h.1, ?_⟩
  rcases h.2 with h2 | ⟨g, cap, cur, hv, hb', hh, r⟩
  · exact .inl h2
  · exact .inr ⟨g, cap, cur, hv, hb g (by rw [hv]; rfl), hh, r⟩

/-- The slice value v reads as the bytes l. -/
abbrev Bytes (w : World) (v : Value) (l : List UInt8) : Prop := Slc w 1 v l.length (l.map bv)

/-- Two lists of one length, related place by place. -/
def All2 {α β : Type} (R : α → β → Prop) (xs : List α) (ys : List β) : Prop := xs.length = ys.length ∧ ∀ (j : Nat) (x : α) (y : β), xs[j]? = some x → ys[j]? = some y → R x y
theorem All2.nil {α β : Type} (R : α → β → Prop) : All2 R [] [] := ⟨rfl, by simp⟩
theorem All2.cons {α β : Type} {R : α → β → Prop} {x : α} {y : β} {xs : List α} {ys : List β} (h : R x y) (t : All2 R xs ys) : All2 R (x :: xs) (y :: ys) := by
  refine ⟨by simp [t.1], ?_⟩
  intro j a b ha hb
  cases j with
  | zero => simp at ha hb; subst ha; subst hb; exact h
  | succ j => simp at ha hb; exact t.2 j a b ha hb
theorem All2.mono {α β : Type} {R S : α → β → Prop} {xs : List α} {ys : List β} (h : All2 R xs ys) (hs : ∀ x y, x ∈ xs → R x y → S x y) : All2 S xs ys :=
  ⟨h.1, fun j x y hx hy => hs x y (List.mem_of_getElem? hx) (h.2 j x y hx hy)⟩
theorem All2.app {α β : Type} {R : α → β → Prop} {xs xs' : List α} {ys ys' : List β} (h : All2 R xs ys) (h' : All2 R xs' ys') : All2 R (xs ++ xs') (ys ++ ys') := by
  refine ⟨by simp [h.1, h'.1], ?_⟩
  intro j a b ha hb
  rw [List.getElem?_append] at ha hb
  rw [h.1] at ha
  split at ha
  · rename_i hj; rw [if_pos hj] at hb; exact h.2 j a b ha hb
  · rename_i hj; rw [if_neg hj] at hb; exact h'.2 _ a b ha hb
theorem All2.set {α β : Type} {R : α → β → Prop} {xs : List α} {ys : List β} (h : All2 R xs ys) (i : Nat) {x : α} {y : β} (hr : R x y) : All2 R (xs.set i x) (ys.set i y) := by
  refine ⟨by simp [h.1], ?_⟩
  intro j a b ha hb
  rw [List.getElem?_set] at ha hb
  split at ha
  · rename_i hij
    rw [if_pos hij] at hb
    split at ha
    · split at hb
      · cases ha; cases hb; exact hr
      · cases hb
    · cases ha
  · rename_i hij
    rw [if_neg hij] at hb
    exact h.2 j a b ha hb
theorem take_flat_succ {α : Type} (ls : List (List α)) (j : Nat) (h : j < ls.length) : (ls.take (j + 1)).flatten = (ls.take j).flatten ++ ls[j] := by
  rw [List.take_succ_eq_append_getElem h, List.flatten_append, List.flatten_cons, List.flatten_nil, List.append_nil]
theorem take_flat_le {α : Type} (ls : List (List α)) (j : Nat) : (ls.take j).flatten.length ≤ ls.flatten.length := by
  conv => rhs; rw [← List.take_append_drop j ls]
  rw [List.flatten_append, List.length_append]
  omega
/-- A slice value written out. -/
theorem Slc.form {w : World} {size : Nat} {v : Value} {n : Nat} {xs : List Value} (h : Slc w size v n xs) : ∃ a c, v = .slice a n c ∧ n ≤ c ∧ c ≤ maxLen := by
  rcases h.2 with ⟨rfl, rfl⟩ | ⟨rfl, a, cap, rfl, h2⟩ | ⟨g, o, cap, rfl, h1, h2, _⟩
  · exact ⟨_, _, rfl, Nat.le_refl _, by decide⟩
  · exact ⟨_, _, rfl, Nat.zero_le _, h2⟩
  · exact ⟨_, _, rfl, h1, h2⟩

/-- What is known of a slice type. -/
structure SliceTy (P : Program) (t e size bytes : Nat) (z : Value) : Prop where
  und : P.underlying t = some (.slice e)
  info : (P.info? e).map (fun i => (i.zero, i.size, i.bytes)) = some (some z, size, bytes)
  zs : z.cells.size = size
  pos : 0 < size

theorem addr_add (g o k : Nat) : (⟨g, o, none⟩ : Addr).add k = ⟨g, o + k, none⟩ := by
  unfold Addr.add
  split
  · rename_i h; subst h; rfl
  · rfl

/-- x[i:k] of a slice, whichever bounds stand there. -/
theorem Slc.cut {P : Program} {t e size bytes : Nat} {z : Value} (T : SliceTy P t e size bytes z) {w : World} {v : Value} {n : Nat} {xs : List Value} (h : Slc w size v n xs) (i k : Nat) (hi : i ≤ k) (hk : k ≤ n) :
    ∃ v', (∀ W, (Instr.slice t v (some (.int .i64 i)) (some (.int .i64 k)) none).run P W = .ok v' W) ∧ (k = n → ∀ W, (Instr.slice t v (some (.int .i64 i)) none none).run P W = .ok v' W) ∧
      (i = 0 → ∀ W, (Instr.slice t v none (some (.int .i64 k)) none).run P W = .ok v' W) ∧ Slc w size v' (k - i) ((xs.drop (i * size)).take ((k - i) * size)) ∧ (∀ g, vblk v' = some g → vblk v = some g) := by
  obtain ⟨inf, hinf, hz, hs, hb⟩ := info_parts T.info
  rcases h.2 with ⟨rfl, rfl⟩ | ⟨rfl, ad, cap, rfl, hm⟩ | ⟨g, o, cap, rfl, hc, hm, hr⟩
  · obtain rfl : k = 0 := by omega
    obtain rfl : i = 0 := by omega
    refine ⟨.slice none 0 0, fun W => ?_, fun _ W => ?_, fun _ W => ?_, by simp [Slc], by simp [vblk]⟩
    all_goals simp [Instr.slice, Instr.sliceBounds, Instr.sliceBound, asIntOf, run_underlying T.und, sizeOf, typeInfo, hinf]
  · obtain rfl : k = 0 := by omega
    obtain rfl : i = 0 := by omega
    have e0 : ad.add 0 = ad := by simp [Addr.add]
    refine ⟨.slice (some ad) 0 cap, fun W => ?_, fun _ W => ?_, fun _ W => ?_, ⟨by simp, .inr (.inl ⟨rfl, ad, cap, rfl, hm⟩)⟩, by simp [vblk]⟩
    all_goals simp [Instr.slice, Instr.sliceBounds, Instr.sliceBound, asIntOf, run_underlying T.und, sizeOf, typeInfo, hinf, e0]
  · have hk' : k ≤ cap := by omega
    have hi' : i ≤ cap := by omega
    refine ⟨.slice (if cap = i then some ⟨g, o, none⟩ else some ⟨g, o + i * size, none⟩) (k - i) (cap - i), fun W => ?_, fun e W => ?_, fun e W => ?_, ⟨?_, .inr (.inr ?_)⟩, ?_⟩
    · simp [Instr.slice, Instr.sliceBounds, Instr.sliceBound, asIntOf, run_underlying T.und, sizeOf, typeInfo, hinf, hs, hk', hi, addr_add]
    · subst e
      simp [Instr.slice, Instr.sliceBounds, Instr.sliceBound, asIntOf, run_underlying T.und, sizeOf, typeInfo, hinf, hs, hk', hi, addr_add]
    · subst e
      simp [Instr.slice, Instr.sliceBounds, Instr.sliceBound, asIntOf, run_underlying T.und, sizeOf, typeInfo, hinf, hs, hk', hi, addr_add]
    · rw [List.length_take, List.length_drop, h.1, ← Nat.sub_mul]
      have := Nat.mul_le_mul_right size (Nat.sub_le_sub_right hk i)
      omega
    · by_cases e : cap = i
      · rw [if_pos e]
        have e2 : (k - i) * size = 0 := by rw [show k - i = 0 by omega]; simp
        rw [e2, List.take_zero]
        exact ⟨g, o, cap - i, rfl, by omega, by omega, ⟨by simp, hr.lt⟩⟩
      · rw [if_neg e]
        exact ⟨g, o + i * size, cap - i, rfl, by omega, by omega, (hr.drop _).take _⟩
    · intro g' hg'
      obtain ⟨hpos, hob⟩ := vblk_len hg'
      have hgg : g' = g := by split at hob <;> simpa [Value.ownBlock, eq_comm] using hob
      subst hgg
      exact vblk_mk (by omega)

theorem Bytes.upto {P : Program} {t e bytes : Nat} {z : Value} (T : SliceTy P t e 1 bytes z) {w : World} {v : Value} {l : List UInt8} (h : Bytes w v l) (k : Nat) (hk : k ≤ l.length) :
    ∃ a c, (∀ W, (Instr.slice t v none (some (.int .i64 k)) none).run P W = .ok (.slice a k c) W) ∧ Bytes w (.slice a k c) (l.take k) ∧ (∀ g, vblk (Value.slice a k c) = some g → vblk v = some g) := by
  obtain ⟨v', -, -, h3, h4, h5⟩ := h.cut T 0 k (Nat.zero_le _) hk
  obtain ⟨a, c, rfl, -, -⟩ := h4.form
  have e1 : (l.take k).length = k := by rw [List.length_take]; omega
  refine ⟨a, c, h3 rfl, ?_, h5⟩
  unfold Bytes
  rw [e1, List.map_take]
  simpa using h4
theorem Bytes.from {P : Program} {t e bytes : Nat} {z : Value} (T : SliceTy P t e 1 bytes z) {w : World} {v : Value} {l : List UInt8} (h : Bytes w v l) (k : Nat) (hk : k ≤ l.length) :
    ∃ a c, (∀ W, (Instr.slice t v (some (.int .i64 k)) none none).run P W = .ok (.slice a (l.length - k) c) W) ∧ Bytes w (.slice a (l.length - k) c) (l.drop k) ∧ (∀ g, vblk (Value.slice a (l.length - k) c) = some g → vblk v = some g) := by
  obtain ⟨v', -, h3, -, h4, h5⟩ := h.cut T k l.length hk (Nat.le_refl _)
  obtain ⟨a, c, rfl, -, -⟩ := h4.form
  have e1 : (l.drop k).length = l.length - k := by rw [List.length_drop]
  refine ⟨a, c, h3 rfl, ?_, h5⟩
  unfold Bytes
  rw [e1, List.map_drop]
  have e2 : List.take ((l.length - k) * 1) (List.drop (k * 1) (l.map bv)) = List.drop k (l.map bv) := by
    rw [Nat.mul_one, Nat.mul_one]
    exact List.take_of_length_le (by rw [List.length_drop, List.length_map]; omega)
  rw [e2] at h4
  exact h4
theorem Bytes.mid {P : Program} {t e bytes : Nat} {z : Value} (T : SliceTy P t e 1 bytes z) {w : World} {v : Value} {l : List UInt8} (h : Bytes w v l) (i k : Nat) (hi : i ≤ k) (hk : k ≤ l.length) :
    ∃ a c, (∀ W, (Instr.slice t v (some (.int .i64 i)) (some (.int .i64 k)) none).run P W = .ok (.slice a (k - i) c) W) ∧ Bytes w (.slice a (k - i) c) ((l.drop i).take (k - i)) ∧ (∀ g, vblk (Value.slice a (k - i) c) = some g → vblk v = some g) := by
  obtain ⟨v', h3, -, -, h4, h5⟩ := h.cut T i k hi hk
  obtain ⟨a, c, rfl, -, -⟩ := h4.form
  have e1 : ((l.drop i).take (k - i)).length = k - i := by rw [List.length_take, List.length_drop]; omega
  refine ⟨a, c, h3, ?_, h5⟩
  unfold Bytes
  rw [e1, List.map_take, List.map_drop]
  simpa using h4

/-- append: whatever the source, onto a row of the call's own. -/
theorem run_append_slc {P : Program} {t e size bytes : Nat} {z : Value} (T : SliceTy P t e size bytes z) (w : World) (ty base : Nat) (v : Value) (n : Nat) (xs : List Value) (hown : w.ownsRow base e size v n xs)
    (vx : Value) (m : Nat) (news : List Value) (hsrc : Slc w size vx m news) (h1 : ∀ u ∈ news, u.oneCell' = true) (h63 : n + m ≤ maxLen) (hbytes : (n + m) * bytes ≤ 140737488355328) (hbase : base ≤ w.heap.size) :
    ∃ v' w', (Builtin.append_ #[t, t] ty #[v, vx]).run P w = .ok v' w' ∧ w'.ownsRow base e size v' (n + m) (xs ++ news) ∧ Kept v.ownBlock.toList w w' ∧
      (v' = .slice none 0 0 ↔ v = .slice none 0 0 ∧ m = 0) ∧ (v'.ownBlock = v.ownBlock ∨ v'.ownBlock = some w.heap.size) := by
  obtain ⟨i, hi, hz, hs, hb⟩ := info_parts T.info
  rcases hsrc.2 with ⟨rfl, rfl⟩ | ⟨rfl, ad, cap, rfl, hm⟩ | ⟨g, o, cap, rfl, hc, hm, hr⟩
  · have hnews : news = [] := List.eq_nil_of_length_eq_zero (by simpa using hsrc.1)
    subst hnews
    refine ⟨v, w, run_append_owned_none w base t ty e i size T.und hi v n xs hown, by simpa using hown, Kept.refl _ _, by simp, .inl rfl⟩
  · have hnews : news = [] := List.eq_nil_of_length_eq_zero (by simpa using hsrc.1)
    subst hnews
    obtain ⟨v', w', r1, r2, r3, r4, r5⟩ := run_append_own_at (P := P) w base t ty e i z size bytes T.und hi hz hs hb T.zs T.pos v n xs hown ad 0 cap [] hsrc.1 (by simp) h1 h63 hbytes hbase
    exact ⟨v', w', r1, r2, (Kept.refl _ _).grown r3 (fun k e => .inl (by simp [e])), r4, r5⟩
  · obtain ⟨v', w', r1, r2, r3, r4, r5⟩ := run_append_own_at (P := P) w base t ty e i z size bytes T.und hi hz hs hb T.zs T.pos v n xs hown ⟨g, o, none⟩ m cap news hsrc.1 hr.adds h1 h63 hbytes hbase
    exact ⟨v', w', r1, r2, (Kept.refl _ _).grown r3 (fun k e => .inl (by simp [e])), r4, r5⟩

/-- .. at the operation: first what is known of the row and of the source. -/
theorem wpList_append_slc {P : Program} {t e size bytes : Nat} {z : Value} (T : SliceTy P t e size bytes z) {w : World} {base : Nat} {v : Value} {n : Nat} {xs : List Value} (hown : w.ownsRow base e size v n xs)
    {vx : Value} {m : Nat} {news : List Value} (hsrc : Slc w size vx m news) (h1 : ∀ u ∈ news, u.oneCell' = true) (h63 : n + m ≤ maxLen) (hbytes : (n + m) * bytes ≤ 140737488355328) (hbase : base ≤ w.heap.size)
    {ops : Array Oper} {rest : List Oper} {o : Oper} {a : Act} {Q : Exit → Act → World → Prop} (hgd : o.guard = none) (s x : Operand)
    (ho : o.op = .call { callee := .builtin .append, args := #[s, x], argTypes := #[t, t] }) (hs : a.eval s = v) (hx : a.eval x = vx)
    (h : ∀ v' w', w'.ownsRow base e size v' (n + m) (xs ++ news) → Kept v.ownBlock.toList w w' → (v' = .slice none 0 0 ↔ v = .slice none 0 0 ∧ m = 0) → (v'.ownBlock = v.ownBlock ∨ v'.ownBlock = some w.heap.size) → wpList P ops Q rest (a.put o.dst v') w') :
    wpList P ops Q (o :: rest) a w := by
  refine wpList_plain hgd fun K hK => ?_
  obtain ⟨v', w', hr, h2, h3, h4, h5⟩ := run_append_slc T w o.type base v n xs hown vx m news hsrc h1 h63 hbytes hbase
  unfold Oper.wp execOp
  simp only [ho, resolve, invoke, builtin, Sem.run_bind, Sem.run_pure, Result.andThen_ok, List.map_toArray, List.map_cons, List.map_nil, hs, hx, hr]
  exact hK _ _ (h v' w' h2 h3 h4 h5)

/-- append of something: the new slice written out. -/
theorem run_append_pos {P : Program} {t e size bytes : Nat} {z : Value} (T : SliceTy P t e size bytes z) {w : World} {base : Nat} {v : Value} {n : Nat} {xs : List Value} (hown : w.ownsRow base e size v n xs)
    {vx : Value} {m : Nat} {news : List Value} (hsrc : Slc w size vx m news) (h1 : ∀ u ∈ news, u.oneCell' = true) (hm : 0 < m) (h63 : n + m ≤ maxLen) (hbytes : (n + m) * bytes ≤ 140737488355328) (hbase : base ≤ w.heap.size) (ty : Nat) :
    ∃ g cap w', (Builtin.append_ #[t, t] ty #[v, vx]).run P w = .ok (.slice (some ⟨g, 0, none⟩) (n + m) cap) w' ∧ w'.ownsRow base e size (.slice (some ⟨g, 0, none⟩) (n + m) cap) (n + m) (xs ++ news) ∧ Kept v.ownBlock.toList w w' ∧ (v.ownBlock = some g ∨ g = w.heap.size) := by
  obtain ⟨v', w', hr, h2, h3, h4, h5⟩ := run_append_slc T w ty base v n xs hown vx m news hsrc h1 h63 hbytes hbase
  rcases h2.2 with ⟨e1, e2⟩ | ⟨g, cap, cur, e1, _⟩
  · omega
  · subst e1
    refine ⟨g, cap, w', hr, h2, h3, ?_⟩
    rcases h5 with h5 | h5
    · exact .inl h5.symm
    · exact .inr (by simpa [Value.ownBlock] using h5)
theorem wpList_append_pos {P : Program} {t e size bytes : Nat} {z : Value} (T : SliceTy P t e size bytes z) {w : World} {base : Nat} {v : Value} {n : Nat} {xs : List Value} (hown : w.ownsRow base e size v n xs)
    {vx : Value} {m : Nat} {news : List Value} (hsrc : Slc w size vx m news) (h1 : ∀ u ∈ news, u.oneCell' = true) (hm : 0 < m) (h63 : n + m ≤ maxLen) (hbytes : (n + m) * bytes ≤ 140737488355328) (hbase : base ≤ w.heap.size)
    {ops : Array Oper} {rest : List Oper} {o : Oper} {a : Act} {Q : Exit → Act → World → Prop} (hgd : o.guard = none) (s x : Operand)
    (ho : o.op = .call { callee := .builtin .append, args := #[s, x], argTypes := #[t, t] }) (hs : a.eval s = v) (hx : a.eval x = vx)
    (h : ∀ g cap w', w'.ownsRow base e size (.slice (some ⟨g, 0, none⟩) (n + m) cap) (n + m) (xs ++ news) → Kept v.ownBlock.toList w w' → (v.ownBlock = some g ∨ g = w.heap.size) → wpList P ops Q rest (a.put o.dst (.slice (some ⟨g, 0, none⟩) (n + m) cap)) w') :
    wpList P ops Q (o :: rest) a w := by
  refine wpList_plain hgd fun K hK => ?_
  obtain ⟨g, cap, w', hr, h2, h3, h4⟩ := run_append_pos T hown hsrc h1 hm h63 hbytes hbase o.type
  unfold Oper.wp execOp
  simp only [ho, resolve, invoke, builtin, Sem.run_bind, Sem.run_pure, Result.andThen_ok, List.map_toArray, List.map_cons, List.map_nil, hs, hx, hr]
  exact hK _ _ (h g cap w' h2 h3 h4)
/-- .. at a step of a region that draws its order. -/
theorem step_append_pos {P : Program} {t e size bytes : Nat} {z : Value} (T : SliceTy P t e size bytes z) {w : World} {base : Nat} {v : Value} {n : Nat} {xs : List Value} (hown : w.ownsRow base e size v n xs)
    {vx : Value} {m : Nat} {news : List Value} (hsrc : Slc w size vx m news) (h1 : ∀ u ∈ news, u.oneCell' = true) (hm : 0 < m) (h63 : n + m ≤ maxLen) (hbytes : (n + m) * bytes ≤ 140737488355328) (hbase : base ≤ w.heap.size)
    {ops : Array Oper} {o : Oper} {a : Act} {K : Act → World → Prop} {Q : Exit → Act → World → Prop} {E : Prop} (hgd : o.guard = none) (s x : Operand)
    (ho : o.op = .call { callee := .builtin .append, args := #[s, x], argTypes := #[t, t] }) (hs : a.eval s = v) (hx : a.eval x = vx)
    (h : ∀ g cap w', w'.ownsRow base e size (.slice (some ⟨g, 0, none⟩) (n + m) cap) (n + m) (xs ++ news) → Kept v.ownBlock.toList w w' → (v.ownBlock = some g ∨ g = w.heap.size) → K (a.put o.dst (.slice (some ⟨g, 0, none⟩) (n + m) cap)) w') :
    if Region.wanted o (yielded ops a.tmps) = true then Oper.wp P o a w K Q else E := by
  have hw : Region.wanted o (yielded ops a.tmps) = true := by simp [Region.wanted, hgd]
  rw [if_pos hw]
  obtain ⟨g, cap, w', hr, h2, h3, h4⟩ := run_append_pos T hown hsrc h1 hm h63 hbytes hbase o.type
  unfold Oper.wp execOp
  simp only [ho, resolve, invoke, builtin, Sem.run_bind, Sem.run_pure, Result.andThen_ok, List.map_toArray, List.map_cons, List.map_nil, hs, hx, hr]
  exact h g cap w' h2 h3 h4
/-- One new cell as a source. -/
theorem slc_one (w : World) (x : Value) (t g : Nat) (hg : w.heap.size = g) : Slc (w.alloc (.cells #[x] t)) 1 (.slice (some ⟨g, 0, none⟩) 1 1) 1 [x] := by
  subst hg
  refine ⟨rfl, .inr (.inr ⟨w.heap.size, 0, 1, rfl, Nat.le_refl _, by decide, ?_, by simp⟩)⟩
  intro j u hu
  rw [Nat.zero_add, cell_of_row _ w.heap.size j #[x] t (0, 0) (heap_alloc_new w _)]
  simpa using hu

/-- A literal slice that was just made. -/
theorem slc_new (w : World) (xs : List Value) (size n t g : Nat) (hg : w.heap.size = g) (hl : xs.length = n * size) (hm : n ≤ maxLen) : Slc (w.alloc (.cells xs.toArray t)) size (.slice (some ⟨g, 0, none⟩) n n) n xs := by
  subst hg
  refine ⟨hl, .inr (.inr ⟨w.heap.size, 0, n, rfl, Nat.le_refl _, hm, ?_, by simp⟩)⟩
  intro j u hu
  rw [Nat.zero_add, cell_of_row _ w.heap.size j xs.toArray t (0, 0) (heap_alloc_new w _)]
  simpa using hu

/-! ### Maps whose elements are any values, by a token each -/
open Go.Maps (Keyed)
def heldE (v : Value) : Option (DataW Value × List MemPlace) := some (.held v, [])
/-- What a map holds at a key. -/
def look (D : DataW Value) (kl : Lit) : Option Value := match D.atKey kl .nil with | .held v => some v | _ => none
/-- Block b is a map of at most n entries; at the key kl it holds M kl. -/
def MapAt (P : Program) (w : World) (k b n : Nat) (M : Lit → Option Value) : Prop :=
  ∃ D, w.ownsMap P k heldE b n D ∧ ∀ kl, M kl = look D kl ∧ (Maps.has D kl = (M kl).isSome)

theorem isKey_of {P : Program} {k : TypeId} (K : Keyed P k) {key : Value} {kl : Lit} (h : keyOf P k key = some kl) : WideAt.IsKeyLit kl := K.key h
section
variable {P : Program} {w : World} {k b n : Nat} {M : Lit → Option Value}
theorem MapAt.kind (h : MapAt P w k b n M) : kind w b = 1 := by
  obtain ⟨D, ⟨es, clock, hb, _⟩, _⟩ := h
  exact kind_map hb
theorem MapAt.lt (h : MapAt P w k b n M) : b < w.heap.size := kind_lt (by rw [h.kind]; decide)
theorem MapAt.kept {X : List Nat} {w' : World} (h : MapAt P w k b n M) (hk : Kept X w w') (hb : b ∉ X) : MapAt P w' k b n M := by
  obtain ⟨D, ⟨es, clock, h1, h2⟩, h3⟩ := h
  exact ⟨D, ⟨es, clock, hk.heap h1 hb, h2⟩, h3⟩
theorem MapAt.kept0 {w' : World} (h : MapAt P w k b n M) (hk : Kept [] w w') : MapAt P w' k b n M := h.kept hk (List.not_mem_nil)
theorem MapAt.mono (h : MapAt P w k b n M) {n' : Nat} (hn : n ≤ n') : MapAt P w k b n' M := by
  obtain ⟨D, h1, h3⟩ := h
  exact ⟨D, h1.mono hn, h3⟩
theorem mapAt_made (P : Program) (w : World) (k : Nat) : MapAt P (w.alloc (.map #[] 0)) k w.heap.size 0 (fun _ => none) :=
  ⟨.map [], World.ownsMap_made _ _ _ _, fun kl => ⟨by simp [look, DataW.atKey], by simp [Maps.has]⟩⟩
/-- m[k], with ok or without it. -/
theorem MapAt.lookup {t e : TypeId} (h : MapAt P w k b n M) (K : Keyed P k) (ht : P.underlying t = some (.map k e)) {z : Value} (hz : (zeroValue e).run P w = .ok z w)
    {key : Value} {kl : Lit} (hkey : keyOf P k key = some kl) :
    (Instr.lookup t (.map (some b)) key true).run P w = .ok (.tuple #[(M kl).getD z, .bool (M kl).isSome]) w ∧ (Instr.lookup t (.map (some b)) key false).run P w = .ok ((M kl).getD z) w := by
  obtain ⟨D, ⟨es, clock, hb, F, hs, rfl⟩, h3⟩ := h
  obtain ⟨h3a, h3b⟩ := h3 kl
  have key1 : ∀ c, (Instr.lookup t (.map (some b)) key c).run P w = .ok (if c then .tuple #[(M kl).getD z, .bool (M kl).isSome] else (M kl).getD z) w := by
    intro c
    rcases Maps.fit_look c K ht hz hb F hkey with ⟨hrun, _, hat⟩ | ⟨e0, y, _, _, hrun, hRv, hat, _⟩
    · have h0 := Maps.has_false_of_atKey hat
      rw [h3b] at h0
      cases hM : M kl with
      | none => simpa [hM] using hrun
      | some v => simp [hM] at h0
    · have hy : y = (DataW.held e0.val, []) := by simpa [heldE, eq_comm] using hRv
      have hv : M kl = some e0.val := by rw [h3a, look, hat]; simp [hy]
      simpa [hv] using hrun
  exact ⟨by simpa using key1 true, by simpa using key1 false⟩
/-- m[k] = v. -/
theorem MapAt.update {t e : TypeId} (h : MapAt P w k b n M) (K : Keyed P k) (ht : P.underlying t = some (.map k e)) (hn : n < maxLen) {key : Value} {kl : Lit} (hkey : keyOf P k key = some kl) (val : Value) :
    ∃ w', (Instr.mapUpdate t (.map (some b)) key val).run P w = .ok () w' ∧ MapAt P w' k b (n + 1) (fun z => if z.sameKey kl then some val else M z) ∧ Kept [b] w w' ∧ w'.heap.size = w.heap.size := by
  obtain ⟨D, hown, h3⟩ := h
  obtain ⟨w', hrun, r1, r2⟩ := hown.store K ht hn hkey (val := val) (R := heldE) (d := .held val) (ps := []) rfl
  refine ⟨w', hrun, ⟨_, r1, ?_⟩, ?_, ?_⟩
  · intro z
    show (if z.sameKey kl then some val else M z) = look (D.put kl (.held val)) z ∧ Maps.has (D.put kl (.held val)) z = (if z.sameKey kl then some val else M z).isSome
    by_cases hz : z.sameKey kl = true
    · have hz' := WideAt.sameKey_eq hz
      subst hz'
      rw [if_pos hz]
      refine ⟨?_, Maps.has_put_same hown.isMap (isKey_of K hkey) _⟩
      rw [look, Maps.atKey_put_same hown.isMap (isKey_of K hkey)]
    · have hne : z ≠ kl := by
        intro e
        subst e
        exact hz (WideAt.sameKey_self (isKey_of K hkey))
      rw [if_neg hz]
      exact ⟨by rw [look, Maps.atKey_put_other hne]; exact (h3 z).1, by rw [Maps.has_put_other hne]; exact (h3 z).2⟩
  · exact (Kept.refl _ _).grown r2.grown (fun k e => by simp at e; simp [e])
  · obtain ⟨_, _, _, _, _, rfl⟩ := r2
    simp [Go.ChangeMaps.setBlock]
/-- Distinct things out of a list are no more than the list has. -/
theorem nodup_le {α : Type} [DecidableEq α] : ∀ (xs ys : List α), xs.Pairwise (· ≠ ·) → (∀ x, x ∈ xs → x ∈ ys) → xs.length ≤ ys.length
  | [], ys, _, _ => Nat.zero_le _
  | x :: xs, ys, hp, hs => by
    obtain ⟨h1, h2⟩ := List.pairwise_cons.1 hp
    have hx := hs x (List.mem_cons_self ..)
    have := nodup_le xs (ys.erase x) h2 (fun z hz => by
      have hne : z ≠ x := fun e => h1 z hz e.symm
      exact (List.mem_erase_of_ne hne).2 (hs z (List.mem_cons_of_mem _ hz)))
    rw [List.length_erase_of_mem hx] at this
    have hp : 0 < ys.length := List.length_pos_of_mem hx
    simp
    omega
/-- The bound anew: no more entries than there are keys that may be. -/
theorem MapAt.reset (h : MapAt P w k b n M) (K : Keyed P k) {α : Type} [DecidableEq α] (f : Lit → α) (ks : List α) (hks : ∀ kl, (∃ key, keyOf P k key = some kl) → (M kl).isSome → f kl ∈ ks)
    (hf : ∀ a c, (∃ key, keyOf P k key = some a) → (∃ key, keyOf P k key = some c) → f a = f c → a = c) : MapAt P w k b ks.length M := by
  obtain ⟨D, ⟨es, clock, hb, F, hs, rfl⟩, h3⟩ := h
  refine ⟨_, ⟨es, clock, hb, F, ?_, rfl⟩, h3⟩
  have hap := Maps.fit_apart K F
  have hkk := Maps.fit_keys F
  have e1 : es.size = ((es.toList.map (Go.WideElems.rg P k heldE)).map (fun p => f p.1)).length := by simp
  rw [e1]
  refine nodup_le _ _ ?_ ?_
  · rw [List.pairwise_map]
    exact (hap.imp_of_mem (fun {p q} hp hq hne => fun e => hne (hf _ _ (hkk p hp) (hkk q hq) e)))
  · intro x hx
    obtain ⟨p, hp, rfl⟩ := List.mem_map.1 hx
    refine hks p.1 (hkk p hp) ?_
    rw [← (h3 p.1).2]
    exact List.any_eq_true.2 ⟨p, mem_sorted.2 hp, WideAt.sameKey_self (by obtain ⟨key, hk⟩ := hkk p hp; exact K.key hk)⟩
/-- clear(m). -/
theorem MapAt.clear {t e : TypeId} (h : MapAt P w k b n M) (ht : P.underlying t = some (.map k e)) (ty : TypeId) :
    ∃ w', (Builtin.clear_ #[t] ty #[.map (some b)]).run P w = .ok (.tuple #[]) w' ∧ MapAt P w' k b 0 (fun _ => none) ∧ Kept [b] w w' ∧ w'.heap.size = w.heap.size := by
  obtain ⟨D, ⟨es, clock, hb, F, hs, rfl⟩, h3⟩ := h
  refine ⟨Go.ChangeMaps.setBlock w b (.map #[] clock), ?_, ⟨.map [], ⟨#[], clock, Go.ChangeMaps.heap_setBlock_same hb _, ⟨by simp, Go.MapKept.stamped_empty clock, by simp⟩, Nat.le_refl _, rfl⟩, fun kl => ⟨by simp [look, DataW.atKey], by simp [Maps.has]⟩⟩, ?_, by simp [Go.ChangeMaps.setBlock]⟩
  · simp [Builtin.clear_, run_underlying ht, MapKept.run_getObj_map hb, Result.andThen, Go.ChangeMaps.setBlock, setObj, Sem.run, hb]
  · exact ⟨rfl, rfl, rfl, by simp [Go.ChangeMaps.setBlock], fun k hk hx => Go.ChangeMaps.heap_setBlock_other hb _ (by simpa using hx)⟩
/-- A range over a map, under way. -/
def Going (P : Program) (w : World) (k b r n : Nat) (M : Lit → Option Value) (left : Lit → Bool) (cnt : Nat) : Prop :=
  ∃ D, w.ranges P k heldE b r n D left cnt ∧ ∀ kl, M kl = look D kl ∧ (Maps.has D kl = (M kl).isSome)
theorem Going.map {r : Nat} {left : Lit → Bool} {cnt : Nat} (h : Going P w k b r n M left cnt) : MapAt P w k b n M := by
  obtain ⟨D, h1, h3⟩ := h
  exact ⟨D, h1.owns, h3⟩
theorem Going.kept {r : Nat} {left : Lit → Bool} {cnt : Nat} (h : Going P w k b r n M left cnt) {X : List Nat} {w' : World} (hk : Kept X w w') (hb : b ∉ X) (hr : r ∉ X) : Going P w' k b r n M left cnt := by
  obtain ⟨D, ⟨es, clock, since, seen, c0, h1, h2, h4, h5, h6, rest⟩, h3⟩ := h
  exact ⟨D, ⟨es, clock, since, seen, c0, hk.heap h1 hb, h2, h4, h5, hk.heap h6 hr, rest⟩, h3⟩
theorem Going.lt {r : Nat} {left : Lit → Bool} {cnt : Nat} (h : Going P w k b r n M left cnt) : r < w.heap.size := by obtain ⟨D, h1, _⟩ := h; exact h1.lt
theorem Going.left_eq {r : Nat} {left : Lit → Bool} {cnt : Nat} (h : Going P w k b r n M left cnt) : w.rangeLeft b r = cnt := by obtain ⟨D, h1, _⟩ := h; exact h1.left_eq
theorem MapAt.range {t e : TypeId} (h : MapAt P w k b n M) (K : Keyed P k) (ht : P.underlying t = some (.map k e)) :
    ∃ w' cnt, (Instr.range t (.map (some b))).run P w = .ok (.pointer (some ⟨w.heap.size, 0, none⟩)) w' ∧ Going P w' k b w.heap.size n M (fun kl => (M kl).isSome) cnt ∧ Kept [] w w' := by
  obtain ⟨D, hown, h3⟩ := h
  obtain ⟨w', h1, h2, h4, h5⟩ := hown.range K ht
  have e1 : Maps.has D = fun kl => (M kl).isSome := funext fun kl => (h3 kl).2
  rw [e1] at h2
  exact ⟨w', _, h1, ⟨D, h2, h3⟩, (Kept.refl _ _).grown h4 (by simp)⟩
theorem Going.next {r : Nat} {left : Lit → Bool} {cnt : Nat} (h : Going P w k b r n M left cnt) (K : Keyed P k) (ty : TypeId) :
    (cnt = 0 ∧ (∀ kl, left kl = false) ∧ (Instr.next (.pointer (some ⟨r, 0, none⟩)) false ty).run P w = .ok (.tuple #[.bool false]) w) ∨
    ∃ key v kl w' cnt', keyOf P k key = some kl ∧ left kl = true ∧ M kl = some v ∧ (Instr.next (.pointer (some ⟨r, 0, none⟩)) false ty).run P w = .ok (.tuple #[.bool true, key, v]) w' ∧
      Going P w' k b r n M (fun x => left x && !x.sameKey kl) cnt' ∧ cnt' < cnt ∧ Kept [r] w w' ∧ w'.heap.size = w.heap.size ∧ (Instr.entry (.pointer (some ⟨r, 0, none⟩))).run P w' = .ok (.tuple #[key, v]) w' := by
  obtain ⟨D, h1, h3⟩ := h
  rcases h1.next K ty with ⟨a, c, d⟩ | ⟨key, v, kl, y, w', cnt', a1, a2, a3, a4, a5, a6, a7, a8, a9, a10⟩
  · exact .inl ⟨a, c, d⟩
  · refine .inr ⟨key, v, kl, w', cnt', a1, a2, ?_, a5, ⟨D, a6, h3⟩, a7, (Kept.refl _ _).grown a8 (fun k e => by simp at e; simp [e]), a9, a10⟩
    have hy : y = (DataW.held v, []) := by simpa [heldE, eq_comm] using a3
    rw [(h3 kl).1, look, a4]
    simp [hy]
end
end Go.Proofs.Ytfkdoinlbdcaaaa

/- Parts of one proof, merged: XKG XShS XKM. -/
import Derived.Test.YtckbnjipecclaaaGreatDoorHkL
import Derived.Test.YtckbnjipecclaaaGreatDoorHkB
import Derived.Shelf.SlSortCmp.WholeK
import Derived.Shelf.SlGeneric
import Derived.Ground.SlsfProg
import Derived.Test.YtckbnjipecclaaaGreatDoorProg
import Derived.Test.YtckbnjipecclaaaGreatDoorHkH
set_option linter.all false
set_option maxHeartbeats 12800000
set_option maxRecDepth 10000
set_option linter.unusedVariables false
set_option linter.unusedSimpArgs false
set_option linter.unnecessarySimpa false
namespace Go.Proofs.YtckbnjipecclaaaGreatDoor
open Go.RowKit
def valA (k m : Int) (s : ByteArray) (a b : Value) : Array Value := #[.int .i64 k, .int .i64 m, .string s, a, b]
def OwnRep : (n : Nat) → Nat → World → List Value → V n → Prop
 | 0, _, _, _, _ => False
 | n + 1, B, w, cs, (v : VS (V n)) => ∃ vl vm lcs mcs, cs = [.int .i64 v.kind, .int .i64 v.num, .string v.s, vl, vm] ∧
     w.ownsRow B 28 5 vl v.l.length lcs.flatten ∧ All2 (Rep n (fun g => B ≤ g ∧ vl.ownBlock ≠ some g ∧ vm.ownBlock ≠ some g) w) lcs v.l ∧
     w.ownsRow B 78 6 vm v.m.length (pairCs mcs) ∧ All2 (pairR (Rep n (fun g => B ≤ g ∧ vl.ownBlock ≠ some g ∧ vm.ownBlock ≠ some g) w)) mcs v.m ∧
     (Lit.int .i64 v.kind).wf = true ∧ (Lit.int .i64 v.num).wf = true
theorem OwnRep.rep : ∀ {n : Nat} {B : Nat} {w : World} {cs : List Value} {v : V n}, OwnRep n B w cs v → Rep n (fun g => B ≤ g) w cs v
 | 0, _, _, _, _, h => h.elim
 | n + 1, B, w, cs, v, h => by
  obtain ⟨vl, vm, lcs, mcs, h1, h2, h3, h4, h5, h6, h7⟩ := h
  exact ⟨vl, vm, lcs, mcs, {
   cells := h1
   slcl := Slc.of_row h2
   alll := h3.mono fun _ _ _ r => r.mono (fun _ _ q => q.1)
   slcm := Slc.of_row h4
   allm := h5.mono fun _ _ _ r => ⟨r.1, r.2.mono (fun _ _ q => q.1)⟩
   inl := fun g hg => (h2.lt g (own_of_vblk hg)).1
   inm := fun g hg => (h4.lt g (own_of_vblk hg)).1
   wfk := h6
   wfn := h7 }⟩
theorem All2.snoc {α β : Type} {R : α → β → Prop} {xs : List α} {ys : List β} {x : α} {y : β} (h : All2 R xs ys) (hr : R x y) : All2 R (xs ++ [x]) (ys ++ [y]) := h.app ((All2.nil R).cons hr)
def OwnKids {α : Type} (R : (Nat → Prop) → List Value → α → Prop) : (Nat → Prop) → List (List Value) → List α → Prop
 | _, [], [] => True
 | P, c :: cs, x :: xs => ∃ Q : Nat → Prop, (∀ g, Q g → P g) ∧ R Q c x ∧ OwnKids R (fun g => P g ∧ ¬ Q g) cs xs
 | _, _, _ => False
def OwnD : (n : Nat) → (Nat → Prop) → World → List Value → V n → Prop
 | 0, _, _, _, _ => False
 | n + 1, S, w, cs, (v : VS (V n)) => ∃ vl vm lcs mcs, cs = [.int .i64 v.kind, .int .i64 v.num, .string v.s, vl, vm] ∧
     w.ownsRow 0 28 5 vl v.l.length lcs.flatten ∧ w.ownsRow 0 78 6 vm v.m.length (pairCs mcs) ∧ lcs.length = v.l.length ∧ mcs.map (fun p => p.1) = v.m.map (fun p => p.1) ∧
     (∀ g, vl.ownBlock = some g → S g) ∧ (∀ g, vm.ownBlock = some g → S g) ∧
     OwnKids (fun Q c x => OwnD n Q w c x) (fun g => S g ∧ vl.ownBlock ≠ some g ∧ vm.ownBlock ≠ some g) (lcs ++ mcs.map (fun p => p.2)) v.kids ∧
     (Lit.int .i64 v.kind).wf = true ∧ (Lit.int .i64 v.num).wf = true
section
variable {α : Type} {R R' : (Nat → Prop) → List Value → α → Prop}
theorem OwnKids.mono : ∀ {P P' : Nat → Prop} {cs : List (List Value)} {xs : List α}, OwnKids R P cs xs → (∀ g, P g → P' g) → OwnKids R P' cs xs
 | _, _, [], [], _, _ => trivial
 | P, P', c :: cs, x :: xs, ⟨Q, h1, h2, h3⟩, h => ⟨Q, fun g q => h g (h1 g q), h2, OwnKids.mono h3 (fun g q => ⟨h g q.1, q.2⟩)⟩
 | _, _, [], _ :: _, h, _ => h.elim
 | _, _, _ :: _, [], h, _ => h.elim
theorem OwnKids.imp : ∀ {P : Nat → Prop} {cs : List (List Value)} {xs : List α}, OwnKids R P cs xs → (∀ Q c x, (∀ g, Q g → P g) → R Q c x → R' Q c x) → OwnKids R' P cs xs
 | _, [], [], _, _ => trivial
 | P, c :: cs, x :: xs, ⟨Q, h1, h2, h3⟩, h => ⟨Q, h1, h Q c x h1 h2, OwnKids.imp h3 (fun Q' c x hq r => h Q' c x (fun g q => (hq g q).1) r)⟩
 | _, [], _ :: _, h, _ => h.elim
 | _, _ :: _, [], h, _ => h.elim
theorem OwnKids.app : ∀ {P Q : Nat → Prop} {cs ds : List (List Value)} {xs ys : List α}, OwnKids R P cs xs → OwnKids R Q ds ys → (∀ g, Q g → ¬ P g) → OwnKids R (fun g => P g ∨ Q g) (cs ++ ds) (xs ++ ys)
 | P, Q, [], ds, [], ys, _, hr, _ => hr.mono (fun _ q => .inr q)
 | P, Q, d :: cs, ds, y :: xs, ys, ⟨Q1, h1, h2, h3⟩, hr, hd => ⟨Q1, fun g q => .inl (h1 g q), h2, (OwnKids.app h3 hr (fun g q p => hd g q p.1)).mono (fun g q => by
   rcases q with q | q
   ·exact ⟨.inl q.1, q.2⟩
   ·exact ⟨.inr q, fun q1 => hd g q (h1 g q1)⟩)⟩
 | _, _, [], _, _ :: _, _, h, _, _ => h.elim
 | _, _, _ :: _, _, [], _, h, _, _ => h.elim
theorem OwnKids.snoc {P Q : Nat → Prop} {cs : List (List Value)} {xs : List α} {c : List Value} {x : α} (h : OwnKids R P cs xs) (hr : R Q c x) (hd : ∀ g, Q g → ¬ P g) : OwnKids R (fun g => P g ∨ Q g) (cs ++ [c]) (xs ++ [x]) :=
 h.app (Q := Q) ⟨Q, fun _ q => q, hr, trivial⟩ hd
theorem OwnKids.len : ∀ {P : Nat → Prop} {cs : List (List Value)} {xs : List α}, OwnKids R P cs xs → cs.length = xs.length
 | _, [], [], _ => rfl
 | P, c :: cs, x :: xs, ⟨Q, h1, h2, h3⟩ => by rw [List.length_cons, List.length_cons, OwnKids.len h3]
 | _, [], _ :: _, h => h.elim
 | _, _ :: _, [], h => h.elim
theorem OwnKids.one : ∀ {P : Nat → Prop} {cs : List (List Value)} {xs : List α}, OwnKids R P cs xs → ∀ (i : Nat) (c : List Value) (x : α), cs[i]? = some c → xs[i]? = some x → ∃ Q : Nat → Prop, (∀ g, Q g → P g) ∧ R Q c x
 | _, [], [], _, i, _, _, h, _ => by simp at h
 | P, d :: cs, y :: xs, ⟨Q, h1, h2, h3⟩, i, c, x, hc, hx => by
  cases i with
  | zero => simp at hc hx; subst hc; subst hx; exact ⟨Q, h1, h2⟩
  | succ i =>
   obtain ⟨Q', q1, q2⟩ := OwnKids.one h3 i c x (by simpa using hc) (by simpa using hx)
   exact ⟨Q', fun g q => (q1 g q).1, q2⟩
 | _, [], _ :: _, h, _, _, _, _, _ => h.elim
 | _, _ :: _, [], h, _, _, _, _, _ => h.elim
end
theorem OwnD.kept : ∀ {n : Nat} {S : Nat → Prop} {X : List Nat} {w w' : World} {cs : List Value} {v : V n}, OwnD n S w cs v → Kept X w w' → (∀ k, k ∈ X → ¬ S k) → OwnD n S w' cs v
 | 0, _, _, _, _, _, _, h, _, _ => h.elim
 | n + 1, S, X, w, w', cs, v, h, k, hX => by
  obtain ⟨vl, vm, lcs, mcs, h1, h2, h3, h4, h5, h6, h7, h8, h9⟩ := h
  exact ⟨vl, vm, lcs, mcs, h1, row_kept h2 k (fun g hg hx => hX g hx (h6 g hg)), row_kept h3 k (fun g hg hx => hX g hx (h7 g hg)), h4, h5, h6, h7,
   h8.imp (fun Q c x hq r => OwnD.kept r k (fun b hb q => hX b hb (hq b q).1)), h9⟩
theorem OwnD.kept0 {n : Nat} {S : Nat → Prop} {w w' : World} {cs : List Value} {v : V n} (h : OwnD n S w cs v) (k : Kept [] w w') : OwnD n S w' cs v := h.kept k (by simp)
theorem OwnD.mono : ∀ {n : Nat} {S T : Nat → Prop} {w : World} {cs : List Value} {v : V n}, OwnD n S w cs v → (∀ g, S g → T g) → OwnD n T w cs v
 | 0, _, _, _, _, _, h, _ => h.elim
 | n + 1, S, T, w, cs, v, h, hT => by
  obtain ⟨vl, vm, lcs, mcs, h1, h2, h3, h4, h5, h6, h7, h8, h9⟩ := h
  exact ⟨vl, vm, lcs, mcs, h1, h2, h3, h4, h5, fun g q => hT g (h6 g q), fun g q => hT g (h7 g q), h8.mono (fun g q => ⟨hT g q.1, q.2⟩), h9⟩
theorem pick_l {α : Type} {v : VS α} {lcs : List (List Value)} {mcs : List (ByteArray × List Value)} (h4 : lcs.length = v.l.length) {i : Nat} (hi : i < v.l.length) : (lcs ++ mcs.map (fun p => p.2))[i]? = lcs[i]? ∧ v.kids[i]? = v.l[i]? := by
 unfold VS.kids
 rw [List.getElem?_append_left (by omega), List.getElem?_append_left hi]
 exact ⟨rfl, rfl⟩
theorem pick_m {α : Type} {v : VS α} {lcs : List (List Value)} {mcs : List (ByteArray × List Value)} (h4 : lcs.length = v.l.length) (i : Nat) : (lcs ++ mcs.map (fun p => p.2))[v.l.length + i]? = (mcs[i]?).map (fun p => p.2) ∧ v.kids[v.l.length + i]? = (v.m[i]?).map (fun p => p.2) := by
 unfold VS.kids
 rw [List.getElem?_append_right (by omega), List.getElem?_append_right (by omega), h4, Nat.add_sub_cancel_left, List.getElem?_map, List.getElem?_map]
 exact ⟨rfl, rfl⟩
theorem mcs_len {α : Type} {v : VS α} {mcs : List (ByteArray × List Value)} (h5 : mcs.map (fun p => p.1) = v.m.map (fun p => p.1)) : mcs.length = v.m.length := by
 have := congrArg List.length h5
 simpa using this
theorem mcs_key {α : Type} {v : VS α} {mcs : List (ByteArray × List Value)} (h5 : mcs.map (fun p => p.1) = v.m.map (fun p => p.1)) {j : Nat} {p : ByteArray × List Value} {q : ByteArray × α} (hp : mcs[j]? = some p) (hq : v.m[j]? = some q) : p.1 = q.1 := by
 have := congrArg (fun l => l[j]?) h5
 simp only [List.getElem?_map, hp, hq, Option.map_some, Option.some.injEq] at this
 exact this
theorem OwnD.rep : ∀ {n : Nat} {S : Nat → Prop} {w : World} {cs : List Value} {v : V n}, OwnD n S w cs v → Rep n S w cs v
 | 0, _, _, _, _, h => h.elim
 | n + 1, S, w, cs, v, h => by
  obtain ⟨vl, vm, lcs, mcs, h1, h2, h3, h4, h5, h6, h7, h8, h9, h10⟩ := h
  exact ⟨vl, vm, lcs, mcs, {
   cells := h1
   slcl := Slc.of_row h2
   alll := ⟨h4, fun j c x hc hx => by
    have hj : j < (VS.l (α := V n) v).length := (List.getElem?_eq_some_iff.1 hx).1
    obtain ⟨e1, e2⟩ := pick_l (mcs := mcs) h4 hj
    obtain ⟨Q, q1, q2⟩ := h8.one j c x (e1.trans hc) (e2.trans hx)
    exact (OwnD.rep q2).mono (fun g _ q => (q1 g q).1)⟩
   slcm := Slc.of_row h3
   allm := ⟨mcs_len h5, fun j p q hp hq => ⟨mcs_key h5 hp hq, by
    obtain ⟨e1, e2⟩ := pick_m (v := v) (mcs := mcs) h4 j
    obtain ⟨Q, q1, q2⟩ := h8.one _ p.2 q.2 (e1.trans (by rw [hp]; rfl)) (e2.trans (by rw [hq]; rfl))
    exact (OwnD.rep q2).mono (fun g _ q => (q1 g q).1)⟩⟩
   inl := fun g hg => h6 g (own_of_vblk hg)
   inm := fun g hg => h7 g (own_of_vblk hg)
   wfk := h9
   wfn := h10 }⟩
structure CloneDL {n : Nat} (W : World) (b3 : Nat) (v : VS (V n)) (k : Nat) (wr : World) (vl : Value) (lcs : List (List Value)) : Prop where
 blk : wr.heap[b3]? = some (.cells (valA v.kind v.num v.s vl (.slice none 0 0)) 28 (0, 0))
 row : wr.ownsRow W.heap.size 28 5 vl k lcs.flatten
 all : OwnKids (fun Q c x => OwnD n Q wr c x) (fun g => W.heap.size ≤ g ∧ g < wr.heap.size ∧ vl.ownBlock ≠ some g) lcs (v.l.take k)
 kept : Kept [b3] W wr
structure CloneDM {n : Nat} (W : World) (b3 : Nat) (v : VS (V n)) (vl : Value) (k : Nat) (wr : World) (vm : Value) (mcs : List (ByteArray × List Value)) : Prop where
 blk : wr.heap[b3]? = some (.cells (valA v.kind v.num v.s vl vm) 28 (0, 0))
 row : wr.ownsRow W.heap.size 78 6 vm k (pairCs mcs)
 all : OwnKids (fun Q c x => OwnD n Q wr c x) (fun g => W.heap.size ≤ g ∧ g < wr.heap.size ∧ vm.ownBlock ≠ some g) (mcs.map (fun p => p.2)) ((v.m.take k).map (fun p => p.2))
 keys : mcs.map (fun p => p.1) = (v.m.take k).map (fun p => p.1)
 kept : Kept [b3] W wr
def CloneDKnown (n : Nat) : Prop := ∀ (v : V n) {S : Nat → Prop} {w : World} {cs : List Value}, Rep n S w cs v → Small n v →
    Calls Tryz.prog 87 #[.agg cs.toArray] w fun e w' => (∃ cs' : List Value, e = .returned (.agg cs'.toArray) ∧ OwnD n (fun g => w.heap.size ≤ g ∧ g < w'.heap.size) w' cs' v) ∧ Kept [] w w'
theorem cloneD_step {n : Nat} (known : CloneDKnown n) : CloneDKnown (n + 1) := fun (v : VS (V n)) {S} {w} {cs} h hs => by
  have Jb := qI h
  have Gz := qI hs
  obtain ⟨vl, vm, lcs, mcs, h⟩ := h
  obtain ⟨a, c, b, e, rfl, rfl, rfl⟩ := h.forms
  have H := qI h
  have IH := qI known
  have hlv : v.l.length ≤ 20000 := by have := hs.few; omega
  have hmv : v.m.length ≤ 20000 := by have := hs.few; omega
  obtain ⟨W0, Gq⟩ : ∃ W0, Hid (W0 = ((w.alloc (.cells #[.int .i64 v.kind, .int .i64 v.num, .string v.s, .slice a v.l.length c, .slice b v.m.length e] 28)).alloc (.cells #[.int .i64 0, .int .i64 0, .string ⟨#[]⟩, .slice none 0 0, .slice none 0 0] 28)).alloc (.cells #[.int .i64 v.kind, .int .i64 v.num, .string v.s, .slice none 0 0, .slice none 0 0] 28)) := ⟨_, qI rfl⟩
  have Gr : Hid (W0.heap.size = w.heap.size + 3) := qI (by rw [Gq.o]; simp)
  have Jc : Hid (Kept [] w W0) := qI (by rw [Gq.o]; exact (((Kept.refl [] w).alloc _).alloc _).alloc _)
  have Jd : Hid (W0.heap[w.heap.size]? = some (.cells (valA v.kind v.num v.s (.slice a v.l.length c) (.slice b v.m.length e)) 28 (0, 0))) := qI (by
   rw [Gq.o]; exact (((Kept.refl [] _).alloc _).alloc _).heap (block_alloc rfl) (by simp))
  have Ja : Hid (W0.heap[w.heap.size + 1]? = some (.cells #[.int .i64 0, .int .i64 0, .string ⟨#[]⟩, .slice none 0 0, .slice none 0 0] 28 (0, 0))) := qI (by
   rw [Gq.o]; exact ((Kept.refl [] _).alloc _).heap (block_alloc (by simp)) (by simp))
  have Je : Hid (W0.heap[w.heap.size + 1 + 1]? = some (.cells (valA v.kind v.num v.s (.slice none 0 0) (.slice none 0 0)) 28 (0, 0))) := qI (by
   rw [Gq.o]; exact block_alloc (by simp))
  obtain ⟨c0, c1, c2, c3, c4⟩ := box_at w v.kind v.num v.s (.slice a v.l.length c) (.slice b v.m.length e) 28
  clear h hs
  go_enter Tryz.func87, Tryz.ntmps87
  go_wp2_with fail
  rw [← Gq.o]
  clear c0 c1 c2 c3 c4
  go_loopw [14] (fun i wr => ∃ (k : Nat) (vl : Value) (lcs' : List (List Value)), i = .int .i64 k ∧ k ≤ v.l.length ∧ CloneDL W0 (w.heap.size + 1 + 1) v k wr vl lcs') (fun i _ => v.l.length - (intOf i).toNat)
  case atStart =>
   exact ⟨0, .slice none 0 0, [], rfl, Nat.zero_le _, {
    blk := Je.o
    row := World.ownsRow_nil _ _ _ _
    all := trivial
    kept := Kept.refl _ _ }⟩
  case round =>
   obtain ⟨k, vk, lk, rfl, hk, hc⟩ := hrel
   have HC := qI hc
   have Gs : Hid (Kept [] w wr) := qI (Jc.o.trans hc.kept (by intro i hi; simp at hi; subst hi; exact .inr (by omega)))
   clear hc
   by_cases hlt : k < v.l.length
   ·have hltI : (k : Int) < v.l.length := by omega
    obtain ⟨g, o, cap, kd, nm, st, a1, b1, he, q0, q1, q2, q3, q4, hr⟩ := H.o.at_l Gs.o k hlt
    simp only [Value.slice.injEq] at he
    obtain ⟨rfl, -, rfl⟩ := he
    obtain ⟨ak, ck, rfl, -, -⟩ := (Slc.of_row HC.o.row).form
    obtain ⟨p1, i1, d1, p2, i2, d2, rfl, rfl⟩ := hr.sl
    have HR := qI hr
    have Gv := qI (Gz.o.kid (mem_l (List.getElem_mem hlt)))
    have hb3 := HC.o.blk
    have f3 := cell_head (o := 3) hb3 rfl
    clear hr hb3
    go_wp2_with fail
    have g3 := ((Kept.refl [] wr).alloc (.cells #[.int .i64 kd, .int .i64 nm, .string st, .slice p1 i1 d1, .slice p2 i2 d2] 28)).cell f3 (by simp)
    obtain ⟨e0, e1, e2, e3, e4⟩ := box_at wr kd nm st (.slice p1 i1 d1) (.slice p2 i2 d2) 28
    have Gt := qI ((Kept.refl [] wr).alloc (.cells #[.int .i64 kd, .int .i64 nm, .string st, .slice p1 i1 d1, .slice p2 i2 d2] 28))
    have HE := qI (box_at wr kd nm st (.slice p1 i1 d1) (.slice p2 i2 d2) 28)
    have hlt3 := HC.o.row.lt
    have hb3l : w.heap.size + 1 + 1 < wr.heap.size := lt_of_block HC.o.blk
    have Gi := qI hlt3
    clear hlt3 e0 e1 e2 e3 e4 q0 q1 q2 q3 q4
    refine wp_region_last' (n := 8) (fun w' : World => w'.cell? ⟨w.heap.size + 1 + 1, 3, none⟩ = some (.slice ak k ck) ∧ BoxAt w' wr.heap.size kd nm st (.slice p1 i1 d1) (.slice p2 i2 d2)) 7 (by kernel_rfl) (by kernel_rfl) ?_
    have hSS : (fun w' : World => w'.cell? ⟨w.heap.size + 1 + 1, 3, none⟩ = some (.slice ak k ck) ∧ BoxAt w' wr.heap.size kd nm st (.slice p1 i1 d1) (.slice p2 i2 d2)) ((wr.alloc (.cells #[.int .i64 kd, .int .i64 nm, .string st, .slice p1 i1 d1, .slice p2 i2 d2] 28)).drew) := ⟨g3, HE.o.kept0 (Kept.refl _ _).drew⟩
    have Gj : Hid (Kept [] wr ((wr.alloc (.cells #[.int .i64 kd, .int .i64 nm, .string st, .slice p1 i1 d1, .slice p2 i2 d2] 28)).drew)) := qI Gt.o.drew
    have Gc : Hid (((wr.alloc (.cells #[.int .i64 kd, .int .i64 nm, .string st, .slice p1 i1 d1, .slice p2 i2 d2] 28)).drew).heap.size = wr.heap.size + 1) := qI (by simp)
    change wpAnyT _ _ _ _ _ _ _ _ _ ((wr.alloc (.cells #[.int .i64 kd, .int .i64 nm, .string st, .slice p1 i1 d1, .slice p2 i2 d2] 28)).drew)
    clear HE Gt g3
    revert hSS Gj Gc
    generalize (wr.alloc (.cells #[.int .i64 kd, .int .i64 nm, .string st, .slice p1 i1 d1, .slice p2 i2 d2] 28)).drew = W2
    intro hSS Gj Gc
    refine wpAnyT_start ?_
    intro O R hO hR
    have hQp : ∀ c a (d : Nat) v w, R (.panic c) (a.put (some d) v) w → R (.panic c) a w := by subst hR; exact fun _ _ _ _ _ h => h
    refine wpAnyT_take' (i := 0) (v := ?_) hO rfl rfl (by kernel_rfl) (by kernel_rfl) (by kernel_rfl) (by kernel_rfl) hQp (Or.inl ⟨by kernel_rfl, fun w hSw => ?_⟩) hSS ?_
    rotate_left
    ·go_simp; try with_reducible rfl
    try simp only [zA,zN,zB,zC,zD]
    refine wpAnyT_take' (i := 1) (v := ?_) hO rfl rfl (by kernel_rfl) (by kernel_rfl) (by kernel_rfl) (by kernel_rfl) hQp (Or.inl ⟨by kernel_rfl, fun w hSw => ?_⟩) hSS ?_
    rotate_left
    ·have s3 := hSw.1; go_simp; try with_reducible rfl
    try simp only [zA,zN,zB,zC,zD]
    refine wpAnyT_take' (i := 2) (v := ?_) hO rfl rfl (by kernel_rfl) (by kernel_rfl) (by kernel_rfl) (by kernel_rfl) hQp (Or.inl ⟨by kernel_rfl, fun w hSw => ?_⟩) hSS ?_
    rotate_left
    ·obtain ⟨s0, s1, s2, s3, s4⟩ := hSw.2; go_simp; try with_reducible rfl
    try simp only [zA,zN,zB,zC,zD]
    refine wpAnyT_one' (i := 3) hO rfl (by kernel_rfl) (by kernel_rfl) (fun K hK => ?_)
    go_simp
    refine Calls.mono (IH.o v.l[k] (HR.o.kept0 Gj.o) Gv.o) ?_
    rintro e w3 ⟨⟨cs', rfl, hown⟩, hk3⟩
    have hrep := hown.rep
    obtain ⟨k3, m3, s3, l3, r3, rfl⟩ := hrep.five
    obtain ⟨p3, i3, d3, p4, i4, d4, rfl, rfl⟩ := hrep.sl
    have Gf := qI hrep
    have Gw := qI hown
    have Gg := qI (Gj.o.trans' hk3)
    have hS3 : (fun w' : World => w'.cell? ⟨w.heap.size + 1 + 1, 3, none⟩ = some (.slice ak k ck) ∧ BoxAt w' wr.heap.size kd nm st (.slice p1 i1 d1) (.slice p2 i2 d2)) w3 := ⟨hk3.cell hSS.1 (by simp), hSS.2.kept0 hk3⟩
    have hsz3 := hk3.size
    clear hown hrep hk3
    refine hK _ _ (.inr hS3) ?_
    clear hK K
    try simp only [zA,zN,zB,zC,zD]
    clear hSS
    have hSS := hS3
    clear hS3
    refine wpAnyT_one' (i := 4) hO rfl (by kernel_rfl) (by kernel_rfl) (fun K hK => ?_)
    go_simp
    have Ga := qI ((Kept.refl [] w3).alloc (.cells #[.int .i64 k3, .int .i64 m3, .string s3, .slice p3 i3 d3, .slice p4 i4 d4] 28))
    have Gd := qI (slc_new w3 [.int .i64 k3, .int .i64 m3, .string s3, .slice p3 i3 d3, .slice p4 i4 d4] 5 1 28 w3.heap.size rfl rfl (by decide))
    have hS4 : (fun w' : World => w'.cell? ⟨w.heap.size + 1 + 1, 3, none⟩ = some (.slice ak k ck) ∧ BoxAt w' wr.heap.size kd nm st (.slice p1 i1 d1) (.slice p2 i2 d2)) (w3.alloc (.cells #[.int .i64 k3, .int .i64 m3, .string s3, .slice p3 i3 d3, .slice p4 i4 d4] 28)) := ⟨Ga.o.cell hSS.1 (by simp), hSS.2.kept0 Ga.o⟩
    have Ge : Hid ((w3.alloc (.cells #[.int .i64 k3, .int .i64 m3, .string s3, .slice p3 i3 d3, .slice p4 i4 d4] 28)).heap.size = w3.heap.size + 1) := qI (by simp)
    refine hK _ _ (.inr hS4) ?_
    clear hK K
    try simp only [zA,zN,zB,zC,zD]
    clear hSS
    have hSS := hS4
    clear hS4
    revert hSS Ga Gd Ge
    generalize w3.alloc (.cells #[.int .i64 k3, .int .i64 m3, .string s3, .slice p3 i3 d3, .slice p4 i4 d4] 28) = w4
    intro Ga Gd Ge hSS
    have Gh := qI (row_kept HC.o.row (Gg.o.trans' Ga.o) (by simp))
    have Gm := qI hsz3
    clear hsz3
    refine wpAnyT_one' (i := 5) hO rfl (by kernel_rfl) (by kernel_rfl) (fun K hK => ?_)
    refine oper_append tyVals Gh.o Gd.o Gf.o.one (by simp only [maxLen]; omega) (by omega) (by have h1 := (Gg.o.trans' Ga.o).size; have h2 := HC.o.kept.size; omega) (.tmp 19) (.tmp 22) rfl rfl rfl ?_
    intro b5 d5 w5 hown5 hk5 hg5
    have hS5 : (fun w' : World => w'.cell? ⟨w.heap.size + 1 + 1, 3, none⟩ = some (.slice ak k ck) ∧ BoxAt w' wr.heap.size kd nm st (.slice p1 i1 d1) (.slice p2 i2 d2)) w5 := by
     refine ⟨hk5.cell hSS.1 (by intro hx; have := (Gi.o _ (Option.mem_toList.1 hx)).1; have h2 := Gr.o; simp at this; omega), hSS.2.kept hk5 (by intro hx; have := (Gi.o _ (Option.mem_toList.1 hx)).2; omega)⟩
    refine hK _ _ (.inr hS5) ?_
    clear hK K
    try simp only [zA,zN,zB,zC,zD]
    clear hSS
    have hSS := hS5
    clear hS5
    have Gb := qI hown5
    have Gn := qI hk5
    have Gx := qI hg5
    clear hown5 hk5 hg5
    refine wpAnyT_one' (i := 6) hO rfl (by kernel_rfl) (by kernel_rfl) (fun K hK => ?_)
    go_simp
    refine hK _ _ (.inr hSS) ?_
    clear hK K
    try simp only [zA,zN,zB,zC,zD]
    have Gp : Hid (w5.heap[w.heap.size + 1 + 1]? = some (.cells (valA v.kind v.num v.s (.slice ak k ck) (.slice none 0 0)) 28 (0, 0))) := qI (Gn.o.heap ((Gg.o.trans' Ga.o).heap HC.o.blk (by simp)) (by intro hx; have := (Gi.o _ (Option.mem_toList.1 hx)).1; have h2 := Gr.o; omega))
    have hc5 := cell_head (o := 3) Gp.o rfl
    have hf5 := free_head (o := 3) Gp.o
    refine wpAnyT_one' (i := 7) hO rfl (by kernel_rfl) (by kernel_rfl) (fun K hK => ?_)
    go_simp
    refine hK _ _ (.inl rfl) ?_
    clear hK K
    try simp only [zA,zN,zB,zC,zD]
    refine wpAnyT_done' hO (by kernel_rfl) ?_ _
    subst hR
    try clear hQp hO O
    clear hc5 hf5 hSS
    go_wp2_with fail
    case roundEnd =>
     have hz := Gr.o
     have hz2 := Gc.o
     have hz3 := Gm.o
     have hz4 := Ge.o
     have hlo := Gi.o
     have KX : Kept ((w.heap.size + 1 + 1) :: (Value.slice ak k ck).ownBlock.toList) w4 (w5.setCell ⟨w.heap.size + 1 + 1, 3, none⟩ (.slice b5 (k + 1) d5)) := (Gn.o.mono (Y := (w.heap.size + 1 + 1) :: (Value.slice ak k ck).ownBlock.toList) (fun i hi => List.mem_cons_of_mem _ hi)).setCell (p := ⟨w.heap.size + 1 + 1, 3, none⟩) (.inl (List.mem_cons_self ..)) _
     have hz5 : ∀ g, (Value.slice b5 (k + 1) d5).ownBlock = some g → (Value.slice ak k ck).ownBlock = some g ∨ g = w4.heap.size := fun g hg => by
      rcases Gx.o with h | h
      ·exact .inl (by rw [← h]; exact hg)
      ·exact .inr (by rw [hg] at h; exact Option.some.inj h)
     refine ⟨⟨k + 1, _, lk ++ [[.int .i64 k3, .int .i64 m3, .string s3, .slice p3 i3 d3, .slice p4 i4 d4]], by go_num, by omega, {
      blk := block_setCell Gp.o rfl
      row := ?_
      all := ?_
      kept := ?_ }⟩, by simp [intOf]; omega⟩
     ·rw [List.flatten_append]
      simp only [List.flatten_cons, List.flatten_nil, List.append_nil]
      exact row_kept Gb.o ((Kept.refl [w.heap.size + 1 + 1] w5).setCell (.inl (by simp)) _) (by
       intro g hg hx
       simp at hx
       have := (Gb.o.lt g hg).1
       omega)
     ·rw [List.take_succ_eq_append_getElem hlt]
      have KA := (((Gg.o.trans' Ga.o).mono (Y := (w.heap.size + 1 + 1) :: (Value.slice ak k ck).ownBlock.toList) (by simp)).trans' KX)
      have KB := ((Ga.o.mono (Y := (w.heap.size + 1 + 1) :: (Value.slice ak k ck).ownBlock.toList) (by simp)).trans' KX)
      have hs1 := KX.size
      refine ((HC.o.all.imp (fun Q c x hq r => r.kept KA (fun b hb hqb => ?_))).snoc (Gw.o.kept KB (fun b hb hqb => ?_)) (fun g q p => ?_)).mono (fun g q => ?_)
      ·obtain ⟨h0, h1, h2⟩ := hq b hqb
       rcases List.mem_cons.1 hb with rfl | hb
       ·omega
       ·exact h2 (Option.mem_toList.1 hb)
      ·rcases List.mem_cons.1 hb with rfl | hb
       ·have := HC.o.kept.size; omega
       ·have := (hlo b (Option.mem_toList.1 hb)).2; omega
      ·omega
      ·have hz0 := HC.o.kept.size
       rcases q with ⟨h0, h1, h2⟩ | ⟨h0, h1⟩
       ·refine ⟨h0, by omega, fun h3 => ?_⟩
        rcases hz5 g h3 with h4 | h4
        ·exact h2 h4
        ·omega
       ·refine ⟨by omega, by omega, fun h3 => ?_⟩
        rcases hz5 g h3 with h4 | h4
        ·have := (hlo g h4).2; omega
        ·omega
     ·exact ((HC.o.kept.then (Gg.o.trans' Ga.o)).trans Gn.o (fun i hi => .inr (hlo i (Option.mem_toList.1 hi)).1)).setCell (.inl (by simp)) _
   ·obtain rfl : k = v.l.length := by omega
    obtain ⟨WL, rfl⟩ : ∃ x, x = wr := ⟨_, rfl⟩
    have Gl := qI HC.o
    have Gu := qI Gs.o
    have Gk : Hid (w.heap.size + 3 ≤ WL.heap.size) := qI (by have h1 := HC.o.kept.size; have h2 := Gr.o; omega)
    have Jf : Hid (WL.heap[w.heap.size]? = some (.cells (valA v.kind v.num v.s (.slice a v.l.length c) (.slice b v.m.length e)) 28 (0, 0))) := qI (HC.o.kept.heap Jd.o (by simp; omega))
    obtain ⟨vL, rfl⟩ : ∃ x, x = vk := ⟨_, rfl⟩
    obtain ⟨lL, rfl⟩ : ∃ x, x = lk := ⟨_, rfl⟩
    have hb4 := cell_head (o := 4) (v := .slice b v.m.length e) Jf.o rfl
    go_wp2_with fail
    clear hb4 HC Gs
    go_loopw [29] (fun i wr => ∃ (k : Nat) (vm : Value) (mc : List (ByteArray × List Value)), i = .int .i64 k ∧ k ≤ v.m.length ∧ CloneDM WL (w.heap.size + 1 + 1) v vL k wr vm mc) (fun i _ => v.m.length - (intOf i).toNat)
    case atStart =>
     exact ⟨0, .slice none 0 0, [], rfl, Nat.zero_le _, {
      blk := Gl.o.blk
      row := World.ownsRow_nil _ _ _ _
      all := trivial
      keys := rfl
      kept := Kept.refl _ _ }⟩
    case round =>
     obtain ⟨k, vk, lk, rfl, hk, hc⟩ := hrel
     have HC := qI hc
     have Gs : Hid (Kept [] w wr) := qI (Gu.o.trans hc.kept (by intro i hi; simp at hi; subst hi; exact .inr (by omega)))
     clear hc
     by_cases hlt : k < v.m.length
     ·have hltI : (k : Int) < v.m.length := by omega
      obtain ⟨g, o, cap, kd, nm, st, a1, b1, he, q0, q1, q2, q3, q4, q5, hr⟩ := H.o.at_m Gs.o k hlt
      simp only [Value.slice.injEq] at he
      obtain ⟨rfl, -, rfl⟩ := he
      obtain ⟨ak, ck, rfl, -, -⟩ := (Slc.of_row HC.o.row).form
      obtain ⟨p1, i1, d1, p2, i2, d2, rfl, rfl⟩ := hr.sl
      have HR := qI hr
      have Gv := qI (Gz.o.kid (mem_m (List.getElem_mem hlt)))
      have hb3 := HC.o.blk
      have f3 := cell_head (o := 4) hb3 rfl
      clear hr hb3
      generalize hkey : v.m[k].1 = key at q0
      have Gy := qI hkey
      clear hkey
      go_wp2_with fail
      have g3 := ((Kept.refl [] wr).alloc (.cells #[.string key, .int .i64 kd, .int .i64 nm, .string st, .slice p1 i1 d1, .slice p2 i2 d2] 78)).cell f3 (by simp)
      have Gt := qI ((Kept.refl [] wr).alloc (.cells #[.string key, .int .i64 kd, .int .i64 nm, .string st, .slice p1 i1 d1, .slice p2 i2 d2] 78))
      have HE := qI (pbox_at (w := wr) rfl key kd nm st (.slice p1 i1 d1) (.slice p2 i2 d2) 78)
      have hlt3 := HC.o.row.lt
      have hb3l : w.heap.size + 1 + 1 < wr.heap.size := lt_of_block HC.o.blk
      have Gi := qI hlt3
      clear hlt3 q0 q1 q2 q3 q4 q5
      refine wp_region_last' (n := 12) (fun w' : World => w'.cell? ⟨w.heap.size + 1 + 1, 4, none⟩ = some (.slice ak k ck) ∧ PBoxAt w' wr.heap.size key kd nm st (.slice p1 i1 d1) (.slice p2 i2 d2)) 11 (by kernel_rfl) (by kernel_rfl) ?_
      have hSS : (fun w' : World => w'.cell? ⟨w.heap.size + 1 + 1, 4, none⟩ = some (.slice ak k ck) ∧ PBoxAt w' wr.heap.size key kd nm st (.slice p1 i1 d1) (.slice p2 i2 d2)) ((wr.alloc (.cells #[.string key, .int .i64 kd, .int .i64 nm, .string st, .slice p1 i1 d1, .slice p2 i2 d2] 78)).drew) := ⟨g3, HE.o.kept0 (Kept.refl _ _).drew⟩
      have Gj : Hid (Kept [] wr ((wr.alloc (.cells #[.string key, .int .i64 kd, .int .i64 nm, .string st, .slice p1 i1 d1, .slice p2 i2 d2] 78)).drew)) := qI Gt.o.drew
      have Gc : Hid (((wr.alloc (.cells #[.string key, .int .i64 kd, .int .i64 nm, .string st, .slice p1 i1 d1, .slice p2 i2 d2] 78)).drew).heap.size = wr.heap.size + 1) := qI (by simp)
      change wpAnyT _ _ _ _ _ _ _ _ _ ((wr.alloc (.cells #[.string key, .int .i64 kd, .int .i64 nm, .string st, .slice p1 i1 d1, .slice p2 i2 d2] 78)).drew)
      clear HE Gt g3
      revert hSS Gj Gc
      generalize (wr.alloc (.cells #[.string key, .int .i64 kd, .int .i64 nm, .string st, .slice p1 i1 d1, .slice p2 i2 d2] 78)).drew = W2
      intro hSS Gj Gc
      refine wpAnyT_start ?_
      intro O R hO hR
      have hQp : ∀ c a (d : Nat) v w, R (.panic c) (a.put (some d) v) w → R (.panic c) a w := by subst hR; exact fun _ _ _ _ _ h => h
      refine wpAnyT_take' (i := 0) (v := ?_) hO rfl rfl (by kernel_rfl) (by kernel_rfl) (by kernel_rfl) (by kernel_rfl) hQp (Or.inl ⟨by kernel_rfl, fun w hSw => ?_⟩) hSS ?_
      rotate_left
      ·go_simp; try with_reducible rfl
      try simp only [zA,zN,zB,zC,zD]
      refine wpAnyT_take' (i := 1) (v := ?_) hO rfl rfl (by kernel_rfl) (by kernel_rfl) (by kernel_rfl) (by kernel_rfl) hQp (Or.inl ⟨by kernel_rfl, fun w hSw => ?_⟩) hSS ?_
      rotate_left
      ·have s3 := hSw.1; go_simp; try with_reducible rfl
      try simp only [zA,zN,zB,zC,zD]
      refine wpAnyT_take' (i := 2) (v := ?_) hO rfl rfl (by kernel_rfl) (by kernel_rfl) (by kernel_rfl) (by kernel_rfl) hQp (Or.inl ⟨by kernel_rfl, fun w hSw => ?_⟩) hSS ?_
      rotate_left
      ·obtain ⟨s0, s1, s2, s3, s4, s5⟩ := hSw.2; go_simp; try with_reducible rfl
      try simp only [zA,zN,zB,zC,zD]
      refine wpAnyT_take' (i := 3) (v := ?_) hO rfl rfl (by kernel_rfl) (by kernel_rfl) (by kernel_rfl) (by kernel_rfl) hQp (Or.inl ⟨by kernel_rfl, fun w hSw => ?_⟩) hSS ?_
      rotate_left
      ·obtain ⟨s0, s1, s2, s3, s4, s5⟩ := hSw.2; go_simp; try with_reducible rfl
      try simp only [zA,zN,zB,zC,zD]
      refine wpAnyT_take' (i := 4) (v := ?_) hO rfl rfl (by kernel_rfl) (by kernel_rfl) (by kernel_rfl) (by kernel_rfl) hQp (Or.inl ⟨by kernel_rfl, fun w hSw => ?_⟩) hSS ?_
      rotate_left
      ·obtain ⟨s0, s1, s2, s3, s4, s5⟩ := hSw.2; go_simp; try with_reducible rfl
      try simp only [zA,zN,zB,zC,zD]
      refine wpAnyT_take' (i := 5) (v := ?_) hO rfl rfl (by kernel_rfl) (by kernel_rfl) (by kernel_rfl) (by kernel_rfl) hQp (Or.inl ⟨by kernel_rfl, fun w hSw => ?_⟩) hSS ?_
      rotate_left
      ·obtain ⟨s0, s1, s2, s3, s4, s5⟩ := hSw.2; go_simp; try with_reducible rfl
      try simp only [zA,zN,zB,zC,zD]
      refine wpAnyT_one' (i := 6) hO rfl (by kernel_rfl) (by kernel_rfl) (fun K hK => ?_)
      go_simp
      refine Calls.mono (IH.o v.m[k].2 (HR.o.kept0 Gj.o) Gv.o) ?_
      rintro e w3 ⟨⟨cs', rfl, hown⟩, hk3⟩
      have hrep := hown.rep
      obtain ⟨k3, m3, s3, l3, r3, rfl⟩ := hrep.five
      obtain ⟨p3, i3, d3, p4, i4, d4, rfl, rfl⟩ := hrep.sl
      have Gf := qI hrep
      have Gw := qI hown
      have Gg := qI (Gj.o.trans' hk3)
      have hS3 : (fun w' : World => w'.cell? ⟨w.heap.size + 1 + 1, 4, none⟩ = some (.slice ak k ck) ∧ PBoxAt w' wr.heap.size key kd nm st (.slice p1 i1 d1) (.slice p2 i2 d2)) w3 := ⟨hk3.cell hSS.1 (by simp), hSS.2.kept0 hk3⟩
      have hsz3 := hk3.size
      clear hown hrep hk3
      refine hK _ _ (.inr hS3) ?_
      clear hK K
      try simp only [zA,zN,zB,zC,zD]
      clear hSS
      have hSS := hS3
      clear hS3
      refine wpAnyT_one' (i := 7) hO rfl (by kernel_rfl) (by kernel_rfl) (fun K hK => ?_)
      go_simp
      refine hK _ _ (.inr hSS) ?_
      clear hK K
      try simp only [zA,zN,zB,zC,zD]
      refine wpAnyT_one' (i := 8) hO rfl (by kernel_rfl) (by kernel_rfl) (fun K hK => ?_)
      go_simp
      have Ga := qI ((Kept.refl [] w3).alloc (.cells #[.string key, .int .i64 k3, .int .i64 m3, .string s3, .slice p3 i3 d3, .slice p4 i4 d4] 78))
      have Gd := qI (slc_new w3 [.string key, .int .i64 k3, .int .i64 m3, .string s3, .slice p3 i3 d3, .slice p4 i4 d4] 6 1 78 w3.heap.size rfl rfl (by decide))
      have hS4 : (fun w' : World => w'.cell? ⟨w.heap.size + 1 + 1, 4, none⟩ = some (.slice ak k ck) ∧ PBoxAt w' wr.heap.size key kd nm st (.slice p1 i1 d1) (.slice p2 i2 d2)) (w3.alloc (.cells #[.string key, .int .i64 k3, .int .i64 m3, .string s3, .slice p3 i3 d3, .slice p4 i4 d4] 78)) := ⟨Ga.o.cell hSS.1 (by simp), hSS.2.kept0 Ga.o⟩
      have Ge : Hid ((w3.alloc (.cells #[.string key, .int .i64 k3, .int .i64 m3, .string s3, .slice p3 i3 d3, .slice p4 i4 d4] 78)).heap.size = w3.heap.size + 1) := qI (by simp)
      refine hK _ _ (.inr hS4) ?_
      clear hK K
      try simp only [zA,zN,zB,zC,zD]
      clear hSS
      have hSS := hS4
      clear hS4
      revert hSS Ga Gd Ge
      generalize w3.alloc (.cells #[.string key, .int .i64 k3, .int .i64 m3, .string s3, .slice p3 i3 d3, .slice p4 i4 d4] 78) = w4
      intro Ga Gd Ge hSS
      have Gh := qI (row_kept HC.o.row (Gg.o.trans' Ga.o) (by simp))
      have Gm := qI hsz3
      clear hsz3
      refine wpAnyT_one' (i := 9) hO rfl (by kernel_rfl) (by kernel_rfl) (fun K hK => ?_)
      refine oper_append tyPairs Gh.o Gd.o (by intro u hu; rcases List.mem_cons.1 hu with rfl | hu <;> first | rfl | exact Gf.o.one u hu) (by simp only [maxLen]; omega) (by omega) (by have h1 := (Gg.o.trans' Ga.o).size; have h2 := HC.o.kept.size; omega) (.tmp 34) (.tmp 41) rfl rfl rfl ?_
      intro b5 d5 w5 hown5 hk5 hg5
      have hS5 : (fun w' : World => w'.cell? ⟨w.heap.size + 1 + 1, 4, none⟩ = some (.slice ak k ck) ∧ PBoxAt w' wr.heap.size key kd nm st (.slice p1 i1 d1) (.slice p2 i2 d2)) w5 := by
       refine ⟨hk5.cell hSS.1 (by intro hx; have := (Gi.o _ (Option.mem_toList.1 hx)).1; have h2 := Gk.o; simp at this; omega), hSS.2.kept hk5 (by intro hx; have := (Gi.o _ (Option.mem_toList.1 hx)).2; omega)⟩
      refine hK _ _ (.inr hS5) ?_
      clear hK K
      try simp only [zA,zN,zB,zC,zD]
      clear hSS
      have hSS := hS5
      clear hS5
      have Gb := qI hown5
      have Gn := qI hk5
      have Gx := qI hg5
      clear hown5 hk5 hg5
      refine wpAnyT_one' (i := 10) hO rfl (by kernel_rfl) (by kernel_rfl) (fun K hK => ?_)
      go_simp
      refine hK _ _ (.inr hSS) ?_
      clear hK K
      try simp only [zA,zN,zB,zC,zD]
      have Gp : Hid (w5.heap[w.heap.size + 1 + 1]? = some (.cells (valA v.kind v.num v.s vL (.slice ak k ck)) 28 (0, 0))) := qI (Gn.o.heap ((Gg.o.trans' Ga.o).heap HC.o.blk (by simp)) (by intro hx; have := (Gi.o _ (Option.mem_toList.1 hx)).1; have h2 := Gk.o; omega))
      have hc5 := cell_head (o := 4) Gp.o rfl
      have hf5 := free_head (o := 4) Gp.o
      refine wpAnyT_one' (i := 11) hO rfl (by kernel_rfl) (by kernel_rfl) (fun K hK => ?_)
      go_simp
      refine hK _ _ (.inl rfl) ?_
      clear hK K
      try simp only [zA,zN,zB,zC,zD]
      refine wpAnyT_done' hO (by kernel_rfl) ?_ _
      subst hR
      try clear hQp hO O
      clear hc5 hf5 hSS
      go_wp2_with fail
      case roundEnd =>
       have hz := Gk.o
       have hz2 := Gc.o
       have hz3 := Gm.o
       have hz4 := Ge.o
       have hlo := Gi.o
       have KX : Kept ((w.heap.size + 1 + 1) :: (Value.slice ak k ck).ownBlock.toList) w4 (w5.setCell ⟨w.heap.size + 1 + 1, 4, none⟩ (.slice b5 (k + 1) d5)) := (Gn.o.mono (Y := (w.heap.size + 1 + 1) :: (Value.slice ak k ck).ownBlock.toList) (fun i hi => List.mem_cons_of_mem _ hi)).setCell (p := ⟨w.heap.size + 1 + 1, 4, none⟩) (.inl (List.mem_cons_self ..)) _
       have hz5 : ∀ g, (Value.slice b5 (k + 1) d5).ownBlock = some g → (Value.slice ak k ck).ownBlock = some g ∨ g = w4.heap.size := fun g hg => by
        rcases Gx.o with h | h
        ·exact .inl (by rw [← h]; exact hg)
        ·exact .inr (by rw [hg] at h; exact Option.some.inj h)
       refine ⟨⟨k + 1, _, lk ++ [(key, [.int .i64 k3, .int .i64 m3, .string s3, .slice p3 i3 d3, .slice p4 i4 d4])], by go_num, by omega, {
        blk := block_setCell Gp.o rfl
        row := ?_
        all := ?_
        keys := ?_
        kept := ?_ }⟩, by simp [intOf]; omega⟩
       ·rw [show pairCs (lk ++ [(key, [.int .i64 k3, .int .i64 m3, .string s3, .slice p3 i3 d3, .slice p4 i4 d4])]) = pairCs lk ++ [.string key, .int .i64 k3, .int .i64 m3, .string s3, .slice p3 i3 d3, .slice p4 i4 d4] by simp [pairCs, pairC]]
        exact row_kept Gb.o ((Kept.refl [w.heap.size + 1 + 1] w5).setCell (.inl (by simp)) _) (by
         intro g hg hx
         simp at hx
         have := (Gb.o.lt g hg).1
         omega)
       ·rw [List.take_succ_eq_append_getElem hlt, List.map_append, List.map_append]
        have KA := (((Gg.o.trans' Ga.o).mono (Y := (w.heap.size + 1 + 1) :: (Value.slice ak k ck).ownBlock.toList) (by simp)).trans' KX)
        have KB := ((Ga.o.mono (Y := (w.heap.size + 1 + 1) :: (Value.slice ak k ck).ownBlock.toList) (by simp)).trans' KX)
        have hs1 := KX.size
        refine ((HC.o.all.imp (fun Q c x hq r => r.kept KA (fun b hb hqb => ?_))).snoc (Gw.o.kept KB (fun b hb hqb => ?_)) (fun g q p => ?_)).mono (fun g q => ?_)
        ·obtain ⟨h0, h1, h2⟩ := hq b hqb
         rcases List.mem_cons.1 hb with rfl | hb
         ·omega
         ·exact h2 (Option.mem_toList.1 hb)
        ·rcases List.mem_cons.1 hb with rfl | hb
         ·have := HC.o.kept.size; omega
         ·have := (hlo b (Option.mem_toList.1 hb)).2; omega
        ·omega
        ·have hz0 := HC.o.kept.size
         rcases q with ⟨h0, h1, h2⟩ | ⟨h0, h1⟩
         ·refine ⟨h0, by omega, fun h3 => ?_⟩
          rcases hz5 g h3 with h4 | h4
          ·exact h2 h4
          ·omega
         ·refine ⟨by omega, by omega, fun h3 => ?_⟩
          rcases hz5 g h3 with h4 | h4
          ·have := (hlo g h4).2; omega
          ·omega
       ·rw [List.take_succ_eq_append_getElem hlt, List.map_append, List.map_append, HC.o.keys]
        simp [Gy.o]
       ·exact ((HC.o.kept.then (Gg.o.trans' Ga.o)).trans Gn.o (fun i hi => .inr (hlo i (Option.mem_toList.1 hi)).1)).setCell (.inl (by simp)) _
     ·obtain rfl : k = v.m.length := by omega
      have hbc := HC.o.blk
      have d0 := cell_head (o := 0) (v := .int .i64 v.kind) hbc rfl
      have d1 := cell_head (o := 1) (v := .int .i64 v.num) hbc rfl
      have d2 := cell_head (o := 2) (v := .string v.s) hbc rfl
      have d3 := cell_head (o := 3) (v := vL) hbc rfl
      have d4 := cell_head (o := 4) (v := vk) hbc rfl
      have hbr := HC.o.kept.heap (Gl.o.kept.heap Ja.o (by simp)) (by simp)
      obtain ⟨aL, cL, rfl, -, -⟩ := (Slc.of_row Gl.o.row).form
      obtain ⟨aM, cM, rfl, -, -⟩ := (Slc.of_row HC.o.row).form
      have r0 := cell_head (o := 0) (v := .int .i64 0) hbr rfl
      have r1 := cell_head (o := 1) (v := .int .i64 0) hbr rfl
      have r2 := cell_head (o := 2) (v := .string ⟨#[]⟩) hbr rfl
      have r3 := cell_head (o := 3) (v := .slice none 0 0) hbr rfl
      have r4 := cell_head (o := 4) (v := .slice none 0 0) hbr rfl
      have s0 := free_head (o := 0) hbr
      have s1 := free_head (o := 1) hbr
      have s2 := free_head (o := 2) hbr
      have s3 := free_head (o := 3) hbr
      have s4 := free_head (o := 4) hbr
      clear hbc hbr
      go_wp2_with fail
      have KF : Kept [w.heap.size + 1] wr (((((wr.setCell ⟨w.heap.size + 1, 0, none⟩ (.int .i64 v.kind)).setCell ⟨w.heap.size + 1, 1, none⟩ (.int .i64 v.num)).setCell ⟨w.heap.size + 1, 2, none⟩ (.string v.s)).setCell ⟨w.heap.size + 1, 3, none⟩ (.slice aL v.l.length cL)).setCell ⟨w.heap.size + 1, 4, none⟩ (.slice aM v.m.length cM)) :=
       (((((Kept.refl _ _).setCell (p := ⟨w.heap.size + 1, 0, none⟩) (.inl (by simp)) _).setCell (p := ⟨w.heap.size + 1, 1, none⟩) (.inl (by simp)) _).setCell (p := ⟨w.heap.size + 1, 2, none⟩) (.inl (by simp)) _).setCell (p := ⟨w.heap.size + 1, 3, none⟩) (.inl (by simp)) _).setCell (p := ⟨w.heap.size + 1, 4, none⟩) (.inl (by simp)) _
      have hbf := block_setCell (v := .slice aM v.m.length cM) (i := 4) (block_setCell (v := .slice aL v.l.length cL) (i := 3) (block_setCell (v := .string v.s) (i := 2) (block_setCell (v := .int .i64 v.num) (i := 1) (block_setCell (v := .int .i64 v.kind) (i := 0) (HC.o.kept.heap (Gl.o.kept.heap Ja.o (by simp)) (by simp)) rfl) rfl) rfl) rfl) rfl
      have x0 := cell_head (o := 0) (v := .int .i64 v.kind) hbf rfl
      have x1 := cell_head (o := 1) (v := .int .i64 v.num) hbf rfl
      have x2 := cell_head (o := 2) (v := .string v.s) hbf rfl
      have x3 := cell_head (o := 3) (v := .slice aL v.l.length cL) hbf rfl
      have x4 := cell_head (o := 4) (v := .slice aM v.m.length cM) hbf rfl
      clear hbf d0 d1 d2 d3 d4 r0 r1 r2 r3 r4 s0 s1 s2 s3 s4
      revert KF x0 x1 x2 x3 x4
      generalize ((((wr.setCell ⟨w.heap.size + 1, 0, none⟩ (.int .i64 v.kind)).setCell ⟨w.heap.size + 1, 1, none⟩ (.int .i64 v.num)).setCell ⟨w.heap.size + 1, 2, none⟩ (.string v.s)).setCell ⟨w.heap.size + 1, 3, none⟩ (.slice aL v.l.length cL)).setCell ⟨w.heap.size + 1, 4, none⟩ (.slice aM v.m.length cM) = WF
      intro KF x0 x1 x2 x3 x4
      have hzl := Gk.o
      have hz0 := Gr.o
      have hLlt := Gl.o.row.lt
      have hMlt := HC.o.row.lt
      have hkl := HC.o.kept.size
      have KLM : Kept [w.heap.size + 1, w.heap.size + 1 + 1] WL WF := (HC.o.kept.mono (by simp)).trans' (KF.mono (by simp))
      refine bodyPost_ret (v := .agg #[.int .i64 v.kind, .int .i64 v.num, .string v.s, .slice aL v.l.length cL, .slice aM v.m.length cM]) (by simp [results, Tryz.results87, go_sem, x0, x1, x2, x3, x4]) rfl ⟨⟨[.int .i64 v.kind, .int .i64 v.num, .string v.s, .slice aL v.l.length cL, .slice aM v.m.length cM], rfl, _, _, lL, lk, rfl, ?_, ?_, ?_, ?_, ?_, ?_, ?_, H.o.wfk, H.o.wfn⟩, ?_⟩
      ·exact row_base (row_kept Gl.o.row KLM (fun g hg hx => by have := hLlt g hg; simp at hx; omega)) (fun _ _ => Nat.zero_le _)
      ·exact row_base (row_kept HC.o.row KF (fun g hg hx => by have := hMlt g hg; simp at hx; omega)) (fun _ _ => Nat.zero_le _)
      ·have := Gl.o.all.len
       rwa [List.take_length] at this
      ·have := HC.o.keys
       rwa [List.take_length] at this
      ·intro g hg
       have := hLlt g hg
       have := KLM.size
       exact ⟨by omega, by omega⟩
      ·intro g hg
       have := hMlt g hg
       have := KF.size
       exact ⟨by omega, by omega⟩
      ·have h1 := Gl.o.all
       have h2 := HC.o.all
       rw [List.take_length] at h1 h2
       have hs1 := KLM.size
       have hs2 := KF.size
       refine (OwnKids.app (h1.imp (fun Q c x hq r => r.kept KLM (fun b hb hqb => ?_))) (h2.imp (fun Q c x hq r => r.kept KF (fun b hb hqb => ?_))) (fun g q p => ?_)).mono (fun g q => ?_)
       ·have := hq b hqb
        simp at hb
        omega
       ·have := hq b hqb
        simp at hb
        omega
       ·omega
       ·rcases q with ⟨h0, h1, h2⟩ | ⟨h0, h1, h2⟩
        ·exact ⟨⟨by omega, by omega⟩, h2, fun h4 => by have := (hMlt g h4).1; omega⟩
        ·exact ⟨⟨by omega, by omega⟩, fun h4 => by have := (hLlt g h4).2; omega, h2⟩
      ·exact Gu.o.trans KLM (fun i hi => by simp at hi; omega)
theorem cloneD_all : ∀ (n : Nat), CloneDKnown n
 | 0 => fun v {_} {_} {_} h _ => h.elim
 | n + 1 => cloneD_step (cloneD_all n)
theorem cloneD_any : ∀ (n : Nat) (v : V n) {S : Nat → Prop} {w : World} {cs : List Value}, Rep n S w cs v → Small n v →
  Calls Tryz.prog 87 #[.agg cs.toArray] w fun e w' => (∃ cs' : List Value, e = .returned (.agg cs'.toArray) ∧ OwnD n (fun g => w.heap.size ≤ g ∧ g < w'.heap.size) w' cs' v) ∧ Kept [] w w' := fun n => cloneD_all n
theorem OwnD.own : ∀ {n : Nat} {S : Nat → Prop} {B : Nat} {w : World} {cs : List Value} {v : V n}, OwnD n S w cs v → (∀ g, S g → B ≤ g) → OwnRep n B w cs v
 | 0, _, _, _, _, _, h, _ => h.elim
 | n + 1, S, B, w, cs, v, h, hS => by
  obtain ⟨vl, vm, lcs, mcs, h1, h2, h3, h4, h5, h6, h7, h8, h9⟩ := h
  refine ⟨vl, vm, lcs, mcs, h1, row_base h2 (fun g hg => hS g (h6 g hg)), ⟨h4, fun j c x hc hx => ?_⟩, row_base h3 (fun g hg => hS g (h7 g hg)), ⟨mcs_len h5, fun j p q hp hq => ⟨mcs_key h5 hp hq, ?_⟩⟩, h9⟩
  ·have hj : j < (VS.l (α := V n) v).length := (List.getElem?_eq_some_iff.1 hx).1
   obtain ⟨e1, e2⟩ := pick_l (mcs := mcs) h4 hj
   obtain ⟨Q, q1, q2⟩ := h8.one j c x (e1.trans hc) (e2.trans hx)
   exact (OwnD.rep q2).mono (fun g _ q => ⟨hS g (q1 g q).1, (q1 g q).2⟩)
  ·obtain ⟨e1, e2⟩ := pick_m (v := v) (mcs := mcs) h4 j
   obtain ⟨Q, q1, q2⟩ := h8.one _ p.2 q.2 (e1.trans (by rw [hp]; rfl)) (e2.trans (by rw [hq]; rfl))
   exact (OwnD.rep q2).mono (fun g _ q => ⟨hS g (q1 g q).1, (q1 g q).2⟩)
theorem clone_any : ∀ (n : Nat) (v : V n) {S : Nat → Prop} {w : World} {cs : List Value}, Rep n S w cs v → Small n v →
  Calls Tryz.prog 87 #[.agg cs.toArray] w fun e w' => (∃ cs' : List Value, e = .returned (.agg cs'.toArray) ∧ OwnRep n w.heap.size w' cs' v) ∧ Kept [] w w' := fun n v {_} {_} {_} h hs => (cloneD_any n v h hs).mono fun _ _ ⟨⟨cs', e, ho⟩, hk⟩ => ⟨⟨cs', e, ho.own (fun _ hg => hg.1)⟩, hk⟩
end Go.Proofs.YtckbnjipecclaaaGreatDoor
namespace Go.Proofs
open Go.Shelf
def Tryz.shSort_ren : Go.Shelf.Ren := ⟨fun | 6 => 207 | 15 => 148 | 14 => 226 | 28 => 190 | 29 => 191 | 20 => 234 | 21 => 235 | 22 => 236 | 23 => 237 | 24 => 238 | 25 => 239 | 26 => 240 | 27 => 241 | 46 => 247 | 47 => 211 | 48 => 212 | 49 => 248 | 50 => 249 | 57 => 252 | n => n, fun | 22 => 26 | 24 => 78 | 25 => 234 | 3 => 3 | 39 => 125 | 0 => 0 | 53 => 139 | 55 => 225 | 4 => 4 | 46 => 217 | 45 => 216 | 50 => 221 | 5 => 5 | 9 => 9 | 66 => 235 | 70 => 239 | 76 => 249 | 77 => 164 | n => n, fun | n => n⟩
theorem Tryz.shSort : Go.Proofs.SlLaysF0.n6 Tryz.prog Tryz.shSort_ren := {
 mixed := by kernel_rfl
 f6 := ⟨Tryz.f207.name, by decide, Tryz.func207.trans (congrArg some (by kernel_rfl))⟩
 f14 := ⟨Tryz.f226.name, by decide, Tryz.func226.trans (congrArg some (by kernel_rfl))⟩
 f15 := Tryz.func148.trans (congrArg some (by kernel_rfl))
 f20 := ⟨Tryz.f234.name, by decide, Tryz.func234.trans (congrArg some (by kernel_rfl))⟩
 f21 := ⟨Tryz.f235.name, by decide, Tryz.func235.trans (congrArg some (by kernel_rfl))⟩
 f22 := ⟨Tryz.f236.name, by decide, Tryz.func236.trans (congrArg some (by kernel_rfl))⟩
 f23 := ⟨Tryz.f237.name, by decide, Tryz.func237.trans (congrArg some (by kernel_rfl))⟩
 f24 := ⟨Tryz.f238.name, by decide, Tryz.func238.trans (congrArg some (by kernel_rfl))⟩
 f25 := ⟨Tryz.f239.name, by decide, Tryz.func239.trans (congrArg some (by kernel_rfl))⟩
 f26 := ⟨Tryz.f240.name, by decide, Tryz.func240.trans (congrArg some (by kernel_rfl))⟩
 f27 := ⟨Tryz.f241.name, by decide, Tryz.func241.trans (congrArg some (by kernel_rfl))⟩
 f28 := Tryz.func190.trans (congrArg some (by kernel_rfl))
 f29 := Tryz.func191.trans (congrArg some (by kernel_rfl))
 f46 := ⟨Tryz.f247.name, by decide, Tryz.func247.trans (congrArg some (by kernel_rfl))⟩
 f47 := Tryz.func211.trans (congrArg some (by kernel_rfl))
 f48 := Tryz.func212.trans (congrArg some (by kernel_rfl))
 f49 := ⟨Tryz.f248.name, by decide, Tryz.func248.trans (congrArg some (by kernel_rfl))⟩
 f50 := ⟨Tryz.f249.name, by decide, Tryz.func249.trans (congrArg some (by kernel_rfl))⟩
 f57 := ⟨Tryz.f252.name, by decide, Tryz.func252.trans (congrArg some (by kernel_rfl))⟩
 t0 := Tryz.underlying0
 a0 := Tryz.isAgg0
 z0 := Tryz.sizeOf0
 v0 := Tryz.zeroValue0
 t3 := Tryz.underlying3
 a3 := Tryz.isAgg3
 z3 := Tryz.sizeOf3
 v3 := Tryz.zeroValue3
 t4 := Tryz.underlying4
 a4 := Tryz.isAgg4
 z4 := Tryz.sizeOf4
 v4 := Tryz.zeroValue4
 t5 := Tryz.underlying5
 a5 := Tryz.isAgg5
 z5 := Tryz.sizeOf5
 v5 := Tryz.zeroValue5
 t9 := Tryz.underlying9
 a9 := Tryz.isAgg9
 z9 := Tryz.sizeOf9
 v9 := Tryz.zeroValue9
 t22 := Tryz.underlying26
 a22 := Tryz.isAgg26
 z22 := Tryz.sizeOf26
 v22 := Tryz.zeroValue26
 t25 := Tryz.underlying234
 a25 := Tryz.isAgg234
 z25 := Tryz.sizeOf234
 v25 := Tryz.zeroValue234
 t39 := Tryz.underlying125
 a39 := Tryz.isAgg125
 z39 := Tryz.sizeOf125
 v39 := Tryz.zeroValue125
 t45 := Tryz.underlying216
 a45 := Tryz.isAgg216
 z45 := Tryz.sizeOf216
 v45 := Tryz.zeroValue216
 t46 := Tryz.underlying217
 a46 := Tryz.isAgg217
 z46 := Tryz.sizeOf217
 v46 := Tryz.zeroValue217
 t50 := Tryz.underlying221
 a50 := Tryz.isAgg221
 z50 := Tryz.sizeOf221
 v50 := Tryz.zeroValue221
 t53 := Tryz.underlying139
 a53 := Tryz.isAgg139
 z53 := Tryz.sizeOf139
 v53 := Tryz.zeroValue139
 t55 := Tryz.underlying225
 a55 := Tryz.isAgg225
 z55 := Tryz.sizeOf225
 v55 := Tryz.zeroValue225
 t66 := Tryz.underlying235
 a66 := Tryz.isAgg235
 z66 := Tryz.sizeOf235
 v66 := Tryz.zeroValue235
 t70 := Tryz.underlying239
 a70 := Tryz.isAgg239
 z70 := Tryz.sizeOf239
 v70 := Tryz.zeroValue239
 t76 := Tryz.underlying249
 a76 := Tryz.isAgg249
 z76 := Tryz.sizeOf249
 v76 := Tryz.zeroValue249
 t77 := Tryz.underlying164
 a77 := Tryz.isAgg164
 z77 := Tryz.sizeOf164
 v77 := Tryz.zeroValue164 }
end Go.Proofs
namespace Go.Proofs.YtckbnjipecclaaaGreatDoor
open Go.RowKit
open Go.Sort (grow flatK size_flatK get_flatK putRowK HoldsK)
theorem bytesLess_eq : ∀ (l m : List UInt8), Op.bytesLess l m = decide (l < m)
 | [], [] => by simp [Op.bytesLess]
 | _ :: _, [] => by simp [Op.bytesLess]
 | [], _ :: _ => by simp [Op.bytesLess]
 | a :: x, b :: y => by
  have ih := bytesLess_eq x y
  unfold Op.bytesLess
  rw [ih, Bool.eq_iff_iff]
  simp only [Bool.or_eq_true, Bool.and_eq_true, decide_eq_true_eq, beq_iff_eq, List.cons_lt_cons_iff]
theorem All2.perm {α β : Type} {R : α → β → Prop} : ∀ {xs xs' : List α} {ys : List β}, All2 R xs ys → xs'.Perm xs → ∃ ys', ys'.Perm ys ∧ All2 R xs' ys' := by
 intro xs xs' ys h hp
 induction hp generalizing ys with
 | nil => exact ⟨ys, List.Perm.refl _, h⟩
 | cons x _ ih =>
  match ys, h with
  | [], h => exact absurd h.1 (by simp)
  | y :: ys, h =>
   obtain ⟨zs, h1, h2⟩ := ih (ys := ys) ⟨by simpa using h.1, fun j a b ha hb => h.2 (j + 1) a b (by simpa using ha) (by simpa using hb)⟩
   exact ⟨y :: zs, h1.cons y, h2.cons (h.2 0 _ _ rfl rfl)⟩
 | swap x z l =>
  match ys, h with
  | [], h => exact absurd h.1 (by simp)
  | [_], h => exact absurd h.1 (by simp)
  | y1 :: y2 :: ys, h =>
   refine ⟨y2 :: y1 :: ys, List.Perm.swap .., ?_⟩
   have h0 : All2 R l ys := ⟨by simpa using h.1, fun j a b ha hb => h.2 (j + 2) a b (by simpa using ha) (by simpa using hb)⟩
   exact All2.cons (h.2 1 _ _ rfl rfl) (All2.cons (h.2 0 _ _ rfl rfl) h0)
 | trans _ _ ih1 ih2 =>
  obtain ⟨z1, p1, h1⟩ := ih2 h
  obtain ⟨z2, p2, h2⟩ := ih1 h1
  exact ⟨z2, p2.trans p1, h2⟩
theorem flat_set {size : Nat} (ls : List (List Value)) (i : Nat) (c : List Value) (h : ∀ x, x ∈ ls → x.length = size) (hc : c.length = size) (j : Nat) :
  (ls.set i c).flatten[j]? = if i < ls.length ∧ i * size ≤ j ∧ j < i * size + size then c[j - i * size]? else ls.flatten[j]? := by
 induction ls generalizing i j with
 | nil => simp
 | cons x ls ih =>
  have hx := h x (List.mem_cons_self ..)
  cases i with
  | zero =>
   simp only [List.set_cons_zero, List.flatten_cons, Nat.zero_mul, Nat.zero_le, true_and, Nat.zero_add, Nat.sub_zero, List.length_cons, Nat.zero_lt_succ]
   by_cases hj : j < size
   ·rw [if_pos hj, List.getElem?_append_left (by omega)]
   ·rw [if_neg hj, List.getElem?_append_right (by omega), List.getElem?_append_right (by omega), hc, hx]
  | succ i =>
   simp only [List.set_cons_succ, List.flatten_cons, List.length_cons]
   have e : (i + 1) * size = i * size + size := by rw [Nat.add_mul, Nat.one_mul]
   by_cases hj : j < size
   ·rw [List.getElem?_append_left (by omega), List.getElem?_append_left (by omega), if_neg (by omega)]
   ·rw [List.getElem?_append_right (by omega), List.getElem?_append_right (by omega), ih i (fun y hy => h y (List.mem_cons_of_mem _ hy)), hx, e]
    by_cases q : i < ls.length ∧ i * size ≤ j - size ∧ j - size < i * size + size
    ·rw [if_pos q, if_pos (by omega), show j - (i * size + size) = j - size - i * size by omega]
    ·rw [if_neg q, if_neg (by omega)]
theorem row_stored {w : World} {base e size n : Nat} {v : Value} {ls : List (List Value)} {i g : Nat} {c : List Value} (h : w.ownsRow base e size v n ls.flatten) (hls : ∀ x, x ∈ ls → x.length = size) (hv : v.ownBlock = some g) (hn : ls.length = n) (hi : i < n) (hc : c.length = size) :
  (w.setCells g (i * size) c).ownsRow base e size v n (ls.set i c).flatten ∧ w.there g (i * size) size ∧ Kept [g] w (w.setCells g (i * size) c) := by
 obtain ⟨h1, h2⟩ := h
 rcases h2 with ⟨rfl, _⟩ | ⟨g', cap, cur, rfl, hb, hh, hcap, hm, hs, ht⟩
 ·simp [Value.ownBlock] at hv
 ·simp [Value.ownBlock] at hv
  subst hv
  have hfl := flat_len ls hls
  have hsz : (i + 1) * size ≤ cap * size := Nat.mul_le_mul_right size (by omega)
  rw [Nat.add_mul, Nat.one_mul] at hsz
  have hnc : n * size ≤ cap * size := Nat.mul_le_mul_right size hcap
  have hin : (i + 1) * size ≤ n * size := Nat.mul_le_mul_right size (by omega)
  rw [Nat.add_mul, Nat.one_mul] at hin
  obtain ⟨cur', q1, q2, q3⟩ := setCells_at g' c (i * size) w cur hh
  refine ⟨⟨?_, .inr ⟨g', cap, cur', rfl, hb, q1, hcap, hm, by rw [q2]; exact hs, ?_⟩⟩, ?_, setCells_kept _ _ _ _⟩
  ·rw [flat_len (size := size) _ (fun x hx => by
    rcases List.mem_or_eq_of_mem_set hx with hx | rfl
    ·exact hls x hx
    ·exact hc), List.length_set, hn]
  ·apply List.ext_getElem?
   intro j
   rw [flat_set ls i c hls hc, List.getElem?_take]
   by_cases hj : j < n * size
   ·rw [if_pos hj, Array.getElem?_toList, q3 j (by omega), hc]
    by_cases q : i * size ≤ j ∧ j < i * size + size
    ·rw [if_pos q, if_pos ⟨by omega, q⟩]
    ·rw [if_neg q, if_neg (fun q' => q q'.2), ← ht, List.getElem?_take, if_pos hj, Array.getElem?_toList]
   ·rw [if_neg hj, if_neg (by omega), List.getElem?_eq_none (by rw [hfl, hn]; omega)]
  ·intro j hj
   have hl : i * size + j < cur.size := by omega
   have hcell : w.cell? ⟨g', i * size + j, none⟩ = some cur[i * size + j] := cell_head hh (by simp [hl])
   exact ⟨by rw [hcell]; rfl, free_head hh⟩
section
variable {α : Type} [Inhabited α]
theorem sort_world (enc : α → List Value) (k : Nat) {w : World} {g e : Nat} {cur : Array Value} (hh : w.heap[g]? = some (.cells cur e (0, 0))) (m : Nat) (d : Array α) (os : Array Obj) (hs : d.size * k ≤ cur.size) :
  Kept [g] w (sortWorldK enc k w g 0 m d os) ∧ ∃ cur', (sortWorldK enc k w g 0 m d os).heap[g]? = some (.cells cur' e (0, 0)) ∧ cur'.size = cur.size ∧ ∀ t, t < cur.size → cur'[t]? = if t < d.size * k then some (enc d[t / k]!)[t % k]! else cur[t]? := by
 have hg := lt_of_block hh
 have h0 : ∀ j, (sortWorldK enc k w g 0 m d os).heap[j]? = if j < w.heap.size then (w.heap.modify g (Sort.onCells (Sort.putCells id 0 (flatK enc k d))))[j]? else os[j - w.heap.size]? := by
  intro j
  show ((w.heap.modify g (Sort.onCells (Sort.putCells id 0 (flatK enc k d)))) ++ os)[j]? = _
  rw [Array.getElem?_append, Array.size_modify]
 refine ⟨⟨rfl, rfl, rfl, ?_, ?_⟩, Sort.putCells id 0 (flatK enc k d) cur, ?_, by simp [Sort.putCells], ?_⟩
 ·show w.heap.size ≤ ((w.heap.modify g (Sort.onCells (Sort.putCells id 0 (flatK enc k d)))) ++ os).size
  rw [Array.size_append, Array.size_modify]; omega
 ·intro j hj hx
  rw [h0, if_pos hj, Array.getElem?_modify, if_neg (by simp at hx; omega)]
 ·rw [h0, if_pos hg, Array.getElem?_modify, if_pos rfl, hh]
  rfl
 ·intro t ht
  simp only [Sort.putCells, Array.getElem?_mapIdx, Nat.zero_le, true_and, Nat.zero_add, Nat.sub_zero, size_flatK, id]
  rw [Array.getElem?_eq_getElem ht]
  by_cases q : t < d.size * k
  ·rw [if_pos q, Option.map_some, if_pos q, get_flatK enc k d t q]
  ·rw [if_neg q, Option.map_some, if_neg q]
end
end Go.Proofs.YtckbnjipecclaaaGreatDoor

/- Parts of one proof, merged: XVL XVR XG XVS XVP XVU. -/
import Derived.Test.YtckbnjipecclaaaGreatDoorHkA
import Derived.Lib.ValidU
import Derived.Lib.ItoaLen
import Derived.Lib.SpaceU
import Derived.Lib.DecodeN
set_option linter.all false
set_option maxHeartbeats 12800000
set_option maxRecDepth 10000
set_option linter.unusedVariables false
set_option linter.unusedSimpArgs false
set_option linter.unnecessarySimpa false
namespace Go.Proofs.YtckbnjipecclaaaGreatDoor
def goL {α : Type} (f : α → Nat) : Nat → List α → Nat
 | a, [] => a
 | a, x :: l => if a ≤ 6000 then goL f (a + f x) l else a
theorem goL_stop {α : Type} (f : α → Nat) {a : Nat} (h : 6000 < a) (l : List α) : goL f a l = a := by
 cases l with
 | nil => rfl
 | cons x l => unfold goL; rw [if_neg (by omega)]
theorem goL_ge {α : Type} (f : α → Nat) : ∀ (l : List α) (a : Nat), a ≤ goL f a l
 | [], _ => Nat.le_refl _
 | x :: l, a => by
  unfold goL
  split
  ·have := goL_ge f l (a + f x); omega
  ·exact Nat.le_refl _
theorem goL_few {α : Type} (f : α → Nat) : ∀ (l : List α) (a : Nat), goL f a l ≤ 6000 → goL f a l = a + (l.map f).sum
 | [], a, _ => by simp [goL]
 | x :: l, a, h => by
  have ha : a ≤ 6000 := Nat.le_trans (goL_ge f (x :: l) a) h
  unfold goL at h ⊢
  rw [if_pos ha] at h ⊢
  rw [goL_few f l _ h]
  simp; omega
theorem goL_le {α : Type} (f : α → Nat) {B : Nat} : ∀ (l : List α) (a : Nat), (∀ x, x ∈ l → f x ≤ B) → a ≤ 6000 + B → goL f a l ≤ 6000 + B
 | [], _, _, h => h
 | x :: l, a, hf, h => by
  unfold goL
  split
  ·exact goL_le f l _ (fun y hy => hf y (List.mem_cons_of_mem _ hy)) (by have := hf x (List.mem_cons_self ..); omega)
  ·exact h
def pairW {α : Type} (f : α → Nat) (p : ByteArray × α) : Nat := 1 + p.1.size / 10 + f p.2
def largeV : (n : Nat) → Nat → V n → Nat
 | 0, _, _ => 0
 | n + 1, d, (v : VS (V n)) => if 20 < d ∨ 3000 < v.l.length + v.m.length then 10000 else goL (pairW (largeV n (d + 1))) (goL (largeV n (d + 1)) (1 + v.s.size / 10) v.l) v.m
theorem sum_map_le {α : Type} {f g : α → Nat} : ∀ (l : List α), (∀ x, x ∈ l → f x ≤ g x) → (l.map f).sum ≤ (l.map g).sum
 | [], _ => Nat.le_refl _
 | x :: l, h => by
  have := sum_map_le l (fun y hy => h y (List.mem_cons_of_mem _ hy))
  have := h x (List.mem_cons_self ..)
  simp only [List.map_cons, List.sum_cons]
  omega
theorem sum_mul {α : Type} (c : Nat) (f : α → Nat) : ∀ (l : List α), (l.map (fun x => c * f x)).sum = c * (l.map f).sum
 | [] => rfl
 | x :: l => by
  have := sum_mul c f l
  simp only [List.map_cons, List.sum_cons, this, Nat.mul_add]
theorem sum_add {α : Type} (f g : α → Nat) : ∀ (l : List α), (l.map (fun x => f x + g x)).sum = (l.map f).sum + (l.map g).sum
 | [] => rfl
 | x :: l => by
  have := sum_add f g l
  simp only [List.map_cons, List.sum_cons, this]
  omega
theorem large_parts {n d : Nat} {v : VS (V n)} (h : largeV (n + 1) d v ≤ 6000) :
  d ≤ 20 ∧ v.l.length + v.m.length ≤ 3000 ∧ largeV (n + 1) d v = 1 + v.s.size / 10 + (v.l.map (largeV n (d + 1))).sum + (v.m.map (pairW (largeV n (d + 1)))).sum := by
 have e : largeV (n + 1) d v = if 20 < d ∨ 3000 < v.l.length + v.m.length then 10000 else goL (pairW (largeV n (d + 1))) (goL (largeV n (d + 1)) (1 + v.s.size / 10) v.l) v.m := rfl
 rw [e] at h ⊢
 split at h
 ·omega
 ·rename_i hc
  rw [if_neg hc]
  have h1 := goL_few _ _ _ h
  have h2 : goL (largeV n (d + 1)) (1 + v.s.size / 10) v.l ≤ 6000 := Nat.le_trans (goL_ge _ _ _) h
  rw [h1, goL_few _ _ _ h2]
  exact ⟨by omega, by omega, rfl⟩
theorem large_kid {n d : Nat} {v : VS (V n)} (h : largeV (n + 1) d v ≤ 6000) {x : V n} (hx : x ∈ v.kids) : largeV n (d + 1) x ≤ 6000 := by
 obtain ⟨_, _, e⟩ := large_parts h
 rcases List.mem_append.1 hx with hx | hx
 ·have := sum_mem (List.mem_map.2 ⟨x, hx, rfl⟩ : largeV n (d + 1) x ∈ v.l.map (largeV n (d + 1)))
  omega
 ·obtain ⟨p, hp, rfl⟩ := List.mem_map.1 hx
  have := sum_mem (List.mem_map.2 ⟨p, hp, rfl⟩ : pairW (largeV n (d + 1)) p ∈ v.m.map (pairW (largeV n (d + 1))))
  have e2 : pairW (largeV n (d + 1)) p = 1 + p.1.size / 10 + largeV n (d + 1) p.2 := rfl
  omega
theorem kids_sum {n : Nat} (f : V n → Nat) (v : VS (V n)) : (v.kids.map f).sum = (v.l.map f).sum + (v.m.map (fun p => f p.2)).sum := by
 simp [VS.kids, Function.comp_def]
theorem large_small : ∀ (n d : Nat) (v : V n), largeV n d v ≤ 6000 → countV n v ≤ largeV n d v ∧ bytesV n v ≤ 10 * largeV n d v ∧ (n = 0 ∨ d + depthV n v ≤ 21)
 | 0, _, v, _ => nomatch v
 | n + 1, d, (v : VS (V n)), h => by
  obtain ⟨h1, h2, e⟩ := large_parts h
  have ih := fun x (hx : x ∈ v.kids) => large_small n (d + 1) x (large_kid h hx)
  have c1 : (v.l.map (countV n)).sum ≤ (v.l.map (largeV n (d + 1))).sum := sum_map_le _ fun x hx => (ih x (mem_l hx)).1
  have c2 : (v.m.map (fun p => countV n p.2)).sum ≤ (v.m.map (pairW (largeV n (d + 1)))).sum := sum_map_le _ fun p hp => by
   have := (ih p.2 (mem_m hp)).1
   unfold pairW; omega
  have b1 : (v.l.map (bytesV n)).sum ≤ 10 * (v.l.map (largeV n (d + 1))).sum := by
   rw [← sum_mul]
   exact sum_map_le _ fun x hx => (ih x (mem_l hx)).2.1
  have b2 : (v.m.map (fun p => p.1.size + bytesV n p.2)).sum ≤ 10 * (v.m.map (pairW (largeV n (d + 1)))).sum := by
   rw [← sum_mul]
   exact sum_map_le _ fun p hp => by
    have := (ih p.2 (mem_m hp)).2.1
    unfold pairW; omega
  rw [sum_add] at b2
  have ec : countV (n + 1) v = 1 + ((v.l.map (countV n)).sum + (v.m.map (fun p => countV n p.2)).sum) := by rw [← kids_sum]; rfl
  have eb : bytesV (n + 1) v = v.s.size + (v.m.map (fun p => p.1.size)).sum + ((v.l.map (bytesV n)).sum + (v.m.map (fun p => bytesV n p.2)).sum) := by rw [← kids_sum]; rfl
  refine ⟨by omega, by omega, .inr ?_⟩
  have hd : maxL (v.kids.map (depthV n)) ≤ 20 - d := by
   refine maxL_le.2 fun x hx => ?_
   obtain ⟨y, hy, rfl⟩ := List.mem_map.1 hx
   rcases (ih y hy).2.2 with h3 | h3
   ·subst h3; exact nomatch y
   ·omega
  show d + (1 + maxL (v.kids.map (depthV n))) ≤ 21
  omega
theorem small_of {n d : Nat} {v : V n} (h : largeV n d v ≤ 6000) : Small n v := by
 obtain ⟨h1, h2, _⟩ := large_small n d v h
 exact ⟨by omega, by omega⟩
def TextsLe (B : Nat) : (n : Nat) → V n → Prop
 | 0, _ => True
 | n + 1, (v : VS (V n)) => (v.s.size ≤ B ∧ v.l.length ≤ B ∧ v.m.length ≤ B) ∧ (∀ p, p ∈ v.m → p.1.size ≤ B) ∧ ∀ x, x ∈ v.kids → TextsLe B n x
theorem large_le {B : Nat} : ∀ (n d : Nat) (v : V n), TextsLe B n v → largeV n d v ≤ (22 - d) * (20000 + 2 * B) + 20000
 | 0, _, v, _ => nomatch v
 | n + 1, d, (v : VS (V n)), h => by
  obtain ⟨⟨h1, _, _⟩, h2, h3⟩ := h
  have e : largeV (n + 1) d v = if 20 < d ∨ 3000 < v.l.length + v.m.length then 10000 else goL (pairW (largeV n (d + 1))) (goL (largeV n (d + 1)) (1 + v.s.size / 10) v.l) v.m := rfl
  rw [e]
  split
  ·omega
  ·rename_i hc
   have hd : d ≤ 20 := by omega
   have ih := fun x (hx : x ∈ v.kids) => large_le (B := B) n (d + 1) x (h3 x hx)
   have hm : (22 - d) * (20000 + 2 * B) = (22 - (d + 1)) * (20000 + 2 * B) + (20000 + 2 * B) := by
    rw [show 22 - d = (22 - (d + 1)) + 1 by omega, Nat.add_mul, Nat.one_mul]
   rw [hm]
   revert ih
   generalize (22 - (d + 1)) * (20000 + 2 * B) = Z
   intro ih
   have g1 : goL (largeV n (d + 1)) (1 + v.s.size / 10) v.l ≤ 6000 + (Z + 20000 + B) := goL_le _ _ _ (fun x hx => by have := ih x (mem_l hx); omega) (by omega)
   have g2 : goL (pairW (largeV n (d + 1))) (goL (largeV n (d + 1)) (1 + v.s.size / 10) v.l) v.m ≤ 6000 + (Z + 20001 + B) := goL_le _ _ _ (fun p hp => by
    have := ih p.2 (mem_m hp)
    have := h2 p hp
    unfold pairW; omega) (by omega)
   omega
open Go.RowKit
def pairC (p : ByteArray × List Value) : List Value := .string p.1 :: p.2
def pairCs (l : List (ByteArray × List Value)) : List Value := l.flatMap pairC
def pairR {α : Type} (R : List Value → α → Prop) (p : ByteArray × List Value) (q : ByteArray × α) : Prop := p.1 = q.1 ∧ R p.2 q.2
structure RepOne {α : Type} (R : List Value → α → Prop) (S : Nat → Prop) (w : World) (cs : List Value) (v : VS α) (vl vm : Value) (lcs : List (List Value)) (mcs : List (ByteArray × List Value)) : Prop where
 cells : cs = [.int .i64 v.kind, .int .i64 v.num, .string v.s, vl, vm]
 slcl : Slc w 5 vl v.l.length lcs.flatten
 alll : All2 R lcs v.l
 slcm : Slc w 6 vm v.m.length (pairCs mcs)
 allm : All2 (pairR R) mcs v.m
 inl : ∀ g, vblk vl = some g → S g
 inm : ∀ g, vblk vm = some g → S g
 wfk : (Lit.int .i64 v.kind).wf = true
 wfn : (Lit.int .i64 v.num).wf = true
def Rep : (n : Nat) → (Nat → Prop) → World → List Value → V n → Prop
 | 0, _, _, _, _ => False
 | n + 1, S, w, cs, (v : VS (V n)) => ∃ vl vm lcs mcs, RepOne (Rep n S w) S w cs v vl vm lcs mcs
theorem Rep.open_ {n : Nat} {S : Nat → Prop} {w : World} {cs : List Value} {v : VS (V n)} (h : Rep (n + 1) S w cs v) : ∃ vl vm lcs mcs, RepOne (Rep n S w) S w cs v vl vm lcs mcs := h
theorem RepOne.close {n : Nat} {S : Nat → Prop} {w : World} {cs : List Value} {v : VS (V n)} {vl vm : Value} {lcs : List (List Value)} {mcs : List (ByteArray × List Value)} (h : RepOne (Rep n S w) S w cs v vl vm lcs mcs) : Rep (n + 1) S w cs v := ⟨vl, vm, lcs, mcs, h⟩
theorem Rep.five : ∀ {n : Nat} {S : Nat → Prop} {w : World} {cs : List Value} {v : V n}, Rep n S w cs v → ∃ k m s vl vm, cs = [.int .i64 k, .int .i64 m, .string s, vl, vm]
 | 0, _, _, _, _, h => h.elim
 | _ + 1, _, _, _, _, h => by
  obtain ⟨vl, vm, lcs, mcs, h⟩ := h
  exact ⟨_, _, _, _, _, h.cells⟩
theorem Rep.len {n : Nat} {S : Nat → Prop} {w : World} {cs : List Value} {v : V n} (h : Rep n S w cs v) : cs.length = 5 := by
 obtain ⟨k, m, s, vl, vm, rfl⟩ := h.five
 rfl
theorem Rep.kept : ∀ {n : Nat} {S : Nat → Prop} {X : List Nat} {w w' : World} {cs : List Value} {v : V n}, Rep n S w cs v → Kept X w w' → (∀ k, k ∈ X → ¬ S k) → Rep n S w' cs v
 | 0, _, _, _, _, _, _, h, _, _ => h.elim
 | n + 1, S, X, w, w', cs, v, h, k, hX => by
  obtain ⟨vl, vm, lcs, mcs, h⟩ := h
  exact ⟨vl, vm, lcs, mcs, {
   cells := h.cells
   slcl := h.slcl.kept k (fun g hg hx => hX g hx (h.inl g hg))
   alll := h.alll.mono fun _ _ _ r => Rep.kept r k hX
   slcm := h.slcm.kept k (fun g hg hx => hX g hx (h.inm g hg))
   allm := h.allm.mono fun _ _ _ r => ⟨r.1, Rep.kept r.2 k hX⟩
   inl := h.inl
   inm := h.inm
   wfk := h.wfk
   wfn := h.wfn }⟩
theorem Rep.kept0 {n : Nat} {S : Nat → Prop} {w w' : World} {cs : List Value} {v : V n} (h : Rep n S w cs v) (k : Kept [] w w') : Rep n S w' cs v := h.kept k (by simp)
theorem Rep.mono : ∀ {n : Nat} {S T : Nat → Prop} {w : World} {cs : List Value} {v : V n}, Rep n S w cs v → (∀ k, k < w.heap.size → S k → T k) → Rep n T w cs v
 | 0, _, _, _, _, _, h, _ => h.elim
 | n + 1, S, T, w, cs, v, h, hT => by
  obtain ⟨vl, vm, lcs, mcs, h⟩ := h
  exact ⟨vl, vm, lcs, mcs, {
   cells := h.cells
   slcl := h.slcl
   alll := h.alll.mono fun _ _ _ r => Rep.mono r hT
   slcm := h.slcm
   allm := h.allm.mono fun _ _ _ r => ⟨r.1, Rep.mono r.2 hT⟩
   inl := fun g hg => hT g (h.slcl.lt hg) (h.inl g hg)
   inm := fun g hg => hT g (h.slcm.lt hg) (h.inm g hg)
   wfk := h.wfk
   wfn := h.wfn }⟩
theorem All2.map_right {α β γ : Type} {R : α → β → Prop} {Q : α → γ → Prop} {f : β → γ} {xs : List α} {ys : List β} (h : All2 R xs ys) (hf : ∀ x y, R x y → Q x (f y)) : All2 Q xs (ys.map f) := by
 refine ⟨by simp [h.1], ?_⟩
 intro j x z hx hz
 rw [List.getElem?_map, Option.map_eq_some_iff] at hz
 obtain ⟨y, hy, rfl⟩ := hz
 exact hf x y (h.2 j x y hx hy)
theorem Rep.up : ∀ {n : Nat} {S : Nat → Prop} {w : World} {cs : List Value} {v : V n}, Rep n S w cs v → Rep (n + 1) S w cs (Go.Proofs.YtckbnjipecclaaaGreatDoor.up n v)
 | 0, _, _, _, _, h => h.elim
 | n + 1, S, w, cs, v, h => by
  obtain ⟨vl, vm, lcs, mcs, h⟩ := h
  exact ⟨vl, vm, lcs, mcs, {
   cells := h.cells
   slcl := by have := h.slcl; show Slc w 5 vl (v.l.map _).length _; rw [List.length_map]; exact this
   alll := h.alll.map_right fun _ _ r => Rep.up r
   slcm := by have := h.slcm; show Slc w 6 vm (v.m.map _).length _; rw [List.length_map]; exact this
   allm := h.allm.map_right fun _ _ r => ⟨r.1, Rep.up r.2⟩
   inl := h.inl
   inm := h.inm
   wfk := h.wfk
   wfn := h.wfn }⟩
theorem flat_get {size : Nat} : ∀ (ls : List (List Value)) (j i : Nat), (∀ c, c ∈ ls → c.length = size) → (hj : j < ls.length) → i < size → ls.flatten[j * size + i]? = ls[j][i]?
 | [], j, i, _, hj, _ => by simp at hj
 | c :: ls, 0, i, h, _, hi => by
  have hc := h c (List.mem_cons_self ..)
  rw [List.flatten_cons, Nat.zero_mul, Nat.zero_add, List.getElem?_append_left (by omega)]
  rfl
 | c :: ls, j + 1, i, h, hj, hi => by
  have hc := h c (List.mem_cons_self ..)
  rw [List.flatten_cons, List.getElem?_append_right (by rw [hc, Nat.add_mul]; omega), hc, show (j + 1) * size + i - size = j * size + i by rw [Nat.add_mul]; omega]
  exact flat_get ls j i (fun d hd => h d (List.mem_cons_of_mem _ hd)) (by simpa using hj) hi
theorem flat_len {size : Nat} : ∀ (ls : List (List Value)), (∀ c, c ∈ ls → c.length = size) → ls.flatten.length = ls.length * size
 | [], _ => by simp
 | c :: ls, h => by
  rw [List.flatten_cons, List.length_append, flat_len ls (fun d hd => h d (List.mem_cons_of_mem _ hd)), h c (List.mem_cons_self ..), List.length_cons, Nat.add_mul]
  omega
theorem pairCs_flat (l : List (ByteArray × List Value)) : pairCs l = (l.map pairC).flatten := by simp [pairCs, List.flatMap]
section
variable {n : Nat} {S : Nat → Prop} {w : World} {cs : List Value} {v : VS (V n)} {vl vm : Value} {lcs : List (List Value)} {mcs : List (ByteArray × List Value)}
theorem RepOne.lens (h : RepOne (Rep n S w) S w cs v vl vm lcs mcs) : lcs.length = v.l.length ∧ mcs.length = v.m.length := ⟨h.alll.1, h.allm.1⟩
theorem RepOne.five_l (h : RepOne (Rep n S w) S w cs v vl vm lcs mcs) : ∀ c, c ∈ lcs → c.length = 5 := by
 intro c hc
 obtain ⟨j, hj, rfl⟩ := List.getElem_of_mem hc
 exact (h.alll.2 j _ _ (List.getElem?_eq_getElem hj) (List.getElem?_eq_getElem (by rw [← h.alll.1]; exact hj))).len
theorem RepOne.six_m (h : RepOne (Rep n S w) S w cs v vl vm lcs mcs) : ∀ c, c ∈ mcs.map pairC → c.length = 6 := by
 intro c hc
 obtain ⟨p, hp, rfl⟩ := List.mem_map.1 hc
 obtain ⟨j, hj, rfl⟩ := List.getElem_of_mem hp
 have := (h.allm.2 j _ _ (List.getElem?_eq_getElem hj) (List.getElem?_eq_getElem (by rw [← h.allm.1]; exact hj))).2.len
 simp [pairC, this]
theorem RepOne.at_lx (h : RepOne (Rep n S w) S w cs v vl vm lcs mcs) {w' : World} (k : Kept [] w w') (j : Nat) (hj : j < v.l.length) :
  ∃ g o cap kd nm s a b, vl = .slice (some ⟨g, o, none⟩) v.l.length cap ∧ w'.cell? ⟨g, o + j * 5, none⟩ = some (.int .i64 kd) ∧ w'.cell? ⟨g, o + j * 5 + 1, none⟩ = some (.int .i64 nm) ∧ w'.cell? ⟨g, o + j * 5 + 2, none⟩ = some (.string s) ∧
   w'.cell? ⟨g, o + j * 5 + 3, none⟩ = some a ∧ w'.cell? ⟨g, o + j * 5 + 4, none⟩ = some b ∧ Rep n S w' [.int .i64 kd, .int .i64 nm, .string s, a, b] v.l[j] ∧ lcs[j]? = some [.int .i64 kd, .int .i64 nm, .string s, a, b] := by
 have hj' : j < lcs.length := by rw [h.lens.1]; exact hj
 have hr := h.alll.2 j _ _ (List.getElem?_eq_getElem hj') (List.getElem?_eq_getElem hj)
 obtain ⟨kd, nm, s, a, b, e⟩ := hr.five
 rcases (h.slcl.kept0 k).2 with ⟨_, h0⟩ | ⟨h0, _⟩ | ⟨g, o, cap, hsv, _, _, hrow⟩
 ·omega
 ·omega
 have hc : ∀ i, i < 5 → lcs.flatten[j * 5 + i]? = lcs[j][i]? := fun i hi => flat_get lcs j i h.five_l hj' hi
 rw [e] at hc hr
 refine ⟨g, o, cap, kd, nm, s, a, b, hsv, ?_, ?_, ?_, ?_, ?_, hr.kept0 k, by rw [List.getElem?_eq_getElem hj', e]⟩
 ·exact hrow.cells (j * 5 + 0) _ (hc 0 (by decide))
 all_goals rw [Nat.add_assoc]
 ·exact hrow.cells (j * 5 + 1) _ (hc 1 (by decide))
 ·exact hrow.cells (j * 5 + 2) _ (hc 2 (by decide))
 ·exact hrow.cells (j * 5 + 3) _ (hc 3 (by decide))
 ·exact hrow.cells (j * 5 + 4) _ (hc 4 (by decide))
theorem RepOne.at_l (h : RepOne (Rep n S w) S w cs v vl vm lcs mcs) {w' : World} (k : Kept [] w w') (j : Nat) (hj : j < v.l.length) :
  ∃ g o cap kd nm s a b, vl = .slice (some ⟨g, o, none⟩) v.l.length cap ∧ w'.cell? ⟨g, o + j * 5, none⟩ = some (.int .i64 kd) ∧ w'.cell? ⟨g, o + j * 5 + 1, none⟩ = some (.int .i64 nm) ∧ w'.cell? ⟨g, o + j * 5 + 2, none⟩ = some (.string s) ∧
   w'.cell? ⟨g, o + j * 5 + 3, none⟩ = some a ∧ w'.cell? ⟨g, o + j * 5 + 4, none⟩ = some b ∧ Rep n S w' [.int .i64 kd, .int .i64 nm, .string s, a, b] v.l[j] := by
 obtain ⟨g, o, cap, kd, nm, s, a, b, h0, h1, h2, h3, h4, h5, h6, _⟩ := h.at_lx k j hj
 exact ⟨g, o, cap, kd, nm, s, a, b, h0, h1, h2, h3, h4, h5, h6⟩
theorem RepOne.at_mx (h : RepOne (Rep n S w) S w cs v vl vm lcs mcs) {w' : World} (k : Kept [] w w') (j : Nat) (hj : j < v.m.length) :
  ∃ g o cap kd nm s a b, vm = .slice (some ⟨g, o, none⟩) v.m.length cap ∧ w'.cell? ⟨g, o + j * 6, none⟩ = some (.string v.m[j].1) ∧ w'.cell? ⟨g, o + j * 6 + 1, none⟩ = some (.int .i64 kd) ∧ w'.cell? ⟨g, o + j * 6 + 2, none⟩ = some (.int .i64 nm) ∧ w'.cell? ⟨g, o + j * 6 + 3, none⟩ = some (.string s) ∧
   w'.cell? ⟨g, o + j * 6 + 4, none⟩ = some a ∧ w'.cell? ⟨g, o + j * 6 + 5, none⟩ = some b ∧ Rep n S w' [.int .i64 kd, .int .i64 nm, .string s, a, b] v.m[j].2 ∧ mcs[j]? = some (v.m[j].1, [.int .i64 kd, .int .i64 nm, .string s, a, b]) := by
 have hj' : j < mcs.length := by rw [h.lens.2]; exact hj
 have hr := h.allm.2 j _ _ (List.getElem?_eq_getElem hj') (List.getElem?_eq_getElem hj)
 obtain ⟨kd, nm, s, a, b, e⟩ := hr.2.five
 rcases (h.slcm.kept0 k).2 with ⟨_, h0⟩ | ⟨h0, _⟩ | ⟨g, o, cap, hsv, _, _, hrow⟩
 ·omega
 ·omega
 have hc : ∀ i, i < 6 → (pairCs mcs)[j * 6 + i]? = (pairC mcs[j])[i]? := fun i hi => by
  rw [pairCs_flat, flat_get (mcs.map pairC) j i h.six_m (by simpa using hj') hi, List.getElem_map]
 have e2 : pairC mcs[j] = [.string v.m[j].1, .int .i64 kd, .int .i64 nm, .string s, a, b] := by
  show Value.string mcs[j].1 :: mcs[j].2 = _
  rw [e, hr.1]
 have hr2 := hr.2
 rw [e] at hr2
 rw [e2] at hc
 refine ⟨g, o, cap, kd, nm, s, a, b, hsv, ?_, ?_, ?_, ?_, ?_, ?_, hr2.kept0 k, by rw [List.getElem?_eq_getElem hj']; exact congrArg some (Prod.ext hr.1 e)⟩
 ·exact hrow.cells (j * 6 + 0) _ (hc 0 (by decide))
 all_goals rw [Nat.add_assoc]
 ·exact hrow.cells (j * 6 + 1) _ (hc 1 (by decide))
 ·exact hrow.cells (j * 6 + 2) _ (hc 2 (by decide))
 ·exact hrow.cells (j * 6 + 3) _ (hc 3 (by decide))
 ·exact hrow.cells (j * 6 + 4) _ (hc 4 (by decide))
 ·exact hrow.cells (j * 6 + 5) _ (hc 5 (by decide))
theorem RepOne.at_m (h : RepOne (Rep n S w) S w cs v vl vm lcs mcs) {w' : World} (k : Kept [] w w') (j : Nat) (hj : j < v.m.length) :
  ∃ g o cap kd nm s a b, vm = .slice (some ⟨g, o, none⟩) v.m.length cap ∧ w'.cell? ⟨g, o + j * 6, none⟩ = some (.string v.m[j].1) ∧ w'.cell? ⟨g, o + j * 6 + 1, none⟩ = some (.int .i64 kd) ∧ w'.cell? ⟨g, o + j * 6 + 2, none⟩ = some (.int .i64 nm) ∧ w'.cell? ⟨g, o + j * 6 + 3, none⟩ = some (.string s) ∧
   w'.cell? ⟨g, o + j * 6 + 4, none⟩ = some a ∧ w'.cell? ⟨g, o + j * 6 + 5, none⟩ = some b ∧ Rep n S w' [.int .i64 kd, .int .i64 nm, .string s, a, b] v.m[j].2 := by
 obtain ⟨g, o, cap, kd, nm, s, a, b, h0, h1, h2, h3, h4, h5, h6, h7, _⟩ := h.at_mx k j hj
 exact ⟨g, o, cap, kd, nm, s, a, b, h0, h1, h2, h3, h4, h5, h6, h7⟩
theorem RepOne.forms (h : RepOne (Rep n S w) S w cs v vl vm lcs mcs) : ∃ a c b d, vl = .slice a v.l.length c ∧ vm = .slice b v.m.length d ∧ cs = [.int .i64 v.kind, .int .i64 v.num, .string v.s, .slice a v.l.length c, .slice b v.m.length d] := by
 obtain ⟨a, c, e1, -, -⟩ := h.slcl.form
 obtain ⟨b, d, e2, -, -⟩ := h.slcm.form
 exact ⟨a, c, b, d, e1, e2, by rw [h.cells, e1, e2]⟩
end
theorem rep_leaf {n : Nat} (S : Nat → Prop) (w : World) (v : VS (V n)) (hl : v.l = []) (hm : v.m = []) (hk : (Lit.int .i64 v.kind).wf = true) (hn : (Lit.int .i64 v.num).wf = true) : Rep (n + 1) S w [.int .i64 v.kind, .int .i64 v.num, .string v.s, .slice none 0 0, .slice none 0 0] v :=
 ⟨.slice none 0 0, .slice none 0 0, [], [], {
  cells := rfl
  slcl := by rw [hl]; exact slc_nil _ _
  alll := by rw [hl]; exact All2.nil _
  slcm := by rw [hm]; exact slc_nil _ _
  allm := by rw [hm]; exact All2.nil _
  inl := by simp [vblk]
  inm := by simp [vblk]
  wfk := hk
  wfn := hn }⟩
theorem oper_append {P : Program} {t e size bytes : Nat} {z : Value} (T : SliceTy P t e size bytes z) {w : World} {base : Nat} {v : Value} {n : Nat} {xs : List Value} (hown : w.ownsRow base e size v n xs)
  {vx : Value} {m : Nat} {news : List Value} (hsrc : Slc w size vx m news) (h1 : ∀ u ∈ news, u.oneCell' = true) (h63 : n + m ≤ maxLen) (hbytes : (n + m) * bytes ≤ 140737488355328) (hbase : base ≤ w.heap.size)
  {o : Oper} {a : Act} {K : Act → World → Prop} {Q : Exit → Act → World → Prop} (s x : Operand)
  (ho : o.op = .call { callee := .builtin .append, args := #[s, x], argTypes := #[t, t] }) (hs : a.eval s = v) (hx : a.eval x = vx)
  (h : ∀ b c w', w'.ownsRow base e size (.slice b (n + m) c) (n + m) (xs ++ news) → Kept v.ownBlock.toList w w' → ((Value.slice b (n + m) c).ownBlock = v.ownBlock ∨ (Value.slice b (n + m) c).ownBlock = some w.heap.size) → K (a.put o.dst (.slice b (n + m) c)) w') :
  Oper.wp P o a w K Q := by
 obtain ⟨v', w', hr, h2, h3, h4, h5⟩ := run_append_slc T w o.type base v n xs hown vx m news hsrc h1 h63 hbytes hbase
 obtain ⟨b, c, rfl, -, -⟩ := (Slc.of_row h2).form
 unfold Oper.wp execOp
 simp only [ho, resolve, invoke, builtin, Sem.run_bind, Sem.run_pure, Result.andThen_ok, List.map_toArray, List.map_cons, List.map_nil, hs, hx, hr]
 exact h b c w' h2 h3 h5
theorem oper_append0 {P : Program} {t e size bytes : Nat} {z : Value} (T : SliceTy P t e size bytes z) {w : World} {base : Nat} {v : Value} (hown : w.ownsRow base e size v 0 [])
  {vx : Value} {m : Nat} {news : List Value} (hsrc : Slc w size vx m news) (h1 : ∀ u ∈ news, u.oneCell' = true) (h63 : m ≤ maxLen) (hbytes : m * bytes ≤ 140737488355328) (hbase : base ≤ w.heap.size)
  {o : Oper} {a : Act} {K : Act → World → Prop} {Q : Exit → Act → World → Prop} (s x : Operand)
  (ho : o.op = .call { callee := .builtin .append, args := #[s, x], argTypes := #[t, t] }) (hs : a.eval s = v) (hx : a.eval x = vx)
  (h : ∀ b c w', w'.ownsRow base e size (.slice b m c) m news → Kept v.ownBlock.toList w w' → ((Value.slice b m c).ownBlock = v.ownBlock ∨ (Value.slice b m c).ownBlock = some w.heap.size) → K (a.put o.dst (.slice b m c)) w') :
  Oper.wp P o a w K Q := by
 refine oper_append T hown hsrc h1 (by omega) (by rw [Nat.zero_add]; exact hbytes) hbase s x ho hs hx ?_
 rw [Nat.zero_add, List.nil_append]
 exact h
theorem setCell_heap {w : World} {b i : Nat} {c : Array Value} {t : Nat} {f : Nat × Nat} (h : w.heap[b]? = some (.cells c t f)) (v : Value) : (w.setCell ⟨b, i, none⟩ v).heap[b]? = some (.cells (c.setIfInBounds i v) t f) := by
 simp [World.setCell, Array.getElem?_modify, h]
theorem setCells_kept (g : Nat) : ∀ (vs : List Value) (o : Nat) (w : World), Kept [g] w (w.setCells g o vs)
 | [], o, w => Kept.refl _ _
 | v :: r, o, w => ((Kept.refl [g] w).setCell (p := ⟨g, o, none⟩) (.inl (by simp)) v).trans' (setCells_kept g r (o + 1) _)
theorem setCells_at (g : Nat) {e : Nat} {f : Nat × Nat} : ∀ (vs : List Value) (o : Nat) (w : World) (cur : Array Value), w.heap[g]? = some (.cells cur e f) →
  ∃ cur', (w.setCells g o vs).heap[g]? = some (.cells cur' e f) ∧ cur'.size = cur.size ∧ ∀ j, j < cur.size → cur'[j]? = if o ≤ j ∧ j < o + vs.length then vs[j - o]? else cur[j]?
 | [], o, w, cur, h => ⟨cur, h, rfl, fun j hj => by rw [if_neg (by simp)]⟩
 | v :: r, o, w, cur, h => by
  have h1 : (w.setCell ⟨g, o, none⟩ v).heap[g]? = some (.cells (cur.setIfInBounds o v) e f) := by simp [World.setCell, Array.getElem?_modify, h]
  obtain ⟨cur', h2, h3, h4⟩ := setCells_at g r (o + 1) _ _ h1
  refine ⟨cur', h2, by rw [h3]; simp, ?_⟩
  intro j hj
  rw [h4 j (by simpa using hj)]
  simp only [List.length_cons]
  by_cases e1 : j = o
  ·subst e1
   rw [if_neg (by omega), if_pos (by omega)]
   simp [hj]
  ·by_cases e2 : o + 1 ≤ j ∧ j < o + 1 + r.length
   ·rw [if_pos e2, if_pos (by omega)]
    rw [show j - o = (j - (o + 1)) + 1 by omega]
    rfl
   ·rw [if_neg e2, if_neg (by omega)]
    rw [Array.getElem?_setIfInBounds]
    rw [if_neg (by omega)]
theorem block_setCell {w : World} {b i : Nat} {c : Array Value} {t : Nat} {f : Nat × Nat} {v : Value} (h : w.heap[b]? = some (.cells c t f)) {d : Array Value} (hd : c.setIfInBounds i v = d) : (w.setCell ⟨b, i, none⟩ v).heap[b]? = some (.cells d t f) := by
 subst hd; exact setCell_heap h v
theorem block_alloc {w : World} {o : Obj} {g : Nat} (hg : w.heap.size = g) : (w.alloc o).heap[g]? = some o := by
 subst hg; exact heap_alloc_new w o
structure PBoxAt (w : World) (g : Nat) (key : ByteArray) (k m : Int) (s : ByteArray) (a b : Value) : Prop where
 c0 : w.cell? ⟨g, 0, none⟩ = some (.string key)
 c1 : w.cell? ⟨g, 1, none⟩ = some (.int .i64 k)
 c2 : w.cell? ⟨g, 2, none⟩ = some (.int .i64 m)
 c3 : w.cell? ⟨g, 3, none⟩ = some (.string s)
 c4 : w.cell? ⟨g, 4, none⟩ = some a
 c5 : w.cell? ⟨g, 5, none⟩ = some b
theorem pbox_at {w : World} {g : Nat} (hg : w.heap.size = g) (key : ByteArray) (k m : Int) (s : ByteArray) (a b : Value) (t : Nat) : PBoxAt (w.alloc (.cells #[.string key, .int .i64 k, .int .i64 m, .string s, a, b] t)) g key k m s a b := by
 subst hg
 have hb := heap_alloc_new w (.cells #[.string key, .int .i64 k, .int .i64 m, .string s, a, b] t)
 exact ⟨cell_head hb rfl, cell_head hb rfl, cell_head hb rfl, cell_head hb rfl, cell_head hb rfl, cell_head hb rfl⟩
theorem PBoxAt.kept {w w' : World} {g : Nat} {key : ByteArray} {k m : Int} {s : ByteArray} {a b : Value} (h : PBoxAt w g key k m s a b) {X : List Nat} (hk : Kept X w w') (hX : g ∉ X) : PBoxAt w' g key k m s a b :=
 ⟨hk.cell h.c0 hX, hk.cell h.c1 hX, hk.cell h.c2 hX, hk.cell h.c3 hX, hk.cell h.c4 hX, hk.cell h.c5 hX⟩
theorem PBoxAt.kept0 {w w' : World} {g : Nat} {key : ByteArray} {k m : Int} {s : ByteArray} {a b : Value} (h : PBoxAt w g key k m s a b) (hk : Kept [] w w') : PBoxAt w' g key k m s a b := h.kept hk (by simp)
theorem Rep.move {n : Nat} {S T : Nat → Prop} {X : List Nat} {w w' : World} {cs : List Value} {v : V n} (h : Rep n S w cs v) (hk : Kept X w w') (hS : ∀ g, g < w.heap.size → S g → g ∉ X ∧ T g) : Rep n T w' cs v :=
 ((h.mono (T := fun g => g ∉ X ∧ T g) hS).kept hk (fun g hx q => q.1 hx)).mono (fun _ _ q => q.2)
theorem Rep.sl {n : Nat} {S : Nat → Prop} {w : World} {k m : Int} {s : ByteArray} {a b : Value} {v : V n} (h : Rep n S w [.int .i64 k, .int .i64 m, .string s, a, b] v) : ∃ p i c q j d, a = .slice p i c ∧ b = .slice q j d := by
 match n, v, h with
 | n + 1, v, h =>
  obtain ⟨vl, vm, lcs, mcs, h⟩ := h
  obtain ⟨p, c, q, d, _, _, e⟩ := h.forms
  simp only [List.cons.injEq] at e
  exact ⟨_, _, _, _, _, _, e.2.2.2.1, e.2.2.2.2.1⟩
def eqL {α : Type} (r : α → α → Bool) : List α → List α → Bool
 | [], [] => true
 | x :: xs, y :: ys => r x y && eqL r xs ys
 | _, _ => false
theorem eqL_iff {α : Type} {r : α → α → Bool} (h : ∀ x y, r x y = true ↔ x = y) : ∀ (xs ys : List α), eqL r xs ys = true ↔ xs = ys
 | [], [] => by simp [eqL]
 | [], y :: ys => by simp [eqL]
 | x :: xs, [] => by simp [eqL]
 | x :: xs, y :: ys => by simp [eqL, h x y, eqL_iff h xs ys]
def eqV : (n : Nat) → V n → V n → Bool
 | 0, _, _ => true
 | n + 1, (a : VS (V n)), (b : VS (V n)) => decide (a.kind = b.kind) && decide (a.num = b.num) && decide (a.s = b.s) && eqL (eqV n) a.l b.l && eqL (fun p q => decide (p.1 = q.1) && eqV n p.2 q.2) a.m b.m
theorem eqV_iff : ∀ (n : Nat) (a b : V n), eqV n a b = true ↔ a = b
 | 0, a, _ => nomatch a
 | n + 1, (a : VS (V n)), (b : VS (V n)) => by
  have ih := eqV_iff n
  have e : eqV (n + 1) a b = (decide (a.kind = b.kind) && decide (a.num = b.num) && decide (a.s = b.s) && eqL (eqV n) a.l b.l && eqL (fun p q => decide (p.1 = q.1) && eqV n p.2 q.2) a.m b.m) := rfl
  have hp : ∀ p q : ByteArray × V n, (decide (p.1 = q.1) && eqV n p.2 q.2) = true ↔ p = q := fun p q => by
   rw [Bool.and_eq_true, decide_eq_true_iff, ih p.2 q.2]
   exact ⟨fun h => Prod.ext h.1 h.2, fun h => by rw [h]; exact ⟨rfl, rfl⟩⟩
  rw [e]
  simp only [Bool.and_eq_true, decide_eq_true_iff, eqL_iff ih, eqL_iff hp]
  exact ⟨fun ⟨⟨⟨⟨h1, h2⟩, h3⟩, h4⟩, h5⟩ => VS.ext' h1 h2 h3 h4 h5, fun h => by rw [h]; exact ⟨⟨⟨⟨rfl, rfl⟩, rfl⟩, rfl⟩, rfl⟩⟩
def bytesOk (s : ByteArray) : Bool := Lib.validD s.data.toList
def noneS (s : ByteArray) : Bool := decide (s = ⟨#[]⟩)
def keysOk {α : Type} (m : List (ByteArray × α)) : Bool := m.all (fun p => bytesOk p.1) && decide ((m.map (fun p => p.1)).Nodup)
def ownRight {α : Type} (v : VS α) : Bool :=
 if v.kind = 1 then decide (v.num = 0) && noneS v.s && v.l.isEmpty && v.m.isEmpty
 else if v.kind = 2 then decide (v.num = 0 ∨ v.num = 1) && noneS v.s && v.l.isEmpty && v.m.isEmpty
 else if v.kind = 3 then decide (-9007199254740991 ≤ v.num ∧ v.num ≤ 9007199254740991) && noneS v.s && v.l.isEmpty && v.m.isEmpty
 else if v.kind = 4 then bytesOk v.s && decide (v.num = 0) && v.l.isEmpty && v.m.isEmpty
 else if v.kind = 5 then decide (v.num = 0) && noneS v.s && v.m.isEmpty
 else if v.kind = 6 then keysOk v.m && decide (v.num = 0) && noneS v.s && v.l.isEmpty
 else false
def rightV : (n : Nat) → V n → Bool
 | 0, _ => true
 | n + 1, (v : VS (V n)) => ownRight v && v.kids.all (rightV n)
def checkV (n : Nat) (v : V n) : Int := if 12 < depthV n v then 41 else if 4096 < countV n v then 42 else if rightV n v then 0 else 40
theorem checkV_zero {n : Nat} {v : V n} : checkV n v = 0 ↔ depthV n v ≤ 12 ∧ countV n v ≤ 4096 ∧ rightV n v = true := by
 unfold checkV
 split
 ·constructor
  ·intro h; cases h
  ·intro h; omega
 ·split
  ·constructor
   ·intro h; cases h
   ·intro h; omega
  ·split
   ·rename_i h1 h2 h3; exact ⟨fun _ => ⟨by omega, by omega, h3⟩, fun _ => rfl⟩
   ·rename_i h1 h2 h3; exact ⟨(fun h => by cases h), (fun h => absurd h.2.2 h3)⟩
theorem right_kid {n : Nat} {v : VS (V n)} (h : rightV (n + 1) v = true) {x : V n} (hx : x ∈ v.kids) : rightV n x = true := by
 have e : rightV (n + 1) v = (ownRight v && v.kids.all (rightV n)) := rfl
 rw [e, Bool.and_eq_true] at h
 exact List.all_eq_true.1 h.2 x hx
theorem right_own {n : Nat} {v : VS (V n)} (h : rightV (n + 1) v = true) : ownRight v = true := by
 have e : rightV (n + 1) v = (ownRight v && v.kids.all (rightV n)) := rfl
 rw [e, Bool.and_eq_true] at h
 exact h.1
theorem own_cases {α : Type} {v : VS α} (h : ownRight v = true) :
  (v.kind = 1 ∧ v.num = 0 ∧ v.s = ⟨#[]⟩ ∧ v.l = [] ∧ v.m = []) ∨ (v.kind = 2 ∧ (v.num = 0 ∨ v.num = 1) ∧ v.s = ⟨#[]⟩ ∧ v.l = [] ∧ v.m = []) ∨
  (v.kind = 3 ∧ (-9007199254740991 ≤ v.num ∧ v.num ≤ 9007199254740991) ∧ v.s = ⟨#[]⟩ ∧ v.l = [] ∧ v.m = []) ∨ (v.kind = 4 ∧ v.num = 0 ∧ bytesOk v.s = true ∧ v.l = [] ∧ v.m = []) ∨
  (v.kind = 5 ∧ v.num = 0 ∧ v.s = ⟨#[]⟩ ∧ v.m = []) ∨ (v.kind = 6 ∧ v.num = 0 ∧ v.s = ⟨#[]⟩ ∧ v.l = [] ∧ keysOk v.m = true) := by
 unfold ownRight noneS at h
 split at h
 ·rename_i e; simp only [Bool.and_eq_true, decide_eq_true_iff, List.isEmpty_iff] at h; exact .inl ⟨e, h.1.1.1, h.1.1.2, h.1.2, h.2⟩
 split at h
 ·rename_i e; simp only [Bool.and_eq_true, decide_eq_true_iff, List.isEmpty_iff] at h; exact .inr (.inl ⟨e, h.1.1.1, h.1.1.2, h.1.2, h.2⟩)
 split at h
 ·rename_i e; simp only [Bool.and_eq_true, decide_eq_true_iff, List.isEmpty_iff] at h; exact .inr (.inr (.inl ⟨e, h.1.1.1, h.1.1.2, h.1.2, h.2⟩))
 split at h
 ·rename_i e; simp only [Bool.and_eq_true, decide_eq_true_iff, List.isEmpty_iff] at h; exact .inr (.inr (.inr (.inl ⟨e, h.1.1.2, h.1.1.1, h.1.2, h.2⟩)))
 split at h
 ·rename_i e; simp only [Bool.and_eq_true, decide_eq_true_iff, List.isEmpty_iff] at h; exact .inr (.inr (.inr (.inr (.inl ⟨e, h.1.1, h.1.2, h.2⟩))))
 split at h
 ·rename_i e; simp only [Bool.and_eq_true, decide_eq_true_iff, List.isEmpty_iff] at h; exact .inr (.inr (.inr (.inr (.inr ⟨e, h.1.1.2, h.1.2, h.2, h.1.1.1⟩))))
 ·cases h
def leK {α : Type} (a b : ByteArray × α) : Bool := decide (a.1.data.toList ≤ b.1.data.toList)
def sortV : (n : Nat) → V n → V n
 | 0, v => v
 | n + 1, (v : VS (V n)) => (⟨v.kind, v.num, v.s, v.l.map (sortV n), (v.m.map (fun p => (p.1, sortV n p.2))).mergeSort leK⟩ : VS (V n))
theorem leK_trans {α : Type} (a b c : ByteArray × α) (h1 : leK a b = true) (h2 : leK b c = true) : leK a c = true := by
 simp only [leK, decide_eq_true_eq] at *
 exact List.le_trans h1 h2
theorem leK_total {α : Type} (a b : ByteArray × α) : (leK a b || leK b a) = true := by
 simp only [leK, Bool.or_eq_true, decide_eq_true_eq]
 exact List.le_total _ _
theorem ba_eq {x y : ByteArray} (h : x.data.toList = y.data.toList) : x = y := by
 cases x; cases y
 simp only [ByteArray.mk.injEq] at *
 exact Array.toList_inj.1 h
theorem sorted_unique {α : Type} {a b : List (ByteArray × α)} (hp : a.Perm b) (ha : a.Pairwise (fun x y => leK x y = true)) (hb : b.Pairwise (fun x y => leK x y = true)) (hn : (a.map (fun p => p.1)).Nodup) : a = b := by
 refine List.Perm.eq_of_pairwise (le := fun x y => leK x y = true) (fun x y hx hy h1 h2 => ?_) ha hb hp
 simp only [leK, decide_eq_true_eq] at h1 h2
 have e : x.1 = y.1 := ba_eq (List.le_antisymm h1 h2)
 have hy' : y ∈ a := hp.mem_iff.2 hy
 obtain ⟨i, hi, rfl⟩ := List.getElem_of_mem hx
 obtain ⟨j, hj, rfl⟩ := List.getElem_of_mem hy'
 have hij : i = j := by
  rcases Nat.lt_trichotomy i j with h | h | h
  ·exact absurd e (by
    have := (List.pairwise_iff_getElem.1 hn) i j (by simpa using hi) (by simpa using hj) h
    simpa using this)
  ·exact h
  ·exact absurd e.symm (by
    have := (List.pairwise_iff_getElem.1 hn) j i (by simpa using hj) (by simpa using hi) h
    simpa using this)
 subst hij; rfl
def hexd (n : Nat) : UInt8 := UInt8.ofNat (if n < 10 then 48 + n else 87 + n)
def quoteB (c : UInt8) : List UInt8 := if c.toNat < 32 then [92, 117, 48, 48, hexd (c.toNat / 16), hexd (c.toNat % 16)] else if c = 34 ∨ c = 92 then [92, c] else [c]
def quoteL (s : List UInt8) : List UInt8 := 34 :: (s.flatMap quoteB ++ [34])
def commas : List (List UInt8) → List UInt8
 | [] => []
 | [x] => x
 | x :: y :: l => x ++ (44 :: commas (y :: l))
def writeV : (n : Nat) → V n → List UInt8
 | 0, _ => []
 | n + 1, (v : VS (V n)) =>
  if v.kind = 1 then [110, 117, 108, 108]
  else if v.kind = 2 then (if v.num = 1 then [116, 114, 117, 101] else [102, 97, 108, 115, 101])
  else if v.kind = 3 then Lib.itoa v.num
  else if v.kind = 4 then quoteL v.s.data.toList
  else if v.kind = 5 then 91 :: (commas (v.l.map (writeV n)) ++ [93])
  else 123 :: (commas (v.m.map (fun p => quoteL p.1.data.toList ++ (58 :: writeV n p.2))) ++ [125])
def encV (n : Nat) (v : V n) : List UInt8 × Int :=
 if checkV n v ≠ 0 then ([], checkV n v) else if 262144 < (writeV n (sortV n v)).length then ([], 3) else (writeV n (sortV n v), 0)
def strB (l : List UInt8) : ByteArray := ⟨l.toArray⟩
theorem strB_list (l : List UInt8) : (strB l).data.toList = l := by simp [strB]
def isDig (c : UInt8) : Bool := decide (48 ≤ c.toNat) && decide (c.toNat ≤ 57)
def hexV (c : UInt8) : Option Nat :=
 if 48 ≤ c.toNat ∧ c.toNat ≤ 57 then some (c.toNat - 48) else if 97 ≤ c.toNat ∧ c.toNat ≤ 102 then some (c.toNat - 87) else if 65 ≤ c.toNat ∧ c.toNat ≤ 70 then some (c.toNat - 55) else none
def utfB (r : Int) : List UInt8 := (Utf8.encode r).data.toList
def runeB (r : Nat) : List UInt8 := utfB r
def digSum (s : List UInt8) : Nat := s.foldl (fun a c => 10 * a + (c.toNat - 48)) 0
section
variable {α : Type} (sub : List UInt8 → Nat → Sum Int (α × List UInt8 × Nat))
end
open Go.Lib (decodeN decodeL)
def gb (l : List UInt8) (i : Nat) : Nat := (l.getD i 0).toNat
theorem get_getD (l : List UInt8) (i : Nat) : ((⟨l.toArray⟩ : ByteArray).get! i) = l.getD i 0 := by
 show l.toArray[i]! = _
 rw [List.getD_eq_getElem?_getD, getElem!_def]
 simp only [List.getElem?_toArray]
 cases l[i]? <;> rfl
theorem decodeL_eq (l : List UInt8) : decodeL l = decodeN l.length (gb l 0) (gb l 1) (gb l 2) (gb l 3) := by
 unfold decodeL
 rw [Lib.decode_at]
 have hs : (⟨l.toArray⟩ : ByteArray).size = l.length := by simp [ByteArray.size]
 simp only [hs, Nat.sub_zero, Nat.zero_add, get_getD, gb]
theorem gb_app (l x : List UInt8) (i : Nat) (h : i < l.length) : gb (l ++ x) i = gb l i := by
 unfold gb
 rw [List.getD_eq_getElem?_getD, List.getD_eq_getElem?_getD, List.getElem?_append_left h]
theorem gb_lt (l : List UInt8) (i : Nat) : gb l i < 256 := (l.getD i 0).toNat_lt
theorem decodeN_ok {n b0 b1 b2 b3 : Nat} (hn : 1 ≤ n) (h1 : b1 < 256) (h2 : b2 < 256) (h3 : b3 < 256) (h0 : b0 < 256) (h : ¬((decodeN n b0 b1 b2 b3).1 = 65533 ∧ (decodeN n b0 b1 b2 b3).2 = 1)) :
  (b0 < 128 ∧ decodeN n b0 b1 b2 b3 = (b0, 1)) ∨
  (128 ≤ b0 ∧ b0 / 32 = 6 ∧ 2 ≤ n ∧ b1 / 64 = 2 ∧ 128 ≤ b0 % 32 * 64 + b1 % 64 ∧ decodeN n b0 b1 b2 b3 = (b0 % 32 * 64 + b1 % 64, 2)) ∨
  (128 ≤ b0 ∧ b0 / 16 = 14 ∧ 3 ≤ n ∧ b1 / 64 = 2 ∧ b2 / 64 = 2 ∧ 2048 ≤ b0 % 16 * 4096 + b1 % 64 * 64 + b2 % 64 ∧ (b0 % 16 * 4096 + b1 % 64 * 64 + b2 % 64 < 55296 ∨ 57344 ≤ b0 % 16 * 4096 + b1 % 64 * 64 + b2 % 64) ∧ decodeN n b0 b1 b2 b3 = (b0 % 16 * 4096 + b1 % 64 * 64 + b2 % 64, 3)) ∨
  (128 ≤ b0 ∧ b0 / 8 = 30 ∧ 4 ≤ n ∧ b1 / 64 = 2 ∧ b2 / 64 = 2 ∧ b3 / 64 = 2 ∧ 65536 ≤ b0 % 8 * 262144 + b1 % 64 * 4096 + b2 % 64 * 64 + b3 % 64 ∧ b0 % 8 * 262144 + b1 % 64 * 4096 + b2 % 64 * 64 + b3 % 64 ≤ 1114111 ∧ decodeN n b0 b1 b2 b3 = (b0 % 8 * 262144 + b1 % 64 * 4096 + b2 % 64 * 64 + b3 % 64, 4)) := by
 unfold decodeN at h ⊢
 by_cases c0 : b0 < 128
 ·rw [if_pos c0]; exact .inl ⟨c0, rfl⟩
 rw [if_neg c0] at h ⊢
 by_cases c1 : b0 / 32 = 6 ∧ (1 < n ∧ b1 / 64 = 2)
 ·rw [if_pos c1] at h ⊢
  by_cases d : b0 % 32 * 64 + b1 % 64 ≥ 128
  ·rw [if_pos d]; exact .inr (.inl ⟨by omega, c1.1, by omega, c1.2.2, d, rfl⟩)
  ·rw [if_neg d] at h; exact absurd ⟨rfl, rfl⟩ h
 rw [if_neg c1] at h ⊢
 by_cases c2 : b0 / 16 = 14 ∧ (1 < n ∧ b1 / 64 = 2) ∧ (2 < n ∧ b2 / 64 = 2)
 ·rw [if_pos c2] at h ⊢
  split at h
  ·rename_i d; rw [if_pos d]; exact .inr (.inr (.inl ⟨by omega, c2.1, by omega, c2.2.1.2, c2.2.2.2, d.1, by omega, rfl⟩))
  ·exact absurd ⟨rfl, rfl⟩ h
 rw [if_neg c2] at h ⊢
 by_cases c3 : b0 / 8 = 30 ∧ (1 < n ∧ b1 / 64 = 2) ∧ (2 < n ∧ b2 / 64 = 2) ∧ (3 < n ∧ b3 / 64 = 2)
 ·rw [if_pos c3] at h ⊢
  split at h
  ·rename_i d; rw [if_pos d]; exact .inr (.inr (.inr ⟨by omega, c3.1, by omega, c3.2.1.2, c3.2.2.1.2, c3.2.2.2.2, d.1, by omega, rfl⟩))
  ·exact absurd ⟨rfl, rfl⟩ h
 rw [if_neg c3] at h
 exact absurd ⟨rfl, rfl⟩ h
theorem decodeN_more {n m b0 b1 b2 b3 c1 c2 c3 : Nat} (hn : 1 ≤ n) (hm : (decodeN n b0 b1 b2 b3).2 ≤ m) (h1 : b1 < 256) (h2 : b2 < 256) (h3 : b3 < 256) (h0 : b0 < 256) (h : ¬((decodeN n b0 b1 b2 b3).1 = 65533 ∧ (decodeN n b0 b1 b2 b3).2 = 1))
  (e1 : 1 < (decodeN n b0 b1 b2 b3).2 → c1 = b1) (e2 : 2 < (decodeN n b0 b1 b2 b3).2 → c2 = b2) (e3 : 3 < (decodeN n b0 b1 b2 b3).2 → c3 = b3) : decodeN m b0 c1 c2 c3 = decodeN n b0 b1 b2 b3 := by
 rcases decodeN_ok hn h1 h2 h3 h0 h with ⟨q0, e⟩ | ⟨q0, q1, q2, q3, q4, e⟩ | ⟨q0, q1, q2, q3, q4, q5, q6, e⟩ | ⟨q0, q1, q2, q3, q4, q5, q6, q7, e⟩
 all_goals
  rw [e] at hm e1 e2 e3
  simp only at hm e1 e2 e3
 ·rw [e]; unfold decodeN; rw [if_pos q0]
 ·rw [e, e1 (by omega)]
  unfold decodeN
  rw [if_neg (by omega), if_pos ⟨q1, by omega, q3⟩, if_pos q4]
 ·rw [e, e1 (by omega), e2 (by omega)]
  unfold decodeN
  rw [if_neg (by omega), if_neg (by omega), if_pos ⟨q1, ⟨by omega, q3⟩, by omega, q4⟩, if_pos ⟨q5, by omega⟩]
 ·rw [e, e1 (by omega), e2 (by omega), e3 (by omega)]
  unfold decodeN
  rw [if_neg (by omega), if_neg (by omega), if_neg (by omega), if_pos ⟨q1, ⟨by omega, q3⟩, ⟨by omega, q4⟩, by omega, q5⟩, if_pos ⟨q6, by omega⟩]
theorem take_two {l : List UInt8} (h : 2 ≤ l.length) : l.take 2 = [l.getD 0 0, l.getD 1 0] := by
 match l, h with
 | a :: b :: t, _ => rfl
theorem take_three {l : List UInt8} (h : 3 ≤ l.length) : l.take 3 = [l.getD 0 0, l.getD 1 0, l.getD 2 0] := by
 match l, h with
 | a :: b :: c :: t, _ => rfl
theorem take_four {l : List UInt8} (h : 4 ≤ l.length) : l.take 4 = [l.getD 0 0, l.getD 1 0, l.getD 2 0, l.getD 3 0] := by
 match l, h with
 | a :: b :: c :: d :: t, _ => rfl
theorem enc_aux (c : Nat) : (if c < 128 then (⟨#[UInt8.ofNat c]⟩ : ByteArray) else if c < 2048 then ⟨#[UInt8.ofNat (192 + c / 64), UInt8.ofNat (128 + c % 64)]⟩
  else if c < 65536 then ⟨#[UInt8.ofNat (224 + c / 4096), UInt8.ofNat (128 + c / 64 % 64), UInt8.ofNat (128 + c % 64)]⟩
  else ⟨#[UInt8.ofNat (240 + c / 262144), UInt8.ofNat (128 + c / 4096 % 64), UInt8.ofNat (128 + c / 64 % 64), UInt8.ofNat (128 + c % 64)]⟩).data.toList =
  if c < 128 then [UInt8.ofNat c] else if c < 2048 then [UInt8.ofNat (192 + c / 64), UInt8.ofNat (128 + c % 64)]
  else if c < 65536 then [UInt8.ofNat (224 + c / 4096), UInt8.ofNat (128 + c / 64 % 64), UInt8.ofNat (128 + c % 64)]
  else [UInt8.ofNat (240 + c / 262144), UInt8.ofNat (128 + c / 4096 % 64), UInt8.ofNat (128 + c / 64 % 64), UInt8.ofNat (128 + c % 64)] := by
 by_cases c1 : c < 128
 ·rw [if_pos c1, if_pos c1]
 rw [if_neg c1, if_neg c1]
 by_cases c2 : c < 2048
 ·rw [if_pos c2, if_pos c2]
 rw [if_neg c2, if_neg c2]
 by_cases c3 : c < 65536
 ·rw [if_pos c3, if_pos c3]
 rw [if_neg c3, if_neg c3]
theorem valid_of (c : Nat) (h : c < 55296 ∨ (57344 ≤ c ∧ c ≤ 1114111)) : Utf8.valid (c : Int) = true := by
 unfold Utf8.valid
 rw [Bool.or_eq_true, Bool.and_eq_true, Bool.and_eq_true]
 simp only [decide_eq_true_eq]
 omega
theorem enc_of (r : Int) (h : Utf8.valid r = true) : utfB r = if r.toNat < 128 then [UInt8.ofNat r.toNat] else if r.toNat < 2048 then [UInt8.ofNat (192 + r.toNat / 64), UInt8.ofNat (128 + r.toNat % 64)]
  else if r.toNat < 65536 then [UInt8.ofNat (224 + r.toNat / 4096), UInt8.ofNat (128 + r.toNat / 64 % 64), UInt8.ofNat (128 + r.toNat % 64)]
  else [UInt8.ofNat (240 + r.toNat / 262144), UInt8.ofNat (128 + r.toNat / 4096 % 64), UInt8.ofNat (128 + r.toNat / 64 % 64), UInt8.ofNat (128 + r.toNat % 64)] := by
 unfold utfB Utf8.encode
 rw [if_pos h]
 exact enc_aux _
theorem encode_eq (c : Nat) (h : c < 55296 ∨ (57344 ≤ c ∧ c ≤ 1114111)) : runeB c =
  if c < 128 then [UInt8.ofNat c] else if c < 2048 then [UInt8.ofNat (192 + c / 64), UInt8.ofNat (128 + c % 64)]
  else if c < 65536 then [UInt8.ofNat (224 + c / 4096), UInt8.ofNat (128 + c / 64 % 64), UInt8.ofNat (128 + c % 64)]
  else [UInt8.ofNat (240 + c / 262144), UInt8.ofNat (128 + c / 4096 % 64), UInt8.ofNat (128 + c / 64 % 64), UInt8.ofNat (128 + c % 64)] := by
 have e := enc_of c (valid_of c h)
 rw [Int.toNat_natCast] at e
 exact e
structure Decoded (l : List UInt8) (c n : Nat) : Prop where
 eq : decodeL l = (c, n)
 le : n ≤ l.length
 pos : 1 ≤ n
 one : n = 1 → gb l 0 < 128 ∧ c = gb l 0
 high : 2 ≤ n → ∀ b, b ∈ l.take n → 128 ≤ b.toNat
 rune : runeB c = l.take n
 valid : c < 55296 ∨ (57344 ≤ c ∧ c ≤ 1114111)
 more : ∀ x, decodeL (l.take n ++ x) = (c, n)
theorem decoded {l : List UInt8} (h0 : l ≠ []) (h : ¬((decodeL l).1 = 65533 ∧ (decodeL l).2 = 1)) : Decoded l (decodeL l).1 (decodeL l).2 := by
 have hn : 1 ≤ l.length := by cases l with | nil => exact absurd rfl h0 | cons a t => simp
 have hmore : 1 ≤ (decodeL l).2 → (decodeL l).2 ≤ l.length → ∀ x, decodeL (l.take (decodeL l).2 ++ x) = decodeL l := by
  intro g1 g2 x
  have hl : (l.take (decodeL l).2).length = (decodeL l).2 := by rw [List.length_take]; omega
  have hb : ∀ i, i < (decodeL l).2 → gb (l.take (decodeL l).2 ++ x) i = gb l i := fun i hi => by
   rw [gb_app _ x i (by omega)]
   unfold gb
   rw [List.getD_eq_getElem?_getD, List.getD_eq_getElem?_getD, List.getElem?_take_of_lt hi]
  revert hl hb
  generalize e : l.take (decodeL l).2 ++ x = y
  intro hl hb
  have hy : (decodeL l).2 ≤ y.length := by rw [← e, List.length_append]; omega
  rw [decodeL_eq y, hb 0 (by omega)]
  rw [decodeL_eq l] at h hb hy ⊢
  exact decodeN_more hn hy (gb_lt _ _) (gb_lt _ _) (gb_lt _ _) (gb_lt _ _) h (fun q => hb 1 q) (fun q => hb 2 q) (fun q => hb 3 q)
 have b0 : l.getD 0 0 = UInt8.ofNat (gb l 0) := (UInt8.ofNat_toNat).symm
 have b1 : l.getD 1 0 = UInt8.ofNat (gb l 1) := (UInt8.ofNat_toNat).symm
 have b2 : l.getD 2 0 = UInt8.ofNat (gb l 2) := (UInt8.ofNat_toNat).symm
 have b3 : l.getD 3 0 = UInt8.ofNat (gb l 3) := (UInt8.ofNat_toNat).symm
 have t0 : (l.getD 0 0).toNat = gb l 0 := rfl
 have t1 : (l.getD 1 0).toNat = gb l 1 := rfl
 have t2 : (l.getD 2 0).toNat = gb l 2 := rfl
 have t3 : (l.getD 3 0).toNat = gb l 3 := rfl
 have l0 := gb_lt l 0
 have l1 := gb_lt l 1
 have l2 := gb_lt l 2
 have l3 := gb_lt l 3
 have h' := h
 rw [decodeL_eq] at h'
 rcases decodeN_ok hn l1 l2 l3 l0 h' with ⟨q0, e⟩ | ⟨q0, q1, q2, q3, q4, e⟩ | ⟨q0, q1, q2, q3, q4, q5, q6, e⟩ | ⟨q0, q1, q2, q3, q4, q5, q6, q7, e⟩
 all_goals
  rw [← decodeL_eq] at e
  rw [e] at hmore ⊢
  simp only at hmore ⊢
 ·refine ⟨e, hn, Nat.le_refl _, fun _ => ⟨q0, rfl⟩, fun h => by omega, ?_, by omega, hmore (by omega) (by omega)⟩
  rw [encode_eq _ (by omega), if_pos q0]
  cases l with
  | nil => exact absurd rfl h0
  | cons a t => simp [gb]
 ·refine ⟨e, q2, by omega, fun h => by omega, fun _ b hb => ?_, ?_, by omega, hmore (by omega) (by omega)⟩
  ·rw [take_two q2] at hb
   simp only [List.mem_cons, List.not_mem_nil, or_false] at hb
   rcases hb with rfl | rfl
   ·rw [t0]; omega
   ·rw [t1]; omega
  ·rw [encode_eq _ (by omega), if_neg (by omega), if_pos (by omega), take_two q2, b0, b1]
   congr 2 <;> congr 1 <;> omega
 ·refine ⟨e, q2, by omega, fun h => by omega, fun _ b hb => ?_, ?_, by omega, hmore (by omega) (by omega)⟩
  ·rw [take_three q2] at hb
   simp only [List.mem_cons, List.not_mem_nil, or_false] at hb
   rcases hb with rfl | rfl | rfl
   ·rw [t0]; omega
   ·rw [t1]; omega
   ·rw [t2]; omega
  ·rw [encode_eq _ (by omega), if_neg (by omega), if_neg (by omega), if_pos (by omega), take_three q2, b0, b1, b2]
   congr 1
   ·congr 1; omega
   ·congr 1
    ·congr 1; omega
    ·congr 1; congr 1; omega
 ·refine ⟨e, q2, by omega, fun h => by omega, fun _ b hb => ?_, ?_, by omega, hmore (by omega) (by omega)⟩
  ·rw [take_four q2] at hb
   simp only [List.mem_cons, List.not_mem_nil, or_false] at hb
   rcases hb with rfl | rfl | rfl | rfl
   ·rw [t0]; omega
   ·rw [t1]; omega
   ·rw [t2]; omega
   ·rw [t3]; omega
  ·rw [encode_eq _ (by omega), if_neg (by omega), if_neg (by omega), if_neg (by omega), take_four q2, b0, b1, b2, b3]
   congr 1
   ·congr 1; omega
   ·congr 1
    ·congr 1; omega
    ·congr 1
     ·congr 1; omega
     ·congr 1; congr 1; omega
end Go.Proofs.YtckbnjipecclaaaGreatDoor

/- Parts of one proof, merged: XKA XKB XVS XKC XLast XG. -/
import Derived.Test.YtckbnjipecclaaaGreatDoorNA
import Derived.Deep.DeepCutAuto
import Derived.Deep.CutBlock
import Derived.Lib.ValidU
import Derived.Lib.ItoaLen
import Derived.OrdersHeld
import Derived.Deep.DrawnRows
import Derived.Deep.RegionHeld3
set_option linter.all false
set_option maxHeartbeats 12800000
set_option maxRecDepth 10000
set_option linter.unusedVariables false
set_option linter.unusedSimpArgs false
set_option linter.unnecessarySimpa false
namespace Go.Proofs.YtckbnjipecclaaaGreatDoor
open Go.RowKit
structure BoxAt (w : World) (g : Nat) (k m : Int) (s : ByteArray) (a b : Value) : Prop where
 c0 : w.cell? ⟨g, 0, none⟩ = some (.int .i64 k)
 c1 : w.cell? ⟨g, 1, none⟩ = some (.int .i64 m)
 c2 : w.cell? ⟨g, 2, none⟩ = some (.string s)
 c3 : w.cell? ⟨g, 3, none⟩ = some a
 c4 : w.cell? ⟨g, 4, none⟩ = some b
theorem box_at (w : World) (k m : Int) (s : ByteArray) (a b : Value) (t : Nat) : BoxAt (w.alloc (.cells #[.int .i64 k, .int .i64 m, .string s, a, b] t)) w.heap.size k m s a b := by
 have hb := heap_alloc_new w (.cells #[.int .i64 k, .int .i64 m, .string s, a, b] t)
 exact ⟨cell_head hb rfl, cell_head hb rfl, cell_head hb rfl, cell_head hb rfl, cell_head hb rfl⟩
theorem BoxAt.kept {w w' : World} {g : Nat} {k m : Int} {s : ByteArray} {a b : Value} (h : BoxAt w g k m s a b) {X : List Nat} (hk : Kept X w w') (hX : g ∉ X) : BoxAt w' g k m s a b :=
 ⟨hk.cell h.c0 hX, hk.cell h.c1 hX, hk.cell h.c2 hX, hk.cell h.c3 hX, hk.cell h.c4 hX⟩
theorem BoxAt.kept0 {w w' : World} {g : Nat} {k m : Int} {s : ByteArray} {a b : Value} (h : BoxAt w g k m s a b) (hk : Kept [] w w') : BoxAt w' g k m s a b := h.kept hk (by simp)
theorem tyVals : SliceTy Tryz.prog 25 28 5 80 (.agg #[.int .i64 0, .int .i64 0, .string ByteArray.empty, .slice none 0 0, .slice none 0 0]) := ⟨Tryz.underlying25, by kernel_rfl, by kernel_rfl, by decide⟩
theorem tyPairs : SliceTy Tryz.prog 26 78 6 96 (.agg #[.string ByteArray.empty, .int .i64 0, .int .i64 0, .string ByteArray.empty, .slice none 0 0, .slice none 0 0]) := ⟨Tryz.underlying26, by kernel_rfl, by kernel_rfl, by decide⟩
theorem Rep.one {n : Nat} {S : Nat → Prop} {w : World} {cs : List Value} {v : V n} (h : Rep n S w cs v) : ∀ u ∈ cs, u.oneCell' = true := by
 match n, v, h with
 | n + 1, v, h =>
  obtain ⟨vl, vm, lcs, mcs, h⟩ := h
  obtain ⟨a, c, b, d, _, _, rfl⟩ := h.forms
  intro u hu
  simp only [List.mem_cons, List.not_mem_nil, or_false] at hu
  rcases hu with rfl | rfl | rfl | rfl | rfl <;> rfl
theorem All2.mem_left {α β : Type} {R : α → β → Prop} {xs : List α} {ys : List β} (h : All2 R xs ys) {x : α} (hx : x ∈ xs) : ∃ y, y ∈ ys ∧ R x y := by
 obtain ⟨j, hj, rfl⟩ := List.getElem_of_mem hx
 have hj' : j < ys.length := by rw [← h.1]; exact hj
 exact ⟨ys[j], List.getElem_mem hj', h.2 j _ _ (List.getElem?_eq_getElem hj) (List.getElem?_eq_getElem hj')⟩
section
variable {n : Nat} {S : Nat → Prop} {w : World} {cs : List Value} {v : VS (V n)} {vl vm : Value} {lcs : List (List Value)} {mcs : List (ByteArray × List Value)}
end
theorem Slc.at5 {w : World} {x : Value} {m : Nat} {lcs : List (List Value)} (h : Slc w 5 x m lcs.flatten) (h5 : ∀ c, c ∈ lcs → c.length = 5) {j : Nat} (hj : j < lcs.length) {k i : Int} {s : ByteArray} {a b : Value} (e : lcs[j] = [.int .i64 k, .int .i64 i, .string s, a, b]) :
  ∃ g o cap, x = .slice (some ⟨g, o, none⟩) m cap ∧ w.cell? ⟨g, o + j * 5, none⟩ = some (.int .i64 k) ∧ w.cell? ⟨g, o + j * 5 + 1, none⟩ = some (.int .i64 i) ∧ w.cell? ⟨g, o + j * 5 + 2, none⟩ = some (.string s) ∧ w.cell? ⟨g, o + j * 5 + 3, none⟩ = some a ∧ w.cell? ⟨g, o + j * 5 + 4, none⟩ = some b := by
 have hl := flat_len lcs h5
 have hm := h.1
 rcases h.2 with ⟨_, h0⟩ | ⟨h0, _⟩ | ⟨g, o, cap, hsv, _, _, hrow⟩
 ·omega
 ·omega
 have hc : ∀ i, i < 5 → lcs.flatten[j * 5 + i]? = lcs[j][i]? := fun i hi => flat_get lcs j i h5 hj hi
 rw [e] at hc
 refine ⟨g, o, cap, hsv, ?_, ?_, ?_, ?_, ?_⟩
 ·exact hrow.cells (j * 5 + 0) _ (hc 0 (by decide))
 all_goals rw [Nat.add_assoc]
 ·exact hrow.cells (j * 5 + 1) _ (hc 1 (by decide))
 ·exact hrow.cells (j * 5 + 2) _ (hc 2 (by decide))
 ·exact hrow.cells (j * 5 + 3) _ (hc 3 (by decide))
 ·exact hrow.cells (j * 5 + 4) _ (hc 4 (by decide))
def bytesOk (s : ByteArray) : Bool := Lib.validD s.data.toList
def noneS (s : ByteArray) : Bool := decide (s = ⟨#[]⟩)
def keysOk {α : Type} (m : List (ByteArray × α)) : Bool := m.all (fun p => bytesOk p.1) && decide ((m.map (fun p => p.1)).Nodup)
def ownRight {α : Type} (v : VS α) : Bool :=
 if v.kind = 1 then decide (v.num = 0) && noneS v.s && v.l.isEmpty && v.m.isEmpty
 else if v.kind = 2 then decide (v.num = 0 ∨ v.num = 1) && noneS v.s && v.l.isEmpty && v.m.isEmpty
 else if v.kind = 3 then decide (-9007199254740991 ≤ v.num ∧ v.num ≤ 9007199254740991) && noneS v.s && v.l.isEmpty && v.m.isEmpty
 else if v.kind = 4 then bytesOk v.s && decide (v.num = 0) && v.l.isEmpty && v.m.isEmpty
 else if v.kind = 5 then decide (v.num = 0) && noneS v.s && v.m.isEmpty
 else if v.kind = 6 then keysOk v.m && decide (v.num = 0) && noneS v.s && v.l.isEmpty
 else false
def rightV : (n : Nat) → V n → Bool
 | 0, _ => true
 | n + 1, (v : VS (V n)) => ownRight v && v.kids.all (rightV n)
def checkV (n : Nat) (v : V n) : Int := if 12 < depthV n v then 41 else if 4096 < countV n v then 42 else if rightV n v then 0 else 40
theorem checkV_zero {n : Nat} {v : V n} : checkV n v = 0 ↔ depthV n v ≤ 12 ∧ countV n v ≤ 4096 ∧ rightV n v = true := by
 unfold checkV
 split
 ·constructor
  ·intro h; cases h
  ·intro h; omega
 ·split
  ·constructor
   ·intro h; cases h
   ·intro h; omega
  ·split
   ·rename_i h1 h2 h3; exact ⟨fun _ => ⟨by omega, by omega, h3⟩, fun _ => rfl⟩
   ·rename_i h1 h2 h3; exact ⟨(fun h => by cases h), (fun h => absurd h.2.2 h3)⟩
theorem right_kid {n : Nat} {v : VS (V n)} (h : rightV (n + 1) v = true) {x : V n} (hx : x ∈ v.kids) : rightV n x = true := by
 have e : rightV (n + 1) v = (ownRight v && v.kids.all (rightV n)) := rfl
 rw [e, Bool.and_eq_true] at h
 exact List.all_eq_true.1 h.2 x hx
theorem right_own {n : Nat} {v : VS (V n)} (h : rightV (n + 1) v = true) : ownRight v = true := by
 have e : rightV (n + 1) v = (ownRight v && v.kids.all (rightV n)) := rfl
 rw [e, Bool.and_eq_true] at h
 exact h.1
theorem own_cases {α : Type} {v : VS α} (h : ownRight v = true) :
  (v.kind = 1 ∧ v.num = 0 ∧ v.s = ⟨#[]⟩ ∧ v.l = [] ∧ v.m = []) ∨ (v.kind = 2 ∧ (v.num = 0 ∨ v.num = 1) ∧ v.s = ⟨#[]⟩ ∧ v.l = [] ∧ v.m = []) ∨
  (v.kind = 3 ∧ (-9007199254740991 ≤ v.num ∧ v.num ≤ 9007199254740991) ∧ v.s = ⟨#[]⟩ ∧ v.l = [] ∧ v.m = []) ∨ (v.kind = 4 ∧ v.num = 0 ∧ bytesOk v.s = true ∧ v.l = [] ∧ v.m = []) ∨
  (v.kind = 5 ∧ v.num = 0 ∧ v.s = ⟨#[]⟩ ∧ v.m = []) ∨ (v.kind = 6 ∧ v.num = 0 ∧ v.s = ⟨#[]⟩ ∧ v.l = [] ∧ keysOk v.m = true) := by
 unfold ownRight noneS at h
 split at h
 ·rename_i e; simp only [Bool.and_eq_true, decide_eq_true_iff, List.isEmpty_iff] at h; exact .inl ⟨e, h.1.1.1, h.1.1.2, h.1.2, h.2⟩
 split at h
 ·rename_i e; simp only [Bool.and_eq_true, decide_eq_true_iff, List.isEmpty_iff] at h; exact .inr (.inl ⟨e, h.1.1.1, h.1.1.2, h.1.2, h.2⟩)
 split at h
 ·rename_i e; simp only [Bool.and_eq_true, decide_eq_true_iff, List.isEmpty_iff] at h; exact .inr (.inr (.inl ⟨e, h.1.1.1, h.1.1.2, h.1.2, h.2⟩))
 split at h
 ·rename_i e; simp only [Bool.and_eq_true, decide_eq_true_iff, List.isEmpty_iff] at h; exact .inr (.inr (.inr (.inl ⟨e, h.1.1.2, h.1.1.1, h.1.2, h.2⟩)))
 split at h
 ·rename_i e; simp only [Bool.and_eq_true, decide_eq_true_iff, List.isEmpty_iff] at h; exact .inr (.inr (.inr (.inr (.inl ⟨e, h.1.1, h.1.2, h.2⟩))))
 split at h
 ·rename_i e; simp only [Bool.and_eq_true, decide_eq_true_iff, List.isEmpty_iff] at h; exact .inr (.inr (.inr (.inr (.inr ⟨e, h.1.1.2, h.1.2, h.2, h.1.1.1⟩))))
 ·cases h
def leK {α : Type} (a b : ByteArray × α) : Bool := decide (a.1.data.toList ≤ b.1.data.toList)
def sortV : (n : Nat) → V n → V n
 | 0, v => v
 | n + 1, (v : VS (V n)) => (⟨v.kind, v.num, v.s, v.l.map (sortV n), (v.m.map (fun p => (p.1, sortV n p.2))).mergeSort leK⟩ : VS (V n))
theorem leK_trans {α : Type} (a b c : ByteArray × α) (h1 : leK a b = true) (h2 : leK b c = true) : leK a c = true := by
 simp only [leK, decide_eq_true_eq] at *
 exact List.le_trans h1 h2
theorem leK_total {α : Type} (a b : ByteArray × α) : (leK a b || leK b a) = true := by
 simp only [leK, Bool.or_eq_true, decide_eq_true_eq]
 exact List.le_total _ _
theorem ba_eq {x y : ByteArray} (h : x.data.toList = y.data.toList) : x = y := by
 cases x; cases y
 simp only [ByteArray.mk.injEq] at *
 exact Array.toList_inj.1 h
theorem sorted_unique {α : Type} {a b : List (ByteArray × α)} (hp : a.Perm b) (ha : a.Pairwise (fun x y => leK x y = true)) (hb : b.Pairwise (fun x y => leK x y = true)) (hn : (a.map (fun p => p.1)).Nodup) : a = b := by
 refine List.Perm.eq_of_pairwise (le := fun x y => leK x y = true) (fun x y hx hy h1 h2 => ?_) ha hb hp
 simp only [leK, decide_eq_true_eq] at h1 h2
 have e : x.1 = y.1 := ba_eq (List.le_antisymm h1 h2)
 have hy' : y ∈ a := hp.mem_iff.2 hy
 obtain ⟨i, hi, rfl⟩ := List.getElem_of_mem hx
 obtain ⟨j, hj, rfl⟩ := List.getElem_of_mem hy'
 have hij : i = j := by
  rcases Nat.lt_trichotomy i j with h | h | h
  ·exact absurd e (by
    have := (List.pairwise_iff_getElem.1 hn) i j (by simpa using hi) (by simpa using hj) h
    simpa using this)
  ·exact h
  ·exact absurd e.symm (by
    have := (List.pairwise_iff_getElem.1 hn) j i (by simpa using hj) (by simpa using hi) h
    simpa using this)
 subst hij; rfl
def hexd (n : Nat) : UInt8 := UInt8.ofNat (if n < 10 then 48 + n else 87 + n)
def quoteB (c : UInt8) : List UInt8 := if c.toNat < 32 then [92, 117, 48, 48, hexd (c.toNat / 16), hexd (c.toNat % 16)] else if c = 34 ∨ c = 92 then [92, c] else [c]
def quoteL (s : List UInt8) : List UInt8 := 34 :: (s.flatMap quoteB ++ [34])
def commas : List (List UInt8) → List UInt8
 | [] => []
 | [x] => x
 | x :: y :: l => x ++ (44 :: commas (y :: l))
def writeV : (n : Nat) → V n → List UInt8
 | 0, _ => []
 | n + 1, (v : VS (V n)) =>
  if v.kind = 1 then [110, 117, 108, 108]
  else if v.kind = 2 then (if v.num = 1 then [116, 114, 117, 101] else [102, 97, 108, 115, 101])
  else if v.kind = 3 then Lib.itoa v.num
  else if v.kind = 4 then quoteL v.s.data.toList
  else if v.kind = 5 then 91 :: (commas (v.l.map (writeV n)) ++ [93])
  else 123 :: (commas (v.m.map (fun p => quoteL p.1.data.toList ++ (58 :: writeV n p.2))) ++ [125])
def encV (n : Nat) (v : V n) : List UInt8 × Int :=
 if checkV n v ≠ 0 then ([], checkV n v) else if 262144 < (writeV n (sortV n v)).length then ([], 3) else (writeV n (sortV n v), 0)
theorem take_map_succ {α β : Type} (f : α → β) (l : List α) (k : Nat) (h : k < l.length) : (l.take (k + 1)).map f = (l.take k).map f ++ [f l[k]] := by
 rw [List.take_succ_eq_append_getElem h, List.map_append]; rfl
theorem depth_le' : ∀ (n : Nat) (v : V n), depthV n v ≤ n
 | 0, v => nomatch v
 | n + 1, (v : VS (V n)) => by
  show 1 + maxL (v.kids.map (depthV n)) ≤ n + 1
  have : maxL (v.kids.map (depthV n)) ≤ n := maxL_le.2 (fun x hx => by
   obtain ⟨y, _, rfl⟩ := List.mem_map.1 hx
   exact depth_le' n y)
  omega
theorem Small.few {n : Nat} {v : VS (V n)} (h : Small (n + 1) v) : v.l.length + v.m.length ≤ 20000 := by
 have := kids_few v; have := h.1; omega
section
variable {P : Program} {ops : Array Oper} {Q : Exit → Act → World → Prop} {md : Region.Mode} {S : World → Prop} {L : Nat}
def wpAnyT (P : Program) (md : Region.Mode) (ops : Array Oper) (Q : Exit → Act → World → Prop) (S : World → Prop) (L : Nat) : Nat → Array Bool → Act → World → Prop
 | 0, listed, a, w => Region.ready md ops listed = [] ∧ Q .normal a w
 | fuel + 1, listed, a, w =>
  (Region.ready md ops listed = [] → Q .normal a w) ∧
  ∀ i ∈ Region.ready md ops listed, wpOp P ops Q i (fun a' w' => (i = L ∨ S w') ∧ wpAnyT P md ops Q S L fuel (listed.setIfInBounds i true) a' w') a w
theorem wpAny_of_last : ∀ (fuel : Nat) (listed : Array Bool) (a : Act) (w : World), wpAnyT P md ops Q S L fuel listed a w → wpAny P md ops Q fuel listed a w
 | 0, _, _, _, h => h
 | fuel + 1, _, _, _, h => ⟨h.1, fun i hi => wpOp_mono (fun a' w' h' => wpAny_of_last fuel _ a' w' h'.2) (h.2 i hi)⟩
def waitsFor (md : Region.Mode) (ops : Array Oper) (L i : Nat) : Bool := ((ops[L]?).map (·.after.any fun e => Region.binds md e && e.on == i)).getD false
def late (md : Region.Mode) (ops : Array Oper) (L i : Nat) : Bool := waitsFor md ops L i || decide (ops.size ≤ L)
theorem wpAnyT_first {i : Nat} {oi : Oper} {v : Value} (hi : ops[i]? = some oi) (hsel : ∀ (j : Nat) (o : Oper) cs b, ops[j]? = some o → o.op ≠ .select cs b)
  (hQ : ∀ c a w, Q (.panic c) (a.put oi.dst v) w → Q (.panic c) a w) (hL : late md ops L i = true) :
  ∀ (fuel : Nat) (listed : Array Bool) (a : Act) (w : World),
   (∀ j oj, ops[j]? = some oj → j ≠ i → listed.getD j true = false → (∀ e ∈ oj.after, Region.binds md e = true → e.on ≠ i) → oi.apart ops oj = true) →
   i ∈ Region.ready md ops listed → YieldsIf P ops S oi v a → S w →
   wpAnyT P md ops Q S L fuel (listed.setIfInBounds i true) (a.put oi.dst v) w → wpAnyT P md ops Q S L (fuel + 1) listed a w := by
 intro fuel
 induction fuel with
 | zero =>
  intro listed a w _ hr hy hS H
  refine ⟨fun h => (by rw [h] at hr; cases hr), fun j hj => ?_⟩
  by_cases hji : j = i
  ·subst hji; exact hy.wpOp hi hS ⟨.inr hS, H⟩
  ·have := ready_mono hj hji
   rw [H.1] at this
   cases this
 | succ fuel ih =>
  intro listed a w hfree hr hy hS H
  refine ⟨fun h => (by rw [h] at hr; cases hr), fun j hj => ?_⟩
  by_cases hji : j = i
  ·subst hji; exact hy.wpOp hi hS ⟨.inr hS, H⟩
  ·have h1 := H.2 j (ready_mono hj hji)
   obtain ⟨hjun, oj, hoj, hall⟩ := mem_ready.1 hj
   have hnot : ∀ e ∈ oj.after, Region.binds md e = true → e.on ≠ i := fun e he hb heq => by
    have h1 := hall e he hb
    have h0 := (mem_ready.1 hr).1
    rw [heq] at h1
    rcases Nat.lt_or_ge i listed.size with h' | h'
    ·simp [h'] at h0 h1; rw [h0] at h1; cases h1
    ·simp [Array.getElem?_eq_none h'] at h1
   have hjL : j ≠ L := by
    intro e
    subst e
    unfold late at hL
    rw [Bool.or_eq_true] at hL
    rcases hL with hL | hL
    rotate_left
    ·have h1 : ops.size ≤ j := by simpa using hL
     rw [Array.getElem?_eq_none h1] at hoj
     cases hoj
    unfold waitsFor at hL
    rw [hoj] at hL
    simp only [Option.map_some, Option.getD_some, Array.any_eq_true'] at hL
    obtain ⟨e, he, hb⟩ := hL
    simp only [Bool.and_eq_true, beq_iff_eq] at hb
    exact hnot e he hb.1 hb.2
   have h2 := wpOp_putIf hoj (hfree j oj hoj hji hjun hnot) (fun cs b => hsel i oi cs b hi) (fun cs b => hsel j oj cs b hoj) hQ hy h1
   have hfree' : ∀ k ok, ops[k]? = some ok → k ≠ i → (listed.setIfInBounds j true).getD k true = false →
     (∀ e ∈ ok.after, Region.binds md e = true → e.on ≠ i) → oi.apart ops ok = true := fun k ok hk hki hun hno => by
    refine hfree k ok hk hki ?_ hno
    by_cases hjk : j = k
    ·subst hjk; exact hjun
    ·rw [getD_set_ne true hjk] at hun; exact hun
   refine wpOp_mono (fun a' w' h3 => ?_) h2
   have hS' : S w' := by
    rcases h3.2.1 with g | g
    ·exact absurd g hjL
    ·exact g
   refine ⟨.inr hS', ih (listed.setIfInBounds j true) a' w' hfree' (ready_mono hr (Ne.symm hji)) h3.1 hS' ?_⟩
   rw [Array.setIfInBounds_comm _ _ hji]
   exact h3.2.2
theorem wpAnyT_take {i : Nat} {oi : Oper} {v : Value} {fuel : Nat} {listed : Array Bool} {a : Act} {w : World} (hi : ops[i]? = some oi)
  (hs : Region.noSelect ops = true) (hf : Region.free md ops listed i = true) (hr : (Region.ready md ops listed).contains i = true) (hL : late md ops L i = true)
  (hQ : ∀ c a w, Q (.panic c) (a.put oi.dst v) w → Q (.panic c) a w) (hy : YieldsIf P ops S oi v a) (hS : S w)
  (h : wpAnyT P md ops Q S L fuel (listed.setIfInBounds i true) (a.put oi.dst v) w) : wpAnyT P md ops Q S L (fuel + 1) listed a w :=
 wpAnyT_first hi (Region.noSelect_spec hs) hQ hL fuel listed a w (Region.free_spec hi hf) (by simpa using hr) hy hS h
theorem wpAnyT_one {i : Nat} {oi : Oper} {fuel : Nat} {listed : Array Bool} {a : Act} {w : World} (hi : ops[i]? = some oi) (hr : Region.ready md ops listed = [i]) (hw : Region.wanted oi (yielded ops a.tmps) = true)
  (h : ∀ K : Act → World → Prop, (∀ a' w', (i = L ∨ S w') → wpAnyT P md ops Q S L fuel (listed.setIfInBounds i true) a' w' → K a' w') → oi.wp P a w K Q) : wpAnyT P md ops Q S L (fuel + 1) listed a w := by
 refine ⟨fun h0 => (by rw [hr] at h0; cases h0), ?_⟩
 rw [hr]
 intro j hj
 have : j = i := by simpa using hj
 subst this
 unfold wpOp
 rw [hi]
 simp only
 rw [if_pos hw]
 exact .inl (h _ fun a' w' h1 h2 => ⟨h1, h2⟩)
theorem wpAnyT_done {listed : Array Bool} {a : Act} {w : World} (hr : Region.ready md ops listed = []) (h : Q .normal a w) :
  ∀ fuel, wpAnyT P md ops Q S L fuel listed a w
 | 0 => ⟨hr, h⟩
 | _ + 1 => ⟨fun _ => h, by rw [hr]; simp⟩
theorem wp_region_last {id : Nat} {a : Act} {w : World} (S : World → Prop) (L : Nat) (hm : P.follows .mixedOrders = true)
  (h : wpAnyT P .any ops Q S L ops.size (Array.replicate ops.size false) a { w with drawn := w.drawn + 1 }) : (Code.region id ops true).wp P Q a w :=
 wp_region_any hm (wpAny_of_last _ _ _ _ h)
theorem wp_region_last' {id n : Nat} {a : Act} {w : World} (S : World → Prop) (L : Nat) (hn : ops.size = n) (hm : P.follows .mixedOrders = true)
  (h : wpAnyT P .any ops Q S L n (Array.replicate n false) a { w with drawn := w.drawn + 1 }) : (Code.region id ops true).wp P Q a w := by
 subst hn
 exact wp_region_last S L hm h
theorem wpAnyT_start {fuel : Nat} {listed : Array Bool} {a : Act} {w : World}
  (h : ∀ O R, O = ops → R = Q → wpAnyT P md O R S L fuel listed a w) : wpAnyT P md ops Q S L fuel listed a w := h _ _ rfl rfl
theorem wpAnyT_take' {O : Array Oper} {i dst : Nat} {oi : Oper} {v : Value} {fuel : Nat} {listed : Array Bool} {a : Act} {w : World} (hO : O = ops) (hi : ops[i]? = some oi) (hd : oi.dst = some dst)
  (hs : Region.noSelect ops = true) (hf : Region.free md ops listed i = true) (hr : (Region.ready md ops listed).contains i = true) (hL : late md ops L i = true)
  (hQ : ∀ c a (d : Nat) v w, Q (.panic c) (a.put (some d) v) w → Q (.panic c) a w) (hy : YieldsIf P ops S oi v a) (hS : S w)
  (h : wpAnyT P md O Q S L fuel (listed.setIfInBounds i true) (a.put (some dst) v) w) : wpAnyT P md O Q S L (fuel + 1) listed a w := by
 subst hO
 exact wpAnyT_take hi hs hf hr hL (fun c a w h => hQ c a dst v w (by rw [hd] at h; exact h)) hy hS (by rw [hd]; exact h)
theorem wpAnyT_one' {O : Array Oper} {i : Nat} {oi : Oper} {fuel : Nat} {listed : Array Bool} {a : Act} {w : World} (hO : O = ops) (hi : ops[i]? = some oi) (hr : Region.ready md ops listed = [i]) (hw : Region.wanted oi (yielded ops a.tmps) = true)
  (h : ∀ K : Act → World → Prop, (∀ a' w', (i = L ∨ S w') → wpAnyT P md O Q S L fuel (listed.setIfInBounds i true) a' w' → K a' w') → oi.wp P a w K Q) : wpAnyT P md O Q S L (fuel + 1) listed a w := by
 subst hO
 exact wpAnyT_one hi hr hw h
theorem wpAnyT_done' {O : Array Oper} {listed : Array Bool} {a : Act} {w : World} (hO : O = ops) (hr : Region.ready md ops listed = []) (h : Q .normal a w) (fuel : Nat) : wpAnyT P md O Q S L fuel listed a w := by
 subst hO
 exact wpAnyT_done hr h fuel
end
theorem oper_append {P : Program} {t e size bytes : Nat} {z : Value} (T : SliceTy P t e size bytes z) {w : World} {base : Nat} {v : Value} {n : Nat} {xs : List Value} (hown : w.ownsRow base e size v n xs)
  {vx : Value} {m : Nat} {news : List Value} (hsrc : Slc w size vx m news) (h1 : ∀ u ∈ news, u.oneCell' = true) (h63 : n + m ≤ maxLen) (hbytes : (n + m) * bytes ≤ 140737488355328) (hbase : base ≤ w.heap.size)
  {o : Oper} {a : Act} {K : Act → World → Prop} {Q : Exit → Act → World → Prop} (s x : Operand)
  (ho : o.op = .call { callee := .builtin .append, args := #[s, x], argTypes := #[t, t] }) (hs : a.eval s = v) (hx : a.eval x = vx)
  (h : ∀ b c w', w'.ownsRow base e size (.slice b (n + m) c) (n + m) (xs ++ news) → Kept v.ownBlock.toList w w' → ((Value.slice b (n + m) c).ownBlock = v.ownBlock ∨ (Value.slice b (n + m) c).ownBlock = some w.heap.size) → K (a.put o.dst (.slice b (n + m) c)) w') :
  Oper.wp P o a w K Q := by
 obtain ⟨v', w', hr, h2, h3, h4, h5⟩ := run_append_slc T w o.type base v n xs hown vx m news hsrc h1 h63 hbytes hbase
 obtain ⟨b, c, rfl, -, -⟩ := (Slc.of_row h2).form
 unfold Oper.wp execOp
 simp only [ho, resolve, invoke, builtin, Sem.run_bind, Sem.run_pure, Result.andThen_ok, List.map_toArray, List.map_cons, List.map_nil, hs, hx, hr]
 exact h b c w' h2 h3 h5
theorem setCell_heap {w : World} {b i : Nat} {c : Array Value} {t : Nat} {f : Nat × Nat} (h : w.heap[b]? = some (.cells c t f)) (v : Value) : (w.setCell ⟨b, i, none⟩ v).heap[b]? = some (.cells (c.setIfInBounds i v) t f) := by
 simp [World.setCell, Array.getElem?_modify, h]
theorem setCells_kept (g : Nat) : ∀ (vs : List Value) (o : Nat) (w : World), Kept [g] w (w.setCells g o vs)
 | [], o, w => Kept.refl _ _
 | v :: r, o, w => ((Kept.refl [g] w).setCell (p := ⟨g, o, none⟩) (.inl (by simp)) v).trans' (setCells_kept g r (o + 1) _)
theorem setCells_at (g : Nat) {e : Nat} {f : Nat × Nat} : ∀ (vs : List Value) (o : Nat) (w : World) (cur : Array Value), w.heap[g]? = some (.cells cur e f) →
  ∃ cur', (w.setCells g o vs).heap[g]? = some (.cells cur' e f) ∧ cur'.size = cur.size ∧ ∀ j, j < cur.size → cur'[j]? = if o ≤ j ∧ j < o + vs.length then vs[j - o]? else cur[j]?
 | [], o, w, cur, h => ⟨cur, h, rfl, fun j hj => by rw [if_neg (by simp)]⟩
 | v :: r, o, w, cur, h => by
  have h1 : (w.setCell ⟨g, o, none⟩ v).heap[g]? = some (.cells (cur.setIfInBounds o v) e f) := by simp [World.setCell, Array.getElem?_modify, h]
  obtain ⟨cur', h2, h3, h4⟩ := setCells_at g r (o + 1) _ _ h1
  refine ⟨cur', h2, by rw [h3]; simp, ?_⟩
  intro j hj
  rw [h4 j (by simpa using hj)]
  simp only [List.length_cons]
  by_cases e1 : j = o
  ·subst e1
   rw [if_neg (by omega), if_pos (by omega)]
   simp [hj]
  ·by_cases e2 : o + 1 ≤ j ∧ j < o + 1 + r.length
   ·rw [if_pos e2, if_pos (by omega)]
    rw [show j - o = (j - (o + 1)) + 1 by omega]
    rfl
   ·rw [if_neg e2, if_neg (by omega)]
    rw [Array.getElem?_setIfInBounds]
    rw [if_neg (by omega)]
theorem block_setCell {w : World} {b i : Nat} {c : Array Value} {t : Nat} {f : Nat × Nat} {v : Value} (h : w.heap[b]? = some (.cells c t f)) {d : Array Value} (hd : c.setIfInBounds i v = d) : (w.setCell ⟨b, i, none⟩ v).heap[b]? = some (.cells d t f) := by
 subst hd; exact setCell_heap h v
theorem block_alloc {w : World} {o : Obj} {g : Nat} (hg : w.heap.size = g) : (w.alloc o).heap[g]? = some o := by
 subst hg; exact heap_alloc_new w o
structure PBoxAt (w : World) (g : Nat) (key : ByteArray) (k m : Int) (s : ByteArray) (a b : Value) : Prop where
 c0 : w.cell? ⟨g, 0, none⟩ = some (.string key)
 c1 : w.cell? ⟨g, 1, none⟩ = some (.int .i64 k)
 c2 : w.cell? ⟨g, 2, none⟩ = some (.int .i64 m)
 c3 : w.cell? ⟨g, 3, none⟩ = some (.string s)
 c4 : w.cell? ⟨g, 4, none⟩ = some a
 c5 : w.cell? ⟨g, 5, none⟩ = some b
theorem pbox_at {w : World} {g : Nat} (hg : w.heap.size = g) (key : ByteArray) (k m : Int) (s : ByteArray) (a b : Value) (t : Nat) : PBoxAt (w.alloc (.cells #[.string key, .int .i64 k, .int .i64 m, .string s, a, b] t)) g key k m s a b := by
 subst hg
 have hb := heap_alloc_new w (.cells #[.string key, .int .i64 k, .int .i64 m, .string s, a, b] t)
 exact ⟨cell_head hb rfl, cell_head hb rfl, cell_head hb rfl, cell_head hb rfl, cell_head hb rfl, cell_head hb rfl⟩
theorem PBoxAt.kept {w w' : World} {g : Nat} {key : ByteArray} {k m : Int} {s : ByteArray} {a b : Value} (h : PBoxAt w g key k m s a b) {X : List Nat} (hk : Kept X w w') (hX : g ∉ X) : PBoxAt w' g key k m s a b :=
 ⟨hk.cell h.c0 hX, hk.cell h.c1 hX, hk.cell h.c2 hX, hk.cell h.c3 hX, hk.cell h.c4 hX, hk.cell h.c5 hX⟩
theorem PBoxAt.kept0 {w w' : World} {g : Nat} {key : ByteArray} {k m : Int} {s : ByteArray} {a b : Value} (h : PBoxAt w g key k m s a b) (hk : Kept [] w w') : PBoxAt w' g key k m s a b := h.kept hk (by simp)
theorem Rep.move {n : Nat} {S T : Nat → Prop} {X : List Nat} {w w' : World} {cs : List Value} {v : V n} (h : Rep n S w cs v) (hk : Kept X w w') (hS : ∀ g, g < w.heap.size → S g → g ∉ X ∧ T g) : Rep n T w' cs v :=
 ((h.mono (T := fun g => g ∉ X ∧ T g) hS).kept hk (fun g hx q => q.1 hx)).mono (fun _ _ q => q.2)
theorem Rep.sl {n : Nat} {S : Nat → Prop} {w : World} {k m : Int} {s : ByteArray} {a b : Value} {v : V n} (h : Rep n S w [.int .i64 k, .int .i64 m, .string s, a, b] v) : ∃ p i c q j d, a = .slice p i c ∧ b = .slice q j d := by
 match n, v, h with
 | n + 1, v, h =>
  obtain ⟨vl, vm, lcs, mcs, h⟩ := h
  obtain ⟨p, c, q, d, _, _, e⟩ := h.forms
  simp only [List.cons.injEq] at e
  exact ⟨_, _, _, _, _, _, e.2.2.2.1, e.2.2.2.2.1⟩
end Go.Proofs.YtckbnjipecclaaaGreatDoor

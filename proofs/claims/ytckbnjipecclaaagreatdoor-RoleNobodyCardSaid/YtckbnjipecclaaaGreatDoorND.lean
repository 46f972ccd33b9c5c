/- Parts of one proof, merged: XKM XVP XVU XVW XVX XVY. -/
import Derived.Test.YtckbnjipecclaaaGreatDoorNC
import Derived.Test.YtckbnjipecclaaaGreatDoorNB
import Derived.Lib.SpaceU
import Derived.Lib.DecodeN
import Derived.Lib.ValidLaws
set_option linter.all false
set_option maxHeartbeats 12800000
set_option maxRecDepth 10000
set_option linter.unusedVariables false
set_option linter.unusedSimpArgs false
set_option linter.unnecessarySimpa false
namespace Go.Proofs.YtckbnjipecclaaaGreatDoor
open Go.RowKit
open Go.Sort (grow flatK size_flatK get_flatK putRowK HoldsK)
theorem bytesLess_eq : ∀ (l m : List UInt8), Op.bytesLess l m = decide (l < m)
 | [], [] => by simp [Op.bytesLess]
 | _ :: _, [] => by simp [Op.bytesLess]
 | [], _ :: _ => by simp [Op.bytesLess]
 | a :: x, b :: y => by
  have ih := bytesLess_eq x y
  unfold Op.bytesLess
  rw [ih, Bool.eq_iff_iff]
  simp only [Bool.or_eq_true, Bool.and_eq_true, decide_eq_true_eq, beq_iff_eq, List.cons_lt_cons_iff]
theorem All2.perm {α β : Type} {R : α → β → Prop} : ∀ {xs xs' : List α} {ys : List β}, All2 R xs ys → xs'.Perm xs → ∃ ys', ys'.Perm ys ∧ All2 R xs' ys' := by
 intro xs xs' ys h hp
 induction hp generalizing ys with
 | nil => exact ⟨ys, List.Perm.refl _, h⟩
 | cons x _ ih =>
  match ys, h with
  | [], h => exact absurd h.1 (by simp)
  | y :: ys, h =>
   obtain ⟨zs, h1, h2⟩ := ih (ys := ys) ⟨by simpa using h.1, fun j a b ha hb => h.2 (j + 1) a b (by simpa using ha) (by simpa using hb)⟩
   exact ⟨y :: zs, h1.cons y, h2.cons (h.2 0 _ _ rfl rfl)⟩
 | swap x z l =>
  match ys, h with
  | [], h => exact absurd h.1 (by simp)
  | [_], h => exact absurd h.1 (by simp)
  | y1 :: y2 :: ys, h =>
   refine ⟨y2 :: y1 :: ys, List.Perm.swap .., ?_⟩
   have h0 : All2 R l ys := ⟨by simpa using h.1, fun j a b ha hb => h.2 (j + 2) a b (by simpa using ha) (by simpa using hb)⟩
   exact All2.cons (h.2 1 _ _ rfl rfl) (All2.cons (h.2 0 _ _ rfl rfl) h0)
 | trans _ _ ih1 ih2 =>
  obtain ⟨z1, p1, h1⟩ := ih2 h
  obtain ⟨z2, p2, h2⟩ := ih1 h1
  exact ⟨z2, p2.trans p1, h2⟩
theorem flat_set {size : Nat} (ls : List (List Value)) (i : Nat) (c : List Value) (h : ∀ x, x ∈ ls → x.length = size) (hc : c.length = size) (j : Nat) :
  (ls.set i c).flatten[j]? = if i < ls.length ∧ i * size ≤ j ∧ j < i * size + size then c[j - i * size]? else ls.flatten[j]? := by
 induction ls generalizing i j with
 | nil => simp
 | cons x ls ih =>
  have hx := h x (List.mem_cons_self ..)
  cases i with
  | zero =>
   simp only [List.set_cons_zero, List.flatten_cons, Nat.zero_mul, Nat.zero_le, true_and, Nat.zero_add, Nat.sub_zero, List.length_cons, Nat.zero_lt_succ]
   by_cases hj : j < size
   ·rw [if_pos hj, List.getElem?_append_left (by omega)]
   ·rw [if_neg hj, List.getElem?_append_right (by omega), List.getElem?_append_right (by omega), hc, hx]
  | succ i =>
   simp only [List.set_cons_succ, List.flatten_cons, List.length_cons]
   have e : (i + 1) * size = i * size + size := by rw [Nat.add_mul, Nat.one_mul]
   by_cases hj : j < size
   ·rw [List.getElem?_append_left (by omega), List.getElem?_append_left (by omega), if_neg (by omega)]
   ·rw [List.getElem?_append_right (by omega), List.getElem?_append_right (by omega), ih i (fun y hy => h y (List.mem_cons_of_mem _ hy)), hx, e]
    by_cases q : i < ls.length ∧ i * size ≤ j - size ∧ j - size < i * size + size
    ·rw [if_pos q, if_pos (by omega), show j - (i * size + size) = j - size - i * size by omega]
    ·rw [if_neg q, if_neg (by omega)]
theorem row_stored {w : World} {base e size n : Nat} {v : Value} {ls : List (List Value)} {i g : Nat} {c : List Value} (h : w.ownsRow base e size v n ls.flatten) (hls : ∀ x, x ∈ ls → x.length = size) (hv : v.ownBlock = some g) (hn : ls.length = n) (hi : i < n) (hc : c.length = size) :
  (w.setCells g (i * size) c).ownsRow base e size v n (ls.set i c).flatten ∧ w.there g (i * size) size ∧ Kept [g] w (w.setCells g (i * size) c) := by
 obtain ⟨h1, h2⟩ := h
 rcases h2 with ⟨rfl, _⟩ | ⟨g', cap, cur, rfl, hb, hh, hcap, hm, hs, ht⟩
 ·simp [Value.ownBlock] at hv
 ·simp [Value.ownBlock] at hv
  subst hv
  have hfl := flat_len ls hls
  have hsz : (i + 1) * size ≤ cap * size := Nat.mul_le_mul_right size (by omega)
  rw [Nat.add_mul, Nat.one_mul] at hsz
  have hnc : n * size ≤ cap * size := Nat.mul_le_mul_right size hcap
  have hin : (i + 1) * size ≤ n * size := Nat.mul_le_mul_right size (by omega)
  rw [Nat.add_mul, Nat.one_mul] at hin
  obtain ⟨cur', q1, q2, q3⟩ := setCells_at g' c (i * size) w cur hh
  refine ⟨⟨?_, .inr ⟨g', cap, cur', rfl, hb, q1, hcap, hm, by rw [q2]; exact hs, ?_⟩⟩, ?_, setCells_kept _ _ _ _⟩
  ·rw [flat_len (size := size) _ (fun x hx => by
    rcases List.mem_or_eq_of_mem_set hx with hx | rfl
    ·exact hls x hx
    ·exact hc), List.length_set, hn]
  ·apply List.ext_getElem?
   intro j
   rw [flat_set ls i c hls hc, List.getElem?_take]
   by_cases hj : j < n * size
   ·rw [if_pos hj, Array.getElem?_toList, q3 j (by omega), hc]
    by_cases q : i * size ≤ j ∧ j < i * size + size
    ·rw [if_pos q, if_pos ⟨by omega, q⟩]
    ·rw [if_neg q, if_neg (fun q' => q q'.2), ← ht, List.getElem?_take, if_pos hj, Array.getElem?_toList]
   ·rw [if_neg hj, if_neg (by omega), List.getElem?_eq_none (by rw [hfl, hn]; omega)]
  ·intro j hj
   have hl : i * size + j < cur.size := by omega
   have hcell : w.cell? ⟨g', i * size + j, none⟩ = some cur[i * size + j] := cell_head hh (by simp [hl])
   exact ⟨by rw [hcell]; rfl, free_head hh⟩
section
variable {α : Type} [Inhabited α]
theorem sort_world (enc : α → List Value) (k : Nat) {w : World} {g e : Nat} {cur : Array Value} (hh : w.heap[g]? = some (.cells cur e (0, 0))) (m : Nat) (d : Array α) (os : Array Obj) (hs : d.size * k ≤ cur.size) :
  Kept [g] w (sortWorldK enc k w g 0 m d os) ∧ ∃ cur', (sortWorldK enc k w g 0 m d os).heap[g]? = some (.cells cur' e (0, 0)) ∧ cur'.size = cur.size ∧ ∀ t, t < cur.size → cur'[t]? = if t < d.size * k then some (enc d[t / k]!)[t % k]! else cur[t]? := by
 have hg := lt_of_block hh
 have h0 : ∀ j, (sortWorldK enc k w g 0 m d os).heap[j]? = if j < w.heap.size then (w.heap.modify g (Sort.onCells (Sort.putCells id 0 (flatK enc k d))))[j]? else os[j - w.heap.size]? := by
  intro j
  show ((w.heap.modify g (Sort.onCells (Sort.putCells id 0 (flatK enc k d)))) ++ os)[j]? = _
  rw [Array.getElem?_append, Array.size_modify]
 refine ⟨⟨rfl, rfl, rfl, ?_, ?_⟩, Sort.putCells id 0 (flatK enc k d) cur, ?_, by simp [Sort.putCells], ?_⟩
 ·show w.heap.size ≤ ((w.heap.modify g (Sort.onCells (Sort.putCells id 0 (flatK enc k d)))) ++ os).size
  rw [Array.size_append, Array.size_modify]; omega
 ·intro j hj hx
  rw [h0, if_pos hj, Array.getElem?_modify, if_neg (by simp at hx; omega)]
 ·rw [h0, if_pos hg, Array.getElem?_modify, if_pos rfl, hh]
  rfl
 ·intro t ht
  simp only [Sort.putCells, Array.getElem?_mapIdx, Nat.zero_le, true_and, Nat.zero_add, Nat.sub_zero, size_flatK, id]
  rw [Array.getElem?_eq_getElem ht]
  by_cases q : t < d.size * k
  ·rw [if_pos q, Option.map_some, if_pos q, get_flatK enc k d t q]
  ·rw [if_neg q, Option.map_some, if_neg q]
end
def strB (l : List UInt8) : ByteArray := ⟨l.toArray⟩
theorem strB_list (l : List UInt8) : (strB l).data.toList = l := by simp [strB]
def isDig (c : UInt8) : Bool := decide (48 ≤ c.toNat) && decide (c.toNat ≤ 57)
def hexV (c : UInt8) : Option Nat :=
 if 48 ≤ c.toNat ∧ c.toNat ≤ 57 then some (c.toNat - 48) else if 97 ≤ c.toNat ∧ c.toNat ≤ 102 then some (c.toNat - 87) else if 65 ≤ c.toNat ∧ c.toNat ≤ 70 then some (c.toNat - 55) else none
def utfB (r : Int) : List UInt8 := (Utf8.encode r).data.toList
def runeB (r : Nat) : List UInt8 := utfB r
def digSum (s : List UInt8) : Nat := s.foldl (fun a c => 10 * a + (c.toNat - 48)) 0
section
variable {α : Type} (sub : List UInt8 → Nat → Sum Int (α × List UInt8 × Nat))
end
open Go.Lib (decodeN decodeL)
def gb (l : List UInt8) (i : Nat) : Nat := (l.getD i 0).toNat
structure Decoded (l : List UInt8) (c n : Nat) : Prop where
 eq : decodeL l = (c, n)
 le : n ≤ l.length
 pos : 1 ≤ n
 one : n = 1 → gb l 0 < 128 ∧ c = gb l 0
 high : 2 ≤ n → ∀ b, b ∈ l.take n → 128 ≤ b.toNat
 rune : runeB c = l.take n
 valid : c < 55296 ∨ (57344 ≤ c ∧ c ≤ 1114111)
 more : ∀ x, decodeL (l.take n ++ x) = (c, n)
open Go.Lib (decodeL decDigits itoa)
theorem isDig_of (d : Nat) (h : d < 10) : isDig (UInt8.ofNat (48 + d)) = true ∧ (UInt8.ofNat (48 + d)).toNat = 48 + d := by
 have e : (UInt8.ofNat (48 + d)).toNat = 48 + d := by rw [UInt8.toNat_ofNat']; omega
 refine ⟨?_, e⟩
 unfold isDig
 rw [e, Bool.and_eq_true]
 exact ⟨decide_eq_true (by omega), decide_eq_true (by omega)⟩
theorem digSum_snoc (l : List UInt8) (c : UInt8) : digSum (l ++ [c]) = 10 * digSum l + (c.toNat - 48) := by
 unfold digSum
 rw [List.foldl_append]
 rfl
theorem dec_facts (u : Nat) : digSum (decDigits u) = u ∧ (∀ c, c ∈ decDigits u → isDig c = true) ∧ ∃ d t, decDigits u = d :: t ∧ (d = 48 → t = [] ∧ u = 0) := by
 induction u using Nat.strongRecOn with
 | _ u ih =>
  rw [decDigits]
  split
  ·rename_i h
   obtain ⟨h1, h2⟩ := isDig_of u h
   refine ⟨?_, fun c hc => ?_, _, _, rfl, fun e => ⟨rfl, ?_⟩⟩
   ·show 10 * 0 + ((UInt8.ofNat (48 + u)).toNat - 48) = u
    omega
   ·rw [List.mem_singleton.1 hc]; exact h1
   ·rw [e] at h2
    have : (48 : UInt8).toNat = 48 := rfl
    omega
  ·rename_i h
   obtain ⟨i1, i2, d, t, i3, i4⟩ := ih (u / 10) (by omega)
   obtain ⟨h1, h2⟩ := isDig_of (u % 10) (by omega)
   refine ⟨?_, fun c hc => ?_, d, t ++ [UInt8.ofNat (48 + u % 10)], by rw [i3]; rfl, fun e => ?_⟩
   ·rw [digSum_snoc, i1, h2]; omega
   ·rcases List.mem_append.1 hc with hc | hc
    ·exact i2 c hc
    ·rw [List.mem_singleton.1 hc]; exact h1
   ·have := (i4 e).2
    omega
theorem itoa_head (n : Int) : ∃ d t, itoa n = d :: t ∧ (d = 45 ∨ isDig d = true) := by
 unfold itoa
 split
 ·exact ⟨_, _, rfl, .inl rfl⟩
 ·obtain ⟨_, h2, d, t, h3, _⟩ := dec_facts n.toNat
  exact ⟨d, t, h3, .inr (h2 d (by rw [h3]; exact List.mem_cons_self ..))⟩
section
variable {n : Nat}
theorem writeV_eq (v : VS (V n)) : writeV (n + 1) v = if v.kind = 1 then [110, 117, 108, 108]
  else if v.kind = 2 then (if v.num = 1 then [116, 114, 117, 101] else [102, 97, 108, 115, 101])
  else if v.kind = 3 then itoa v.num
  else if v.kind = 4 then quoteL v.s.data.toList
  else if v.kind = 5 then 91 :: (commas (v.l.map (writeV n)) ++ [93])
  else 123 :: (commas (v.m.map (fun p => quoteL p.1.data.toList ++ (58 :: writeV n p.2))) ++ [125]) := rfl
end
def pairT {α : Type} (w : α → List UInt8) (p : ByteArray × α) : List UInt8 := quoteL p.1.data.toList ++ (58 :: w p.2)
section
variable {α : Type} {sub : List UInt8 → Nat → Sum Int (α × List UInt8 × Nat)}
end
open Go.Lib (itoa)
def pairMap {α β : Type} (f : α → β) (p : ByteArray × α) : ByteArray × β := (p.1, f p.2)
section
variable {n : Nat}
theorem sortV_eq (v : VS (V n)) : sortV (n + 1) v = (⟨v.kind, v.num, v.s, v.l.map (sortV n), (v.m.map (pairMap (sortV n))).mergeSort leK⟩ : VS (V n)) := rfl
theorem sort_perm (v : VS (V n)) : ((v.m.map (pairMap (sortV n))).mergeSort leK).Perm (v.m.map (pairMap (sortV n))) := List.mergeSort_perm _ _
end
theorem count_sort : ∀ (n : Nat) (v : V n), countV n (sortV n v) = countV n v
 | 0, v => nomatch v
 | n + 1, (v : VS (V n)) => by
  have ih := count_sort n
  have e : ∀ u : VS (V n), countV (n + 1) u = 1 + ((u.l.map (countV n)).sum + (u.m.map (fun p => countV n p.2)).sum) := fun u => by rw [← kids_sum]; rfl
  rw [e v]
  rw [sortV_eq]
  rw [e]
  simp only
  have h := ((sort_perm v).map (fun p => countV n p.2)).sum_nat
  rw [h]
  simp only [List.map_map, Function.comp_def, pairMap, ih]
theorem bytes_sort : ∀ (n : Nat) (v : V n), bytesV n (sortV n v) = bytesV n v
 | 0, v => nomatch v
 | n + 1, (v : VS (V n)) => by
  have ih := bytes_sort n
  have e : ∀ u : VS (V n), bytesV (n + 1) u = u.s.size + (u.m.map (fun p => p.1.size)).sum + ((u.l.map (bytesV n)).sum + (u.m.map (fun p => bytesV n p.2)).sum) := fun u => by rw [← kids_sum]; rfl
  rw [e v]
  rw [sortV_eq]
  rw [e]
  simp only
  have h := ((sort_perm v).map (fun p => bytesV n p.2)).sum_nat
  have h2 := ((sort_perm v).map (fun p => p.1.size)).sum_nat
  rw [h, h2]
  simp only [List.map_map, Function.comp_def, pairMap, ih]
theorem own_same {α β : Type} {w : VS α} {v : VS β} (h1 : w.kind = v.kind) (h2 : w.num = v.num) (h3 : w.s = v.s) (h4 : w.l.isEmpty = v.l.isEmpty) (h5 : w.m.isEmpty = v.m.isEmpty) (h6 : keysOk w.m = keysOk v.m) : ownRight w = ownRight v := by
 unfold ownRight
 rw [h1, h2, h3, h4, h5, h6]
theorem keys_perm {α β : Type} {a : List (ByteArray × α)} {b : List (ByteArray × β)} (h : (a.map (fun p => p.1)).Perm (b.map (fun p => p.1))) : keysOk a = keysOk b := by
 have e : ∀ {γ : Type} (l : List (ByteArray × γ)), keysOk l = ((l.map (fun p => p.1)).all bytesOk && decide ((l.map (fun p => p.1)).Nodup)) := fun l => by
  unfold keysOk
  rw [List.all_map]
  rfl
 rw [e, e, h.all_eq]
 congr 1
 exact decide_eq_decide.2 h.nodup_iff
theorem right_sort : ∀ (n : Nat) (v : V n), rightV n (sortV n v) = rightV n v
 | 0, v => nomatch v
 | n + 1, (v : VS (V n)) => by
  have ih := right_sort n
  have e : ∀ u : VS (V n), rightV (n + 1) u = (ownRight u && (u.l.all (rightV n) && u.m.all (fun p => rightV n p.2))) := fun u => by
   show (ownRight u && (u.l ++ u.m.map (fun p => p.2)).all (rightV n)) = _
   rw [List.all_append, List.all_map]
   rfl
  rw [e v]
  rw [sortV_eq]
  rw [e]
  have ho : ownRight (⟨v.kind, v.num, v.s, v.l.map (sortV n), (v.m.map (pairMap (sortV n))).mergeSort leK⟩ : VS (V n)) = ownRight v := by
   refine own_same rfl rfl rfl ?_ ?_ ?_
   ·simp only [List.isEmpty_map]
   ·rw [Bool.eq_iff_iff]
    simp only [List.isEmpty_iff_length_eq_zero, List.length_mergeSort, List.length_map]
   ·refine (keys_perm ((sort_perm v).map (fun p => p.1))).trans ?_
    unfold keysOk
    simp only [List.all_map, List.map_map, Function.comp_def, pairMap]
  rw [ho]
  simp only
  rw [(sort_perm v).all_eq]
  simp only [List.all_map, Function.comp_def, pairMap, ih]
theorem quote_len (s : List UInt8) : (quoteL s).length ≤ 6 * s.length + 2 := by
 have h : (s.flatMap quoteB).length ≤ 6 * s.length := by
  induction s with
  | nil => simp
  | cons b s ih =>
   rw [List.flatMap_cons, List.length_append, List.length_cons]
   have : (quoteB b).length ≤ 6 := by
    unfold quoteB
    split
    ·simp
    ·split <;> simp
   omega
 unfold quoteL
 rw [List.length_cons, List.length_append]
 simp only [List.length_cons, List.length_nil]
 omega
theorem commas_len : ∀ (l : List (List UInt8)), (commas l).length ≤ (l.map (fun x => x.length + 1)).sum
 | [] => Nat.le_refl _
 | [x] => by simp [commas]
 | x :: y :: l => by
  have := commas_len (y :: l)
  have e : (commas (x :: y :: l)).length = x.length + ((commas (y :: l)).length + 1) := by simp [commas]
  rw [e, List.map_cons, List.sum_cons]
  omega
theorem itoa_len (n : Int) (h : -9007199254740991 ≤ n ∧ n ≤ 9007199254740991) : (itoa n).length ≤ 21 := Lib.itoa_length_le n (by omega) (by omega)
theorem sum_lin {α : Type} (f g h : α → Nat) (a b : Nat) (l : List α) (hl : ∀ x, x ∈ l → f x ≤ a * g x + b * h x) : (l.map f).sum ≤ a * (l.map g).sum + b * (l.map h).sum := by
 rw [← sum_mul, ← sum_mul, ← sum_add]
 exact sum_map_le l hl
theorem write_len : ∀ (n : Nat) (v : V n), rightV n v = true → (writeV n v).length + 6 ≤ 6 * bytesV n v + 30 * countV n v
 | 0, v, _ => nomatch v
 | n + 1, (v : VS (V n)), h => by
  have ih := fun x (hx : x ∈ v.kids) => write_len n x (right_kid h hx)
  have ec : countV (n + 1) v = 1 + ((v.l.map (countV n)).sum + (v.m.map (fun p => countV n p.2)).sum) := by rw [← kids_sum]; rfl
  have eb : bytesV (n + 1) v = v.s.size + (v.m.map (fun p => p.1.size)).sum + ((v.l.map (bytesV n)).sum + (v.m.map (fun p => bytesV n p.2)).sum) := by rw [← kids_sum]; rfl
  rw [writeV_eq]
  rcases own_cases (right_own h) with ⟨h1, h2, h3, h4, h5⟩ | ⟨h1, h2, h3, h4, h5⟩ | ⟨h1, h2, h3, h4, h5⟩ | ⟨h1, h2, h3, h4, h5⟩ | ⟨h1, h2, h3, h5⟩ | ⟨h1, h2, h3, h4, h5⟩
  ·rw [if_pos h1]; simp only [List.length_cons, List.length_nil]; omega
  ·rw [if_neg (by omega), if_pos h1]
   split <;> (simp only [List.length_cons, List.length_nil]; omega)
  ·rw [if_neg (by omega), if_neg (by omega), if_pos h1]
   have := itoa_len v.num h2
   omega
  ·rw [if_neg (by omega), if_neg (by omega), if_neg (by omega), if_pos h1]
   have := quote_len v.s.data.toList
   have e : v.s.data.toList.length = v.s.size := rfl
   omega
  ·rw [if_neg (by omega), if_neg (by omega), if_neg (by omega), if_neg (by omega), if_pos h1]
   have a := commas_len (v.l.map (writeV n))
   rw [List.map_map] at a
   have b := sum_lin ((fun x => x.length + 1) ∘ writeV n) (bytesV n) (countV n) 6 30 v.l (fun x hx => by
    have := ih x (mem_l hx)
    show (writeV n x).length + 1 ≤ _
    omega)
   rw [List.length_cons, List.length_append]
   simp only [List.length_cons, List.length_nil]
   omega
  ·rw [if_neg (by omega), if_neg (by omega), if_neg (by omega), if_neg (by omega), if_neg (by omega)]
   have a := commas_len (v.m.map (pairT (writeV n)))
   rw [List.map_map] at a
   have b := sum_lin ((fun x => x.length + 1) ∘ pairT (writeV n)) (fun p => p.1.size + bytesV n p.2) (fun p => countV n p.2) 6 30 v.m (fun p hp => by
    have := ih p.2 (mem_m hp)
    have q := quote_len p.1.data.toList
    have e : p.1.data.toList.length = p.1.size := rfl
    show (quoteL p.1.data.toList ++ (58 :: writeV n p.2)).length + 1 ≤ 6 * (p.1.size + bytesV n p.2) + 30 * countV n p.2
    rw [List.length_append, List.length_cons]
    omega)
   rw [sum_add] at b
   rw [List.length_cons, List.length_append]
   simp only [List.length_cons, List.length_nil]
   have e : (commas (v.m.map (fun p => quoteL p.1.data.toList ++ (58 :: writeV n p.2)))).length = (commas (v.m.map (pairT (writeV n)))).length := rfl
   omega
end Go.Proofs.YtckbnjipecclaaaGreatDoor

/- Parts of one proof, merged: XVW XVX XVY. -/
import Derived.Test.YtckbnjipecclaaaGreatDoorHkB
import Derived.Lib.ValidLaws
set_option linter.all false
set_option maxHeartbeats 12800000
set_option maxRecDepth 10000
set_option linter.unusedVariables false
set_option linter.unusedSimpArgs false
set_option linter.unnecessarySimpa false
namespace Go.Proofs.YtckbnjipecclaaaGreatDoor
open Go.Lib (decodeL decDigits itoa)
theorem isDig_of (d : Nat) (h : d < 10) : isDig (UInt8.ofNat (48 + d)) = true ∧ (UInt8.ofNat (48 + d)).toNat = 48 + d := by
 have e : (UInt8.ofNat (48 + d)).toNat = 48 + d := by rw [UInt8.toNat_ofNat']; omega
 refine ⟨?_, e⟩
 unfold isDig
 rw [e, Bool.and_eq_true]
 exact ⟨decide_eq_true (by omega), decide_eq_true (by omega)⟩
theorem digSum_snoc (l : List UInt8) (c : UInt8) : digSum (l ++ [c]) = 10 * digSum l + (c.toNat - 48) := by
 unfold digSum
 rw [List.foldl_append]
 rfl
theorem dec_facts (u : Nat) : digSum (decDigits u) = u ∧ (∀ c, c ∈ decDigits u → isDig c = true) ∧ ∃ d t, decDigits u = d :: t ∧ (d = 48 → t = [] ∧ u = 0) := by
 induction u using Nat.strongRecOn with
 | _ u ih =>
  rw [decDigits]
  split
  ·rename_i h
   obtain ⟨h1, h2⟩ := isDig_of u h
   refine ⟨?_, fun c hc => ?_, _, _, rfl, fun e => ⟨rfl, ?_⟩⟩
   ·show 10 * 0 + ((UInt8.ofNat (48 + u)).toNat - 48) = u
    omega
   ·rw [List.mem_singleton.1 hc]; exact h1
   ·rw [e] at h2
    have : (48 : UInt8).toNat = 48 := rfl
    omega
  ·rename_i h
   obtain ⟨i1, i2, d, t, i3, i4⟩ := ih (u / 10) (by omega)
   obtain ⟨h1, h2⟩ := isDig_of (u % 10) (by omega)
   refine ⟨?_, fun c hc => ?_, d, t ++ [UInt8.ofNat (48 + u % 10)], by rw [i3]; rfl, fun e => ?_⟩
   ·rw [digSum_snoc, i1, h2]; omega
   ·rcases List.mem_append.1 hc with hc | hc
    ·exact i2 c hc
    ·rw [List.mem_singleton.1 hc]; exact h1
   ·have := (i4 e).2
    omega
theorem itoa_head (n : Int) : ∃ d t, itoa n = d :: t ∧ (d = 45 ∨ isDig d = true) := by
 unfold itoa
 split
 ·exact ⟨_, _, rfl, .inl rfl⟩
 ·obtain ⟨_, h2, d, t, h3, _⟩ := dec_facts n.toNat
  exact ⟨d, t, h3, .inr (h2 d (by rw [h3]; exact List.mem_cons_self ..))⟩
section
variable {n : Nat}
theorem writeV_eq (v : VS (V n)) : writeV (n + 1) v = if v.kind = 1 then [110, 117, 108, 108]
  else if v.kind = 2 then (if v.num = 1 then [116, 114, 117, 101] else [102, 97, 108, 115, 101])
  else if v.kind = 3 then itoa v.num
  else if v.kind = 4 then quoteL v.s.data.toList
  else if v.kind = 5 then 91 :: (commas (v.l.map (writeV n)) ++ [93])
  else 123 :: (commas (v.m.map (fun p => quoteL p.1.data.toList ++ (58 :: writeV n p.2))) ++ [125]) := rfl
end
def pairT {α : Type} (w : α → List UInt8) (p : ByteArray × α) : List UInt8 := quoteL p.1.data.toList ++ (58 :: w p.2)
section
variable {α : Type} {sub : List UInt8 → Nat → Sum Int (α × List UInt8 × Nat)}
end
open Go.Lib (itoa)
def pairMap {α β : Type} (f : α → β) (p : ByteArray × α) : ByteArray × β := (p.1, f p.2)
section
variable {n : Nat}
theorem sortV_eq (v : VS (V n)) : sortV (n + 1) v = (⟨v.kind, v.num, v.s, v.l.map (sortV n), (v.m.map (pairMap (sortV n))).mergeSort leK⟩ : VS (V n)) := rfl
theorem sort_perm (v : VS (V n)) : ((v.m.map (pairMap (sortV n))).mergeSort leK).Perm (v.m.map (pairMap (sortV n))) := List.mergeSort_perm _ _
end
theorem count_sort : ∀ (n : Nat) (v : V n), countV n (sortV n v) = countV n v
 | 0, v => nomatch v
 | n + 1, (v : VS (V n)) => by
  have ih := count_sort n
  have e : ∀ u : VS (V n), countV (n + 1) u = 1 + ((u.l.map (countV n)).sum + (u.m.map (fun p => countV n p.2)).sum) := fun u => by rw [← kids_sum]; rfl
  rw [e v]
  rw [sortV_eq]
  rw [e]
  simp only
  have h := ((sort_perm v).map (fun p => countV n p.2)).sum_nat
  rw [h]
  simp only [List.map_map, Function.comp_def, pairMap, ih]
theorem bytes_sort : ∀ (n : Nat) (v : V n), bytesV n (sortV n v) = bytesV n v
 | 0, v => nomatch v
 | n + 1, (v : VS (V n)) => by
  have ih := bytes_sort n
  have e : ∀ u : VS (V n), bytesV (n + 1) u = u.s.size + (u.m.map (fun p => p.1.size)).sum + ((u.l.map (bytesV n)).sum + (u.m.map (fun p => bytesV n p.2)).sum) := fun u => by rw [← kids_sum]; rfl
  rw [e v]
  rw [sortV_eq]
  rw [e]
  simp only
  have h := ((sort_perm v).map (fun p => bytesV n p.2)).sum_nat
  have h2 := ((sort_perm v).map (fun p => p.1.size)).sum_nat
  rw [h, h2]
  simp only [List.map_map, Function.comp_def, pairMap, ih]
theorem own_same {α β : Type} {w : VS α} {v : VS β} (h1 : w.kind = v.kind) (h2 : w.num = v.num) (h3 : w.s = v.s) (h4 : w.l.isEmpty = v.l.isEmpty) (h5 : w.m.isEmpty = v.m.isEmpty) (h6 : keysOk w.m = keysOk v.m) : ownRight w = ownRight v := by
 unfold ownRight
 rw [h1, h2, h3, h4, h5, h6]
theorem keys_perm {α β : Type} {a : List (ByteArray × α)} {b : List (ByteArray × β)} (h : (a.map (fun p => p.1)).Perm (b.map (fun p => p.1))) : keysOk a = keysOk b := by
 have e : ∀ {γ : Type} (l : List (ByteArray × γ)), keysOk l = ((l.map (fun p => p.1)).all bytesOk && decide ((l.map (fun p => p.1)).Nodup)) := fun l => by
  unfold keysOk
  rw [List.all_map]
  rfl
 rw [e, e, h.all_eq]
 congr 1
 exact decide_eq_decide.2 h.nodup_iff
theorem right_sort : ∀ (n : Nat) (v : V n), rightV n (sortV n v) = rightV n v
 | 0, v => nomatch v
 | n + 1, (v : VS (V n)) => by
  have ih := right_sort n
  have e : ∀ u : VS (V n), rightV (n + 1) u = (ownRight u && (u.l.all (rightV n) && u.m.all (fun p => rightV n p.2))) := fun u => by
   show (ownRight u && (u.l ++ u.m.map (fun p => p.2)).all (rightV n)) = _
   rw [List.all_append, List.all_map]
   rfl
  rw [e v]
  rw [sortV_eq]
  rw [e]
  have ho : ownRight (⟨v.kind, v.num, v.s, v.l.map (sortV n), (v.m.map (pairMap (sortV n))).mergeSort leK⟩ : VS (V n)) = ownRight v := by
   refine own_same rfl rfl rfl ?_ ?_ ?_
   ·simp only [List.isEmpty_map]
   ·rw [Bool.eq_iff_iff]
    simp only [List.isEmpty_iff_length_eq_zero, List.length_mergeSort, List.length_map]
   ·refine (keys_perm ((sort_perm v).map (fun p => p.1))).trans ?_
    unfold keysOk
    simp only [List.all_map, List.map_map, Function.comp_def, pairMap]
  rw [ho]
  simp only
  rw [(sort_perm v).all_eq]
  simp only [List.all_map, Function.comp_def, pairMap, ih]
theorem quote_len (s : List UInt8) : (quoteL s).length ≤ 6 * s.length + 2 := by
 have h : (s.flatMap quoteB).length ≤ 6 * s.length := by
  induction s with
  | nil => simp
  | cons b s ih =>
   rw [List.flatMap_cons, List.length_append, List.length_cons]
   have : (quoteB b).length ≤ 6 := by
    unfold quoteB
    split
    ·simp
    ·split <;> simp
   omega
 unfold quoteL
 rw [List.length_cons, List.length_append]
 simp only [List.length_cons, List.length_nil]
 omega
theorem commas_len : ∀ (l : List (List UInt8)), (commas l).length ≤ (l.map (fun x => x.length + 1)).sum
 | [] => Nat.le_refl _
 | [x] => by simp [commas]
 | x :: y :: l => by
  have := commas_len (y :: l)
  have e : (commas (x :: y :: l)).length = x.length + ((commas (y :: l)).length + 1) := by simp [commas]
  rw [e, List.map_cons, List.sum_cons]
  omega
theorem itoa_len (n : Int) (h : -9007199254740991 ≤ n ∧ n ≤ 9007199254740991) : (itoa n).length ≤ 21 := Lib.itoa_length_le n (by omega) (by omega)
theorem sum_lin {α : Type} (f g h : α → Nat) (a b : Nat) (l : List α) (hl : ∀ x, x ∈ l → f x ≤ a * g x + b * h x) : (l.map f).sum ≤ a * (l.map g).sum + b * (l.map h).sum := by
 rw [← sum_mul, ← sum_mul, ← sum_add]
 exact sum_map_le l hl
theorem write_len : ∀ (n : Nat) (v : V n), rightV n v = true → (writeV n v).length + 6 ≤ 6 * bytesV n v + 30 * countV n v
 | 0, v, _ => nomatch v
 | n + 1, (v : VS (V n)), h => by
  have ih := fun x (hx : x ∈ v.kids) => write_len n x (right_kid h hx)
  have ec : countV (n + 1) v = 1 + ((v.l.map (countV n)).sum + (v.m.map (fun p => countV n p.2)).sum) := by rw [← kids_sum]; rfl
  have eb : bytesV (n + 1) v = v.s.size + (v.m.map (fun p => p.1.size)).sum + ((v.l.map (bytesV n)).sum + (v.m.map (fun p => bytesV n p.2)).sum) := by rw [← kids_sum]; rfl
  rw [writeV_eq]
  rcases own_cases (right_own h) with ⟨h1, h2, h3, h4, h5⟩ | ⟨h1, h2, h3, h4, h5⟩ | ⟨h1, h2, h3, h4, h5⟩ | ⟨h1, h2, h3, h4, h5⟩ | ⟨h1, h2, h3, h5⟩ | ⟨h1, h2, h3, h4, h5⟩
  ·rw [if_pos h1]; simp only [List.length_cons, List.length_nil]; omega
  ·rw [if_neg (by omega), if_pos h1]
   split <;> (simp only [List.length_cons, List.length_nil]; omega)
  ·rw [if_neg (by omega), if_neg (by omega), if_pos h1]
   have := itoa_len v.num h2
   omega
  ·rw [if_neg (by omega), if_neg (by omega), if_neg (by omega), if_pos h1]
   have := quote_len v.s.data.toList
   have e : v.s.data.toList.length = v.s.size := rfl
   omega
  ·rw [if_neg (by omega), if_neg (by omega), if_neg (by omega), if_neg (by omega), if_pos h1]
   have a := commas_len (v.l.map (writeV n))
   rw [List.map_map] at a
   have b := sum_lin ((fun x => x.length + 1) ∘ writeV n) (bytesV n) (countV n) 6 30 v.l (fun x hx => by
    have := ih x (mem_l hx)
    show (writeV n x).length + 1 ≤ _
    omega)
   rw [List.length_cons, List.length_append]
   simp only [List.length_cons, List.length_nil]
   omega
  ·rw [if_neg (by omega), if_neg (by omega), if_neg (by omega), if_neg (by omega), if_neg (by omega)]
   have a := commas_len (v.m.map (pairT (writeV n)))
   rw [List.map_map] at a
   have b := sum_lin ((fun x => x.length + 1) ∘ pairT (writeV n)) (fun p => p.1.size + bytesV n p.2) (fun p => countV n p.2) 6 30 v.m (fun p hp => by
    have := ih p.2 (mem_m hp)
    have q := quote_len p.1.data.toList
    have e : p.1.data.toList.length = p.1.size := rfl
    show (quoteL p.1.data.toList ++ (58 :: writeV n p.2)).length + 1 ≤ 6 * (p.1.size + bytesV n p.2) + 30 * countV n p.2
    rw [List.length_append, List.length_cons]
    omega)
   rw [sum_add] at b
   rw [List.length_cons, List.length_append]
   simp only [List.length_cons, List.length_nil]
   have e : (commas (v.m.map (fun p => quoteL p.1.data.toList ++ (58 :: writeV n p.2)))).length = (commas (v.m.map (pairT (writeV n)))).length := rfl
   omega
end Go.Proofs.YtckbnjipecclaaaGreatDoor

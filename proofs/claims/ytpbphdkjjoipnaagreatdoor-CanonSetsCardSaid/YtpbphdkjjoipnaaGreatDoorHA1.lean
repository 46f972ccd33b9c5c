/- Parts of one proof, merged: XWA XWB. -/
import Derived.Test.YtpbphdkjjoipnaaGreatDoorHY
import Derived.Test.YtpbphdkjjoipnaaGreatDoorHC
set_option linter.all false
set_option maxHeartbeats 12800000
set_option maxRecDepth 10000
set_option linter.unusedVariables false
set_option linter.unusedSimpArgs false
set_option linter.unnecessarySimpa false
namespace Go.Proofs.YtpbphdkjjoipnaaGreatDoor
open Go.RowKit
theorem strB_sz (l : List UInt8) : (zg l).size = l.length := by simp [zg, ByteArray.size]
def zV (k : Nat) : (n : Nat) → V n → V (k + n)
 | 0, v => nomatch v
 | n + 1, (v : VS (V n)) => (v.map (zV k n) : VS (V (k + n)))
def upK {k : Nat} (x : V k) : (n : Nat) → V (k + n)
 | 0 => x
 | n + 1 => up (k + n) (upK x n)
section
variable {k : Nat}
theorem ve : ∀ (n : Nat) (v : V n), ze (k + n) (zV k n v) = ze n v
 | 0, v => nomatch v
 | n + 1, (v : VS (V n)) => by
  show 1 + ((VS.map (zV k n) v).kids.map (ze (k + n))).sum = 1 + (v.kids.map (ze n)).sum
  rw [VS.kids_map, List.map_map]
  congr 2
  exact List.map_congr_left fun x _ => ve n x
theorem vA : ∀ (n : Nat) (v : V n), zw (k + n) (zV k n v) = zw n v
 | 0, v => nomatch v
 | n + 1, (v : VS (V n)) => by
  show v.s.size + (VS.map (zV k n) v).keyBytes + ((VS.map (zV k n) v).kids.map (zw (k + n))).sum = v.s.size + v.keyBytes + (v.kids.map (zw n)).sum
  rw [VS.kids_map, List.map_map]
  congr 2
  ·unfold VS.keyBytes VS.map
   simp only [List.map_map]
   rfl
  ·exact List.map_congr_left fun x _ => vA n x
theorem bytes_up : ∀ (n : Nat) (v : V n), zw (n + 1) (up n v) = zw n v
 | 0, v => nomatch v
 | n + 1, (v : VS (V n)) => by
  show v.s.size + (VS.map (up n) v).keyBytes + ((VS.map (up n) v).kids.map (zw (n + 1))).sum = v.s.size + v.keyBytes + (v.kids.map (zw n)).sum
  rw [VS.kids_map, List.map_map]
  congr 2
  ·unfold VS.keyBytes VS.map
   simp only [List.map_map]
   rfl
  ·exact List.map_congr_left fun x _ => bytes_up n x
theorem kQ (x : V k) : ∀ n, ze (k + n) (upK x n) = ze k x
 | 0 => rfl
 | n + 1 => (count_up (k + n) (upK x n)).trans (kQ x n)
theorem kO (x : V k) : ∀ n, zw (k + n) (upK x n) = zw k x
 | 0 => rfl
 | n + 1 => (bytes_up (k + n) (upK x n)).trans (kO x n)
def Qs (x : V k) (s : List UInt8) : (m : Nat) → V m → Option (V (k + m))
 | 0, _ => none
 | m + 1, (v : VS (V m)) =>
  if v.kind = 6 then some (⟨v.kind, v.num, v.s, v.l.map (zV k m), v.m.map (fun p => (p.1, zV k m p.2)) ++ [(zg s, upK x m)]⟩ : VS (V (k + m)))
  else if v.kind = 5 ∧ s = [45] then some (⟨v.kind, v.num, v.s, v.l.map (zV k m) ++ [upK x m], v.m.map (fun p => (p.1, zV k m p.2))⟩ : VS (V (k + m)))
  else none
def y7 {n : Nat} (i : Nat) (v : VS (V n)) (y : V (k + n)) : VS (V (k + n)) :=
 if v.kind = 5 then ⟨v.kind, v.num, v.s, (v.l.map (zV k n)).set i y, v.m.map (fun p => (p.1, zV k n p.2))⟩
 else ⟨v.kind, v.num, v.s, v.l.map (zV k n), (v.m.map (fun p => (p.1, zV k n p.2))).modify i (fun p => (p.1, y))⟩
def ZP {n : Nat} (i : Nat) (v : VS (V n)) (y : V (k + n)) : V (k + (n + 1)) := y7 i v y
def yZ (x : V k) : (n : Nat) → V n → List (List UInt8) → Option (V (k + n))
 | 0, _, _ => none
 | n + 1, _, [] => some (upK x (n + 1))
 | n + 1, (v : VS (V n)), s :: r => match zU v s with
  | some i => match yX v s with
   | some c => (yZ x n c r).map (ZP i v)
   | none => none
  | none => if r = [] then Qs x s (n + 1) v else none
def modV (f : (m : Nat) → V m → Option (V (k + m))) : (n : Nat) → V n → List (List UInt8) → Option (V (k + n))
 | 0, _, _ => none
 | n + 1, v, [] => f (n + 1) v
 | n + 1, (v : VS (V n)), s :: r => match zU v s with
  | some i => match yX v s with
   | some c => (modV f n c r).map (ZP i v)
   | none => none
  | none => none
theorem YY {α : Type} {v : VS α} {s : List UInt8} {x : α} (h : yX v s = some x) : ∃ i, zU v s = some i := by
 cases hp : zU v s with
 | none => rw [qh hp] at h; cases h
 | some i => exact ⟨i, rfl⟩
theorem bK {α : Type} {v : VS α} {s : List UInt8} {i : Nat} (h : zU v s = some i) : ∃ x, yX v s = some x := by
 rcases xE h with ⟨-, _, e⟩ | ⟨-, _, e⟩ <;> exact ⟨_, e⟩
section
variable {x : V k} {f : (m : Nat) → V m → Option (V (k + m))}
theorem kY {n : Nat} {v : VS (V n)} {s : List UInt8} {r : List (List UInt8)} {c : V n} {i : Nat} (hp : zU v s = some i) (hk : yX v s = some c) : yZ x (n + 1) v (s :: r) = (yZ x n c r).map (ZP i v) := by
 show (match zU v s with | some i => _ | none => _) = _
 rw [hp]
 simp only [hk]
theorem bR {n : Nat} {v : VS (V n)} {s : List UInt8} {r : List (List UInt8)} (hp : zU v s = none) : yZ x (n + 1) v (s :: r) = if r = [] then Qs x s (n + 1) v else none := by
 show (match zU v s with | some i => _ | none => _) = _
 rw [hp]
theorem bk {n : Nat} {v : VS (V n)} {s : List UInt8} {r : List (List UInt8)} {c : V n} {i : Nat} (hp : zU v s = some i) (hk : yX v s = some c) : modV f (n + 1) v (s :: r) = (modV f n c r).map (ZP i v) := by
 show (match zU v s with | some i => _ | none => _) = _
 rw [hp]
 simp only [hk]
theorem set_at : ∀ (n : Nat) (v : V n) (L : List (List UInt8)) {u : Sigma V}, atV n v L = some u → yZ x n v L = modV (fun m _ => some (upK x m)) n v L
 | 0, v, _, _, _ => nomatch v
 | n + 1, v, [], _, _ => rfl
 | n + 1, (v : VS (V n)), s :: r, u, h => by
  cases hk : yX v s with
  | none => rw [vE hk] at h; cases h
  | some c =>
   rw [xx hk] at h
   obtain ⟨i, hp⟩ := YY hk
   rw [kY hp hk, bk hp hk, set_at n c r h]
theorem set_none : ∀ (n : Nat) (v : V n) (L : List (List UInt8)) {s : List UInt8}, atV n v L = none → yZ x n v (L ++ [s]) = none
 | 0, v, _, _, _ => nomatch v
 | n + 1, v, [], _, h => by cases (show (some (⟨n + 1, v⟩ : Sigma V)) = none from h)
 | n + 1, (v : VS (V n)), t :: r, s, h => by
  cases hp : zU v t with
  | none =>
   rw [List.cons_append, bR hp, if_neg (by simp)]
  | some i =>
   obtain ⟨c, hk⟩ := bK hp
   rw [xx hk] at h
   rw [List.cons_append, kY hp hk, set_none n c r h]
   rfl
theorem ZJ : ∀ (n : Nat) (v : V n) (L : List (List UInt8)) {s : List UInt8} {u : Sigma V}, atV n v L = some u → atV n v (L ++ [s]) = none → yZ x n v (L ++ [s]) = modV (Qs x s) n v L
 | 0, v, _, _, _, _, _ => nomatch v
 | n + 1, (v : VS (V n)), [], s, u, _, h => by
  have hp : zU v s = none := by
   cases hp : zU v s with
   | none => rfl
   | some i =>
    obtain ⟨c, hk⟩ := bK hp
    rw [List.nil_append, xx hk] at h
    cases n with
    | zero => exact nomatch c
    | succ n => cases (show (some (⟨n + 1, c⟩ : Sigma V)) = none from h)
  rw [List.nil_append, bR hp, if_pos rfl]
  rfl
 | n + 1, (v : VS (V n)), t :: r, s, u, hu, h => by
  cases hk : yX v t with
  | none => rw [vE hk] at hu; cases hu
  | some c =>
   rw [xx hk] at hu
   rw [List.cons_append, xx hk] at h
   obtain ⟨i, hp⟩ := YY hk
   rw [List.cons_append, kY hp hk, bk hp hk, ZJ n c r hu h]
theorem Kz : ∀ (n : Nat) (v : V n) (L : List (List UInt8)) {u : Sigma V}, atV n v L = some u → f u.1 u.2 = none → modV f n v L = none
 | 0, v, _, _, _, _ => nomatch v
 | n + 1, v, [], u, h, hf => by
  have e : u = ⟨n + 1, v⟩ := (Option.some.inj (show some (⟨n + 1, v⟩ : Sigma V) = some u from h)).symm
  subst e; exact hf
 | n + 1, (v : VS (V n)), s :: r, u, h, hf => by
  cases hk : yX v s with
  | none => rw [vE hk] at h; cases h
  | some c =>
   rw [xx hk] at h
   obtain ⟨i, hp⟩ := YY hk
   rw [bk hp hk, Kz n c r h hf]
   rfl
end
theorem Zl {n i : Nat} {v : VS (V n)} {y : V (k + n)} : (y7 i v y).kind = v.kind := by unfold y7; split <;> rfl
theorem ZA {α β : Type} (y : β) : ∀ (l : List (α × β)) (i : Nat), (l.modify i (fun p => (p.1, y))).map (·.2) = (l.map (·.2)).set i y
 | [], i => by simp
 | p :: l, 0 => by simp
 | p :: l, i + 1 => by simpa using ZA y l i
theorem Zi {α β : Type} (y : β) : ∀ (l : List (α × β)) (i : Nat), (l.modify i (fun p => (p.1, y))).map (·.1) = l.map (·.1)
 | [], i => by simp
 | p :: l, 0 => by simp
 | p :: l, i + 1 => by simpa using Zi y l i
theorem findIdx_fst {α β : Type} (t : α → Bool) : ∀ (l : List (α × β)), l.findIdx? (fun p => t p.1) = (l.map (·.1)).findIdx? t
 | [] => rfl
 | p :: l => by
  simp only [List.map_cons, List.findIdx?_cons, findIdx_fst t l]
theorem lift_fst {n : Nat} (m : List (ByteArray × V n)) : (m.map (fun p => (p.1, zV k n p.2))).map (·.1) = m.map (·.1) := by
 rw [List.map_map]; rfl
theorem Qq {n i : Nat} {v : VS (V n)} {y : V (k + n)} {s : List UInt8} : zU (y7 i v y) s = zU v s := by
 unfold zU
 rw [Zl]
 by_cases h5 : v.kind = 5
 ·rw [if_pos h5, if_pos h5]
  unfold y7
  rw [if_pos h5]
  simp only [List.length_set, List.length_map]
 ·rw [if_neg h5, if_neg h5]
  by_cases h6 : v.kind = 6
  ·rw [if_pos h6, if_pos h6]
   rw [findIdx_fst (fun b => decide (b = zg s)), findIdx_fst (fun b => decide (b = zg s))]
   unfold y7
   rw [if_neg h5]
   simp only
   rw [Zi, lift_fst]
  ·rw [if_neg h6, if_neg h6]
theorem kid_putAt {n i : Nat} {v : VS (V n)} {y : V (k + n)} {s : List UInt8} (h : zU v s = some i) : yX (y7 i v y) s = some y := by
 rcases xE h with ⟨h5, hi, -⟩ | ⟨h6, hi, -⟩
 ·unfold yX
  rw [Qq, h]
  simp only [Zl, if_pos h5]
  unfold y7
  rw [if_pos h5]
  simp [hi]
 ·have h5 : ¬ v.kind = 5 := by omega
  unfold yX
  rw [Qq, h]
  simp only [Zl, if_neg h5]
  have e := congrArg (fun l => l[i]?) (ZA y (v.m.map (fun p => (p.1, zV k n p.2))) i)
  simp only [List.getElem?_map] at e
  unfold y7
  rw [if_neg h5]
  refine e.trans ?_
  simp [hi]
theorem kid_add {n : Nat} {x : V k} {v : VS (V n)} {s : List UInt8} {y : VS (V (k + n))} (hp : zU v s = none) (hs : s ≠ [45]) (h : Qs x s (n + 1) v = some (y : VS (V (k + n)))) : yX y s = some (upK x n) := by
 have e : Qs x s (n + 1) v = if v.kind = 6 then some (⟨v.kind, v.num, v.s, v.l.map (zV k n), v.m.map (fun p => (p.1, zV k n p.2)) ++ [(zg s, upK x n)]⟩ : VS (V (k + n)))
  else if v.kind = 5 ∧ s = [45] then some (⟨v.kind, v.num, v.s, v.l.map (zV k n) ++ [upK x n], v.m.map (fun p => (p.1, zV k n p.2))⟩ : VS (V (k + n)))
  else none := rfl
 rw [e] at h
 by_cases h6 : v.kind = 6
 ·rw [if_pos h6] at h
  have h5 : ¬ v.kind = 5 := by omega
  obtain rfl := Option.some.inj h
  have hpl : zU (⟨v.kind, v.num, v.s, v.l.map (zV k n), v.m.map (fun p => (p.1, zV k n p.2)) ++ [(zg s, upK x n)]⟩ : VS (V (k + n))) s = some v.m.length := by
   refine jV h6 (by simp) (by simp) (fun j hj he => ?_)
   unfold zU at hp
   rw [if_neg h5, if_pos h6, List.findIdx?_eq_none_iff] at hp
   have h1 := hp v.m[j] (List.getElem_mem hj)
   simp [hj] at he
   simp [he] at h1
  unfold yX
  rw [hpl]
  simp only [if_neg h5]
  simp
 ·rw [if_neg h6, if_neg (fun h => hs h.2)] at h
  cases h
theorem at_set : ∀ (n : Nat) (v : V n) (L : List (List UInt8)) {x : V k} {y : V (k + n)}, yZ x n v L = some y → (∀ s, L.getLast? = some s → s ≠ [45]) → k ≠ 0 → ∃ m, atV (k + n) y L = some ⟨k + m, upK x m⟩
 | 0, v, _, _, _, _, _, _ => nomatch v
 | n + 1, v, [], x, y, h, _, _ => by
  have e : upK x (n + 1) = y := Option.some.inj h
  subst e
  exact ⟨n + 1, rfl⟩
 | n + 1, (v : VS (V n)), s :: r, x, y, h, hl, h0 => by
  cases hp : zU v s with
  | none =>
   rw [bR hp] at h
   by_cases hr : r = []
   ·rw [if_pos hr] at h
    subst hr
    have hk := kid_add (y := (y : VS (V (k + n)))) hp (hl s (by simp)) h
    refine ⟨n, (xx (v := (y : VS (V (k + n)))) hk).trans ?_⟩
    have h9 : ∀ (q : Nat) (z : V q), q ≠ 0 → atV q z [] = some ⟨q, z⟩ := fun q z hq => by
     cases q with
     | zero => exact absurd rfl hq
     | succ q => rfl
    exact h9 (k + n) (upK x n) (by omega)
   ·rw [if_neg hr] at h; cases h
  | some i =>
   obtain ⟨c, hk⟩ := bK hp
   rw [kY hp hk, Option.map_eq_some_iff] at h
   obtain ⟨z, hz, rfl⟩ := h
   have hl' : ∀ t, r.getLast? = some t → t ≠ [45] := fun t ht => hl t (by
    cases r with
    | nil => cases ht
    | cons a r => rw [List.getLast?_cons_cons]; exact ht)
   obtain ⟨m, hm⟩ := at_set n c r hz hl' h0
   exact ⟨m, (xx (v := (y7 i v z : VS (V (k + n)))) (kid_putAt hp)).trans hm⟩
theorem set_sum {f : Nat → Nat} : ∀ (l : List Nat) (i a b : Nat), l[i]? = some a → (l.set i b).sum + a = l.sum + b
 | [], i, _, _, h => by simp at h
 | c :: l, 0, a, b, h => by
  simp at h; subst h
  simp only [List.set_cons_zero, List.sum_cons]; omega
 | c :: l, i + 1, a, b, h => by
  have := set_sum (f := f) l i a b (by simpa using h)
  simp only [List.set_cons_succ, List.sum_cons]; omega
theorem kids_putAt {n i : Nat} {v : VS (V n)} {y : V (k + n)} {s : List UInt8} {c : V n} (hp : zU v s = some i) (hk : yX v s = some c) : ∃ j, v.kids[j]? = some c ∧ (y7 i v y).kids = (v.kids.map (zV k n)).set j y ∧ (y7 i v y).keyBytes = v.keyBytes ∧ (y7 i v y).s = v.s := by
 rcases xE hp with ⟨h5, hi, e⟩ | ⟨h6, hi, e⟩
 ·rw [hk] at e
  obtain rfl := Option.some.inj e
  refine ⟨i, ?_, ?_, ?_, ?_⟩
  ·unfold VS.kids
   rw [List.getElem?_append_left hi, List.getElem?_eq_getElem hi]
  ·unfold y7
   rw [if_pos h5]
   unfold VS.kids
   simp only [List.map_append]
   rw [List.set_append_left _ _ (by simpa using hi), List.map_map, List.map_map]
   rfl
  ·unfold y7
   rw [if_pos h5]
   unfold VS.keyBytes
   simp only [List.map_map]
   rfl
  ·unfold y7
   rw [if_pos h5]
 ·have h5 : ¬ v.kind = 5 := by omega
  rw [hk] at e
  obtain rfl := Option.some.inj e
  refine ⟨v.l.length + i, ?_, ?_, ?_, ?_⟩
  ·unfold VS.kids
   rw [List.getElem?_append_right (by omega), Nat.add_sub_cancel_left, List.getElem?_map, List.getElem?_eq_getElem hi]
   rfl
  ·unfold y7
   rw [if_neg h5]
   unfold VS.kids
   simp only [List.map_append]
   rw [List.set_append_right _ _ (by simp), ZA, List.map_map, List.map_map]
   simp only [List.length_map, Nat.add_sub_cancel_left]
   rfl
  ·unfold y7
   rw [if_neg h5]
   unfold VS.keyBytes
   simp only
   have e := Zi y (v.m.map (fun p => (p.1, zV k n p.2))) i
   have e2 := congrArg (fun l => (l.map ByteArray.size).sum) (e.trans (lift_fst v.m))
   simpa [List.map_map, Function.comp_def] using e2
  ·unfold y7
   rw [if_neg h5]
theorem size_add {n : Nat} {x : V k} {v : VS (V n)} {s : List UInt8} {y : V (k + (n + 1))} (h : Qs x s (n + 1) v = some y) : ze (k + (n + 1)) y ≤ ze (n + 1) v + ze k x ∧ zw (k + (n + 1)) y ≤ zw (n + 1) v + zw k x + s.length := by
 have e : Qs x s (n + 1) v = if v.kind = 6 then some (⟨v.kind, v.num, v.s, v.l.map (zV k n), v.m.map (fun p => (p.1, zV k n p.2)) ++ [(zg s, upK x n)]⟩ : VS (V (k + n)))
  else if v.kind = 5 ∧ s = [45] then some (⟨v.kind, v.num, v.s, v.l.map (zV k n) ++ [upK x n], v.m.map (fun p => (p.1, zV k n p.2))⟩ : VS (V (k + n)))
  else none := rfl
 rw [e] at h
 have hl1 : (v.l.map (fun z => ze (k + n) (zV k n z))) = v.l.map (ze n) := List.map_congr_left fun z _ => ve n z
 have hm1 : (v.m.map (fun p => ze (k + n) (zV k n p.2))) = v.m.map (fun p => ze n p.2) := List.map_congr_left fun z _ => ve n z.2
 have hl2 : (v.l.map (fun z => zw (k + n) (zV k n z))) = v.l.map (zw n) := List.map_congr_left fun z _ => vA n z
 have hm2 : (v.m.map (fun p => zw (k + n) (zV k n p.2))) = v.m.map (fun p => zw n p.2) := List.map_congr_left fun z _ => vA n z.2
 have c0 : ze (n + 1) v = 1 + ((v.l.map (ze n)).sum + (v.m.map (fun p => ze n p.2)).sum) := by
  show 1 + ((v.l ++ v.m.map (fun p => p.2)).map (ze n)).sum = _
  rw [List.map_append, List.sum_append, List.map_map]; rfl
 have b0 : zw (n + 1) v = v.s.size + (v.m.map (fun p => p.1.size)).sum + ((v.l.map (zw n)).sum + (v.m.map (fun p => zw n p.2)).sum) := by
  show v.s.size + v.keyBytes + ((v.l ++ v.m.map (fun p => p.2)).map (zw n)).sum = _
  rw [List.map_append, List.sum_append, List.map_map]; rfl
 by_cases h6 : v.kind = 6
 ·rw [if_pos h6] at h
  obtain rfl := Option.some.inj h
  constructor
  ·show 1 + ((v.l.map (zV k n) ++ (v.m.map (fun p => (p.1, zV k n p.2)) ++ [(zg s, upK x n)]).map (fun p => p.2)).map (ze (k + n))).sum ≤ _
   simp only [List.map_append, List.sum_append, List.map_map, List.map_cons, List.map_nil, List.sum_cons, List.sum_nil, Function.comp_def, kQ, hl1, hm1]
   omega
  ·show v.s.size + ((v.m.map (fun p => (p.1, zV k n p.2)) ++ [(zg s, upK x n)]).map (fun p => p.1.size)).sum + ((v.l.map (zV k n) ++ (v.m.map (fun p => (p.1, zV k n p.2)) ++ [(zg s, upK x n)]).map (fun p => p.2)).map (zw (k + n))).sum ≤ _
   simp only [List.map_append, List.sum_append, List.map_map, List.map_cons, List.map_nil, List.sum_cons, List.sum_nil, Function.comp_def, kO, hl2, hm2, strB_sz]
   omega
 ·rw [if_neg h6] at h
  by_cases h5 : v.kind = 5 ∧ s = [45]
  ·rw [if_pos h5] at h
   obtain rfl := Option.some.inj h
   constructor
   ·show 1 + ((v.l.map (zV k n) ++ [upK x n] ++ (v.m.map (fun p => (p.1, zV k n p.2))).map (fun p => p.2)).map (ze (k + n))).sum ≤ _
    simp only [List.map_append, List.sum_append, List.map_map, List.map_cons, List.map_nil, List.sum_cons, List.sum_nil, Function.comp_def, kQ, hl1, hm1]
    omega
   ·show v.s.size + ((v.m.map (fun p => (p.1, zV k n p.2))).map (fun p => p.1.size)).sum + ((v.l.map (zV k n) ++ [upK x n] ++ (v.m.map (fun p => (p.1, zV k n p.2))).map (fun p => p.2)).map (zw (k + n))).sum ≤ _
    simp only [List.map_append, List.sum_append, List.map_map, List.map_cons, List.map_nil, List.sum_cons, List.sum_nil, Function.comp_def, kO, hl2, hm2]
    omega
  ·rw [if_neg h5] at h; cases h
theorem Kx {f : Nat → Nat} {l : List Nat} {i a b e : Nat} (h : l[i]? = some a) (hb : b ≤ a + e) : (l.set i b).sum ≤ l.sum + e := by
 have := set_sum (f := f) l i a b h
 omega
theorem size_set : ∀ (n : Nat) (v : V n) (L : List (List UInt8)) {x : V k} {y : V (k + n)}, yZ x n v L = some y → ze (k + n) y ≤ ze n v + ze k x ∧ zw (k + n) y ≤ zw n v + zw k x + (L.map List.length).sum
 | 0, v, _, _, _, _ => nomatch v
 | n + 1, v, [], x, y, h => by
  have e : upK x (n + 1) = y := Option.some.inj h
  subst e
  rw [kQ, kO]
  exact ⟨by omega, by omega⟩
 | n + 1, (v : VS (V n)), s :: r, x, y, h => by
  cases hp : zU v s with
  | none =>
   rw [bR hp] at h
   by_cases hr : r = []
   ·rw [if_pos hr] at h
    have := size_add h
    rw [List.map_cons, List.sum_cons]
    exact ⟨this.1, by omega⟩
   ·rw [if_neg hr] at h; cases h
  | some i =>
   obtain ⟨c, hk⟩ := bK hp
   rw [kY hp hk, Option.map_eq_some_iff] at h
   obtain ⟨z, hz, rfl⟩ := h
   obtain ⟨ih1, ih2⟩ := size_set n c r hz
   obtain ⟨j, hj, e1, e2, e3⟩ := kids_putAt (y := z) hp hk
   have hl1 : (v.kids.map (fun z => ze (k + n) (zV k n z))) = v.kids.map (ze n) := List.map_congr_left fun z _ => ve n z
   have hl2 : (v.kids.map (fun z => zw (k + n) (zV k n z))) = v.kids.map (zw n) := List.map_congr_left fun z _ => vA n z
   constructor
   ·show 1 + ((y7 i v z).kids.map (ze (k + n))).sum ≤ 1 + (v.kids.map (ze n)).sum + _
    rw [e1, List.map_set, List.map_map]
    have := Kx (f := id) (l := v.kids.map (ze n)) (i := j) (a := ze n c) (b := ze (k + n) z) (e := ze k x) (by rw [List.getElem?_map, hj]; rfl) ih1
    rw [← hl1] at this
    simp only [Function.comp_def]
    rw [hl1] at this ⊢
    omega
   ·show (y7 i v z).s.size + (y7 i v z).keyBytes + ((y7 i v z).kids.map (zw (k + n))).sum ≤ v.s.size + v.keyBytes + (v.kids.map (zw n)).sum + _ + _
    rw [e1, e2, e3, List.map_set, List.map_map]
    have := Kx (f := id) (l := v.kids.map (zw n)) (i := j) (a := zw n c) (b := zw (k + n) z) (e := zw k x + (r.map List.length).sum) (by rw [List.getElem?_map, hj]; rfl) (by omega)
    simp only [Function.comp_def]
    rw [hl2, List.map_cons, List.sum_cons]
    omega
end
theorem Rep.lift {k : Nat} : ∀ {n : Nat} {S : Nat → Prop} {w : World} {cs : List Value} {v : V n}, Rep n S w cs v → Rep (k + n) S w cs (zV k n v)
 | 0, _, _, _, _, h => h.elim
 | n + 1, S, w, cs, v, h => by
  obtain ⟨vl, vm, lcs, mcs, h⟩ := h
  exact ⟨vl, vm, lcs, mcs, {
   cells := h.cells
   slcl := by have := h.slcl; show Slc w 5 vl (v.l.map _).length _; rw [List.length_map]; exact this
   alll := h.alll.map_right fun _ _ r => Rep.lift r
   slcm := by have := h.slcm; show Slc w 6 vm (v.m.map _).length _; rw [List.length_map]; exact this
   allm := h.allm.map_right fun _ _ r => ⟨r.1, Rep.lift r.2⟩
   inl := h.inl
   inm := h.inm
   wfk := h.wfk
   wfn := h.wfn }⟩
theorem Rep.upK {k : Nat} {x : V k} {S : Nat → Prop} {w : World} {cs : List Value} (h : Rep k S w cs x) : ∀ n, Rep (k + n) S w cs (Go.Proofs.YtpbphdkjjoipnaaGreatDoor.upK x n)
 | 0 => h
 | n + 1 => Rep.up (Rep.upK h n)
def ZK {α : Type} (w : World) (g o : Nat) (v : VS α) (s : List UInt8) (g1 o1 : Nat) : Prop :=
 ∃ i ob len cap, zU v s = some i ∧ ((v.kind = 5 ∧ w.cell? ⟨g, o + 3, none⟩ = some (.slice (some ⟨g1, ob, none⟩) len cap) ∧ o1 = ob + i * 5) ∨ (v.kind = 6 ∧ w.cell? ⟨g, o + 4, none⟩ = some (.slice (some ⟨g1, ob, none⟩) len cap) ∧ o1 = ob + i * 6 + 1))
theorem ZK.kept0 {α : Type} {w w' : World} {g o : Nat} {v : VS α} {s : List UInt8} {g1 o1 : Nat} (h : ZK w g o v s g1 o1) (q : zb [] w w') : ZK w' g o v s g1 o1 := by
 obtain ⟨i, ob, len, cap, hp, h⟩ := h
 refine ⟨i, ob, len, cap, hp, ?_⟩
 rcases h with ⟨h1, h2, h3⟩ | ⟨h1, h2, h3⟩
 ·exact .inl ⟨h1, q.cell h2 (by simp), h3⟩
 ·exact .inr ⟨h1, q.cell h2 (by simp), h3⟩
def xw : (n : Nat) → World → Nat → Nat → V n → List (List UInt8) → Nat → Nat → Prop
 | 0, _, _, _, _, _, _, _ => False
 | _ + 1, _, g, o, _, [], g', o' => g' = g ∧ o' = o
 | n + 1, w, g, o, (v : VS (V n)), s :: r, g', o' => ∃ (x : V n) (g1 o1 : Nat), yX v s = some x ∧ ZK w g o v s g1 o1 ∧ xw n w g1 o1 x r g' o'
theorem xw.kept0 : ∀ {n : Nat} {w w' : World} {g o : Nat} {v : V n} {L : List (List UInt8)} {g' o' : Nat}, xw n w g o v L g' o' → zb [] w w' → xw n w' g o v L g' o'
 | 0, _, _, _, _, _, _, _, _, h, _ => h.elim
 | _ + 1, _, _, _, _, _, [], _, _, h, _ => h
 | n + 1, w, w', g, o, v, s :: r, g', o', h, q => by
  obtain ⟨x, g1, o1, h1, h2, h3⟩ := h
  exact ⟨x, g1, o1, h1, h2.kept0 q, xw.kept0 h3 q⟩
theorem xw.snoc : ∀ {n : Nat} {w : World} {g o : Nat} {v : V n} {L : List (List UInt8)} {g1 o1 : Nat} {m : Nat} {u : VS (V m)} {s : List UInt8} {x : V m} {g2 o2 : Nat}, xw n w g o v L g1 o1 → atV n v L = some ⟨m + 1, u⟩ → yX u s = some x → ZK w g1 o1 u s g2 o2 → xw n w g o v (L ++ [s]) g2 o2
 | 0, _, _, _, _, _, _, _, _, _, _, _, _, _, h, _, _, _ => h.elim
 | n + 1, w, g, o, v, [], g1, o1, m, u, s, x, g2, o2, h, ha, hk, hq => by
  have e := Option.some.inj (show some (⟨n + 1, v⟩ : Sigma V) = some ⟨m + 1, u⟩ from ha)
  obtain ⟨rfl, rfl⟩ := h
  cases e
  refine ⟨x, g2, o2, hk, hq, ?_⟩
  cases n with
  | zero => exact nomatch x
  | succ n => exact ⟨rfl, rfl⟩
 | n + 1, w, g, o, v, t :: r, g1, o1, m, u, s, x, g2, o2, h, ha, hk, hq => by
  obtain ⟨y, g3, o3, h1, h2, h3⟩ := h
  rw [xx h1] at ha
  exact ⟨y, g3, o3, h1, h2, xw.snoc h3 ha hk hq⟩
theorem at_app : ∀ (n : Nat) (v : V n) (L M : List (List UInt8)) {u : Sigma V}, atV n v L = some u → atV n v (L ++ M) = atV u.1 u.2 M
 | 0, v, _, _, _, _ => nomatch v
 | n + 1, v, [], M, u, h => by
  have e : u = ⟨n + 1, v⟩ := (Option.some.inj (show some (⟨n + 1, v⟩ : Sigma V) = some u from h)).symm
  subst e; rfl
 | n + 1, (v : VS (V n)), s :: r, M, u, h => by
  cases hk : yX v s with
  | none => rw [vE hk] at h; cases h
  | some x =>
   rw [xx hk] at h
   rw [List.cons_append, xx hk, at_app n x r M h]
theorem vB {α : Type} {f : α → α} : ∀ (l : List α) (i : Nat) (a b : α), l[i]? = some a → (b = f a) → l.modify i f = l.set i b
 | [], i, _, _, h, _ => by simp at h
 | c :: l, 0, a, b, h, e => by
  simp at h; subst h; subst e; simp
 | c :: l, i + 1, a, b, h, e => by
  simpa using vB l i a b (by simpa using h) e
theorem row_set {w w2 : World} {g sz : Nat} {ls : List (List Value)} {i : Nat} {c : List Value} (hsz : 0 < sz) (h : Row w g 0 ls.flatten) (hl : ∀ d, d ∈ ls → d.length = sz) (hi : i < ls.length) (hc : c.length = sz)
  (hun : ∀ p, ¬ (i * sz ≤ p ∧ p < i * sz + sz) → w2.cell? ⟨g, p, none⟩ = w.cell? ⟨g, p, none⟩) (hnew : ∀ t u, c[t]? = some u → w2.cell? ⟨g, i * sz + t, none⟩ = some u) (hlt : g < w2.heap.size) : Row w2 g 0 (ls.set i c).flatten := by
 refine ⟨fun j u hu => ?_, hlt⟩
 rw [Nat.zero_add]
 have hl' : ∀ d, d ∈ ls.set i c → d.length = sz := fun d hd => by
  rcases List.mem_or_eq_of_mem_set hd with h | h
  ·exact hl d h
  ·subst h; exact hc
 have hjl : j < (ls.set i c).flatten.length := (List.getElem?_eq_some_iff.1 hu).1
 rw [qD _ hl', List.length_set] at hjl
 have hq : j / sz < ls.length := (Nat.div_lt_iff_lt_mul hsz).2 hjl
 have hr := Nat.mod_lt j hsz
 have hj : j / sz * sz + j % sz = j := by rw [Nat.mul_comm]; exact Nat.div_add_mod j sz
 have e1 := yU (ls.set i c) (j / sz) (j % sz) hl' (by rw [List.length_set]; exact hq) hr
 rw [hj, hu] at e1
 by_cases hij : j / sz = i
 ·have e2 : (ls.set i c)[j / sz]'(by rw [List.length_set]; exact hq) = c := by subst hij; simp
  rw [e2] at e1
  rw [← hj, hij]
  exact hnew _ _ e1.symm
 ·have e2 : (ls.set i c)[j / sz]'(by rw [List.length_set]; exact hq) = ls[j / sz] := by rw [List.getElem_set_ne (fun h => hij h.symm)]
  rw [e2] at e1
  have e3 := yU ls (j / sz) (j % sz) hl hq hr
  rw [hj, ← e1] at e3
  rw [hun]
  ·have := h.cells j u e3
   rwa [Nat.zero_add] at this
  ·intro ⟨a, b⟩
   apply hij
   have h1 : j / sz ≤ i := by
    have : j / sz < i + 1 := (Nat.div_lt_iff_lt_mul hsz).2 (by rw [Nat.add_mul]; omega)
    omega
   have h2 : i ≤ j / sz := (Nat.le_div_iff_mul_le hsz).2 a
   omega
theorem yx {w : World} {base e sz n n' cap g o : Nat} {xs : List Value} (h : w.ownsRow base e sz (.slice (some ⟨g, o, none⟩) n cap) n' xs) : o = 0 ∧ Row w g 0 xs ∧ ∃ cur, w.heap[g]? = some (.cells cur e (0, 0)) := by
 have hs := Slc.of_row h
 rcases h.2 with ⟨e1, -⟩ | ⟨gg, cap', cur, hv, -, hh, -⟩
 ·cases e1
 ·simp only [Value.slice.injEq, Option.some.injEq, Addr.mk.injEq, and_true] at hv
  obtain ⟨⟨rfl, rfl⟩, rfl, rfl⟩ := hv
  refine ⟨rfl, ?_, cur, hh⟩
  rcases hs.2 with ⟨e1, -⟩ | ⟨e1, -⟩ | ⟨g2, o2, c2, e2, -, -, hr⟩
  ·cases e1
  ·have : xs = [] := List.eq_nil_of_length_eq_zero (by rw [hs.1, e1]; simp)
   subst this
   exact ⟨by simp, lt_of_block hh⟩
  ·simp only [Value.slice.injEq, Option.some.injEq, Addr.mk.injEq, and_true] at e2
   obtain ⟨⟨rfl, rfl⟩, -⟩ := e2
   exact hr
def Ky (w : World) (g' o' : Nat) (S' : Nat → Prop) (X : List Nat) (w2 : World) : Prop := zb X w w2 ∧ (∀ b, b ∈ X → S' b ∨ b = g') ∧ ∀ p, ¬ (o' ≤ p ∧ p < o' + 5) → w2.cell? ⟨g', p, none⟩ = w.cell? ⟨g', p, none⟩
def Focus (n : Nat) (S : Nat → Prop) (w : World) (g o : Nat) (v : V n) (L : List (List UInt8)) (g' o' m : Nat) (u : V m) : Prop :=
 ∃ (S' : Nat → Prop) (cs' : List Value), xb m S' w cs' u ∧ Row w g' o' cs' ∧ (∃ cur e, w.heap[g']? = some (.cells cur e (0, 0))) ∧ (∀ b, S' b → S b) ∧ ¬ S' g' ∧ ((g' = g ∧ o' = o) ∨ S g') ∧
  ∀ {k : Nat} (f : (m : Nat) → V m → Option (V (k + m))) (u2 : V (k + m)) {X : List Nat} {w2 : World} {cs2 : List Value} {T : Nat → Prop}, f m u = some u2 → Ky w g' o' S' X w2 → Row w2 g' o' cs2 → Rep (k + m) T w2 cs2 u2 → (∀ b, S b → T b) →
   ∃ y cs3, modV f n v L = some y ∧ Row w2 g o cs3 ∧ Rep (k + n) T w2 cs3 y
theorem unturned {w w2 : World} {g1 o1 g' o' : Nat} {S' Q : Nat → Prop} {X : List Nat} (ht : Ky w g' o' S' X w2) (hlt : g1 < w.heap.size) (hS : ∀ b, S' b → Q b) (hg : ¬ Q g1) (ha : (g' = g1 ∧ o' = o1) ∨ Q g') : ∀ p, ¬ (o1 ≤ p ∧ p < o1 + 5) → w2.cell? ⟨g1, p, none⟩ = w.cell? ⟨g1, p, none⟩ := by
 intro p hp
 rcases ha with ⟨rfl, rfl⟩ | hq
 ·exact ht.2.2 p hp
 ·refine World.cell?_of_block (ht.1.block g1 hlt ?_)
  intro hx
  rcases ht.2.1 g1 hx with h | h
  ·exact hg (hS _ h)
  ·subst h; exact hg hq
theorem focus : ∀ {n : Nat} {S : Nat → Prop} {w : World} {cs : List Value} {v : V n} {g o : Nat} {L : List (List UInt8)} {g' o' m : Nat} {u : V m}, xb n S w cs v → Row w g o cs → (∃ cur e, w.heap[g]? = some (.cells cur e (0, 0))) → ¬ S g → xw n w g o v L g' o' → atV n v L = some ⟨m, u⟩ → Focus n S w g o v L g' o' m u
 | 0, _, _, _, _, _, _, _, _, _, _, _, h, _, _, _, _, _ => h.elim
 | n + 1, S, w, cs, v, g, o, [], g', o', m, u, hown, hrow, hblk, hg, hp, ha => by
  have e := Option.some.inj (show some (⟨n + 1, v⟩ : Sigma V) = some ⟨m, u⟩ from ha)
  obtain ⟨rfl, rfl⟩ := hp
  cases e
  exact ⟨S, cs, hown, hrow, hblk, fun _ q => q, hg, .inl ⟨rfl, rfl⟩, fun f u2 _ _ cs2 _ hf _ hr hrep _ => ⟨u2, cs2, hf, hr, hrep⟩⟩
 | n + 1, S, w, cs, (v : VS (V n)), g, o, s :: r, g', o', m, u, hown, hrow, hblk, hg, hpath, ha => by
  obtain ⟨x, g1, o1, hk, ⟨i, ob, len, cap, hp, hloc⟩, hpt⟩ := hpath
  rw [xx hk] at ha
  obtain ⟨vl, vm, lcs, mcs, rfl, h2, h3, h4, h5, h6, h7, h8, h9, h10⟩ := hown
  have hkl : ∀ b, vl.ownBlock = some b → kind w b = 25 + 2 := fun b hb => yu h2 hb
  have hkm : ∀ b, vm.ownBlock = some b → kind w b = 60 + 2 := fun b hb => yu h3 hb
  have hlm : ∀ b, vl.ownBlock = some b → vm.ownBlock = some b → False := fun b hb hb2 => by
   have := (hkl b hb).symm.trans (hkm b hb2)
   exact absurd this (by decide)
  rcases hloc with ⟨k5, hc, rfl⟩ | ⟨k6, hc, rfl⟩
  ·have hvl := hrow.cells 3 vl rfl
   obtain rfl : vl = .slice (some ⟨g1, ob, none⟩) len cap := Option.some.inj (hvl.symm.trans hc)
   rcases xE hp with ⟨-, hi, e⟩ | ⟨k6, -⟩
   rotate_left
   ·omega
   obtain rfl : x = v.l[i] := Option.some.inj (hk.symm.trans e)
   obtain ⟨rfl, hr1, hb1⟩ := yx h2
   have hil : i < lcs.length := by omega
   obtain ⟨e1, e2⟩ := vI (mcs := mcs) h4 hi
   obtain ⟨Q, q1, q2, q3⟩ := h8.get i lcs[i] v.l[i] (e1.trans (List.getElem?_eq_getElem hil)) (e2.trans (List.getElem?_eq_getElem hi))
   have five : ∀ d, d ∈ lcs → d.length = 5 := by
    intro d hd
    obtain ⟨j, hj, rfl⟩ := List.getElem_of_mem hd
    have hj2 : j < v.l.length := by omega
    obtain ⟨a1, a2⟩ := vI (mcs := mcs) h4 hj2
    obtain ⟨Q', -, z⟩ := h8.one j lcs[j] v.l[j] (a1.trans (List.getElem?_eq_getElem hj)) (a2.trans (List.getElem?_eq_getElem hj2))
    exact (xb.rep z).len
   have hrowi : Row w g1 (0 + i * 5) lcs[i] := ⟨fun t z hz => by
    have ht : t < 5 := by have := (List.getElem?_eq_some_iff.1 hz).1; rw [five _ (List.getElem_mem hil)] at this; exact this
    have := hr1.cells (i * 5 + t) z (by rw [yU lcs i t five hil ht]; exact hz)
    rwa [← Nat.add_assoc] at this, hr1.lt⟩
   obtain ⟨cur1, hcur1⟩ := hb1
   have ng1 : ¬ Q g1 := fun hq => (q1 g1 hq).2.1 rfl
   obtain ⟨S', cs', f1, f2, f3, f4, f5, f6, f7⟩ := focus q2 hrowi ⟨cur1, _, hcur1⟩ ng1 hpt ha
   have sg' : S g' := by
    rcases f6 with ⟨e, -⟩ | h
    ·rw [e]; exact h6 g1 rfl
    ·exact (q1 _ h).1
   refine ⟨S', cs', f1, f2, f3, fun b hb => (q1 b (f4 b hb)).1, f5, .inr sg', ?_⟩
   intro k f u2 X w2 cs2 T hf ht hr2 hrep hST
   obtain ⟨y, c3, y1, y2, y3⟩ := f7 f u2 hf ht hr2 hrep (fun b hb => hST b (q1 b hb).1)
   have hun := unturned ht hr1.lt f4 ng1 f6
   have hgX : g ∉ X := fun hx => by
    rcases ht.2.1 g hx with h | h
    ·exact hg (q1 _ (f4 _ h)).1
    ·subst h; exact hg sg'
   have hbX : ∀ b, (vm.ownBlock = some b ∨ ∃ Q' : Nat → Prop, (∀ g, Q' g → ¬ Q g ∧ g ≠ g1) ∧ Q' b) → b ∉ X := fun b hb hx => by
    have hb' : ¬ Q b ∧ b ≠ g1 := by
     rcases hb with hb | ⟨Q', h1, h2⟩
     ·exact ⟨fun q => (q1 b q).2.2 hb, fun e => by subst e; exact hlm b rfl hb⟩
     ·exact h1 b h2
    rcases ht.2.1 b hx with h | h
    ·exact hb'.1 (f4 _ h)
    ·subst h
     rcases f6 with ⟨e, -⟩ | h
     ·exact hb'.2 e
     ·exact hb'.1 h
   refine ⟨ZP i v y, _, by rw [bk hp hk, y1]; rfl, hrow.kept ht.1 hgX, ?_⟩
   unfold ZP y7
   rw [if_pos k5]
   refine ⟨.slice (some ⟨g1, 0, none⟩) len cap, vm, lcs.set i c3, mcs, {
    cells := rfl
    slcl := ?_
    alll := ?_
    slcm := ?_
    allm := ?_
    inl := fun b hb => hST b (h6 b (zz hb))
    inm := fun b hb => hST b (h7 b (zz hb))
    wfk := h9
    wfn := h10 }⟩
   ·have hs := Slc.of_row h2
    refine ⟨?_, ?_⟩
    ·show (lcs.set i c3).flatten.length = ((v.l.map (zV k n)).set i y).length * 5
     rw [qD (size := 5) _ (fun d hd => by
      rcases List.mem_or_eq_of_mem_set hd with h | h
      ·exact five d h
      ·subst h; exact y3.len), List.length_set, List.length_set, List.length_map, h4]
    ·show _ ∨ _ ∨ _
     have hr3 : Row w2 g1 0 (lcs.set i c3).flatten := row_set (by decide) hr1 five hil y3.len (fun p hp => hun p (by rw [Nat.zero_add]; exact hp)) (fun t z hz => by
      have := y2.cells t z hz
      rwa [Nat.zero_add] at this) (Nat.lt_of_lt_of_le hr1.lt ht.1.size)
     rcases hs.2 with ⟨e1, -⟩ | ⟨e1, -⟩ | ⟨g2, o2, c2, e2, hc1, hc2, -⟩
     ·cases e1
     ·exfalso; omega
     ·simp only [Value.slice.injEq, Option.some.injEq, Addr.mk.injEq, and_true] at e2
      obtain ⟨⟨rfl, rfl⟩, rfl, rfl⟩ := e2
      refine .inr (.inr ⟨g1, 0, cap, ?_, by simpa using hc1, hc2, hr3⟩)
      simp
   ·refine ⟨by simp [h4], fun j d z hd hz => ?_⟩
    rw [List.getElem?_set] at hd hz
    by_cases hij : i = j
    ·rw [if_pos hij, if_pos (by subst hij; exact hil)] at hd
     rw [if_pos hij, if_pos (by subst hij; simpa using hi)] at hz
     obtain rfl := Option.some.inj hd
     obtain rfl := Option.some.inj hz
     exact y3
    ·rw [if_neg hij] at hd hz
     rw [List.getElem?_map, Option.map_eq_some_iff] at hz
     obtain ⟨z, hz, rfl⟩ := hz
     have hj : j < v.l.length := (List.getElem?_eq_some_iff.1 hz).1
     obtain ⟨a1, a2⟩ := vI (mcs := mcs) h4 hj
     obtain ⟨Q', r1, r2⟩ := q3 j d z (fun h => hij h.symm) (a1.trans hd) (a2.trans hz)
     exact (((xb.rep r2).kept ht.1 (fun b hb hq => hbX b (.inr ⟨Q', fun b hq => ⟨(r1 b hq).2, fun e => (r1 b hq).1.2.1 (by subst e; rfl)⟩, hq⟩) hb)).mono (fun b _ hq => hST b (r1 b hq).1.1)).lift
   ·have := (Slc.of_row h3).kept ht.1 (fun b hb => hbX b (.inl (zz hb)))
    show Slc w2 6 vm (v.m.map _).length _
    rw [List.length_map]; exact this
   ·refine ⟨by simp [jg h5], fun j d z hd hz => ?_⟩
    rw [List.getElem?_map, Option.map_eq_some_iff] at hz
    obtain ⟨z, hz, rfl⟩ := hz
    refine ⟨vi h5 hd hz, ?_⟩
    obtain ⟨a1, a2⟩ := vj (v := v) (mcs := mcs) h4 j
    obtain ⟨Q', r1, r2⟩ := q3 (v.l.length + j) d.2 z.2 (by omega) (a1.trans (by rw [hd]; rfl)) (a2.trans (by rw [hz]; rfl))
    exact (((xb.rep r2).kept ht.1 (fun b hb hq => hbX b (.inr ⟨Q', fun b hq => ⟨(r1 b hq).2, fun e => (r1 b hq).1.2.1 (by subst e; rfl)⟩, hq⟩) hb)).mono (fun b _ hq => hST b (r1 b hq).1.1)).lift
  ·have h5' : ¬ v.kind = 5 := by omega
   have hvm := hrow.cells 4 vm rfl
   obtain rfl : vm = .slice (some ⟨g1, ob, none⟩) len cap := Option.some.inj (hvm.symm.trans hc)
   rcases xE hp with ⟨k5, -⟩ | ⟨-, hi, e⟩
   ·omega
   obtain rfl : x = v.m[i].2 := Option.some.inj (hk.symm.trans e)
   obtain ⟨rfl, hr1, hb1⟩ := yx h3
   have hml := jg h5
   have hil : i < mcs.length := by omega
   obtain ⟨e1, e2⟩ := vj (v := v) (mcs := mcs) h4 i
   obtain ⟨Q, q1, q2, q3⟩ := h8.get (v.l.length + i) mcs[i].2 v.m[i].2 (e1.trans (by rw [List.getElem?_eq_getElem hil]; rfl)) (e2.trans (by rw [List.getElem?_eq_getElem hi]; rfl))
   have five : ∀ d, d ∈ mcs → d.2.length = 5 := by
    intro d hd
    obtain ⟨j, hj, rfl⟩ := List.getElem_of_mem hd
    have hj2 : j < v.m.length := by omega
    obtain ⟨a1, a2⟩ := vj (v := v) (mcs := mcs) h4 j
    obtain ⟨Q', -, z⟩ := h8.one (v.l.length + j) mcs[j].2 v.m[j].2 (a1.trans (by rw [List.getElem?_eq_getElem hj]; rfl)) (a2.trans (by rw [List.getElem?_eq_getElem hj2]; rfl))
    exact (xb.rep z).len
   have six : ∀ d, d ∈ mcs.map zM → d.length = 6 := by
    intro d hd
    obtain ⟨p, hp, rfl⟩ := List.mem_map.1 hd
    simp [zM, five p hp]
   rw [zP] at hr1
   have hilm : i < (mcs.map zM).length := by simpa using hil
   have hcell : ∀ t z, (zM mcs[i])[t]? = some z → w.cell? ⟨g1, i * 6 + t, none⟩ = some z := fun t z hz => by
    have ht : t < 6 := by
     have := (List.getElem?_eq_some_iff.1 hz).1
     rw [six _ (List.mem_map.2 ⟨mcs[i], List.getElem_mem hil, rfl⟩)] at this
     exact this
    have := hr1.cells (i * 6 + t) z (by rw [yU _ i t six hilm ht, List.getElem_map]; exact hz)
    rwa [Nat.zero_add] at this
   have hrowi : Row w g1 (0 + i * 6 + 1) mcs[i].2 := ⟨fun t z hz => by
    have := hcell (t + 1) z (by simpa [zM] using hz)
    rwa [show 0 + i * 6 + 1 + t = i * 6 + (t + 1) by omega], hr1.lt⟩
   obtain ⟨cur1, hcur1⟩ := hb1
   have ng1 : ¬ Q g1 := fun hq => (q1 g1 hq).2.2 rfl
   obtain ⟨S', cs', f1, f2, f3, f4, f5, f6, f7⟩ := focus q2 hrowi ⟨cur1, _, hcur1⟩ ng1 hpt ha
   have sg' : S g' := by
    rcases f6 with ⟨e, -⟩ | h
    ·rw [e]; exact h7 g1 rfl
    ·exact (q1 _ h).1
   refine ⟨S', cs', f1, f2, f3, fun b hb => (q1 b (f4 b hb)).1, f5, .inr sg', ?_⟩
   intro k f u2 X w2 cs2 T hf ht hr2 hrep hST
   obtain ⟨y, c3, y1, y2, y3⟩ := f7 f u2 hf ht hr2 hrep (fun b hb => hST b (q1 b hb).1)
   have hun := unturned ht hr1.lt f4 ng1 f6
   have hgX : g ∉ X := fun hx => by
    rcases ht.2.1 g hx with h | h
    ·exact hg (q1 _ (f4 _ h)).1
    ·subst h; exact hg sg'
   have hbX : ∀ b, (vl.ownBlock = some b ∨ ∃ Q' : Nat → Prop, (∀ g, Q' g → ¬ Q g ∧ g ≠ g1) ∧ Q' b) → b ∉ X := fun b hb hx => by
    have hb' : ¬ Q b ∧ b ≠ g1 := by
     rcases hb with hb | ⟨Q', h1, h2⟩
     ·exact ⟨fun q => (q1 b q).2.1 hb, fun e => by subst e; exact hlm b hb rfl⟩
     ·exact h1 b h2
    rcases ht.2.1 b hx with h | h
    ·exact hb'.1 (f4 _ h)
    ·subst h
     rcases f6 with ⟨e, -⟩ | h
     ·exact hb'.2 e
     ·exact hb'.1 h
   refine ⟨ZP i v y, _, by rw [bk hp hk, y1]; rfl, hrow.kept ht.1 hgX, ?_⟩
   unfold ZP y7
   rw [if_neg h5']
   have hset : zQ (mcs.set i (mcs[i].1, c3)) = ((mcs.map zM).set i (zM (mcs[i].1, c3))).flatten := by rw [zP, List.map_set]
   have hmod : (v.m.map (fun p => (p.1, zV k n p.2))).modify i (fun p => (p.1, y)) = (v.m.map (fun p => (p.1, zV k n p.2))).set i (v.m[i].1, y) := by
    exact vB _ i (v.m[i].1, zV k n v.m[i].2) _ (by rw [List.getElem?_map, List.getElem?_eq_getElem hi]; rfl) rfl
   rw [hmod]
   refine ⟨vl, .slice (some ⟨g1, 0, none⟩) len cap, lcs, mcs.set i (mcs[i].1, c3), {
    cells := rfl
    slcl := ?_
    alll := ?_
    slcm := ?_
    allm := ?_
    inl := fun b hb => hST b (h6 b (zz hb))
    inm := fun b hb => hST b (h7 b (zz hb))
    wfk := h9
    wfn := h10 }⟩
   ·have := (Slc.of_row h2).kept ht.1 (fun b hb => hbX b (.inl (zz hb)))
    show Slc w2 5 vl (v.l.map _).length _
    rw [List.length_map]; exact this
   ·refine ⟨by simp [h4], fun j d z hd hz => ?_⟩
    rw [List.getElem?_map, Option.map_eq_some_iff] at hz
    obtain ⟨z, hz, rfl⟩ := hz
    have hj : j < v.l.length := (List.getElem?_eq_some_iff.1 hz).1
    obtain ⟨a1, a2⟩ := vI (mcs := mcs) h4 hj
    obtain ⟨Q', r1, r2⟩ := q3 j d z (by omega) (a1.trans hd) (a2.trans hz)
    exact (((xb.rep r2).kept ht.1 (fun b hb hq => hbX b (.inr ⟨Q', fun b hq => ⟨(r1 b hq).2, fun e => (r1 b hq).1.2.2 (by subst e; rfl)⟩, hq⟩) hb)).mono (fun b _ hq => hST b (r1 b hq).1.1)).lift
   ·have hs := Slc.of_row h3
    have six' : ∀ d, d ∈ (mcs.map zM).set i (zM (mcs[i].1, c3)) → d.length = 6 := fun d hd => by
     rcases List.mem_or_eq_of_mem_set hd with h | h
     ·exact six d h
     ·subst h; simp [zM, y3.len]
    refine ⟨?_, ?_⟩
    ·show (zQ (mcs.set i (mcs[i].1, c3))).length = ((v.m.map (fun p => (p.1, zV k n p.2))).set i (v.m[i].1, y)).length * 6
     rw [hset, qD (size := 6) _ six', List.length_set, List.length_set, List.length_map, List.length_map, hml]
    ·show _ ∨ _ ∨ _
     have hr3 : Row w2 g1 0 (zQ (mcs.set i (mcs[i].1, c3))) := by
      rw [hset]
      refine row_set (by decide) hr1 six hilm (by simp [zM, y3.len]) (fun p hp => hun p (by omega)) (fun t z hz => ?_) (Nat.lt_of_lt_of_le hr1.lt ht.1.size)
      cases t with
      | zero =>
       rw [hun _ (by omega)]
       exact hcell 0 z hz
      | succ t =>
       have := y2.cells t z (by simpa [zM] using hz)
       rwa [show 0 + i * 6 + 1 + t = i * 6 + (t + 1) by omega] at this
     rcases hs.2 with ⟨e1, -⟩ | ⟨e1, -⟩ | ⟨g2, o2, c2, e2, hc1, hc2, -⟩
     ·cases e1
     ·exfalso; omega
     ·simp only [Value.slice.injEq, Option.some.injEq, Addr.mk.injEq, and_true] at e2
      obtain ⟨⟨rfl, rfl⟩, rfl, rfl⟩ := e2
      refine .inr (.inr ⟨g1, 0, cap, ?_, by simpa using hc1, hc2, hr3⟩)
      simp
   ·refine ⟨by simp [hml], fun j d z hd hz => ?_⟩
    rw [List.getElem?_set] at hd hz
    by_cases hij : i = j
    ·rw [if_pos hij, if_pos (by subst hij; exact hil)] at hd
     rw [if_pos hij, if_pos (by subst hij; simpa using hi)] at hz
     obtain rfl := Option.some.inj hd
     obtain rfl := Option.some.inj hz
     exact ⟨vi (p := mcs[i]) h5 (List.getElem?_eq_getElem hil) (List.getElem?_eq_getElem hi), y3⟩
    ·rw [if_neg hij] at hd hz
     rw [List.getElem?_map, Option.map_eq_some_iff] at hz
     obtain ⟨z, hz, rfl⟩ := hz
     refine ⟨vi h5 hd hz, ?_⟩
     obtain ⟨a1, a2⟩ := vj (v := v) (mcs := mcs) h4 j
     obtain ⟨Q', r1, r2⟩ := q3 (v.l.length + j) d.2 z.2 (by omega) (a1.trans (by rw [hd]; rfl)) (a2.trans (by rw [hz]; rfl))
     exact (((xb.rep r2).kept ht.1 (fun b hb hq => hbX b (.inr ⟨Q', fun b hq => ⟨(r1 b hq).2, fun e => (r1 b hq).1.2.2 (by subst e; rfl)⟩, hq⟩) hb)).mono (fun b _ hq => hST b (r1 b hq).1.1)).lift
end Go.Proofs.YtpbphdkjjoipnaaGreatDoor

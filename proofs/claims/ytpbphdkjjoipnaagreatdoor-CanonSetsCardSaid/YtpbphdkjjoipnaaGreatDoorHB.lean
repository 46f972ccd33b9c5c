/- Parts of one proof, merged: XVS XVP XVU XVW XVX XVY XVZ XVD XVC XVN XVM XVO XVI XVT XVA XVH XPX XVJ XVK XVB. -/
import Derived.Test.YtpbphdkjjoipnaaGreatDoorHA
import Derived.Lib.ValidU
import Derived.Lib.ItoaLen
import Derived.Lib.SpaceU
import Derived.Lib.DecodeN
import Derived.Lib.ValidLaws
import Derived.Lib.MapU
import Derived.Lib.SlTrimSet
import Derived.Lib.Bytealg
set_option linter.all false
set_option maxHeartbeats 12800000
set_option maxRecDepth 10000
set_option linter.unusedVariables false
set_option linter.unusedSimpArgs false
set_option linter.unnecessarySimpa false
namespace Go.Proofs.YtpbphdkjjoipnaaGreatDoor
def eqL {α : Type} (r : α → α → Bool) : List α → List α → Bool
 | [], [] => true
 | x :: xs, y :: ys => r x y && eqL r xs ys
 | _, _ => false
theorem eqL_iff {α : Type} {r : α → α → Bool} (h : ∀ x y, r x y = true ↔ x = y) : ∀ (xs ys : List α), eqL r xs ys = true ↔ xs = ys
 | [], [] => by simp [eqL]
 | [], y :: ys => by simp [eqL]
 | x :: xs, [] => by simp [eqL]
 | x :: xs, y :: ys => by simp [eqL, h x y, eqL_iff h xs ys]
def eqV : (n : Nat) → V n → V n → Bool
 | 0, _, _ => true
 | n + 1, (a : VS (V n)), (b : VS (V n)) => decide (a.kind = b.kind) && decide (a.num = b.num) && decide (a.s = b.s) && eqL (eqV n) a.l b.l && eqL (fun p q => decide (p.1 = q.1) && eqV n p.2 q.2) a.m b.m
theorem QA : ∀ (n : Nat) (a b : V n), eqV n a b = true ↔ a = b
 | 0, a, _ => nomatch a
 | n + 1, (a : VS (V n)), (b : VS (V n)) => by
  have ih := QA n
  have e : eqV (n + 1) a b = (decide (a.kind = b.kind) && decide (a.num = b.num) && decide (a.s = b.s) && eqL (eqV n) a.l b.l && eqL (fun p q => decide (p.1 = q.1) && eqV n p.2 q.2) a.m b.m) := rfl
  have hp : ∀ p q : ByteArray × V n, (decide (p.1 = q.1) && eqV n p.2 q.2) = true ↔ p = q := fun p q => by
   rw [Bool.and_eq_true, decide_eq_true_iff, ih p.2 q.2]
   exact ⟨fun h => Prod.ext h.1 h.2, fun h => by rw [h]; exact ⟨rfl, rfl⟩⟩
  rw [e]
  simp only [Bool.and_eq_true, decide_eq_true_iff, eqL_iff ih, eqL_iff hp]
  exact ⟨fun ⟨⟨⟨⟨h1, h2⟩, h3⟩, h4⟩, h5⟩ => VS.ext' h1 h2 h3 h4 h5, fun h => by rw [h]; exact ⟨⟨⟨⟨rfl, rfl⟩, rfl⟩, rfl⟩, rfl⟩⟩
def zX (s : ByteArray) : Bool := Lib.validD s.data.toList
def jK (s : ByteArray) : Bool := decide (s = ⟨#[]⟩)
def yE {α : Type} (m : List (ByteArray × α)) : Bool := m.all (fun p => zX p.1) && decide ((m.map (fun p => p.1)).Nodup)
def zE {α : Type} (v : VS α) : Bool :=
 if v.kind = 1 then decide (v.num = 0) && jK v.s && v.l.isEmpty && v.m.isEmpty
 else if v.kind = 2 then decide (v.num = 0 ∨ v.num = 1) && jK v.s && v.l.isEmpty && v.m.isEmpty
 else if v.kind = 3 then decide (-9007199254740991 ≤ v.num ∧ v.num ≤ 9007199254740991) && jK v.s && v.l.isEmpty && v.m.isEmpty
 else if v.kind = 4 then zX v.s && decide (v.num = 0) && v.l.isEmpty && v.m.isEmpty
 else if v.kind = 5 then decide (v.num = 0) && jK v.s && v.m.isEmpty
 else if v.kind = 6 then yE v.m && decide (v.num = 0) && jK v.s && v.l.isEmpty
 else false
def zj : (n : Nat) → V n → Bool
 | 0, _ => true
 | n + 1, (v : VS (V n)) => zE v && v.kids.all (zj n)
def zi (n : Nat) (v : V n) : Int := if 12 < zG n v then 41 else if 4096 < ze n v then 42 else if zj n v then 0 else 40
theorem qu {n : Nat} {v : V n} : zi n v = 0 ↔ zG n v ≤ 12 ∧ ze n v ≤ 4096 ∧ zj n v = true := by
 unfold zi
 split
 ·constructor
  ·intro h; cases h
  ·intro h; omega
 ·split
  ·constructor
   ·intro h; cases h
   ·intro h; omega
  ·split
   ·rename_i h1 h2 h3; exact ⟨fun _ => ⟨by omega, by omega, h3⟩, fun _ => rfl⟩
   ·rename_i h1 h2 h3; exact ⟨(fun h => by cases h), (fun h => absurd h.2.2 h3)⟩
theorem qZ {n : Nat} {v : VS (V n)} (h : zj (n + 1) v = true) {x : V n} (hx : x ∈ v.kids) : zj n x = true := by
 have e : zj (n + 1) v = (zE v && v.kids.all (zj n)) := rfl
 rw [e, Bool.and_eq_true] at h
 exact List.all_eq_true.1 h.2 x hx
theorem kL {n : Nat} {v : VS (V n)} (h : zj (n + 1) v = true) : zE v = true := by
 have e : zj (n + 1) v = (zE v && v.kids.all (zj n)) := rfl
 rw [e, Bool.and_eq_true] at h
 exact h.1
theorem kR {α : Type} {v : VS α} (h : zE v = true) :
  (v.kind = 1 ∧ v.num = 0 ∧ v.s = ⟨#[]⟩ ∧ v.l = [] ∧ v.m = []) ∨ (v.kind = 2 ∧ (v.num = 0 ∨ v.num = 1) ∧ v.s = ⟨#[]⟩ ∧ v.l = [] ∧ v.m = []) ∨
  (v.kind = 3 ∧ (-9007199254740991 ≤ v.num ∧ v.num ≤ 9007199254740991) ∧ v.s = ⟨#[]⟩ ∧ v.l = [] ∧ v.m = []) ∨ (v.kind = 4 ∧ v.num = 0 ∧ zX v.s = true ∧ v.l = [] ∧ v.m = []) ∨
  (v.kind = 5 ∧ v.num = 0 ∧ v.s = ⟨#[]⟩ ∧ v.m = []) ∨ (v.kind = 6 ∧ v.num = 0 ∧ v.s = ⟨#[]⟩ ∧ v.l = [] ∧ yE v.m = true) := by
 unfold zE jK at h
 split at h
 ·rename_i e; simp only [Bool.and_eq_true, decide_eq_true_iff, List.isEmpty_iff] at h; exact .inl ⟨e, h.1.1.1, h.1.1.2, h.1.2, h.2⟩
 split at h
 ·rename_i e; simp only [Bool.and_eq_true, decide_eq_true_iff, List.isEmpty_iff] at h; exact .inr (.inl ⟨e, h.1.1.1, h.1.1.2, h.1.2, h.2⟩)
 split at h
 ·rename_i e; simp only [Bool.and_eq_true, decide_eq_true_iff, List.isEmpty_iff] at h; exact .inr (.inr (.inl ⟨e, h.1.1.1, h.1.1.2, h.1.2, h.2⟩))
 split at h
 ·rename_i e; simp only [Bool.and_eq_true, decide_eq_true_iff, List.isEmpty_iff] at h; exact .inr (.inr (.inr (.inl ⟨e, h.1.1.2, h.1.1.1, h.1.2, h.2⟩)))
 split at h
 ·rename_i e; simp only [Bool.and_eq_true, decide_eq_true_iff, List.isEmpty_iff] at h; exact .inr (.inr (.inr (.inr (.inl ⟨e, h.1.1, h.1.2, h.2⟩))))
 split at h
 ·rename_i e; simp only [Bool.and_eq_true, decide_eq_true_iff, List.isEmpty_iff] at h; exact .inr (.inr (.inr (.inr (.inr ⟨e, h.1.1.2, h.1.2, h.2, h.1.1.1⟩))))
 ·cases h
def leK {α : Type} (a b : ByteArray × α) : Bool := decide (a.1.data.toList ≤ b.1.data.toList)
def zH : (n : Nat) → V n → V n
 | 0, v => v
 | n + 1, (v : VS (V n)) => (⟨v.kind, v.num, v.s, v.l.map (zH n), (v.m.map (fun p => (p.1, zH n p.2))).mergeSort leK⟩ : VS (V n))
theorem YO {α : Type} (a b c : ByteArray × α) (h1 : leK a b = true) (h2 : leK b c = true) : leK a c = true := by
 simp only [leK, decide_eq_true_eq] at *
 exact List.le_trans h1 h2
theorem Y0 {α : Type} (a b : ByteArray × α) : (leK a b || leK b a) = true := by
 simp only [leK, Bool.or_eq_true, decide_eq_true_eq]
 exact List.le_total _ _
theorem qR {x y : ByteArray} (h : x.data.toList = y.data.toList) : x = y := by
 cases x; cases y
 simp only [ByteArray.mk.injEq] at *
 exact Array.toList_inj.1 h
theorem Ze {α : Type} {a b : List (ByteArray × α)} (hp : a.Perm b) (ha : a.Pairwise (fun x y => leK x y = true)) (hb : b.Pairwise (fun x y => leK x y = true)) (hn : (a.map (fun p => p.1)).Nodup) : a = b := by
 refine List.Perm.eq_of_pairwise (le := fun x y => leK x y = true) (fun x y hx hy h1 h2 => ?_) ha hb hp
 simp only [leK, decide_eq_true_eq] at h1 h2
 have e : x.1 = y.1 := qR (List.le_antisymm h1 h2)
 have hy' : y ∈ a := hp.mem_iff.2 hy
 obtain ⟨i, hi, rfl⟩ := List.getElem_of_mem hx
 obtain ⟨j, hj, rfl⟩ := List.getElem_of_mem hy'
 have hij : i = j := by
  rcases Nat.lt_trichotomy i j with h | h | h
  ·exact absurd e (by
    have := (List.pairwise_iff_getElem.1 hn) i j (by simpa using hi) (by simpa using hj) h
    simpa using this)
  ·exact h
  ·exact absurd e.symm (by
    have := (List.pairwise_iff_getElem.1 hn) j i (by simpa using hj) (by simpa using hi) h
    simpa using this)
 subst hij; rfl
def vU (n : Nat) : UInt8 := UInt8.ofNat (if n < 10 then 48 + n else 87 + n)
def yk (c : UInt8) : List UInt8 := if c.toNat < 32 then [92, 117, 48, 48, vU (c.toNat / 16), vU (c.toNat % 16)] else if c = 34 ∨ c = 92 then [92, c] else [c]
def yr (s : List UInt8) : List UInt8 := 34 :: (s.flatMap yk ++ [34])
def zW : List (List UInt8) → List UInt8
 | [] => []
 | [x] => x
 | x :: y :: l => x ++ (44 :: zW (y :: l))
def zo : (n : Nat) → V n → List UInt8
 | 0, _ => []
 | n + 1, (v : VS (V n)) =>
  if v.kind = 1 then [110, 117, 108, 108]
  else if v.kind = 2 then (if v.num = 1 then [116, 114, 117, 101] else [102, 97, 108, 115, 101])
  else if v.kind = 3 then Lib.itoa v.num
  else if v.kind = 4 then yr v.s.data.toList
  else if v.kind = 5 then 91 :: (zW (v.l.map (zo n)) ++ [93])
  else 123 :: (zW (v.m.map (fun p => yr p.1.data.toList ++ (58 :: zo n p.2))) ++ [125])
def vf (n : Nat) (v : V n) : List UInt8 × Int :=
 if zi n v ≠ 0 then ([], zi n v) else if 262144 < (zo n (zH n v)).length then ([], 3) else (zo n (zH n v), 0)
def zg (l : List UInt8) : ByteArray := ⟨l.toArray⟩
theorem zq (l : List UInt8) : (zg l).data.toList = l := by simp [zg]
theorem bV (s : ByteArray) : zg s.data.toList = s := by cases s; simp [zg]
theorem strB_inj {a b : List UInt8} (h : zg a = zg b) : a = b := by rw [← zq a, h, zq]
def vD (c : UInt8) : Bool := c == 32 || c == 9 || c == 10 || c == 13
def zp (s : List UInt8) : List UInt8 := s.dropWhile vD
def yH (c : UInt8) : Bool := decide (48 ≤ c.toNat) && decide (c.toNat ≤ 57)
def kE (c : UInt8) : Option Nat :=
 if 48 ≤ c.toNat ∧ c.toNat ≤ 57 then some (c.toNat - 48) else if 97 ≤ c.toNat ∧ c.toNat ≤ 102 then some (c.toNat - 87) else if 65 ≤ c.toNat ∧ c.toNat ≤ 70 then some (c.toNat - 55) else none
def JH (a b c d : UInt8) : Option Nat :=
 match kE a, kE b, kE c, kE d with
 | some x, some y, some z, some t => some (((x * 16 + y) * 16 + z) * 16 + t)
 | _, _, _, _ => none
def qv : List UInt8 → Option Nat
 | x :: y :: a :: b :: c :: d :: _ => if x = 92 ∧ y = 117 then JH a b c d else none
 | _ => none
def utfB (r : Int) : List UInt8 := (Utf8.encode r).data.toList
def yh (r : Nat) : List UInt8 := utfB r
def ja (s : List UInt8) : Option (List UInt8 × Nat) :=
 match s with
 | _ :: y :: _ =>
  if y = 34 then some ([34], 2) else if y = 92 then some ([92], 2) else if y = 47 then some ([47], 2) else if y = 98 then some ([8], 2) else if y = 102 then some ([12], 2)
  else if y = 110 then some ([10], 2) else if y = 114 then some ([13], 2) else if y = 116 then some ([9], 2)
  else match qv s with
   | none => none
   | some x =>
    if x < 55296 ∨ 57343 < x then some (yh x, 6)
    else if 56319 < x then none
    else match qv (s.drop 6) with
     | none => none
     | some z => if 56320 ≤ z ∧ z ≤ 57343 then some (yh (65536 + (x - 55296) * 1024 + (z - 56320)), 12) else none
 | _ => none
def yV : Nat → List UInt8 → List UInt8 → Sum Int (List UInt8 × List UInt8)
 | 0, _, _ => .inl 31
 | f + 1, s, acc =>
  match s with
  | [] => .inl 31
  | c :: r =>
   if c = 34 then .inr (acc, r)
   else if c.toNat < 32 then .inl 31
   else if c = 92 then
    match ja s with
    | none => .inl 31
    | some (b, n) => yV f (s.drop n) (acc ++ b)
   else if (Lib.decodeL s).1 = 65533 ∧ (Lib.decodeL s).2 = 1 then .inl 30
   else yV f (s.drop (Lib.decodeL s).2) (acc ++ s.take (Lib.decodeL s).2)
def qd (s : List UInt8) : Sum Int (List UInt8 × List UInt8) :=
 match s with
 | [] => .inl 31
 | c :: r => if c = 34 then yV (r.length + 1) r [] else .inl 31
def zI (s : List UInt8) : Nat := s.foldl (fun a c => 10 * a + (c.toNat - 48)) 0
def ky (s : List UInt8) (l : List UInt8) : Bool := match s with | [] => false | c :: _ => l.contains c
def qH (minus : Bool) (s : List UInt8) : Sum Int (Int × List UInt8) :=
 let ds := s.takeWhile yH
 if ds = [] ∨ (ds.head? = some 48 ∧ (minus = true ∨ 1 < ds.length)) then .inl 50
 else if ky (s.drop ds.length) [46, 101, 69] then .inl 51
 else if 9007199254740991 < zI ds then .inl 52
 else .inr (if minus then -(zI ds : Int) else zI ds, s.drop ds.length)
def qM (s : List UInt8) : Sum Int (Int × List UInt8) := if s.head? = some 45 then qH true s.tail else qH false s
def jO : List UInt8 := [110, 117, 108, 108]
def jR : List UInt8 := [116, 114, 117, 101]
def qS : List UInt8 := [102, 97, 108, 115, 101]
def yO (s : List UInt8) : Bool := jO.isPrefixOf s || jR.isPrefixOf s || qS.isPrefixOf s || ky s [34, 91, 123, 45, 48, 49, 50, 51, 52, 53, 54, 55, 56, 57]
def kt {α : Type} (k n : Int) (s : ByteArray) : VS α := ⟨k, n, s, [], []⟩
section
variable {α : Type} (sub : List UInt8 → Nat → Sum Int (α × List UInt8 × Nat))
def vQ : Nat → List UInt8 → Nat → List α → Sum Int (List α × List UInt8 × Nat)
 | 0, _, _, _ => .inl 50
 | f + 1, s, c, acc =>
  match sub s c with
  | .inl e => .inl e
  | .inr (v, r, c') => if r.head? = some 93 then .inr (acc ++ [v], r.tail, c') else if r.head? = some 44 then vQ f r.tail c' (acc ++ [v]) else .inl 50
def kT : Nat → List UInt8 → Nat → List (ByteArray × α) → Sum Int (List (ByteArray × α) × List UInt8 × Nat)
 | 0, _, _, _ => .inl 50
 | f + 1, s, c, acc =>
  match qd (zp s) with
  | .inl e => .inl e
  | .inr (k, r) =>
   if acc.any (fun p => decide (p.1 = zg k)) then .inl 53
   else if (zp r).head? = some 58 then
    match sub (zp r).tail c with
    | .inl e => .inl e
    | .inr (v, r, c') => if r.head? = some 125 then .inr (acc ++ [(zg k, v)], r.tail, c') else if r.head? = some 44 then kT f r.tail c' (acc ++ [(zg k, v)]) else .inl 50
   else .inl 50
def yG (s : List UInt8) (c : Nat) : Sum Int (VS α × List UInt8 × Nat) :=
 if jO.isPrefixOf s then .inr (kt 1 0 ⟨#[]⟩, s.drop 4, c)
 else if jR.isPrefixOf s then .inr (kt 2 1 ⟨#[]⟩, s.drop 4, c)
 else if qS.isPrefixOf s then .inr (kt 2 0 ⟨#[]⟩, s.drop 5, c)
 else if s.head? = some 34 then (match qd s with | .inl e => .inl e | .inr (t, r) => .inr (kt 4 0 (zg t), r, c))
 else if s.head? = some 91 then
  (if (zp s.tail).head? = some 93 then .inr (kt 5 0 ⟨#[]⟩, (zp s.tail).tail, c)
  else match vQ sub (s.length + 1) (zp s.tail) c [] with | .inl e => .inl e | .inr (l, r, c') => .inr (⟨5, 0, ⟨#[]⟩, l, []⟩, r, c'))
 else if s.head? = some 123 then
  (if (zp s.tail).head? = some 125 then .inr (kt 6 0 ⟨#[]⟩, (zp s.tail).tail, c)
  else match kT sub (s.length + 1) (zp s.tail) c [] with | .inl e => .inl e | .inr (m, r, c') => .inr (⟨6, 0, ⟨#[]⟩, [], m⟩, r, c'))
 else match qM s with | .inl e => .inl e | .inr (n, r) => .inr (kt 3 n ⟨#[]⟩, r, c)
end
def zr : (d : Nat) → List UInt8 → Nat → Sum Int (V d × List UInt8 × Nat)
 | 0, s, c => .inl (if yO (zp s) = false then 50 else if 4096 < c + 1 then 42 else 41)
 | d + 1, s, c =>
  if yO (zp s) = false then .inl 50 else if 4096 < c + 1 then .inl 42
  else match yG (zr d) (zp s) (c + 1) with | .inl e => .inl e | .inr (v, r, c') => .inr (v, zp r, c')
def yM (b : List UInt8) : Sum Int (V 12) :=
 if 262144 < b.length then .inl 3
 else match zr 12 b 0 with | .inl e => .inl e | .inr (v, r, _) => if r = [] then .inr v else .inl 50
open Go.Lib (decodeN decodeL)
def gb (l : List UInt8) (i : Nat) : Nat := (l.getD i 0).toNat
theorem get_getD (l : List UInt8) (i : Nat) : ((⟨l.toArray⟩ : ByteArray).get! i) = l.getD i 0 := by
 show l.toArray[i]! = _
 rw [List.getD_eq_getElem?_getD, getElem!_def]
 simp only [List.getElem?_toArray]
 cases l[i]? <;> rfl
theorem xy (l : List UInt8) : decodeL l = decodeN l.length (gb l 0) (gb l 1) (gb l 2) (gb l 3) := by
 unfold decodeL
 rw [Lib.decode_at]
 have hs : (⟨l.toArray⟩ : ByteArray).size = l.length := by simp [ByteArray.size]
 simp only [hs, Nat.sub_zero, Nat.zero_add, get_getD, gb]
theorem gb_app (l x : List UInt8) (i : Nat) (h : i < l.length) : gb (l ++ x) i = gb l i := by
 unfold gb
 rw [List.getD_eq_getElem?_getD, List.getD_eq_getElem?_getD, List.getElem?_append_left h]
theorem vS (l : List UInt8) (i : Nat) : gb l i < 256 := (l.getD i 0).toNat_lt
theorem Kh {n b0 b1 b2 b3 : Nat} (hn : 1 ≤ n) (h1 : b1 < 256) (h2 : b2 < 256) (h3 : b3 < 256) (h0 : b0 < 256) (h : ¬((decodeN n b0 b1 b2 b3).1 = 65533 ∧ (decodeN n b0 b1 b2 b3).2 = 1)) :
  (b0 < 128 ∧ decodeN n b0 b1 b2 b3 = (b0, 1)) ∨
  (128 ≤ b0 ∧ b0 / 32 = 6 ∧ 2 ≤ n ∧ b1 / 64 = 2 ∧ 128 ≤ b0 % 32 * 64 + b1 % 64 ∧ decodeN n b0 b1 b2 b3 = (b0 % 32 * 64 + b1 % 64, 2)) ∨
  (128 ≤ b0 ∧ b0 / 16 = 14 ∧ 3 ≤ n ∧ b1 / 64 = 2 ∧ b2 / 64 = 2 ∧ 2048 ≤ b0 % 16 * 4096 + b1 % 64 * 64 + b2 % 64 ∧ (b0 % 16 * 4096 + b1 % 64 * 64 + b2 % 64 < 55296 ∨ 57344 ≤ b0 % 16 * 4096 + b1 % 64 * 64 + b2 % 64) ∧ decodeN n b0 b1 b2 b3 = (b0 % 16 * 4096 + b1 % 64 * 64 + b2 % 64, 3)) ∨
  (128 ≤ b0 ∧ b0 / 8 = 30 ∧ 4 ≤ n ∧ b1 / 64 = 2 ∧ b2 / 64 = 2 ∧ b3 / 64 = 2 ∧ 65536 ≤ b0 % 8 * 262144 + b1 % 64 * 4096 + b2 % 64 * 64 + b3 % 64 ∧ b0 % 8 * 262144 + b1 % 64 * 4096 + b2 % 64 * 64 + b3 % 64 ≤ 1114111 ∧ decodeN n b0 b1 b2 b3 = (b0 % 8 * 262144 + b1 % 64 * 4096 + b2 % 64 * 64 + b3 % 64, 4)) := by
 unfold decodeN at h ⊢
 by_cases c0 : b0 < 128
 ·rw [if_pos c0]; exact .inl ⟨c0, rfl⟩
 rw [if_neg c0] at h ⊢
 by_cases c1 : b0 / 32 = 6 ∧ (1 < n ∧ b1 / 64 = 2)
 ·rw [if_pos c1] at h ⊢
  by_cases d : b0 % 32 * 64 + b1 % 64 ≥ 128
  ·rw [if_pos d]; exact .inr (.inl ⟨by omega, c1.1, by omega, c1.2.2, d, rfl⟩)
  ·rw [if_neg d] at h; exact absurd ⟨rfl, rfl⟩ h
 rw [if_neg c1] at h ⊢
 by_cases c2 : b0 / 16 = 14 ∧ (1 < n ∧ b1 / 64 = 2) ∧ (2 < n ∧ b2 / 64 = 2)
 ·rw [if_pos c2] at h ⊢
  split at h
  ·rename_i d; rw [if_pos d]; exact .inr (.inr (.inl ⟨by omega, c2.1, by omega, c2.2.1.2, c2.2.2.2, d.1, by omega, rfl⟩))
  ·exact absurd ⟨rfl, rfl⟩ h
 rw [if_neg c2] at h ⊢
 by_cases c3 : b0 / 8 = 30 ∧ (1 < n ∧ b1 / 64 = 2) ∧ (2 < n ∧ b2 / 64 = 2) ∧ (3 < n ∧ b3 / 64 = 2)
 ·rw [if_pos c3] at h ⊢
  split at h
  ·rename_i d; rw [if_pos d]; exact .inr (.inr (.inr ⟨by omega, c3.1, by omega, c3.2.1.2, c3.2.2.1.2, c3.2.2.2.2, d.1, by omega, rfl⟩))
  ·exact absurd ⟨rfl, rfl⟩ h
 rw [if_neg c3] at h
 exact absurd ⟨rfl, rfl⟩ h
theorem decodeN_more {n m b0 b1 b2 b3 c1 c2 c3 : Nat} (hn : 1 ≤ n) (hm : (decodeN n b0 b1 b2 b3).2 ≤ m) (h1 : b1 < 256) (h2 : b2 < 256) (h3 : b3 < 256) (h0 : b0 < 256) (h : ¬((decodeN n b0 b1 b2 b3).1 = 65533 ∧ (decodeN n b0 b1 b2 b3).2 = 1))
  (e1 : 1 < (decodeN n b0 b1 b2 b3).2 → c1 = b1) (e2 : 2 < (decodeN n b0 b1 b2 b3).2 → c2 = b2) (e3 : 3 < (decodeN n b0 b1 b2 b3).2 → c3 = b3) : decodeN m b0 c1 c2 c3 = decodeN n b0 b1 b2 b3 := by
 rcases Kh hn h1 h2 h3 h0 h with ⟨q0, e⟩ | ⟨q0, q1, q2, q3, q4, e⟩ | ⟨q0, q1, q2, q3, q4, q5, q6, e⟩ | ⟨q0, q1, q2, q3, q4, q5, q6, q7, e⟩
 all_goals
  rw [e] at hm e1 e2 e3
  simp only at hm e1 e2 e3
 ·rw [e]; unfold decodeN; rw [if_pos q0]
 ·rw [e, e1 (by omega)]
  unfold decodeN
  rw [if_neg (by omega), if_pos ⟨q1, by omega, q3⟩, if_pos q4]
 ·rw [e, e1 (by omega), e2 (by omega)]
  unfold decodeN
  rw [if_neg (by omega), if_neg (by omega), if_pos ⟨q1, ⟨by omega, q3⟩, by omega, q4⟩, if_pos ⟨q5, by omega⟩]
 ·rw [e, e1 (by omega), e2 (by omega), e3 (by omega)]
  unfold decodeN
  rw [if_neg (by omega), if_neg (by omega), if_neg (by omega), if_pos ⟨q1, ⟨by omega, q3⟩, ⟨by omega, q4⟩, by omega, q5⟩, if_pos ⟨q6, by omega⟩]
theorem take_two {l : List UInt8} (h : 2 ≤ l.length) : l.take 2 = [l.getD 0 0, l.getD 1 0] := by
 match l, h with
 | a :: b :: t, _ => rfl
theorem Kj {l : List UInt8} (h : 3 ≤ l.length) : l.take 3 = [l.getD 0 0, l.getD 1 0, l.getD 2 0] := by
 match l, h with
 | a :: b :: c :: t, _ => rfl
theorem J2 {l : List UInt8} (h : 4 ≤ l.length) : l.take 4 = [l.getD 0 0, l.getD 1 0, l.getD 2 0, l.getD 3 0] := by
 match l, h with
 | a :: b :: c :: d :: t, _ => rfl
theorem enc_aux (c : Nat) : (if c < 128 then (⟨#[UInt8.ofNat c]⟩ : ByteArray) else if c < 2048 then ⟨#[UInt8.ofNat (192 + c / 64), UInt8.ofNat (128 + c % 64)]⟩
  else if c < 65536 then ⟨#[UInt8.ofNat (224 + c / 4096), UInt8.ofNat (128 + c / 64 % 64), UInt8.ofNat (128 + c % 64)]⟩
  else ⟨#[UInt8.ofNat (240 + c / 262144), UInt8.ofNat (128 + c / 4096 % 64), UInt8.ofNat (128 + c / 64 % 64), UInt8.ofNat (128 + c % 64)]⟩).data.toList =
  if c < 128 then [UInt8.ofNat c] else if c < 2048 then [UInt8.ofNat (192 + c / 64), UInt8.ofNat (128 + c % 64)]
  else if c < 65536 then [UInt8.ofNat (224 + c / 4096), UInt8.ofNat (128 + c / 64 % 64), UInt8.ofNat (128 + c % 64)]
  else [UInt8.ofNat (240 + c / 262144), UInt8.ofNat (128 + c / 4096 % 64), UInt8.ofNat (128 + c / 64 % 64), UInt8.ofNat (128 + c % 64)] := by
 by_cases c1 : c < 128
 ·rw [if_pos c1, if_pos c1]
 rw [if_neg c1, if_neg c1]
 by_cases c2 : c < 2048
 ·rw [if_pos c2, if_pos c2]
 rw [if_neg c2, if_neg c2]
 by_cases c3 : c < 65536
 ·rw [if_pos c3, if_pos c3]
 rw [if_neg c3, if_neg c3]
theorem valid_of (c : Nat) (h : c < 55296 ∨ (57344 ≤ c ∧ c ≤ 1114111)) : Utf8.valid (c : Int) = true := by
 unfold Utf8.valid
 rw [Bool.or_eq_true, Bool.and_eq_true, Bool.and_eq_true]
 simp only [decide_eq_true_eq]
 omega
theorem enc_of (r : Int) (h : Utf8.valid r = true) : utfB r = if r.toNat < 128 then [UInt8.ofNat r.toNat] else if r.toNat < 2048 then [UInt8.ofNat (192 + r.toNat / 64), UInt8.ofNat (128 + r.toNat % 64)]
  else if r.toNat < 65536 then [UInt8.ofNat (224 + r.toNat / 4096), UInt8.ofNat (128 + r.toNat / 64 % 64), UInt8.ofNat (128 + r.toNat % 64)]
  else [UInt8.ofNat (240 + r.toNat / 262144), UInt8.ofNat (128 + r.toNat / 4096 % 64), UInt8.ofNat (128 + r.toNat / 64 % 64), UInt8.ofNat (128 + r.toNat % 64)] := by
 unfold utfB Utf8.encode
 rw [if_pos h]
 exact enc_aux _
theorem xI (c : Nat) (h : c < 55296 ∨ (57344 ≤ c ∧ c ≤ 1114111)) : yh c =
  if c < 128 then [UInt8.ofNat c] else if c < 2048 then [UInt8.ofNat (192 + c / 64), UInt8.ofNat (128 + c % 64)]
  else if c < 65536 then [UInt8.ofNat (224 + c / 4096), UInt8.ofNat (128 + c / 64 % 64), UInt8.ofNat (128 + c % 64)]
  else [UInt8.ofNat (240 + c / 262144), UInt8.ofNat (128 + c / 4096 % 64), UInt8.ofNat (128 + c / 64 % 64), UInt8.ofNat (128 + c % 64)] := by
 have e := enc_of c (valid_of c h)
 rw [Int.toNat_natCast] at e
 exact e
structure ZR (l : List UInt8) (c n : Nat) : Prop where
 eq : decodeL l = (c, n)
 le : n ≤ l.length
 pos : 1 ≤ n
 one : n = 1 → gb l 0 < 128 ∧ c = gb l 0
 high : 2 ≤ n → ∀ b, b ∈ l.take n → 128 ≤ b.toNat
 rune : yh c = l.take n
 valid : c < 55296 ∨ (57344 ≤ c ∧ c ≤ 1114111)
 more : ∀ x, decodeL (l.take n ++ x) = (c, n)
theorem kG {l : List UInt8} (h0 : l ≠ []) (h : ¬((decodeL l).1 = 65533 ∧ (decodeL l).2 = 1)) : ZR l (decodeL l).1 (decodeL l).2 := by
 have hn : 1 ≤ l.length := by cases l with | nil => exact absurd rfl h0 | cons a t => simp
 have hmore : 1 ≤ (decodeL l).2 → (decodeL l).2 ≤ l.length → ∀ x, decodeL (l.take (decodeL l).2 ++ x) = decodeL l := by
  intro g1 g2 x
  have hl : (l.take (decodeL l).2).length = (decodeL l).2 := by rw [List.length_take]; omega
  have hb : ∀ i, i < (decodeL l).2 → gb (l.take (decodeL l).2 ++ x) i = gb l i := fun i hi => by
   rw [gb_app _ x i (by omega)]
   unfold gb
   rw [List.getD_eq_getElem?_getD, List.getD_eq_getElem?_getD, List.getElem?_take_of_lt hi]
  revert hl hb
  generalize e : l.take (decodeL l).2 ++ x = y
  intro hl hb
  have hy : (decodeL l).2 ≤ y.length := by rw [← e, List.length_append]; omega
  rw [xy y, hb 0 (by omega)]
  rw [xy l] at h hb hy ⊢
  exact decodeN_more hn hy (vS _ _) (vS _ _) (vS _ _) (vS _ _) h (fun q => hb 1 q) (fun q => hb 2 q) (fun q => hb 3 q)
 have b0 : l.getD 0 0 = UInt8.ofNat (gb l 0) := (UInt8.ofNat_toNat).symm
 have b1 : l.getD 1 0 = UInt8.ofNat (gb l 1) := (UInt8.ofNat_toNat).symm
 have b2 : l.getD 2 0 = UInt8.ofNat (gb l 2) := (UInt8.ofNat_toNat).symm
 have b3 : l.getD 3 0 = UInt8.ofNat (gb l 3) := (UInt8.ofNat_toNat).symm
 have t0 : (l.getD 0 0).toNat = gb l 0 := rfl
 have t1 : (l.getD 1 0).toNat = gb l 1 := rfl
 have t2 : (l.getD 2 0).toNat = gb l 2 := rfl
 have t3 : (l.getD 3 0).toNat = gb l 3 := rfl
 have l0 := vS l 0
 have l1 := vS l 1
 have l2 := vS l 2
 have l3 := vS l 3
 have h' := h
 rw [xy] at h'
 rcases Kh hn l1 l2 l3 l0 h' with ⟨q0, e⟩ | ⟨q0, q1, q2, q3, q4, e⟩ | ⟨q0, q1, q2, q3, q4, q5, q6, e⟩ | ⟨q0, q1, q2, q3, q4, q5, q6, q7, e⟩
 all_goals
  rw [← xy] at e
  rw [e] at hmore ⊢
  simp only at hmore ⊢
 ·refine ⟨e, hn, Nat.le_refl _, fun _ => ⟨q0, rfl⟩, fun h => by omega, ?_, by omega, hmore (by omega) (by omega)⟩
  rw [xI _ (by omega), if_pos q0]
  cases l with
  | nil => exact absurd rfl h0
  | cons a t => simp [gb]
 ·refine ⟨e, q2, by omega, fun h => by omega, fun _ b hb => ?_, ?_, by omega, hmore (by omega) (by omega)⟩
  ·rw [take_two q2] at hb
   simp only [List.mem_cons, List.not_mem_nil, or_false] at hb
   rcases hb with rfl | rfl
   ·rw [t0]; omega
   ·rw [t1]; omega
  ·rw [xI _ (by omega), if_neg (by omega), if_pos (by omega), take_two q2, b0, b1]
   congr 2 <;> congr 1 <;> omega
 ·refine ⟨e, q2, by omega, fun h => by omega, fun _ b hb => ?_, ?_, by omega, hmore (by omega) (by omega)⟩
  ·rw [Kj q2] at hb
   simp only [List.mem_cons, List.not_mem_nil, or_false] at hb
   rcases hb with rfl | rfl | rfl
   ·rw [t0]; omega
   ·rw [t1]; omega
   ·rw [t2]; omega
  ·rw [xI _ (by omega), if_neg (by omega), if_neg (by omega), if_pos (by omega), Kj q2, b0, b1, b2]
   congr 1
   ·congr 1; omega
   ·congr 1
    ·congr 1; omega
    ·congr 1; congr 1; omega
 ·refine ⟨e, q2, by omega, fun h => by omega, fun _ b hb => ?_, ?_, by omega, hmore (by omega) (by omega)⟩
  ·rw [J2 q2] at hb
   simp only [List.mem_cons, List.not_mem_nil, or_false] at hb
   rcases hb with rfl | rfl | rfl | rfl
   ·rw [t0]; omega
   ·rw [t1]; omega
   ·rw [t2]; omega
   ·rw [t3]; omega
  ·rw [xI _ (by omega), if_neg (by omega), if_neg (by omega), if_neg (by omega), J2 q2, b0, b1, b2, b3]
   congr 1
   ·congr 1; omega
   ·congr 1
    ·congr 1; omega
    ·congr 1
     ·congr 1; omega
     ·congr 1; congr 1; omega
open Go.Lib (decodeL decDigits itoa)
theorem validS {l : List UInt8} (h : Lib.validD l = true) (hne : l ≠ []) : ZR l (decodeL l).1 (decodeL l).2 ∧ Lib.validD (l.drop (decodeL l).2) = true := by
 rw [Lib.validD_step l hne] at h
 split at h
 ·cases h
 ·rename_i hc; exact ⟨kG hne hc, h⟩
theorem quote_high {b : UInt8} (h : 128 ≤ b.toNat) : yk b = [b] := by
 unfold yk
 rw [if_neg (by omega), if_neg]
 rintro (e | e) <;> (rw [e] at h; revert h; decide)
theorem Qg : ∀ {l : List UInt8}, (∀ b, b ∈ l → 128 ≤ b.toNat) → l.flatMap yk = l
 | [], _ => rfl
 | b :: l, h => by
  rw [List.flatMap_cons, quote_high (h b (List.mem_cons_self ..)), Qg (fun x hx => h x (List.mem_cons_of_mem _ hx))]
  rfl
theorem unq_end (f : Nat) (r acc : List UInt8) : yV (f + 1) (34 :: r) acc = .inr (acc, r) := by
 unfold yV
 exact if_pos rfl
theorem unq_esc {f n : Nat} {r acc b : List UInt8} (h : ja (92 :: r) = some (b, n)) : yV (f + 1) (92 :: r) acc = yV f ((92 :: r).drop n) (acc ++ b) := by
 rw [yV]
 rw [if_neg (by decide), if_neg (by decide), if_pos rfl, h]
theorem JM {f k v : Nat} {c : UInt8} {r acc : List UInt8} (h1 : c ≠ 34) (h2 : ¬ c.toNat < 32) (h3 : c ≠ 92) (hd : decodeL (c :: r) = (v, k)) (hb : ¬ (v = 65533 ∧ k = 1)) :
  yV (f + 1) (c :: r) acc = yV f ((c :: r).drop k) (acc ++ (c :: r).take k) := by
 rw [yV]
 rw [if_neg h1, if_neg h2, if_neg h3, hd]
 exact if_neg hb
theorem hex_ctl : ∀ n : Fin 32, JH 48 48 (vU (n.val / 16)) (vU (n.val % 16)) = some n.val := by decide +kernel
theorem esc_ctl (b : UInt8) (h : b.toNat < 32) (r : List UInt8) : ja (92 :: 117 :: 48 :: 48 :: vU (b.toNat / 16) :: vU (b.toNat % 16) :: r) = some ([b], 6) := by
 have h4 : qv (92 :: 117 :: 48 :: 48 :: vU (b.toNat / 16) :: vU (b.toNat % 16) :: r) = some b.toNat := by
  unfold qv
  simp only
  rw [if_pos ⟨trivial, trivial⟩]
  exact hex_ctl ⟨b.toNat, h⟩
 have hr : yh b.toNat = [b] := by
  rw [xI _ (by omega), if_pos (by omega), UInt8.ofNat_toNat]
 unfold ja
 simp only
 rw [if_neg (by decide), if_neg (by decide), if_neg (by decide), if_neg (by decide), if_neg (by decide), if_neg (by decide), if_neg (by decide), if_neg (by decide), h4]
 simp only
 rw [if_pos (by omega), hr]
theorem esc_sign (b : UInt8) (h : b = 34 ∨ b = 92) (r : List UInt8) : ja (92 :: b :: r) = some ([b], 2) := by
 unfold ja
 rcases h with rfl | rfl
 ·exact if_pos rfl
 ·exact (if_neg (by decide)).trans (if_pos rfl)
theorem Zc (l x : List UInt8) (k : Nat) (h : k ≤ l.length) : (l.take k ++ x).drop k = x ∧ (l.take k ++ x).take k = l.take k := by
 have e : (l.take k).length = k := by rw [List.length_take]; omega
 constructor
 ·exact List.drop_left' e
 ·exact List.take_left' e
theorem unq_quote : ∀ (n : Nat) (s : List UInt8) (f : Nat) (rest acc : List UInt8), s.length ≤ n → Lib.validD s = true → (s.flatMap yk).length < f → yV f (s.flatMap yk ++ (34 :: rest)) acc = .inr (acc ++ s, rest) := by
 intro n
 induction n with
 | zero =>
  intro s f rest acc hl _ hf
  match s, hl with
  | [], _ =>
   match f, hf with
   | f + 1, _ => rw [List.append_nil]; exact unq_end f rest acc
 | succ n ih =>
  intro s f rest acc hl hv hf
  by_cases hne : s = []
  ·subst hne
   match f, hf with
   | f + 1, _ => rw [List.append_nil]; exact unq_end f rest acc
  obtain ⟨D, hv'⟩ := validS hv hne
  revert D hv'
  generalize (decodeL s).1 = v
  generalize (decodeL s).2 = k
  intro D hv'
  have hk := D.pos
  have hkl := D.le
  have hs : s = s.take k ++ s.drop k := (List.take_append_drop k s).symm
  have hfl : s.flatMap yk = (s.take k).flatMap yk ++ (s.drop k).flatMap yk := by rw [← List.flatMap_append, List.take_append_drop]
  rw [hfl] at hf ⊢
  rw [List.append_assoc]
  rw [List.length_append] at hf
  have hdl : (s.drop k).length ≤ n := by rw [List.length_drop]; omega
  have hrest := fun (f' : Nat) (hf' : ((s.drop k).flatMap yk).length < f') (acc' : List UInt8) => ih (s.drop k) f' rest acc' hdl hv' hf'
  revert hf hrest
  generalize (s.drop k).flatMap yk = q
  intro hf hrest
  have hend : ∀ acc : List UInt8, acc ++ s.take k ++ s.drop k = acc ++ s := fun acc => by rw [List.append_assoc, List.take_append_drop]
  match f, hf with
  | f + 1, hf =>
  by_cases h1 : k = 1
  ·subst h1
   obtain ⟨hb, hv2⟩ := D.one rfl
   match s, hne with
   | b :: t, _ =>
    have hb' : b.toNat < 128 := hb
    have ht : (b :: t).take 1 = [b] := rfl
    have hm := D.more (q ++ 34 :: rest)
    rw [ht] at hm hf hend ⊢
    simp only [List.flatMap_cons, List.flatMap_nil, List.append_nil] at hf ⊢
    unfold yk at hf ⊢
    split at hf
    ·rename_i hc
     rw [if_pos hc]
     show yV (f + 1) (92 :: 117 :: 48 :: 48 :: vU (b.toNat / 16) :: vU (b.toNat % 16) :: (q ++ 34 :: rest)) acc = _
     rw [unq_esc (esc_ctl b hc _)]
     show yV f (q ++ 34 :: rest) (acc ++ [b]) = _
     rw [hrest f (by simp at hf; omega), hend]
    ·rename_i hc
     rw [if_neg hc]
     split at hf
     ·rename_i hd
      rw [if_pos hd]
      show yV (f + 1) (92 :: b :: (q ++ 34 :: rest)) acc = _
      rw [unq_esc (esc_sign b hd _)]
      show yV f (q ++ 34 :: rest) (acc ++ [b]) = _
      rw [hrest f (by simp at hf; omega), hend]
     ·rename_i hd
      rw [if_neg hd]
      show yV (f + 1) (b :: (q ++ 34 :: rest)) acc = _
      have hm' : decodeL (b :: (q ++ 34 :: rest)) = (v, 1) := hm
      rw [JM (fun e => hd (.inl e)) hc (fun e => hd (.inr e)) hm' (by
       have : v = b.toNat := hv2
       omega)]
      show yV f (q ++ 34 :: rest) (acc ++ [b]) = _
      rw [hrest f (by simp at hf; omega), hend]
  ·have hk2 : 2 ≤ k := by omega
   have hh := D.high hk2
   rw [Qg hh] at hf ⊢
   have hm := D.more (q ++ 34 :: rest)
   obtain ⟨hd1, hd2⟩ := Zc s (q ++ 34 :: rest) k hkl
   have htl : (s.take k).length = k := by rw [List.length_take]; omega
   obtain ⟨y, hy⟩ : ∃ y, s.take k = y := ⟨_, rfl⟩
   rw [hy] at hh hf hm hd1 hd2 htl ⊢
   have hend' := hend acc
   rw [hy] at hend'
   clear hend hs hfl
   match y, htl with
   | c :: r, htl =>
    have hc := hh c (List.mem_cons_self ..)
    rw [List.cons_append] at hm hd1 hd2 ⊢
    rw [JM (by intro e; rw [e] at hc; revert hc; decide) (by omega) (by intro e; rw [e] at hc; revert hc; decide) hm (by omega), hd1, hd2]
    rw [hrest f (by simp at hf; omega), hend']
   | [], htl => simp at htl; omega
theorem Kb (s rest : List UInt8) (h : Lib.validD s = true) : qd (yr s ++ rest) = .inr (s, rest) := by
 have e : yr s ++ rest = 34 :: (s.flatMap yk ++ (34 :: rest)) := by simp [yr]
 rw [e]
 unfold qd
 simp only
 rw [if_pos trivial]
 have := unq_quote s.length s ((s.flatMap yk ++ (34 :: rest)).length + 1) rest [] (Nat.le_refl _) h (by rw [List.length_append]; omega)
 rw [this, List.nil_append]
def Ends (r : List UInt8) : Prop := r = [] ∨ ∃ c t, r = c :: t ∧ (c = 44 ∨ c = 93 ∨ c = 125)
theorem isDig_of (d : Nat) (h : d < 10) : yH (UInt8.ofNat (48 + d)) = true ∧ (UInt8.ofNat (48 + d)).toNat = 48 + d := by
 have e : (UInt8.ofNat (48 + d)).toNat = 48 + d := by rw [UInt8.toNat_ofNat']; omega
 refine ⟨?_, e⟩
 unfold yH
 rw [e, Bool.and_eq_true]
 exact ⟨decide_eq_true (by omega), decide_eq_true (by omega)⟩
theorem digSum_snoc (l : List UInt8) (c : UInt8) : zI (l ++ [c]) = 10 * zI l + (c.toNat - 48) := by
 unfold zI
 rw [List.foldl_append]
 rfl
theorem YV (u : Nat) : zI (decDigits u) = u ∧ (∀ c, c ∈ decDigits u → yH c = true) ∧ ∃ d t, decDigits u = d :: t ∧ (d = 48 → t = [] ∧ u = 0) := by
 induction u using Nat.strongRecOn with
 | _ u ih =>
  rw [decDigits]
  split
  ·rename_i h
   obtain ⟨h1, h2⟩ := isDig_of u h
   refine ⟨?_, fun c hc => ?_, _, _, rfl, fun e => ⟨rfl, ?_⟩⟩
   ·show 10 * 0 + ((UInt8.ofNat (48 + u)).toNat - 48) = u
    omega
   ·rw [List.mem_singleton.1 hc]; exact h1
   ·rw [e] at h2
    have : (48 : UInt8).toNat = 48 := rfl
    omega
  ·rename_i h
   obtain ⟨i1, i2, d, t, i3, i4⟩ := ih (u / 10) (by omega)
   obtain ⟨h1, h2⟩ := isDig_of (u % 10) (by omega)
   refine ⟨?_, fun c hc => ?_, d, t ++ [UInt8.ofNat (48 + u % 10)], by rw [i3]; rfl, fun e => ?_⟩
   ·rw [digSum_snoc, i1, h2]; omega
   ·rcases List.mem_append.1 hc with hc | hc
    ·exact i2 c hc
    ·rw [List.mem_singleton.1 hc]; exact h1
   ·have := (i4 e).2
    omega
theorem dig_ends {r : List UInt8} (h : Ends r) : r.takeWhile yH = [] ∧ ky r [46, 101, 69] = false := by
 rcases h with rfl | ⟨c, t, rfl, rfl | rfl | rfl⟩ <;> exact ⟨rfl, rfl⟩
theorem num_body (minus : Bool) (u : Nat) (r : List UInt8) (hr : Ends r) (hu : u ≤ 9007199254740991) (hm : minus = true → u ≠ 0) : qH minus (decDigits u ++ r) = .inr (if minus then -(u : Int) else u, r) := by
 obtain ⟨h1, h2, d, t, h3, h4⟩ := YV u
 obtain ⟨e1, e2⟩ := dig_ends hr
 have hw : (decDigits u ++ r).takeWhile yH = decDigits u := by
  rw [List.takeWhile_append_of_pos h2, e1, List.append_nil]
 unfold qH
 simp only [hw]
 rw [if_neg, List.drop_left, e2, if_neg (by decide), if_neg (by omega), h1]
 rintro (e | ⟨e1, e2⟩)
 ·rw [h3] at e; cases e
 ·rw [h3] at e1 e2
  have hd : d = 48 := by simpa using e1
  obtain ⟨g1, g2⟩ := h4 hd
  rcases e2 with e2 | e2
  ·exact hm e2 g2
  ·rw [g1] at e2; simp at e2
theorem num_write (n : Int) (h : -9007199254740991 ≤ n ∧ n ≤ 9007199254740991) (r : List UInt8) (hr : Ends r) : qM (itoa n ++ r) = .inr (n, r) := by
 unfold itoa qM
 by_cases hn : n < 0
 ·rw [if_pos hn]
  show (if some (45 : UInt8) = some 45 then qH true (decDigits n.natAbs ++ r) else _) = _
  rw [if_pos rfl, num_body true _ r hr (by omega) (fun _ => by omega)]
  simp only [if_true]
  congr 2
  omega
 ·rw [if_neg hn]
  obtain ⟨_, h2, d, t, h3, _⟩ := YV n.toNat
  have hd := h2 d (by rw [h3]; exact List.mem_cons_self ..)
  have : ¬ (decDigits n.toNat ++ r).head? = some 45 := by
   rw [h3]
   intro e
   have e' : d = 45 := by simpa using e
   rw [e'] at hd
   revert hd; decide
  rw [if_neg this, num_body false _ r hr (by omega) (fun h => by cases h)]
  simp only [Bool.false_eq_true, if_false]
  congr 2
  omega
theorem YX (n : Int) : ∃ d t, itoa n = d :: t ∧ (d = 45 ∨ yH d = true) := by
 unfold itoa
 split
 ·exact ⟨_, _, rfl, .inl rfl⟩
 ·obtain ⟨_, h2, d, t, h3, _⟩ := YV n.toNat
  exact ⟨d, t, h3, .inr (h2 d (by rw [h3]; exact List.mem_cons_self ..))⟩
theorem yB {a b : UInt8} (h : a ≠ b) (l t : List UInt8) : (a :: l).isPrefixOf (b :: t) = false := by
 simp [List.isPrefixOf, h]
theorem x8 {c : UInt8} (t : List UInt8) (h : vD c = false) : zp (c :: t) = c :: t := by
 unfold zp
 exact List.dropWhile_cons_of_neg (by rw [h]; decide)
theorem Ends.skip {r : List UInt8} (h : Ends r) : zp r = r := by
 rcases h with rfl | ⟨c, t, rfl, rfl | rfl | rfl⟩
 ·rfl
 ·exact x8 _ (by decide)
 ·exact x8 _ (by decide)
 ·exact x8 _ (by decide)
theorem zah {c : UInt8} (h : yH c = true) : c = 48 ∨ c = 49 ∨ c = 50 ∨ c = 51 ∨ c = 52 ∨ c = 53 ∨ c = 54 ∨ c = 55 ∨ c = 56 ∨ c = 57 := by
 unfold yH at h
 rw [Bool.and_eq_true] at h
 have h1 := of_decide_eq_true h.1
 have h2 := of_decide_eq_true h.2
 have e : c = UInt8.ofNat c.toNat := UInt8.ofNat_toNat.symm
 have : c.toNat = 48 ∨ c.toNat = 49 ∨ c.toNat = 50 ∨ c.toNat = 51 ∨ c.toNat = 52 ∨ c.toNat = 53 ∨ c.toNat = 54 ∨ c.toNat = 55 ∨ c.toNat = 56 ∨ c.toNat = 57 := by omega
 rcases this with h | h | h | h | h | h | h | h | h | h <;> (rw [h] at e; subst e; decide)
def Starts (c : UInt8) : Prop := c = 110 ∨ c = 116 ∨ c = 102 ∨ c = 34 ∨ c = 91 ∨ c = 123 ∨ c = 45 ∨ yH c = true
theorem Starts.not {c : UInt8} (h : Starts c) : vD c = false ∧ c ≠ 93 ∧ c ≠ 125 := by
 rcases h with rfl | rfl | rfl | rfl | rfl | rfl | rfl | h
 all_goals first | exact ⟨by decide, by decide, by decide⟩ | skip
 rcases zah h with rfl | rfl | rfl | rfl | rfl | rfl | rfl | rfl | rfl | rfl <;> exact ⟨by decide, by decide, by decide⟩
section
variable {n : Nat}
theorem YH (v : VS (V n)) : zo (n + 1) v = if v.kind = 1 then [110, 117, 108, 108]
  else if v.kind = 2 then (if v.num = 1 then [116, 114, 117, 101] else [102, 97, 108, 115, 101])
  else if v.kind = 3 then itoa v.num
  else if v.kind = 4 then yr v.s.data.toList
  else if v.kind = 5 then 91 :: (zW (v.l.map (zo n)) ++ [93])
  else 123 :: (zW (v.m.map (fun p => yr p.1.data.toList ++ (58 :: zo n p.2))) ++ [125]) := rfl
theorem Km (v : VS (V n)) : ∃ c t, zo (n + 1) v = c :: t ∧ Starts c := by
 rw [YH]
 split
 ·exact ⟨_, _, rfl, .inl rfl⟩
 split
 ·split
  ·exact ⟨_, _, rfl, .inr (.inl rfl)⟩
  ·exact ⟨_, _, rfl, .inr (.inr (.inl rfl))⟩
 split
 ·obtain ⟨d, t, h, hd | hd⟩ := YX v.num
  ·exact ⟨d, t, h, hd ▸ .inr (.inr (.inr (.inr (.inr (.inr (.inl rfl))))))⟩
  ·exact ⟨d, t, h, .inr (.inr (.inr (.inr (.inr (.inr (.inr hd))))))⟩
 split
 ·exact ⟨_, _, rfl, .inr (.inr (.inr (.inl rfl)))⟩
 split
 ·exact ⟨_, _, rfl, .inr (.inr (.inr (.inr (.inl rfl))))⟩
 ·exact ⟨_, _, rfl, .inr (.inr (.inr (.inr (.inr (.inl rfl)))))⟩
theorem write_head' : ∀ {n : Nat} (v : V n), ∃ c t, zo n v = c :: t ∧ Starts c
 | 0, v => nomatch v
 | _ + 1, v => Km v
end
theorem js (x : List UInt8) (l : List (List UInt8)) (r : List UInt8) (e : UInt8) : zW (x :: l) ++ (e :: r) = x ++ (match l with | [] => e :: r | y :: l => 44 :: (zW (y :: l) ++ (e :: r))) := by
 cases l with
 | nil => rfl
 | cons y l => simp [zW]
theorem Za (l : List (List UInt8)) : l.length ≤ (zW l).length + 1 := by
 induction l with
 | nil => exact Nat.zero_le _
 | cons x l ih =>
  cases l with
  | nil => simp
  | cons y l =>
   show (y :: l).length + 1 ≤ (x ++ (44 :: zW (y :: l))).length + 1
   have e : ((44 : UInt8) :: zW (y :: l)).length = (zW (y :: l)).length + 1 := rfl
   rw [List.length_append, e]
   omega
def Reads {α : Type} (sub : List UInt8 → Nat → Sum Int (α × List UInt8 × Nat)) (w : α → List UInt8) (k : α → Nat) (v : α) : Prop :=
 ∀ r c, Ends r → c + k v ≤ 4096 → sub (w v ++ r) c = .inr (v, r, c + k v)
theorem read_list {α : Type} {sub : List UInt8 → Nat → Sum Int (α × List UInt8 × Nat)} {w : α → List UInt8} {k : α → Nat} : ∀ (l : List α) (x : α) (f c : Nat) (acc : List α) (r : List UInt8),
  (∀ y, y ∈ x :: l → Reads sub w k y) → l.length < f → c + ((x :: l).map k).sum ≤ 4096 →
  vQ sub f (zW ((x :: l).map w) ++ (93 :: r)) c acc = .inr (acc ++ x :: l, r, c + ((x :: l).map k).sum) := by
 intro l
 induction l with
 | nil =>
  intro x f c acc r h hf hc
  match f, hf with
  | f + 1, _ =>
  have := h x (List.mem_cons_self ..) (93 :: r) c (.inr ⟨_, _, rfl, .inr (.inl rfl)⟩) (by simpa using hc)
  show vQ sub (f + 1) (w x ++ (93 :: r)) c acc = _
  unfold vQ
  rw [this]
  simp
 | cons y l ih =>
  intro x f c acc r h hf hc
  match f, hf with
  | f + 1, hf =>
  rw [List.map_cons, List.sum_cons] at hc
  have hx := h x (List.mem_cons_self ..) (44 :: (zW ((y :: l).map w) ++ (93 :: r))) c (.inr ⟨_, _, rfl, .inl rfl⟩) (by omega)
  have e : zW ((x :: y :: l).map w) ++ (93 :: r) = w x ++ (44 :: (zW ((y :: l).map w) ++ (93 :: r))) := js ..
  rw [e]
  unfold vQ
  rw [hx]
  simp only [List.head?_cons, List.tail_cons]
  rw [if_neg (by decide), if_pos trivial, ih y f (c + k x) (acc ++ [x]) r (fun z hz => h z (List.mem_cons_of_mem _ hz)) (by simp at hf; omega) (by omega)]
  have a1 : (acc ++ [x]) ++ y :: l = acc ++ x :: y :: l := by simp
  have a2 : c + k x + ((y :: l).map k).sum = c + ((x :: y :: l).map k).sum := by simp only [List.map_cons, List.sum_cons]; omega
  rw [a1, a2]
def qN {α : Type} (w : α → List UInt8) (p : ByteArray × α) : List UInt8 := yr p.1.data.toList ++ (58 :: w p.2)
theorem read_key {s : ByteArray} (h : zX s = true) (r : List UInt8) : qd (zp (yr s.data.toList ++ r)) = .inr (s.data.toList, r) := by
 have e : yr s.data.toList ++ r = 34 :: ((s.data.toList.flatMap yk ++ [34]) ++ r) := rfl
 rw [e, x8 _ (by decide), ← e]
 exact Kb _ _ h
theorem read_pairs {α : Type} {sub : List UInt8 → Nat → Sum Int (α × List UInt8 × Nat)} {w : α → List UInt8} {k : α → Nat} : ∀ (l : List (ByteArray × α)) (x : ByteArray × α) (f c : Nat) (acc : List (ByteArray × α)) (r : List UInt8),
  (∀ y, y ∈ x :: l → Reads sub w k y.2 ∧ zX y.1 = true) → ((acc ++ x :: l).map (fun p => p.1)).Nodup → l.length < f → c + ((x :: l).map (fun p => k p.2)).sum ≤ 4096 →
  kT sub f (zW ((x :: l).map (qN w)) ++ (125 :: r)) c acc = .inr (acc ++ x :: l, r, c + ((x :: l).map (fun p => k p.2)).sum) := by
 intro l
 induction l with
 | nil =>
  intro x f c acc r h hn hf hc
  match f, hf with
  | f + 1, _ =>
  obtain ⟨h1, h2⟩ := h x (List.mem_cons_self ..)
  have hx := h1 (125 :: r) c (.inr ⟨_, _, rfl, .inr (.inr rfl)⟩) (by simpa using hc)
  have e : zW ([x].map (qN w)) ++ (125 :: r) = yr x.1.data.toList ++ (58 :: (w x.2 ++ (125 :: r))) := by simp [zW, qN]
  have hany : acc.any (fun p => decide (p.1 = zg x.1.data.toList)) = false := by
   rw [List.any_eq_false]
   intro p hp he
   have he := of_decide_eq_true he
   rw [bV] at he
   rw [List.map_append, List.nodup_append] at hn
   exact hn.2.2 p.1 (List.mem_map.2 ⟨p, hp, rfl⟩) x.1 (by simp) he
  rw [e]
  unfold kT
  rw [read_key h2]
  simp only
  rw [hany, if_neg (by decide), x8 _ (by decide)]
  simp only [List.head?_cons, List.tail_cons]
  rw [if_pos trivial, hx]
  simp only [List.head?_cons, List.tail_cons]
  rw [if_pos trivial, bV]
  simp
 | cons y l ih =>
  intro x f c acc r h hn hf hc
  match f, hf with
  | f + 1, hf =>
  obtain ⟨h1, h2⟩ := h x (List.mem_cons_self ..)
  rw [List.map_cons, List.sum_cons] at hc
  have hx := h1 (44 :: (zW ((y :: l).map (qN w)) ++ (125 :: r))) c (.inr ⟨_, _, rfl, .inl rfl⟩) (by omega)
  have e : zW ((x :: y :: l).map (qN w)) ++ (125 :: r) = yr x.1.data.toList ++ (58 :: (w x.2 ++ (44 :: (zW ((y :: l).map (qN w)) ++ (125 :: r))))) := by
   rw [List.map_cons, js]
   unfold qN
   rw [List.append_assoc, List.cons_append]
   rfl
  have hany : acc.any (fun p => decide (p.1 = zg x.1.data.toList)) = false := by
   rw [List.any_eq_false]
   intro p hp he
   have he := of_decide_eq_true he
   rw [bV] at he
   rw [List.map_append, List.nodup_append] at hn
   exact hn.2.2 p.1 (List.mem_map.2 ⟨p, hp, rfl⟩) x.1 (by simp) he
  rw [e]
  unfold kT
  rw [read_key h2]
  simp only
  rw [hany, if_neg (by decide), x8 _ (by decide)]
  simp only [List.head?_cons, List.tail_cons]
  rw [if_pos trivial, hx]
  simp only [List.head?_cons, List.tail_cons]
  rw [if_neg (by decide), if_pos trivial, bV]
  rw [ih y f (c + k x.2) (acc ++ [x]) r (fun z hz => h z (List.mem_cons_of_mem _ hz)) (by rw [List.append_assoc]; exact hn) (by simp at hf; omega) (by omega)]
  have a1 : (acc ++ [x]) ++ y :: l = acc ++ x :: y :: l := by simp
  have a2 : c + k x.2 + ((y :: l).map (fun p => k p.2)).sum = c + ((x :: y :: l).map (fun p => k p.2)).sum := by simp only [List.map_cons, List.sum_cons]; omega
  rw [a1, a2]
section
variable {α : Type} {sub : List UInt8 → Nat → Sum Int (α × List UInt8 × Nat)}
theorem pRead_list {t r : List UInt8} {c c' : Nat} {l : List α} (h : ¬ (zp t).head? = some 93) (hp : vQ sub ((91 :: t).length + 1) (zp t) c [] = .inr (l, r, c')) : yG sub (91 :: t) c = .inr (⟨5, 0, ⟨#[]⟩, l, []⟩, r, c') := by
 unfold yG jO jR qS
 rw [yB (by decide), yB (by decide), yB (by decide), if_neg (by decide), if_neg (by decide), if_neg (by decide), List.head?_cons, if_neg (by decide), if_pos rfl, List.tail_cons, if_neg h, hp]
theorem pRead_pairs {t r : List UInt8} {c c' : Nat} {m : List (ByteArray × α)} (h : ¬ (zp t).head? = some 125) (hp : kT sub ((123 :: t).length + 1) (zp t) c [] = .inr (m, r, c')) : yG sub (123 :: t) c = .inr (⟨6, 0, ⟨#[]⟩, [], m⟩, r, c') := by
 unfold yG jO jR qS
 rw [yB (by decide), yB (by decide), yB (by decide), if_neg (by decide), if_neg (by decide), if_neg (by decide), List.head?_cons, if_neg (by decide), if_neg (by decide), if_pos rfl, List.tail_cons, if_neg h, hp]
theorem pRead_text {t : List UInt8} {c : Nat} {s r : List UInt8} (hp : qd (34 :: t) = .inr (s, r)) : yG sub (34 :: t) c = .inr (kt 4 0 (zg s), r, c) := by
 unfold yG jO jR qS
 rw [yB (by decide), yB (by decide), yB (by decide), if_neg (by decide), if_neg (by decide), if_neg (by decide), List.head?_cons, if_pos rfl, hp]
end
theorem kids_le {n : Nat} {v : VS (V n)} {c B : Nat} (h : c + ze (n + 1) v ≤ B) : (c + 1) + (v.l.map (ze n)).sum ≤ B ∧ (c + 1) + (v.m.map (fun p => ze n p.2)).sum ≤ B := by
 have e : ze (n + 1) v = 1 + (v.kids.map (ze n)).sum := rfl
 rw [xT] at e
 omega
theorem Q4 : ∀ (n : Nat) (v : V n), zj n v = true → Reads (zr n) (zo n) (ze n) v
 | 0, v, _ => nomatch v
 | n + 1, (v : VS (V n)), h => by
  intro r c hr hc
  obtain ⟨b, t, hbt, hb⟩ := Km v
  have hk := kL h
  have ih := fun x (hx : x ∈ v.kids) => Q4 n x (qZ h hx)
  have hcount : ze (n + 1) v = 1 + ((v.l.map (ze n)).sum + (v.m.map (fun p => ze n p.2)).sum) := by rw [← xT]; rfl
  have hskip : zp (zo (n + 1) v ++ r) = zo (n + 1) v ++ r := by
   rw [hbt]; exact x8 _ hb.not.1
  have hread : yG (zr n) (zo (n + 1) v ++ r) (c + 1) = .inr (v, r, c + ze (n + 1) v) ∧ yO (zo (n + 1) v ++ r) = true := by
   rw [YH]
   rcases kR hk with ⟨h1, h2, h3, h4, h5⟩ | ⟨h1, h2, h3, h4, h5⟩ | ⟨h1, h2, h3, h4, h5⟩ | ⟨h1, h2, h3, h4, h5⟩ | ⟨h1, h2, h3, h5⟩ | ⟨h1, h2, h3, h4, h5⟩
   ·rw [if_pos h1]
    have e : c + ze (n + 1) v = c + 1 := by rw [hcount, h4, h5]; rfl
    have ev : v = kt 1 0 ⟨#[]⟩ := VS.ext' h1 h2 h3 h4 h5
    rw [e, ev]
    exact ⟨rfl, rfl⟩
   ·rw [if_neg (by omega), if_pos h1]
    have e : c + ze (n + 1) v = c + 1 := by rw [hcount, h4, h5]; rfl
    rw [e]
    rcases h2 with h2 | h2
    ·have ev : v = kt 2 0 ⟨#[]⟩ := VS.ext' h1 h2 h3 h4 h5
     rw [if_neg (by omega), ev]
     exact ⟨rfl, rfl⟩
    ·have ev : v = kt 2 1 ⟨#[]⟩ := VS.ext' h1 h2 h3 h4 h5
     rw [if_pos h2, ev]
     exact ⟨rfl, rfl⟩
   ·rw [if_neg (by omega), if_neg (by omega), if_pos h1]
    have e : c + ze (n + 1) v = c + 1 := by rw [hcount, h4, h5]; rfl
    have ev : v = kt 3 v.num ⟨#[]⟩ := VS.ext' h1 rfl h3 h4 h5
    have hn := num_write v.num h2 r hr
    rw [e]
    obtain ⟨d, t, hd, hd'⟩ := YX v.num
    have hd2 : d = 45 ∨ d = 48 ∨ d = 49 ∨ d = 50 ∨ d = 51 ∨ d = 52 ∨ d = 53 ∨ d = 54 ∨ d = 55 ∨ d = 56 ∨ d = 57 := hd'.imp_right zah
    generalize v.num = m at *
    rw [ev]
    rw [hd] at hn ⊢
    rw [List.cons_append] at hn ⊢
    have p1 : d ≠ 110 ∧ d ≠ 116 ∧ d ≠ 102 ∧ d ≠ 34 ∧ d ≠ 91 ∧ d ≠ 123 ∧ ky (d :: (t ++ r)) [34, 91, 123, 45, 48, 49, 50, 51, 52, 53, 54, 55, 56, 57] = true := by
     rcases hd2 with rfl | rfl | rfl | rfl | rfl | rfl | rfl | rfl | rfl | rfl | rfl <;> exact ⟨by decide, by decide, by decide, by decide, by decide, by decide, rfl⟩
    obtain ⟨q1, q2, q3, q4, q5, q6, q7⟩ := p1
    constructor
    ·unfold yG jO jR qS
     rw [yB q1.symm, yB q2.symm, yB q3.symm, if_neg (by decide), if_neg (by decide), if_neg (by decide), if_neg, if_neg, if_neg, hn]
     ·intro e; exact q6 (by simpa using e)
     ·intro e; exact q5 (by simpa using e)
     ·intro e; exact q4 (by simpa using e)
    ·unfold yO
     rw [q7, Bool.or_true]
   ·rw [if_neg (by omega), if_neg (by omega), if_neg (by omega), if_pos h1]
    have e : c + ze (n + 1) v = c + 1 := by rw [hcount, h4, h5]; rfl
    have ev : v = kt 4 0 v.s := VS.ext' h1 h2 rfl h4 h5
    have hu := Kb v.s.data.toList r h3
    have hs := bV v.s
    rw [e]
    generalize v.s = s at *
    rw [ev]
    have es : yr s.data.toList ++ r = 34 :: ((s.data.toList.flatMap yk ++ [34]) ++ r) := rfl
    constructor
    ·rw [es] at hu ⊢
     rw [pRead_text hu, hs]
    ·rw [es]
     rfl
   ·rw [if_neg (by omega), if_neg (by omega), if_neg (by omega), if_neg (by omega), if_pos h1]
    have hl : ∀ x, x ∈ v.l → Reads (zr n) (zo n) (ze n) x := fun x hx => ih x (xY hx)
    have hc2 := (kids_le hc).1
    have e : c + ze (n + 1) v = c + 1 + (v.l.map (ze n)).sum := by rw [hcount, h5]; simp; omega
    have ev : v = ⟨5, 0, ⟨#[]⟩, v.l, []⟩ := VS.ext' h1 h2 h3 rfl h5
    rw [e]
    generalize v.l = l at *
    rw [ev]
    refine ⟨?_, rfl⟩
    have es : 91 :: (zW (l.map (zo n)) ++ [93]) ++ r = 91 :: (zW (l.map (zo n)) ++ (93 :: r)) := by simp
    rw [es]
    cases l with
    | nil => rfl
    | cons x l =>
     obtain ⟨b, t, hbt, hb⟩ := write_head' x
     have e1 : zW ((x :: l).map (zo n)) ++ (93 :: r) = b :: (t ++ (match l.map (zo n) with | [] => 93 :: r | y :: l => 44 :: (zW (y :: l) ++ (93 :: r)))) := by
      rw [List.map_cons, js, hbt]; rfl
     have e2 : zp (zW ((x :: l).map (zo n)) ++ (93 :: r)) = zW ((x :: l).map (zo n)) ++ (93 :: r) := by
      rw [e1]; exact x8 _ hb.not.1
     have e3 : ¬ (zW ((x :: l).map (zo n)) ++ (93 :: r)).head? = some 93 := by
      rw [e1]; intro q; exact hb.not.2.1 (by simpa using q)
     refine pRead_list (by rw [e2]; exact e3) ?_
     rw [e2]
     refine (read_list l x _ (c + 1) [] r hl ?_ hc2).trans rfl
     ·have := Za ((x :: l).map (zo n))
      rw [List.length_map, List.length_cons] at this
      rw [List.length_cons, List.length_append, List.length_cons]
      omega
   ·rw [if_neg (by omega), if_neg (by omega), if_neg (by omega), if_neg (by omega), if_neg (by omega)]
    unfold yE at h5
    rw [Bool.and_eq_true] at h5
    have hl : ∀ x, x ∈ v.m → Reads (zr n) (zo n) (ze n) x.2 ∧ zX x.1 = true := fun x hx => ⟨ih x.2 (xV hx), List.all_eq_true.1 h5.1 x hx⟩
    have hnd := of_decide_eq_true h5.2
    have hc2 := (kids_le hc).2
    have e : c + ze (n + 1) v = c + 1 + (v.m.map (fun p => ze n p.2)).sum := by rw [hcount, h4]; simp; omega
    have ev : v = ⟨6, 0, ⟨#[]⟩, [], v.m⟩ := VS.ext' h1 h2 h3 h4 rfl
    rw [e]
    generalize v.m = l at *
    rw [ev]
    refine ⟨?_, rfl⟩
    have es : 123 :: (zW (l.map (fun p => yr p.1.data.toList ++ (58 :: zo n p.2))) ++ [125]) ++ r = 123 :: (zW (l.map (qN (zo n))) ++ (125 :: r)) := by
     show 123 :: (zW (l.map (qN (zo n))) ++ [125]) ++ r = _
     simp
    rw [es]
    cases l with
    | nil => rfl
    | cons x l =>
     have e1 : zW ((x :: l).map (qN (zo n))) ++ (125 :: r) = 34 :: (((x.1.data.toList.flatMap yk ++ [34]) ++ (58 :: zo n x.2)) ++ (match l.map (qN (zo n)) with | [] => 125 :: r | y :: l => 44 :: (zW (y :: l) ++ (125 :: r)))) := by
      rw [List.map_cons, js]; rfl
     have e2 : zp (zW ((x :: l).map (qN (zo n))) ++ (125 :: r)) = zW ((x :: l).map (qN (zo n))) ++ (125 :: r) := by
      rw [e1]; exact x8 _ (by decide)
     have e3 : ¬ (zW ((x :: l).map (qN (zo n))) ++ (125 :: r)).head? = some 125 := by
      rw [e1]; intro q; exact absurd (Option.some.inj q) (by decide)
     refine pRead_pairs (by rw [e2]; exact e3) ?_
     rw [e2]
     refine (read_pairs l x _ (c + 1) [] r hl (by rw [List.nil_append]; exact hnd) ?_ hc2).trans rfl
     ·have := Za ((x :: l).map (qN (zo n)))
      rw [List.length_map, List.length_cons] at this
      rw [List.length_cons, List.length_append, List.length_cons]
      omega
  unfold zr
  rw [hskip, hread.2, if_neg (by decide), if_neg (by omega), hread.1]
  simp only
  rw [hr.skip]
theorem parse_write {v : V 12} (h : zj 12 v = true) (hc : ze 12 v ≤ 4096) (hl : (zo 12 v).length ≤ 262144) : yM (zo 12 v) = .inr v := by
 have := Q4 12 v h [] 0 (.inl rfl) (by omega)
 rw [List.append_nil] at this
 unfold yM
 rw [if_neg (by omega), this]
 exact if_pos rfl
open Go.Lib (itoa)
def xF {α β : Type} (f : α → β) (p : ByteArray × α) : ByteArray × β := (p.1, f p.2)
section
variable {n : Nat}
theorem jb (v : VS (V n)) : zH (n + 1) v = (⟨v.kind, v.num, v.s, v.l.map (zH n), (v.m.map (xF (zH n))).mergeSort leK⟩ : VS (V n)) := rfl
theorem ke (v : VS (V n)) : ((v.m.map (xF (zH n))).mergeSort leK).Perm (v.m.map (xF (zH n))) := List.mergeSort_perm _ _
theorem maxL_perm {a b : List Nat} (h : a.Perm b) : xG a = xG b :=
 Nat.le_antisymm (jr.2 fun x hx => zao (h.mem_iff.1 hx)) (jr.2 fun x hx => zao (h.mem_iff.2 hx))
end
theorem j8 : ∀ (n : Nat) (v : V n), ze n (zH n v) = ze n v
 | 0, v => nomatch v
 | n + 1, (v : VS (V n)) => by
  have ih := j8 n
  have e : ∀ u : VS (V n), ze (n + 1) u = 1 + ((u.l.map (ze n)).sum + (u.m.map (fun p => ze n p.2)).sum) := fun u => by rw [← xT]; rfl
  rw [e v]
  rw [jb]
  rw [e]
  simp only
  have h := ((ke v).map (fun p => ze n p.2)).sum_nat
  rw [h]
  simp only [List.map_map, Function.comp_def, xF, ih]
theorem ZD : ∀ (n : Nat) (v : V n), zw n (zH n v) = zw n v
 | 0, v => nomatch v
 | n + 1, (v : VS (V n)) => by
  have ih := ZD n
  have e : ∀ u : VS (V n), zw (n + 1) u = u.s.size + (u.m.map (fun p => p.1.size)).sum + ((u.l.map (zw n)).sum + (u.m.map (fun p => zw n p.2)).sum) := fun u => by rw [← xT]; rfl
  rw [e v]
  rw [jb]
  rw [e]
  simp only
  have h := ((ke v).map (fun p => zw n p.2)).sum_nat
  have h2 := ((ke v).map (fun p => p.1.size)).sum_nat
  rw [h, h2]
  simp only [List.map_map, Function.comp_def, xF, ih]
theorem KP : ∀ (n : Nat) (v : V n), zG n (zH n v) = zG n v
 | 0, v => nomatch v
 | n + 1, (v : VS (V n)) => by
  have ih := KP n
  have e : ∀ u : VS (V n), zG (n + 1) u = 1 + max (xG (u.l.map (zG n))) (xG (u.m.map (fun p => zG n p.2))) := fun u => by
   show 1 + xG ((u.l ++ u.m.map (fun p => p.2)).map (zG n)) = _
   rw [List.map_append, KO, List.map_map]
   rfl
  rw [e v]
  rw [jb]
  rw [e]
  simp only
  have h := maxL_perm ((ke v).map (fun p => zG n p.2))
  rw [h]
  simp only [List.map_map, Function.comp_def, xF, ih]
theorem own_same {α β : Type} {w : VS α} {v : VS β} (h1 : w.kind = v.kind) (h2 : w.num = v.num) (h3 : w.s = v.s) (h4 : w.l.isEmpty = v.l.isEmpty) (h5 : w.m.isEmpty = v.m.isEmpty) (h6 : yE w.m = yE v.m) : zE w = zE v := by
 unfold zE
 rw [h1, h2, h3, h4, h5, h6]
theorem keys_perm {α β : Type} {a : List (ByteArray × α)} {b : List (ByteArray × β)} (h : (a.map (fun p => p.1)).Perm (b.map (fun p => p.1))) : yE a = yE b := by
 have e : ∀ {γ : Type} (l : List (ByteArray × γ)), yE l = ((l.map (fun p => p.1)).all zX && decide ((l.map (fun p => p.1)).Nodup)) := fun l => by
  unfold yE
  rw [List.all_map]
  rfl
 rw [e, e, h.all_eq]
 congr 1
 exact decide_eq_decide.2 h.nodup_iff
theorem Zp : ∀ (n : Nat) (v : V n), zj n (zH n v) = zj n v
 | 0, v => nomatch v
 | n + 1, (v : VS (V n)) => by
  have ih := Zp n
  have e : ∀ u : VS (V n), zj (n + 1) u = (zE u && (u.l.all (zj n) && u.m.all (fun p => zj n p.2))) := fun u => by
   show (zE u && (u.l ++ u.m.map (fun p => p.2)).all (zj n)) = _
   rw [List.all_append, List.all_map]
   rfl
  rw [e v]
  rw [jb]
  rw [e]
  have ho : zE (⟨v.kind, v.num, v.s, v.l.map (zH n), (v.m.map (xF (zH n))).mergeSort leK⟩ : VS (V n)) = zE v := by
   refine own_same rfl rfl rfl ?_ ?_ ?_
   ·simp only [List.isEmpty_map]
   ·rw [Bool.eq_iff_iff]
    simp only [List.isEmpty_iff_length_eq_zero, List.length_mergeSort, List.length_map]
   ·refine (keys_perm ((ke v).map (fun p => p.1))).trans ?_
    unfold yE
    simp only [List.all_map, List.map_map, Function.comp_def, xF]
  rw [ho]
  simp only
  rw [(ke v).all_eq]
  simp only [List.all_map, Function.comp_def, xF, ih]
theorem Zj {n : Nat} (v : V n) : zi n (zH n v) = zi n v := by
 unfold zi
 rw [KP, j8, Zp]
def OrdV : (n : Nat) → V n → Prop
 | 0, _ => True
 | n + 1, (v : VS (V n)) => v.m.Pairwise (fun a b => leK a b = true) ∧ (∀ x, x ∈ v.l → OrdV n x) ∧ ∀ p, p ∈ v.m → OrdV n p.2
theorem QV : ∀ (n : Nat) (v : V n), OrdV n (zH n v)
 | 0, v => nomatch v
 | n + 1, (v : VS (V n)) => by
  have ih := QV n
  refine ⟨List.pairwise_mergeSort YO Y0 _, fun x hx => ?_, fun p hp => ?_⟩
  ·obtain ⟨y, _, rfl⟩ := List.mem_map.1 hx
   exact ih y
  ·have hp := (ke v).mem_iff.1 hp
   obtain ⟨y, _, rfl⟩ := List.mem_map.1 hp
   exact ih y.2
theorem jn : ∀ (n : Nat) (v : V n), OrdV n v → zH n v = v
 | 0, v, _ => nomatch v
 | n + 1, (v : VS (V n)), h => by
  obtain ⟨h1, h2, h3⟩ := h
  have e1 : v.l.map (zH n) = v.l := (List.map_congr_left fun x hx => jn n x (h2 x hx)).trans (List.map_id' _)
  have e2 : v.m.map (xF (zH n)) = v.m := (List.map_congr_left (g := id) fun p hp => Prod.ext (x := xF (zH n) p) (y := p) rfl (jn n p.2 (h3 p hp))).trans (List.map_id _)
  rw [jb, e1, e2, List.mergeSort_of_pairwise h1]
theorem JY (n : Nat) (v : V n) : zH n (zH n v) = zH n v := jn n _ (QV n v)
theorem YT (s : List UInt8) : (yr s).length ≤ 6 * s.length + 2 := by
 have h : (s.flatMap yk).length ≤ 6 * s.length := by
  induction s with
  | nil => simp
  | cons b s ih =>
   rw [List.flatMap_cons, List.length_append, List.length_cons]
   have : (yk b).length ≤ 6 := by
    unfold yk
    split
    ·simp
    ·split <;> simp
   omega
 unfold yr
 rw [List.length_cons, List.length_append]
 simp only [List.length_cons, List.length_nil]
 omega
theorem Zt : ∀ (l : List (List UInt8)), (zW l).length ≤ (l.map (fun x => x.length + 1)).sum
 | [] => Nat.le_refl _
 | [x] => by simp [zW]
 | x :: y :: l => by
  have := Zt (y :: l)
  have e : (zW (x :: y :: l)).length = x.length + ((zW (y :: l)).length + 1) := by simp [zW]
  rw [e, List.map_cons, List.sum_cons]
  omega
theorem QR (n : Int) (h : -9007199254740991 ≤ n ∧ n ≤ 9007199254740991) : (itoa n).length ≤ 21 := Lib.itoa_length_le n (by omega) (by omega)
theorem sum_lin {α : Type} (f g h : α → Nat) (a b : Nat) (l : List α) (hl : ∀ x, x ∈ l → f x ≤ a * g x + b * h x) : (l.map f).sum ≤ a * (l.map g).sum + b * (l.map h).sum := by
 rw [← Yy, ← Yy, ← YB]
 exact kf l hl
theorem J4 : ∀ (n : Nat) (v : V n), zj n v = true → (zo n v).length + 6 ≤ 6 * zw n v + 30 * ze n v
 | 0, v, _ => nomatch v
 | n + 1, (v : VS (V n)), h => by
  have ih := fun x (hx : x ∈ v.kids) => J4 n x (qZ h hx)
  have ec : ze (n + 1) v = 1 + ((v.l.map (ze n)).sum + (v.m.map (fun p => ze n p.2)).sum) := by rw [← xT]; rfl
  have eb : zw (n + 1) v = v.s.size + (v.m.map (fun p => p.1.size)).sum + ((v.l.map (zw n)).sum + (v.m.map (fun p => zw n p.2)).sum) := by rw [← xT]; rfl
  rw [YH]
  rcases kR (kL h) with ⟨h1, h2, h3, h4, h5⟩ | ⟨h1, h2, h3, h4, h5⟩ | ⟨h1, h2, h3, h4, h5⟩ | ⟨h1, h2, h3, h4, h5⟩ | ⟨h1, h2, h3, h5⟩ | ⟨h1, h2, h3, h4, h5⟩
  ·rw [if_pos h1]; simp only [List.length_cons, List.length_nil]; omega
  ·rw [if_neg (by omega), if_pos h1]
   split <;> (simp only [List.length_cons, List.length_nil]; omega)
  ·rw [if_neg (by omega), if_neg (by omega), if_pos h1]
   have := QR v.num h2
   omega
  ·rw [if_neg (by omega), if_neg (by omega), if_neg (by omega), if_pos h1]
   have := YT v.s.data.toList
   have e : v.s.data.toList.length = v.s.size := rfl
   omega
  ·rw [if_neg (by omega), if_neg (by omega), if_neg (by omega), if_neg (by omega), if_pos h1]
   have a := Zt (v.l.map (zo n))
   rw [List.map_map] at a
   have b := sum_lin ((fun x => x.length + 1) ∘ zo n) (zw n) (ze n) 6 30 v.l (fun x hx => by
    have := ih x (xY hx)
    show (zo n x).length + 1 ≤ _
    omega)
   rw [List.length_cons, List.length_append]
   simp only [List.length_cons, List.length_nil]
   omega
  ·rw [if_neg (by omega), if_neg (by omega), if_neg (by omega), if_neg (by omega), if_neg (by omega)]
   have a := Zt (v.m.map (qN (zo n)))
   rw [List.map_map] at a
   have b := sum_lin ((fun x => x.length + 1) ∘ qN (zo n)) (fun p => p.1.size + zw n p.2) (fun p => ze n p.2) 6 30 v.m (fun p hp => by
    have := ih p.2 (xV hp)
    have q := YT p.1.data.toList
    have e : p.1.data.toList.length = p.1.size := rfl
    show (yr p.1.data.toList ++ (58 :: zo n p.2)).length + 1 ≤ 6 * (p.1.size + zw n p.2) + 30 * ze n p.2
    rw [List.length_append, List.length_cons]
    omega)
   rw [YB] at b
   rw [List.length_cons, List.length_append]
   simp only [List.length_cons, List.length_nil]
   have e : (zW (v.m.map (fun p => yr p.1.data.toList ++ (58 :: zo n p.2)))).length = (zW (v.m.map (qN (zo n)))).length := rfl
   omega
open Go.Lib (decodeL decodeN)
theorem zaa : ∀ (k : Nat) (a b : List UInt8), a.length ≤ k → Lib.validD a = true → Lib.validD b = true → Lib.validD (a ++ b) = true := by
 intro k
 induction k with
 | zero =>
  intro a b h _ hb
  match a, h with
  | [], _ => exact hb
 | succ k ih =>
  intro a b h ha hb
  by_cases hne : a = []
  ·subst hne; exact hb
  obtain ⟨D, hv⟩ := validS ha hne
  revert D hv
  generalize (decodeL a).1 = v
  generalize (decodeL a).2 = j
  intro D hv
  have h1 := D.pos
  have h2 := D.le
  have e : a ++ b = a.take j ++ (a.drop j ++ b) := by rw [← List.append_assoc, List.take_append_drop]
  have hd := D.more (a.drop j ++ b)
  obtain ⟨hd1, _⟩ := Zc a (a.drop j ++ b) j h2
  rw [e, Lib.validD_step _ (by intro q; have := congrArg List.length q; rw [List.length_append, List.length_take, List.length_nil] at this; omega), hd]
  rw [if_neg, hd1]
  ·exact ih _ _ (by rw [List.length_drop]; omega) hv hb
  ·rintro ⟨q1, q2⟩
   have q1 : v = 65533 := q1
   have q2 : j = 1 := q2
   obtain ⟨g1, g2⟩ := D.one q2
   omega
theorem valid_taken {s : List UInt8} {v k : Nat} (D : ZR s v k) : Lib.validD (s.take k) = true := by
 have h1 := D.pos
 have h2 := D.le
 have hd := D.more []
 rw [List.append_nil] at hd
 rw [Lib.validD_step _ (by intro q; have := congrArg List.length q; rw [List.length_take, List.length_nil] at this; omega), hd, if_neg]
 ·have : (s.take k).drop k = [] := by rw [List.drop_eq_nil_iff, List.length_take]; omega
  show Lib.validD ((s.take k).drop k) = true
  rw [this]; rfl
 ·rintro ⟨q1, q2⟩
  have q1 : v = 65533 := q1
  have q2 : k = 1 := q2
  obtain ⟨g1, g2⟩ := D.one q2
  omega
theorem qE (a : Nat) (t : List UInt8) (h : a < 256) : gb (UInt8.ofNat a :: t) 0 = a := by
 show (UInt8.ofNat a).toNat = a
 rw [UInt8.toNat_ofNat']; omega
theorem YQ (x : UInt8) (a : Nat) (t : List UInt8) (h : a < 256) : gb (x :: UInt8.ofNat a :: t) 1 = a := qE a t h
theorem gb_two (x y : UInt8) (a : Nat) (t : List UInt8) (h : a < 256) : gb (x :: y :: UInt8.ofNat a :: t) 2 = a := qE a t h
theorem gb_three (x y z : UInt8) (a : Nat) (t : List UInt8) (h : a < 256) : gb (x :: y :: z :: UInt8.ofNat a :: t) 3 = a := qE a t h
theorem xR (c : Nat) (h : c < 55296 ∨ (57344 ≤ c ∧ c ≤ 1114111)) : decodeL (yh c) = (c, (yh c).length) ∧ 1 ≤ (yh c).length ∧ (yh c).length ≤ 4 ∧ (c < 65536 → (yh c).length ≤ 3) ∧ ((yh c).length = 1 → c < 128) := by
 rw [xI c h]
 by_cases c1 : c < 128
 ·rw [if_pos c1, xy, qE _ _ (by omega)]
  refine ⟨?_, Nat.le_refl _, by simp, fun _ => by simp, fun _ => c1⟩
  unfold decodeN
  rw [if_pos c1]; rfl
 rw [if_neg c1]
 by_cases c2 : c < 2048
 ·rw [if_pos c2, xy, qE _ _ (by omega), YQ _ _ _ (by omega)]
  refine ⟨?_, by simp, by simp, fun _ => by simp, fun q => by simp at q⟩
  unfold decodeN
  rw [if_neg (by omega), if_pos ⟨by omega, by simp, by omega⟩, if_pos (by omega)]
  exact Prod.ext (by show _ = c; omega) rfl
 rw [if_neg c2]
 by_cases c3 : c < 65536
 ·rw [if_pos c3, xy, qE _ _ (by omega), YQ _ _ _ (by omega), gb_two _ _ _ _ (by omega)]
  refine ⟨?_, by simp, by simp, fun _ => by simp, fun q => by simp at q⟩
  unfold decodeN
  rw [if_neg (by omega), if_neg (by omega), if_pos ⟨by omega, ⟨by simp, by omega⟩, by simp, by omega⟩, if_pos (by omega)]
  exact Prod.ext (by show _ = c; omega) rfl
 ·rw [if_neg c3, xy, qE _ _ (by omega), YQ _ _ _ (by omega), gb_two _ _ _ _ (by omega), gb_three _ _ _ _ _ (by omega)]
  refine ⟨?_, by simp, by simp, fun _ => by omega, fun q => by simp at q⟩
  unfold decodeN
  rw [if_neg (by omega), if_neg (by omega), if_neg (by omega), if_pos ⟨by omega, ⟨by simp, by omega⟩, ⟨by simp, by omega⟩, by simp, by omega⟩, if_pos (by omega)]
  exact Prod.ext (by show _ = c; omega) rfl
theorem valid_one {y : List UInt8} {c : Nat} (h1 : decodeL y = (c, y.length)) (h2 : 1 ≤ y.length) (h5 : y.length = 1 → c < 128) : Lib.validD y = true := by
 rw [Lib.validD_step _ (by intro q; rw [q] at h2; simp at h2), h1, if_neg]
 ·show Lib.validD (y.drop y.length) = true
  rw [List.drop_length]; rfl
 ·rintro ⟨q1, q2⟩
  have q1 : c = 65533 := q1
  have := h5 q2
  omega
theorem KM (c : Nat) (h : c < 55296 ∨ (57344 ≤ c ∧ c ≤ 1114111)) : Lib.validD (yh c) = true := by
 obtain ⟨h1, h2, _, _, h5⟩ := xR c h
 exact valid_one h1 h2 h5
theorem Qx {c : UInt8} {n : Nat} (h : kE c = some n) : n < 16 := by
 unfold kE at h
 split at h
 ·rename_i q; injection h with h; omega
 split at h
 ·rename_i q; injection h with h; omega
 split at h
 ·rename_i q; injection h with h; omega
 ·cases h
theorem hex4_lt {a b c d : UInt8} {n : Nat} (h : JH a b c d = some n) : n < 65536 := by
 unfold JH at h
 split at h
 ·rename_i h1 h2 h3 h4
  injection h with h
  have := Qx h1
  have := Qx h2
  have := Qx h3
  have := Qx h4
  omega
 ·cases h
theorem qY {s : List UInt8} {n : Nat} (h : qv s = some n) : n < 65536 ∧ 6 ≤ s.length := by
 unfold qv at h
 split at h
 ·split at h
  ·exact ⟨hex4_lt h, by simp only [List.length_cons]; omega⟩
  ·cases h
 ·cases h
theorem YW {s b : List UInt8} {n : Nat} (h : ja s = some (b, n)) : Lib.validD b = true ∧ b.length ≤ n ∧ 1 ≤ n ∧ n ≤ s.length := by
 unfold ja at h
 split at h
 ·rename_i x y t
  have hl : 2 ≤ (x :: y :: t).length := by simp only [List.length_cons]; omega
  revert hl
  generalize x :: y :: t = s at h
  intro hl
  iterate 8
   split at h
   ·injection h with h; injection h with h1 h2; subst h1; subst h2; exact ⟨by decide, by decide, by decide, hl⟩
  split at h
  ·cases h
  ·rename_i x hx
   obtain ⟨g1, g2⟩ := qY hx
   split at h
   ·rename_i hc
    injection h with h; injection h with h1 h2; subst h1; subst h2
    have hv : x < 55296 ∨ (57344 ≤ x ∧ x ≤ 1114111) := by omega
    obtain ⟨_, _, _, k4, _⟩ := xR x hv
    have := k4 g1
    exact ⟨KM x hv, by omega, by decide, g2⟩
   ·rename_i hc
    split at h
    ·cases h
    ·rename_i hc2
     split at h
     ·cases h
     ·rename_i z hz
      obtain ⟨_, g4⟩ := qY hz
      rw [List.length_drop] at g4
      split at h
      ·rename_i hc3
       injection h with h; injection h with h1 h2; subst h1; subst h2
       have hv : 65536 + (x - 55296) * 1024 + (z - 56320) < 55296 ∨ (57344 ≤ 65536 + (x - 55296) * 1024 + (z - 56320) ∧ 65536 + (x - 55296) * 1024 + (z - 56320) ≤ 1114111) := by omega
       obtain ⟨_, _, k3, _, _⟩ := xR _ hv
       exact ⟨KM _ hv, by omega, by decide, by omega⟩
      ·cases h
 ·cases h
theorem unqGo_facts : ∀ (f : Nat) (s acc t r : List UInt8), yV f s acc = .inr (t, r) → Lib.validD acc = true → Lib.validD t = true ∧ t.length + r.length < acc.length + s.length := by
 intro f
 induction f with
 | zero => intro s acc t r h; cases h
 | succ f ih =>
  intro s acc t r h hv
  unfold yV at h
  split at h
  ·cases h
  ·rename_i c r0
   split at h
   ·injection h with h; injection h with h1 h2; subst h1; subst h2
    exact ⟨hv, by simp only [List.length_cons]; omega⟩
   split at h
   ·cases h
   split at h
   ·split at h
    ·cases h
    ·rename_i b n he
     obtain ⟨e1, e2, e3, e4⟩ := YW he
     obtain ⟨i1, i2⟩ := ih _ _ _ _ h (zaa _ _ _ (Nat.le_refl _) hv e1)
     rw [List.length_append, List.length_drop] at i2
     exact ⟨i1, by omega⟩
   split at h
   ·cases h
   ·rename_i hb
    have D := kG (by intro q; cases q) hb
    revert D h
    generalize (decodeL (c :: r0)).1 = v
    generalize (decodeL (c :: r0)).2 = k
    intro h D
    have h1 := D.pos
    have h2 := D.le
    obtain ⟨i1, i2⟩ := ih _ _ _ _ h (zaa _ _ _ (Nat.le_refl _) hv (valid_taken D))
    rw [List.length_append, List.length_drop, List.length_take] at i2
    exact ⟨i1, by omega⟩
theorem bG {s t r : List UInt8} (h : qd s = .inr (t, r)) : Lib.validD t = true ∧ t.length + r.length < s.length := by
 unfold qd at h
 split at h
 ·cases h
 ·split at h
  ·obtain ⟨i1, i2⟩ := unqGo_facts _ _ _ _ _ h rfl
   exact ⟨i1, by simp only [List.length_cons, List.length_nil] at i2 ⊢; omega⟩
  ·cases h
theorem x7 (s : List UInt8) : (zp s).length ≤ s.length := (List.dropWhile_sublist _).length_le
theorem JR {s r : List UInt8} {n : Int} (h : qM s = .inr (n, r)) : (-9007199254740991 ≤ n ∧ n ≤ 9007199254740991) ∧ r.length ≤ s.length := by
 have hb : ∀ (m : Bool) (s : List UInt8), qH m s = .inr (n, r) → (-9007199254740991 ≤ n ∧ n ≤ 9007199254740991) ∧ r.length ≤ s.length := by
  intro m s h
  unfold qH at h
  simp only at h
  split at h
  ·cases h
  split at h
  ·cases h
  split at h
  ·cases h
  ·rename_i hr
   injection h with h; injection h with h1 h2
   subst h2
   rw [List.length_drop]
   refine ⟨?_, by omega⟩
   split at h1 <;> omega
 unfold qM at h
 split at h
 ·obtain ⟨h1, h2⟩ := hb _ _ h
  rw [List.length_tail] at h2
  exact ⟨h1, by omega⟩
 ·exact hb _ _ h
def ReadOk {α : Type} (good : α → Prop) (cnt byt : α → Nat) (sub : List UInt8 → Nat → Sum Int (α × List UInt8 × Nat)) : Prop :=
 ∀ s c v r c', sub s c = .inr (v, r, c') → good v ∧ c' = c + cnt v ∧ c' ≤ 4096 ∧ byt v + r.length ≤ s.length
section
variable {α : Type} {good : α → Prop} {cnt byt : α → Nat} {sub : List UInt8 → Nat → Sum Int (α × List UInt8 × Nat)}
theorem list_facts (hs : ReadOk good cnt byt sub) : ∀ (f : Nat) (s : List UInt8) (c : Nat) (acc l : List α) (r : List UInt8) (c' : Nat), vQ sub f s c acc = .inr (l, r, c') →
  ∃ l', l = acc ++ l' ∧ (∀ x, x ∈ l' → good x) ∧ c' = c + (l'.map cnt).sum ∧ c' ≤ 4096 ∧ (l'.map byt).sum + r.length ≤ s.length := by
 intro f
 induction f with
 | zero => intro s c acc l r c' h; cases h
 | succ f ih =>
  intro s c acc l r c' h
  unfold vQ at h
  split at h
  ·cases h
  ·rename_i v r0 c0 hv
   obtain ⟨g1, g2, g3, g4⟩ := hs _ _ _ _ _ hv
   split at h
   ·injection h with h; injection h with h1 h2; injection h2 with h2 h3; subst h1; subst h2; subst h3
    exact ⟨[v], rfl, fun x hx => List.mem_singleton.1 hx ▸ g1, by simpa using g2, g3, by simp [List.length_tail]; omega⟩
   split at h
   ·obtain ⟨l', e1, e2, e3, e4, e5⟩ := ih _ _ _ _ _ _ h
    refine ⟨v :: l', by rw [e1]; simp, fun x hx => ?_, by rw [List.map_cons, List.sum_cons]; omega, e4, ?_⟩
    ·rcases List.mem_cons.1 hx with rfl | hx
     ·exact g1
     ·exact e2 x hx
    ·rw [List.length_tail] at e5
     rw [List.map_cons, List.sum_cons]; omega
   ·cases h
theorem pairs_facts (hs : ReadOk good cnt byt sub) : ∀ (f : Nat) (s : List UInt8) (c : Nat) (acc l : List (ByteArray × α)) (r : List UInt8) (c' : Nat), kT sub f s c acc = .inr (l, r, c') → (acc.map (fun p => p.1)).Nodup →
  ∃ l', l = acc ++ l' ∧ (∀ x, x ∈ l' → good x.2 ∧ zX x.1 = true) ∧ (l.map (fun p => p.1)).Nodup ∧ c' = c + (l'.map (fun p => cnt p.2)).sum ∧ c' ≤ 4096 ∧ (l'.map (fun p => p.1.size + byt p.2)).sum + r.length ≤ s.length := by
 intro f
 induction f with
 | zero => intro s c acc l r c' h; cases h
 | succ f ih =>
  intro s c acc l r c' h hn
  unfold kT at h
  split at h
  ·cases h
  ·rename_i k r0 hk
   obtain ⟨k1, k2⟩ := bG hk
   have k3 := x7 s
   split at h
   ·cases h
   rename_i hany
   split at h
   ·split at h
    ·cases h
    ·rename_i v r1 c1 hv
     obtain ⟨g1, g2, g3, g4⟩ := hs _ _ _ _ _ hv
     have k4 := x7 r0
     rw [List.length_tail] at g4
     have hkey : zX (zg k) = true := by unfold zX; rw [zq]; exact k1
     have hsz : (zg k).size = k.length := by
      have e : (zg k).data.toList.length = (zg k).size := rfl
      rw [← e, zq]
     have hn' : ((acc ++ [(zg k, v)]).map (fun p => p.1)).Nodup := by
      rw [List.map_append, List.nodup_append]
      refine ⟨hn, by simp, fun a ha b hb e => ?_⟩
      obtain ⟨p, hp, rfl⟩ := List.mem_map.1 ha
      have hb : b = zg k := by simpa using hb
      exact hany (List.any_eq_true.2 ⟨p, hp, decide_eq_true (e.trans hb)⟩)
     split at h
     ·injection h with h; injection h with h1 h2; injection h2 with h2 h3; subst h1; subst h2; subst h3
      refine ⟨[(zg k, v)], rfl, fun x hx => by rw [List.mem_singleton.1 hx]; exact ⟨g1, hkey⟩, hn', by simpa using g2, g3, ?_⟩
      rw [List.length_tail]
      simp only [List.map_cons, List.map_nil, List.sum_cons, List.sum_nil]
      omega
     split at h
     ·obtain ⟨l', e1, e2, e3, e4, e5, e6⟩ := ih _ _ _ _ _ _ h hn'
      refine ⟨(zg k, v) :: l', by rw [e1]; simp, fun x hx => ?_, e3, by rw [List.map_cons, List.sum_cons]; simp only; omega, e5, ?_⟩
      ·rcases List.mem_cons.1 hx with rfl | hx
       ·exact ⟨g1, hkey⟩
       ·exact e2 x hx
      ·rw [List.length_tail] at e6
       rw [List.map_cons, List.sum_cons]
       simp only
       omega
     ·cases h
   ·cases h
end
theorem qq {n : Nat} (k m : Int) (s : ByteArray) : ze (n + 1) (kt k m s : VS (V n)) = 1 ∧ zw (n + 1) (kt k m s : VS (V n)) = s.size := ⟨rfl, by show s.size + 0 + 0 = s.size; omega⟩
theorem QJ {n : Nat} {v : VS (V n)} (h1 : zE v = true) (h2 : ∀ x, x ∈ v.kids → zj n x = true) : zj (n + 1) v = true := by
 show (zE v && v.kids.all (zj n)) = true
 rw [Bool.and_eq_true]
 exact ⟨h1, List.all_eq_true.2 h2⟩
theorem qm {n : Nat} {k m : Int} {s : ByteArray} (h : zE (kt k m s : VS (V n)) = true) : zj (n + 1) (kt k m s : VS (V n)) = true := QJ h (fun x hx => by cases hx)
theorem vC : ∀ (d : Nat), ReadOk (fun v => zj d v = true) (ze d) (zw d) (zr d) := by
 intro d
 induction d with
 | zero => intro s c v; exact nomatch v
 | succ d ih =>
  intro s c v r c' h
  unfold zr at h
  split at h
  ·cases h
  split at h
  ·cases h
  rename_i hb hc
  have hc : c + 1 ≤ 4096 := by omega
  split at h
  ·cases h
  ·rename_i v0 r0 c0 hr
   injection h with h; injection h with h1 h2; injection h2 with h2 h3; subst h1; subst h2; subst h3
   have hsk := x7 s
   have hsk2 := x7 r0
   have key : zj (d + 1) v0 = true ∧ c0 = c + ze (d + 1) v0 ∧ c0 ≤ 4096 ∧ zw (d + 1) v0 + r0.length ≤ (zp s).length := by
    clear hsk hsk2 hb
    generalize zp s = t at hr
    unfold yG at hr
    split at hr
    ·injection hr with h; injection h with h1 h2; injection h2 with h2 h3; subst h1; subst h2; subst h3
     exact ⟨qm rfl, rfl, hc, by rw [(qq _ _ _).2, List.length_drop]; show 0 + _ ≤ _; omega⟩
    split at hr
    ·injection hr with h; injection h with h1 h2; injection h2 with h2 h3; subst h1; subst h2; subst h3
     exact ⟨qm rfl, rfl, hc, by rw [(qq _ _ _).2, List.length_drop]; show 0 + _ ≤ _; omega⟩
    split at hr
    ·injection hr with h; injection h with h1 h2; injection h2 with h2 h3; subst h1; subst h2; subst h3
     exact ⟨qm rfl, rfl, hc, by rw [(qq _ _ _).2, List.length_drop]; show 0 + _ ≤ _; omega⟩
    split at hr
    ·split at hr
     ·cases hr
     ·rename_i k r1 hk
      injection hr with h; injection h with h1 h2; injection h2 with h2 h3; subst h1; subst h2; subst h3
      obtain ⟨k1, k2⟩ := bG hk
      have hkey : zX (zg k) = true := by unfold zX; rw [zq]; exact k1
      have hsz : (zg k).size = k.length := by
       have e : (zg k).data.toList.length = (zg k).size := rfl
       rw [← e, zq]
      refine ⟨qm ?_, rfl, hc, by rw [(qq _ _ _).2]; omega⟩
      show (zX (zg k) && true && true && true) = true
      rw [hkey]; rfl
    split at hr
    ·split at hr
     ·injection hr with h; injection h with h1 h2; injection h2 with h2 h3; subst h1; subst h2; subst h3
      refine ⟨qm rfl, rfl, hc, ?_⟩
      have := x7 t.tail
      rw [List.length_tail] at this
      rw [(qq _ _ _).2, List.length_tail]; show 0 + _ ≤ _; omega
     ·split at hr
      ·cases hr
      ·rename_i l r1 c1 hl
       injection hr with h; injection h with h1 h2; injection h2 with h2 h3; subst h1; subst h2; subst h3
       obtain ⟨l', e1, e2, e3, e4, e5⟩ := list_facts ih _ _ _ _ _ _ _ hl
       rw [List.nil_append] at e1
       subst e1
       have := x7 t.tail
       rw [List.length_tail] at this
       refine ⟨QJ rfl fun x hx => ?_, ?_, e4, ?_⟩
       ·exact e2 x (by simpa [VS.kids] using hx)
       ·have : ze (d + 1) (⟨5, 0, ⟨#[]⟩, l, []⟩ : VS (V d)) = 1 + ((l.map (ze d)).sum + 0) := by rw [← Nat.add_zero (List.sum _)]; show 1 + ((l ++ []).map (ze d)).sum = _; rw [List.append_nil]; omega
        omega
       ·have : zw (d + 1) (⟨5, 0, ⟨#[]⟩, l, []⟩ : VS (V d)) = (l.map (zw d)).sum := by show 0 + 0 + ((l ++ []).map (zw d)).sum = _; rw [List.append_nil]; omega
        omega
    split at hr
    ·split at hr
     ·injection hr with h; injection h with h1 h2; injection h2 with h2 h3; subst h1; subst h2; subst h3
      refine ⟨qm rfl, rfl, hc, ?_⟩
      have := x7 t.tail
      rw [List.length_tail] at this
      rw [(qq _ _ _).2, List.length_tail]; show 0 + _ ≤ _; omega
     ·split at hr
      ·cases hr
      ·rename_i l r1 c1 hl
       injection hr with h; injection h with h1 h2; injection h2 with h2 h3; subst h1; subst h2; subst h3
       obtain ⟨l', e1, e2, e3, e4, e5, e6⟩ := pairs_facts ih _ _ _ _ _ _ _ hl List.nodup_nil
       rw [List.nil_append] at e1
       subst e1
       have := x7 t.tail
       rw [List.length_tail] at this
       refine ⟨QJ ?_ fun x hx => ?_, ?_, e5, ?_⟩
       ·show (yE l && true && true && true) = true
        have : yE l = true := by
         unfold yE
         rw [Bool.and_eq_true]
         exact ⟨List.all_eq_true.2 fun p hp => (e2 p hp).2, decide_eq_true e3⟩
        rw [this]; rfl
       ·have hx : x ∈ l.map (fun p => p.2) := hx
        obtain ⟨p, hp, rfl⟩ := List.mem_map.1 hx
        exact (e2 p hp).1
       ·have : ze (d + 1) (⟨6, 0, ⟨#[]⟩, [], l⟩ : VS (V d)) = 1 + (l.map (fun p => ze d p.2)).sum := by show 1 + ((l.map (fun p => p.2)).map (ze d)).sum = _; rw [List.map_map]; rfl
        omega
       ·have : zw (d + 1) (⟨6, 0, ⟨#[]⟩, [], l⟩ : VS (V d)) = (l.map (fun p => p.1.size)).sum + (l.map (fun p => zw d p.2)).sum := by show 0 + (l.map (fun p => p.1.size)).sum + ((l.map (fun p => p.2)).map (zw d)).sum = _; rw [List.map_map, Nat.zero_add]; rfl
        rw [YB] at e6
        omega
    ·split at hr
     ·cases hr
     ·rename_i m r1 hm
      injection hr with h; injection h with h1 h2; injection h2 with h2 h3; subst h1; subst h2; subst h3
      obtain ⟨k1, k2⟩ := JR hm
      refine ⟨qm ?_, rfl, hc, by rw [(qq _ _ _).2]; show 0 + _ ≤ _; omega⟩
      show (decide (-9007199254740991 ≤ m ∧ m ≤ 9007199254740991) && true && true && true) = true
      rw [decide_eq_true k1]; rfl
   obtain ⟨k1, k2, k3, k4⟩ := key
   exact ⟨k1, k2, k3, by omega⟩
theorem parse_facts {b : List UInt8} {v : V 12} (h : yM b = .inr v) : zj 12 v = true ∧ ze 12 v ≤ 4096 ∧ zw 12 v ≤ b.length ∧ b.length ≤ 262144 := by
 unfold yM at h
 split at h
 ·cases h
 split at h
 ·cases h
 ·rename_i hl w r c hr
  split at h
  ·injection h with h; subst h
   obtain ⟨h1, h2, h3, h4⟩ := vC 12 _ _ _ _ _ hr
   exact ⟨h1, by omega, by omega, by omega⟩
  ·cases h
def bZ (b : List UInt8) : Sum Int (V 12) :=
 match yM b with
 | .inl e => .inl e
 | .inr v => if vf 12 v = (b, 0) then .inr v else .inl 60
theorem Qw {n : Nat} {v : V n} {b : List UInt8} : vf n v = (b, 0) ↔ zi n v = 0 ∧ (zo n (zH n v)).length ≤ 262144 ∧ b = zo n (zH n v) := by
 unfold vf
 split
 ·rename_i h
  exact ⟨fun e => absurd (Prod.mk.inj e).2 h, fun e => absurd e.1 h⟩
 ·rename_i h
  have h : zi n v = 0 := Decidable.of_not_not h
  split
  ·rename_i h2
   exact ⟨(fun e => absurd (Prod.mk.inj e).2 (by decide)), fun e => by omega⟩
  ·rename_i h2
   exact ⟨fun e => ⟨h, by omega, (Prod.mk.inj e).1.symm⟩, fun e => by rw [e.2.2]⟩
theorem dec_enc {v : V 12} {b : List UInt8} (h : vf 12 v = (b, 0)) : bZ b = .inr (zH 12 v) ∧ yM b = .inr (zH 12 v) ∧ vf 12 (zH 12 v) = (b, 0) := by
 obtain ⟨h1, h2, h3⟩ := Qw.1 h
 obtain ⟨c1, c2, c3⟩ := qu.1 ((Zj v).trans h1)
 have hp := parse_write c3 c2 h2
 rw [← h3] at hp
 have he : vf 12 (zH 12 v) = (b, 0) := Qw.2 ⟨(Zj v).trans h1, by rw [JY]; exact h2, by rw [JY]; exact h3⟩
 refine ⟨?_, hp, he⟩
 unfold bZ
 rw [hp]
 exact if_pos he
def qL : ByteArray := ⟨#[47]⟩
def yW (k : ByteArray) (l : List ByteArray) : List ByteArray := l.map (fun x => qL ++ k ++ x)
def ltB (a b : ByteArray) : Bool := decide (a.data.toList < b.data.toList)
section
variable {α : Type} (sub : α → α → List ByteArray)
def yy : Nat → List (ByteArray × α) → List (ByteArray × α) → List ByteArray
 | 0, _, _ => []
 | _ + 1, [], [] => []
 | f + 1, x :: a, [] => (qL ++ x.1) :: yy f a []
 | f + 1, [], y :: b => (qL ++ y.1) :: yy f [] b
 | f + 1, x :: a, y :: b => if ltB x.1 y.1 then (qL ++ x.1) :: yy f a (y :: b) else if ltB y.1 x.1 then (qL ++ y.1) :: yy f (x :: a) b else yW x.1 (sub x.2 y.2) ++ yy f a b
def xz : Nat → List α → List α → List ByteArray
 | _, [], _ => []
 | _, _, [] => []
 | i, x :: a, y :: b => yW (zg (itoa i)) (sub x y) ++ xz (i + 1) a b
end
def zY : (n : Nat) → V n → V n → List ByteArray
 | 0, _, _ => []
 | n + 1, (a : VS (V n)), (b : VS (V n)) =>
  if eqV (n + 1) a b then []
  else if a.kind = 6 ∧ b.kind = 6 then yy (zY n) (a.m.length + b.m.length) a.m b.m
  else if a.kind = 5 ∧ b.kind = 5 ∧ a.l.length = b.l.length then xz (zY n) 0 a.l b.l
  else [⟨#[]⟩]
def ZI (n : Nat) (a b : V n) : List ByteArray := if zi n a = 0 ∧ zi n b = 0 then zY n (zH n a) (zH n b) else []
theorem ltB_none {a b : ByteArray} (h1 : ¬ ltB a b = true) (h2 : ¬ ltB b a = true) : a = b := by
 unfold ltB at h1 h2
 rw [decide_eq_true_iff] at h1 h2
 exact qR (List.le_antisymm (List.not_lt.1 h2) (List.not_lt.1 h1))
theorem Qn : ∀ (l : List (List UInt8)) (x : List UInt8), zW (l ++ [x]) = if l = [] then x else zW l ++ 44 :: x
 | [], x => rfl
 | [a], x => rfl
 | a :: b :: t, x => by
  have ih := Qn (b :: t) x
  rw [if_neg (by simp)] at ih
  rw [if_neg (by simp)]
  show a ++ (44 :: zW (b :: t ++ [x])) = (a ++ (44 :: zW (b :: t))) ++ 44 :: x
  rw [ih]
  simp
def xD (it : Nat → List UInt8) (k : Nat) : List UInt8 := zW ((List.range k).map it)
theorem jI (it : Nat → List UInt8) : xD it 0 = [] := rfl
theorem KV (it : Nat → List UInt8) : xD it 1 = it 0 := rfl
theorem Y6 (it : Nat → List UInt8) {k : Nat} (h : 0 < k) : xD it (k + 1) = (xD it k ++ [44]) ++ it k := by
 unfold xD
 rw [List.range_succ, List.map_append, List.map_cons, List.map_nil, Qn, if_neg (by
  intro e
  have := congrArg List.length e
  simp at this
  omega)]
 simp
theorem Yr (it : Nat → List UInt8) (k : Nat) : (xD it (k + 1)).length = (xD it k).length + (if k = 0 then 0 else 1) + (it k).length := by
 rcases Nat.eq_zero_or_pos k with rfl | h
 ·rw [KV, jI]; simp
 ·rw [Y6 it h, if_neg (by omega)]
  simp only [List.length_append, List.length_cons, List.length_nil]
theorem ZQ (it : Nat → List UInt8) {k n : Nat} (h : k ≤ n) : (xD it k).length ≤ (xD it n).length := by
 induction n with
 | zero => obtain rfl : k = 0 := by omega
           exact Nat.le_refl _
 | succ n ih =>
  by_cases e : k = n + 1
  ·subst e; exact Nat.le_refl _
  ·have := ih (by omega)
   have := Yr it n
   omega
theorem preC_all {α : Type} (f : α → List UInt8) (xs : List α) : xD (fun k => (xs.map f).getD k []) xs.length = zW (xs.map f) := by
 unfold xD
 congr 1
 refine List.ext_getElem (by simp) fun i h1 h2 => ?_
 simp only [List.getElem_map, List.getElem_range]
 simp only [List.length_map, List.length_range] at h1
 simp [h1]
def qP (s : List UInt8) (n : Nat) : Int :=
 if n = 1 then gb s 0 else if n = 2 then 64 * ((gb s 0 : Int) - 192) + gb s 1 - 128
 else if n = 3 then 64 * (64 * ((gb s 0 : Int) - 224) + gb s 1 - 128) + gb s 2 - 128
 else 64 * (64 * (64 * ((gb s 0 : Int) - 240) + gb s 1 - 128) + gb s 2 - 128) + gb s 3 - 128
def Yv (c : Int) : Bool := decide (0 ≤ c) && decide (c ≤ 1114111) && (decide (c < 55296) || decide (57343 < c))
def qp : Nat → Nat → List UInt8 → Int × Nat
 | 0, _, _ => (-1, 0)
 | f + 1, n, s => if n ≤ 4 ∧ n ≤ s.length then (if Yv (qP s n) = true ∧ yh (qP s n).toNat = s.take n then (qP s n, n) else qp f (n + 1) s) else (-1, 0)
def xZ (s : List UInt8) : Int × Nat := if s = [] ∨ ((decodeL s).1 = 65533 ∧ (decodeL s).2 = 1) then (-1, 0) else ((decodeL s).1, (decodeL s).2)
theorem Z6 {c : Int} : Yv c = true ↔ ∃ m : Nat, c = m ∧ (m < 55296 ∨ (57344 ≤ m ∧ m ≤ 1114111)) := by
 unfold Yv
 simp only [Bool.and_eq_true, Bool.or_eq_true, decide_eq_true_eq]
 constructor
 ·intro h
  exact ⟨c.toNat, by omega, by omega⟩
 ·rintro ⟨m, rfl, h⟩
  omega
theorem gb_take {s : List UInt8} {k i : Nat} (h : i < k) : gb (s.take k) i = gb s i := by
 unfold gb
 rw [List.getD_eq_getElem?_getD, List.getD_eq_getElem?_getD, List.getElem?_take_of_lt h]
theorem code_of {s : List UInt8} {c k : Nat} (D : ZR s c k) : qP s k = c ∧ k ≤ 4 := by
 have hr := D.rune
 have hv := D.valid
 have hl : (s.take k).length = k := by rw [List.length_take]; have := D.le; omega
 have g : ∀ i, i < k → gb s i = gb (yh c) i := fun i hi => by rw [hr, gb_take hi]
 rw [← hr] at hl
 rw [xI c hv] at hl g
 clear hr
 by_cases c1 : c < 128
 ·rw [if_pos c1] at hl g
  have hk : k = 1 := hl.symm
  subst hk
  have g0 := g 0 (by omega)
  rw [qE _ _ (by omega)] at g0
  refine ⟨?_, by decide⟩
  unfold qP
  rw [if_pos rfl, g0]
 rw [if_neg c1] at hl g
 by_cases c2 : c < 2048
 ·rw [if_pos c2] at hl g
  have hk : k = 2 := hl.symm
  subst hk
  have g0 := g 0 (by omega)
  have g1 := g 1 (by omega)
  rw [qE _ _ (by omega)] at g0
  rw [YQ _ _ _ (by omega)] at g1
  refine ⟨?_, by decide⟩
  unfold qP
  rw [if_neg (by decide), if_pos rfl, g0, g1]
  omega
 rw [if_neg c2] at hl g
 by_cases c3 : c < 65536
 ·rw [if_pos c3] at hl g
  have hk : k = 3 := hl.symm
  subst hk
  have g0 := g 0 (by omega)
  have g1 := g 1 (by omega)
  have g2 := g 2 (by omega)
  rw [qE _ _ (by omega)] at g0
  rw [YQ _ _ _ (by omega)] at g1
  rw [gb_two _ _ _ _ (by omega)] at g2
  refine ⟨?_, by decide⟩
  unfold qP
  rw [if_neg (by decide), if_neg (by decide), if_pos rfl, g0, g1, g2]
  omega
 ·rw [if_neg c3] at hl g
  have hk : k = 4 := hl.symm
  subst hk
  have g0 := g 0 (by omega)
  have g1 := g 1 (by omega)
  have g2 := g 2 (by omega)
  have g3 := g 3 (by omega)
  rw [qE _ _ (by omega)] at g0
  rw [YQ _ _ _ (by omega)] at g1
  rw [gb_two _ _ _ _ (by omega)] at g2
  rw [gb_three _ _ _ _ _ (by omega)] at g3
  refine ⟨?_, by decide⟩
  unfold qP
  rw [if_neg (by decide), if_neg (by decide), if_neg (by decide), g0, g1, g2, g3]
  omega
theorem match_of {s : List UInt8} {c n : Nat} (hc : c < 55296 ∨ (57344 ≤ c ∧ c ≤ 1114111)) (hn : n ≤ s.length) (h : yh c = s.take n) : decodeL s = (c, n) ∧ ¬ (c = 65533 ∧ n = 1) ∧ s ≠ [] := by
 obtain ⟨h1, h2, h3, h4, h5⟩ := xR c hc
 have hl : (yh c).length = n := by rw [h, List.length_take]; omega
 rw [hl] at h1 h2 h5
 have hb : ¬ (c = 65533 ∧ n = 1) := fun q => by have := h5 q.2; omega
 have D := kG (l := yh c) (by intro q; rw [q] at hl; simp at hl; omega) (by rw [h1]; exact hb)
 rw [h1] at D
 have hm := D.more (s.drop n)
 have e : (yh c).take n = yh c := List.take_of_length_le (by omega)
 have hm : decodeL ((yh c).take n ++ s.drop n) = (c, n) := hm
 rw [e, h, List.take_append_drop] at hm
 exact ⟨hm, hb, by intro q; subst q; simp at hn; omega⟩
theorem nextGo_none : ∀ (f n : Nat) (s : List UInt8), (s = [] ∨ ((decodeL s).1 = 65533 ∧ (decodeL s).2 = 1)) → qp f n s = (-1, 0) := by
 intro f
 induction f with
 | zero => intro n s _; rfl
 | succ f ih =>
  intro n s h
  unfold qp
  split
  ·rename_i hn
   rw [if_neg, ih _ _ h]
   rintro ⟨q1, q2⟩
   obtain ⟨m, e, hm⟩ := Z6.1 q1
   rw [e, Int.toNat_natCast] at q2
   obtain ⟨g1, g2, g3⟩ := match_of hm hn.2 q2
   rcases h with h | h
   ·exact g3 h
   ·rw [g1] at h; exact g2 h
  ·rfl
theorem nextGo_some : ∀ (f n : Nat) (s : List UInt8) (c k : Nat), ZR s c k → ¬ (c = 65533 ∧ k = 1) → n ≤ k → k < n + f → qp f n s = ((c : Int), k) := by
 intro f
 induction f with
 | zero => intro n s c k _ _ h1 h2; omega
 | succ f ih =>
  intro n s c k D hb h1 h2
  obtain ⟨e, h4⟩ := code_of D
  have hle := D.le
  unfold qp
  rw [if_pos ⟨by omega, by omega⟩]
  by_cases hk : n = k
  ·subst hk
   rw [if_pos, e]
   rw [e, Int.toNat_natCast]
   exact ⟨Z6.2 ⟨c, rfl, D.valid⟩, D.rune⟩
  ·rw [if_neg]
   ·exact ih (n + 1) s c k D hb (by omega) (by omega)
   ·rintro ⟨q1, q2⟩
    obtain ⟨m, e, hm⟩ := Z6.1 q1
    rw [e, Int.toNat_natCast] at q2
    obtain ⟨g1, g2, g3⟩ := match_of hm (by omega) q2
    have := D.eq.symm.trans g1
    exact hk (Prod.mk.inj this).2.symm
theorem nextGo_eq (s : List UInt8) : qp 4 1 s = xZ s := by
 unfold xZ
 by_cases h : s = [] ∨ ((decodeL s).1 = 65533 ∧ (decodeL s).2 = 1)
 ·rw [if_pos h, nextGo_none _ _ _ h]
 ·rw [if_neg h]
  have D := kG (fun q => h (.inl q)) (fun q => h (.inr q))
  exact nextGo_some 4 1 s _ _ D (fun q => h (.inr q)) D.pos (by have := (code_of D).2; omega)
open Go.Lib (decodeL toLowerU toLowerD mapGoD encodeRune encodeRuneZ caseA caseT lookupIdx CaseRow)
def qf (c : UInt8) : Bool := decide (48 ≤ c.toNat ∧ c.toNat ≤ 57) || decide (97 ≤ c.toNat ∧ c.toNat ≤ 102)
def xK (c : UInt8) : Bool := (kE c).isSome
def yY (c : UInt8) : UInt8 := if 65 ≤ c.toNat ∧ c.toNat ≤ 90 then UInt8.ofNat (c.toNat + 32) else c
def rowFine (x : CaseRow) : Bool :=
 decide ((x.2.1 : Int) < 128) || (if x.delta 1 > 1114111 then decide (128 ≤ x.1) else
  decide ((0 : Int) ≤ max x.1 128 + x.delta 1) && (decide ((102 : Int) < max x.1 128 + x.delta 1) || (decide ((57 : Int) < max x.1 128 + x.delta 1) && decide ((x.2.1 : Int) + x.delta 1 < 97)) || decide ((x.2.1 : Int) + x.delta 1 < 48)))
theorem rows_fine : caseT.all rowFine = true := by decide +kernel
theorem lookup_row (T : Array CaseRow) (r : Int) : ∀ (f lo hi i : Nat), lookupIdx T r f lo hi = some i → ((T.getD i (0, 0, 0, 0, 0)).1 : Int) ≤ r ∧ r ≤ ((T.getD i (0, 0, 0, 0, 0)).2.1 : Int) := by
 intro f
 induction f with
 | zero => intro lo hi i h; cases h
 | succ f ih =>
  intro lo hi i h
  unfold lookupIdx at h
  split at h
  ·split at h
   ·rename_i hc
    injection h with h
    subst h
    exact hc
   ·split at h
    ·exact ih _ _ _ h
    ·exact ih _ _ _ h
  ·cases h
theorem JI (r : Int) (h : 128 ≤ r) : 0 ≤ toLowerU r ∧ ¬ (48 ≤ toLowerU r ∧ toLowerU r ≤ 57) ∧ ¬ (97 ≤ toLowerU r ∧ toLowerU r ≤ 102) := by
 unfold toLowerU
 rw [if_neg (by omega)]
 unfold Lib.toR Lib.lookupGo
 cases hl : lookupIdx caseA r (caseA.size + 1) 0 caseA.size with
 | none =>
  show 0 ≤ r ∧ ¬ (48 ≤ r ∧ r ≤ 57) ∧ ¬ (97 ≤ r ∧ r ≤ 102)
  omega
 | some i =>
  obtain ⟨h1, h2⟩ := lookup_row caseA r _ _ _ _ hl
  show 0 ≤ Lib.convertR 1 r (caseA.getD i (0, 0, 0, 0, 0)) ∧ ¬ (48 ≤ Lib.convertR 1 r (caseA.getD i (0, 0, 0, 0, 0)) ∧ Lib.convertR 1 r (caseA.getD i (0, 0, 0, 0, 0)) ≤ 57) ∧ ¬ (97 ≤ Lib.convertR 1 r (caseA.getD i (0, 0, 0, 0, 0)) ∧ Lib.convertR 1 r (caseA.getD i (0, 0, 0, 0, 0)) ≤ 102)
  have hf : rowFine (caseA.getD i (0, 0, 0, 0, 0)) = true := by
   by_cases hi : i < caseA.size
   ·have e : caseA.getD i (0, 0, 0, 0, 0) = caseA[i] := by simp [Array.getD, hi]
    rw [e]
    exact List.all_eq_true.1 rows_fine _ (by
     have : caseA[i] ∈ caseA.toList := Array.getElem_mem_toList hi
     exact this)
   ·have e : caseA.getD i (0, 0, 0, 0, 0) = (0, 0, 0, 0, 0) := by simp [Array.getD, hi]
    rw [e] at h2
    have h2 : r ≤ 0 := h2
    omega
  revert h1 h2 hf
  generalize caseA.getD i (0, 0, 0, 0, 0) = x
  intro h1 h2 hf
  unfold rowFine at hf
  unfold Lib.convertR
  split
  ·rename_i hd
   rw [if_pos hd] at hf
   simp only [Bool.or_eq_true, decide_eq_true_eq] at hf
   omega
  ·rename_i hd
   rw [if_neg hd] at hf
   simp only [Bool.or_eq_true, Bool.and_eq_true, decide_eq_true_eq] at hf
   omega
theorem byteZ (z : Int) (h0 : 0 ≤ z) (h1 : z < 256) : (z.toNat.toUInt8).toNat = z.toNat := by
 show (UInt8.ofNat z.toNat).toNat = z.toNat
 rw [UInt8.toNat_ofNat']; omega
theorem enc_far (z : Int) (h0 : 0 ≤ z) (h1 : ¬ (48 ≤ z ∧ z ≤ 57)) (h2 : ¬ (97 ≤ z ∧ z ≤ 102)) : (encodeRune z).all qf = false := by
 have key : ∀ (y : Int) (t : List Int), encodeRuneZ z = y :: t → 0 ≤ y → y < 256 → ¬ (48 ≤ y ∧ y ≤ 57) → ¬ (97 ≤ y ∧ y ≤ 102) → (encodeRune z).all qf = false := by
  intro y t e k0 k1 k2 k3
  unfold encodeRune
  rw [e, List.map_cons, List.all_cons]
  have : qf y.toNat.toUInt8 = false := by
   unfold qf
   rw [byteZ y k0 k1, Bool.or_eq_false_iff]
   exact ⟨decide_eq_false (by omega), decide_eq_false (by omega)⟩
  rw [this]; rfl
 by_cases c1 : z ≤ 127
 ·exact key z [] (Lib.encodeRuneZ_one h0 c1) h0 (by omega) h1 h2
 by_cases c2 : z ≤ 2047
 ·exact key _ _ (Lib.encodeRuneZ_two (by omega) c2) (by omega) (by omega) (by omega) (by omega)
 by_cases c3 : (2048 ≤ z ∧ z < 55296) ∨ (57343 < z ∧ z ≤ 65535)
 ·exact key _ _ (Lib.encodeRuneZ_three c3) (by omega) (by omega) (by omega) (by omega)
 by_cases c4 : 65536 ≤ z ∧ z ≤ 1114111
 ·exact key _ _ (Lib.encodeRuneZ_four c4.1 c4.2) (by omega) (by omega) (by omega) (by omega)
 ·exact key _ _ (Lib.encodeRuneZ_bad (by omega)) (by decide) (by decide) (by decide) (by decide)
theorem low_ascii : ∀ n : Fin 128, toLowerU (n.val : Int) = ((yY (UInt8.ofNat n.val)).toNat : Int) ∧ qf (yY (UInt8.ofNat n.val)) = xK (UInt8.ofNat n.val) ∧ kE (yY (UInt8.ofNat n.val)) = kE (UInt8.ofNat n.val) ∧ (yY (UInt8.ofNat n.val)).toNat < 128 := by decide +kernel
theorem low_byte (b : UInt8) (h : b.toNat < 128) : toLowerU (b.toNat : Int) = ((yY b).toNat : Int) ∧ qf (yY b) = xK b ∧ kE (yY b) = kE b ∧ (yY b).toNat < 128 := by
 have := low_ascii ⟨b.toNat, h⟩
 simp only [UInt8.ofNat_toNat] at this
 exact this
theorem Ke {b : UInt8} (h : 128 ≤ b.toNat) : xK b = false := by
 unfold xK kE
 rw [if_neg (by omega), if_neg (by omega), if_neg (by omega)]
 rfl
theorem enc_byte (b : UInt8) (h : b.toNat < 128) : encodeRune (b.toNat : Int) = [b] := by
 unfold encodeRune
 rw [Lib.encodeRuneZ_one (by omega) (by omega), List.map_cons, List.map_nil]
 congr 1
 show UInt8.ofNat ((b.toNat : Int).toNat) = b
 rw [Int.toNat_natCast, UInt8.ofNat_toNat]
theorem lower_go : ∀ (n : Nat) (l : List UInt8), l.length ≤ n → (mapGoD toLowerU n l).all qf = l.all xK ∧ (l.all xK = true → mapGoD toLowerU n l = l.map yY) := by
 intro n
 induction n with
 | zero =>
  intro l h
  match l, h with
  | [], _ => exact ⟨rfl, fun _ => rfl⟩
 | succ n ih =>
  intro l h
  by_cases hne : l = []
  ·subst hne; exact ⟨rfl, fun _ => rfl⟩
  unfold mapGoD
  rw [if_neg hne]
  by_cases hb : (decodeL l).1 = 65533 ∧ (decodeL l).2 = 1
  ·obtain ⟨f0, f1, f2⟩ := JI ((65533 : Nat) : Int) (by decide)
   have e1 : (decodeL l).1 = 65533 := hb.1
   rw [e1]
   show ((if 0 ≤ toLowerU ((65533 : Nat) : Int) then encodeRune (toLowerU ((65533 : Nat) : Int)) else []) ++ _).all qf = _ ∧ _
   rw [if_pos (by exact f0), List.all_append, enc_far _ f0 f1 f2, Bool.false_and]
   have hl : l.all xK = false := by
    match l, hne with
    | b :: t, _ =>
     have hb' : 128 ≤ b.toNat := by
      refine Nat.le_of_not_lt fun hc => ?_
      have : decodeL (b :: t) = (b.toNat, 1) := by
       rw [xy]
       unfold Lib.decodeN
       rw [if_pos (show gb (b :: t) 0 < 128 from hc)]
       rfl
      rw [this] at e1
      have e1 : b.toNat = 65533 := e1
      omega
     rw [List.all_cons, Ke hb', Bool.false_and]
   rw [hl]
   exact ⟨rfl, fun q => by cases q⟩
  ·have D := kG hne hb
   revert D
   generalize (decodeL l).1 = c
   generalize (decodeL l).2 = k
   intro D
   have h1 := D.pos
   have h2 := D.le
   by_cases hk : k = 1
   ·subst hk
    obtain ⟨g1, g2⟩ := D.one rfl
    match l, hne with
    | b :: t, _ =>
     have g1 : b.toNat < 128 := g1
     have g2 : c = b.toNat := g2
     subst g2
     obtain ⟨p1, p2, p3, p4⟩ := low_byte b g1
     obtain ⟨i1, i2⟩ := ih t (by simp only [List.length_cons] at h; omega)
     rw [p1, if_pos (by omega), enc_byte _ p4]
     show ([yY b] ++ mapGoD toLowerU n t).all qf = _ ∧ (_ → [yY b] ++ mapGoD toLowerU n t = _)
     rw [List.all_append, List.all_cons, List.all_nil, Bool.and_true, p2, i1, List.all_cons]
     refine ⟨rfl, fun q => ?_⟩
     rw [Bool.and_eq_true] at q
     rw [i2 q.2]; rfl
   ·have hh := D.high (by omega)
    have hc : 128 ≤ c := by
     have hr := D.rune
     refine Nat.le_of_not_lt fun hc => ?_
     have : (yh c).length = k := by rw [hr, List.length_take]; omega
     rw [xI c D.valid, if_pos hc] at this
     exact hk this.symm
    obtain ⟨f0, f1, f2⟩ := JI (c : Int) (by omega)
    rw [if_pos f0, List.all_append, enc_far _ f0 f1 f2, Bool.false_and]
    have hl : l.all xK = false := by
     match l, hne with
     | b :: t, _ =>
      have : 128 ≤ b.toNat := hh b (by
       match k, h1 with
       | k + 1, _ => rw [List.take_succ_cons]; exact List.mem_cons_self ..)
      rw [List.all_cons, Ke this, Bool.false_and]
    rw [hl]
    exact ⟨rfl, fun q => by cases q⟩
theorem lower_hex (l : List UInt8) : (toLowerD l).all qf = l.all xK ∧ (l.all xK = true → toLowerD l = l.map yY) := lower_go l.length l (Nat.le_refl _)
theorem ZW (b : UInt8) (h : xK b = true) : kE (yY b) = kE b ∧ qf (yY b) = true := by
 have hb : b.toNat < 128 := Nat.lt_of_not_le fun hc => by rw [Ke hc] at h; cases h
 obtain ⟨_, p2, p3, _⟩ := low_byte b hb
 exact ⟨p3, by rw [p2]; exact h⟩
open Go.Lib
theorem dw_nil {α : Type} (p : α → Bool) : ∀ (l : List α), l.dropWhile p = [] ↔ ∀ x, x ∈ l → p x = true
 | [] => by simp
 | a :: l => by
  rw [List.dropWhile_cons]
  by_cases h : p a = true
  ·rw [if_pos h, dw_nil p l]
   simp [h]
  ·rw [if_neg h]
   simp [h]
theorem JV (l cs : List UInt8) : trimS l cs = [] ↔ l.all (cs.contains ·) = true := by
 unfold trimS trimLeftS trimRightS
 rw [dw_nil, List.all_eq_true]
 constructor
 ·intro h
  have hz : (l.reverse.dropWhile (cs.contains ·)) = [] := by
   rcases Decidable.em ((l.reverse.dropWhile (cs.contains ·)) = []) with h1 | h1
   ·exact h1
   ·have h2 := List.head_dropWhile_not (cs.contains ·) h1
    rw [h _ (by simpa using List.head_mem h1)] at h2
    cases h2
  rw [dw_nil] at hz
  exact fun x hx => hz x (by simpa using hx)
 ·intro h x hx
  have hx' : x ∈ l.reverse.dropWhile (cs.contains ·) := by simpa using hx
  have := (List.dropWhile_sublist (cs.contains ·)).subset hx'
  exact h x (by simpa using this)
def x6 : List UInt8 := [48, 49, 50, 51, 52, 53, 54, 55, 56, 57, 97, 98, 99, 100, 101, 102]
theorem Yu (c : UInt8) : UInt8.ofNat c.toNat = c := by simp
theorem QX (c : UInt8) : x6.contains c = qf c := by
 have h : ∀ n : Fin 256, x6.contains (UInt8.ofNat n.val) = qf (UInt8.ofNat n.val) := by decide +kernel
 have := h ⟨c.toNat, c.toNat_lt⟩
 simpa [Yu] using this
def hv (c : UInt8) : Nat := (kE c).getD 0
theorem yF (c : UInt8) (hc : qf c = true) : indexByte x6 c = hv c ∧ hv c < 16 ∧ kE c = some (hv c) := by
 have h : ∀ n : Fin 256, qf (UInt8.ofNat n.val) = true → indexByte x6 (UInt8.ofNat n.val) = hv (UInt8.ofNat n.val) ∧ hv (UInt8.ofNat n.val) < 16 ∧ kE (UInt8.ofNat n.val) = some (hv (UInt8.ofNat n.val)) := by decide +kernel
 have := h ⟨c.toNat, c.toNat_lt⟩
 simp only [Yu] at this
 exact this hc
def xB : List UInt8 → List UInt8
 | a :: b :: r => UInt8.ofNat (hv a * 16 + hv b) :: xB r
 | _ => []
theorem QU : ∀ (l : List UInt8), (xB l).length = l.length / 2
 | [] => rfl
 | [_] => by simp [xB]
 | a :: b :: r => by
  have := QU r
  simp only [xB, List.length_cons]
  omega
def ZM : List UInt8 := [34, 92, 47, 98, 102, 110, 114, 116]
def escapedL : List UInt8 := [34, 92, 47, 8, 12, 10, 13, 9]
theorem J1 (y : UInt8) : (∃ (k : Nat) (e : UInt8), k < 8 ∧ indexByte ZM y = (k : Int) ∧ escapedL[k]? = some e ∧ e.toNat < 128 ∧ ∀ x r, ja (x :: y :: r) = some ([e], 2)) ∨
  (indexByte ZM y = -1 ∧ ∀ x r, ja (x :: y :: r) = match qv (x :: y :: r) with
   | none => none
   | some z =>
    if z < 55296 ∨ 57343 < z then some (yh z, 6)
    else if 56319 < z then none
    else match qv ((x :: y :: r).drop 6) with
     | none => none
     | some t => if 56320 ≤ t ∧ t ≤ 57343 then some (yh (65536 + (z - 55296) * 1024 + (t - 56320)), 12) else none) := by
 by_cases h0 : y = 34
 ·subst h0; exact .inl ⟨0, 34, by decide, by decide, rfl, by decide, fun _ _ => rfl⟩
 by_cases h1 : y = 92
 ·subst h1; exact .inl ⟨1, 92, by decide, by decide, rfl, by decide, fun _ _ => rfl⟩
 by_cases h2 : y = 47
 ·subst h2; exact .inl ⟨2, 47, by decide, by decide, rfl, by decide, fun _ _ => rfl⟩
 by_cases h3 : y = 98
 ·subst h3; exact .inl ⟨3, 8, by decide, by decide, rfl, by decide, fun _ _ => rfl⟩
 by_cases h4 : y = 102
 ·subst h4; exact .inl ⟨4, 12, by decide, by decide, rfl, by decide, fun _ _ => rfl⟩
 by_cases h5 : y = 110
 ·subst h5; exact .inl ⟨5, 10, by decide, by decide, rfl, by decide, fun _ _ => rfl⟩
 by_cases h6 : y = 114
 ·subst h6; exact .inl ⟨6, 13, by decide, by decide, rfl, by decide, fun _ _ => rfl⟩
 by_cases h7 : y = 116
 ·subst h7; exact .inl ⟨7, 9, by decide, by decide, rfl, by decide, fun _ _ => rfl⟩
 refine .inr ⟨?_, fun x r => ?_⟩
 ·have hn : ∀ v, y ≠ v → (v == y) = false := fun v h => by simpa using fun e : v = y => h e.symm
  unfold ZM
  simp [indexByte, hn 34 h0, hn 92 h1, hn 47 h2, hn 98 h3, hn 102 h4, hn 110 h5, hn 114 h6, hn 116 h7]
 ·conv => lhs; unfold ja
  simp only
  rw [if_neg h0, if_neg h1, if_neg h2, if_neg h3, if_neg h4, if_neg h5, if_neg h6, if_neg h7]
  all_goals rfl
theorem four_low (a b c d : UInt8) : (∃ n, JH a b c d = some n ∧ n < 65536 ∧ toLowerD [a, b, c, d] = [yY a, yY b, yY c, yY d] ∧ [yY a, yY b, yY c, yY d].all qf = true ∧ n = (hv (yY a) * 16 + hv (yY b)) * 256 + (hv (yY c) * 16 + hv (yY d))) ∨
  (JH a b c d = none ∧ (toLowerD [a, b, c, d]).all qf = false) := by
 obtain ⟨h1, h2⟩ := lower_hex [a, b, c, d]
 by_cases hall : [a, b, c, d].all xK = true
 ·have hl := h2 hall
  rw [hall, hl] at h1
  simp only [List.all_cons, List.all_nil, Bool.and_true, Bool.and_eq_true] at hall
  obtain ⟨ha, hb, hc, hd⟩ := hall
  obtain ⟨a1, a2⟩ := ZW a ha
  obtain ⟨b1, b2⟩ := ZW b hb
  obtain ⟨c1, c2⟩ := ZW c hc
  obtain ⟨d1, d2⟩ := ZW d hd
  obtain ⟨-, a3, a4⟩ := yF _ a2
  obtain ⟨-, b3, b4⟩ := yF _ b2
  obtain ⟨-, c3, c4⟩ := yF _ c2
  obtain ⟨-, d3, d4⟩ := yF _ d2
  refine .inl ⟨_, ?_, ?_, hl, h1, rfl⟩
  ·unfold JH
   rw [← a1, ← b1, ← c1, ← d1, a4, b4, c4, d4]
   simp only [Option.some.injEq]
   omega
  ·omega
 ·refine .inr ⟨?_, by rw [h1]; simpa using hall⟩
  simp only [List.all_cons, List.all_nil, Bool.and_true, Bool.and_eq_true] at hall
  unfold JH
  have hn : ∀ x : UInt8, ¬ xK x = true → kE x = none := fun x hx => by
   unfold xK at hx
   simpa using hx
  by_cases ha : xK a = true
  ·by_cases hb : xK b = true
   ·by_cases hc : xK c = true
    ·have hd : ¬ xK d = true := fun hd => hall ⟨ha, hb, hc, hd⟩
     rw [hn d hd]
     cases kE a <;> cases kE b <;> cases kE c <;> rfl
    ·rw [hn c hc]
     cases kE a <;> cases kE b <;> rfl
   ·rw [hn b hb]
    cases kE a <;> rfl
  ·rw [hn a ha]
theorem qJ (l : List UInt8) (c : UInt8) : 0 ≤ indexByte l c ↔ l.contains c = true := by
 induction l with
 | nil => simp [indexByte]
 | cons b l ih =>
  unfold indexByte
  have hge := indexByte_ge l c
  by_cases h : b = c
  ·subst h
   simp
  ·have h1 : (b == c) = false := by simpa using h
   have h2 : (b :: l).contains c = l.contains c := by
    simp only [List.contains_cons]
    have : (c == b) = false := by simpa using fun e : c = b => h e.symm
    rw [this, Bool.false_or]
   rw [h1, h2]
   simp only [Bool.false_eq_true, if_false]
   by_cases h3 : indexByte l c = -1
   ·rw [h3] at ih
    simp only [h3, beq_self_eq_true, if_true]
    exact ih
   ·have h4 : (indexByte l c == -1) = false := by simpa using h3
    rw [h4]
    simp only [Bool.false_eq_true, if_false]
    rw [← ih]
    omega
def zai : List UInt8 := [32, 9, 10, 13]
def Kt : List UInt8 := [48, 49, 50, 51, 52, 53, 54, 55, 56, 57]
theorem QF (c : UInt8) : zai.contains c = vD c := by
 have h : ∀ n : Fin 256, zai.contains (UInt8.ofNat n.val) = vD (UInt8.ofNat n.val) := by decide +kernel
 have := h ⟨c.toNat, c.toNat_lt⟩
 simpa [Yu] using this
theorem dig_contains (c : UInt8) : Kt.contains c = yH c := by
 have h : ∀ n : Fin 256, Kt.contains (UInt8.ofNat n.val) = yH (UInt8.ofNat n.val) := by decide +kernel
 have := h ⟨c.toNat, c.toNat_lt⟩
 simpa [Yu] using this
theorem trim_blanks (l : List UInt8) : trimLeftS l zai = zp l := by
 unfold trimLeftS zp
 congr 1
 funext c
 exact QF c
theorem trim_digits (l : List UInt8) : trimLeftS l Kt = l.dropWhile yH := by
 unfold trimLeftS
 congr 1
 funext c
 exact dig_contains c
theorem take_run (l : List UInt8) : l.takeWhile yH ++ l.dropWhile yH = l := List.takeWhile_append_dropWhile
theorem run_len (l : List UInt8) : (l.takeWhile yH).length = l.length - (l.dropWhile yH).length ∧ (l.dropWhile yH).length ≤ l.length := by
 have := congrArg List.length (take_run l)
 rw [List.length_append] at this
 omega
theorem left_app {α : Type} {a b l : List α} (h : a ++ b = l) : l.take a.length = a ∧ l.drop a.length = b := by subst h; simp
theorem run_take (l : List UInt8) : l.take (l.takeWhile yH).length = l.takeWhile yH ∧ l.drop (l.takeWhile yH).length = l.dropWhile yH := left_app (take_run l)
theorem drop_skip (s : List UInt8) (i : Nat) : ∃ k, i ≤ k ∧ (i ≤ s.length → k ≤ s.length) ∧ s.drop k = zp (s.drop i) ∧ k = i + ((s.drop i).length - (zp (s.drop i)).length) ∧ (zp (s.drop i)).length ≤ (s.drop i).length := by
 have hl : (zp (s.drop i)).length ≤ (s.drop i).length := (List.dropWhile_sublist _).length_le
 refine ⟨_, ?_, ?_, ?_, rfl, hl⟩
 ·omega
 ·intro h; rw [List.length_drop] at *; omega
 ·have h : (s.drop i).takeWhile vD ++ zp (s.drop i) = s.drop i := List.takeWhile_append_dropWhile
  have h2 := congrArg List.length h
  rw [List.length_append] at h2
  rw [← List.drop_drop]
  have e : (s.drop i).length - (zp (s.drop i)).length = ((s.drop i).takeWhile vD).length := by omega
  rw [e]
  exact (left_app h).2
theorem sum_take (s : List UInt8) (k : Nat) (h : k < s.length) : zI (s.take (k + 1)) = 10 * zI (s.take k) + (s[k].toNat - 48) := by
 rw [List.take_succ_eq_append_getElem h]
 unfold zI
 rw [List.foldl_append]
 rfl
theorem fold_ge : ∀ (s : List UInt8) (a : Nat), a ≤ s.foldl (fun a c => 10 * a + (c.toNat - 48)) a
 | [], a => Nat.le_refl _
 | c :: s, a => by
  have := fold_ge s (10 * a + (c.toNat - 48))
  simp only [List.foldl_cons]
  omega
theorem sum_mono (s : List UInt8) (k : Nat) : zI (s.take k) ≤ zI s := by
 conv => rhs; rw [← List.take_append_drop k s]
 unfold zI
 rw [List.foldl_append]
 exact fold_ge _ _
def qC {σ : Type} (step : List UInt8 → Nat → σ → Sum Int (σ × List UInt8 × Nat)) (stop : UInt8) : Nat → List UInt8 → Nat → σ → Sum Int (σ × List UInt8 × Nat)
 | 0, _, _, _ => .inl 50
 | f + 1, s, c, acc =>
  match step s c acc with
  | .inl e => .inl e
  | .inr (acc', r, c') => if r.head? = some stop then .inr (acc', r.tail, c') else if r.head? = some 44 then qC step stop f r.tail c' acc' else .inl 50
def yw {σ : Type} (step : List UInt8 → Nat → σ → Sum Int (σ × List UInt8 × Nat)) (stop : UInt8) (f : Nat) (s : List UInt8) (c : Nat) (acc : σ) : Sum Int (σ × List UInt8 × Nat) :=
 if (zp s).head? = some stop then .inr (acc, (zp s).tail, c) else qC step stop f (zp s) c acc
section
variable {α : Type} (sub : List UInt8 → Nat → Sum Int (α × List UInt8 × Nat))
def ym (s : List UInt8) (c : Nat) (acc : List α) : Sum Int (List α × List UInt8 × Nat) :=
 match sub s c with
 | .inl e => .inl e
 | .inr (v, r, c') => .inr (acc ++ [v], r, c')
def yj (s : List UInt8) (c : Nat) (acc : List (ByteArray × α)) : Sum Int (List (ByteArray × α) × List UInt8 × Nat) :=
 match qd (zp s) with
 | .inl e => .inl e
 | .inr (k, r) =>
  if acc.any (fun p => decide (p.1 = zg k)) then .inl 53
  else if (zp r).head? = some 58 then
   match sub (zp r).tail c with
   | .inl e => .inl e
   | .inr (v, r, c') => .inr (acc ++ [(zg k, v)], r, c')
  else .inl 50
theorem K0 : ∀ (f : Nat) (s : List UInt8) (c : Nat) (acc : List α), vQ sub f s c acc = qC (ym sub) 93 f s c acc
 | 0, _, _, _ => rfl
 | f + 1, s, c, acc => by
  unfold vQ qC
  have hs : ym sub s c acc = match sub s c with | .inl e => .inl e | .inr (v, r, c') => .inr (acc ++ [v], r, c') := rfl
  rw [hs]
  cases sub s c with
  | inl e => rfl
  | inr x =>
   obtain ⟨v, r, c'⟩ := x
   simp only [K0 f]
theorem Qc : ∀ (f : Nat) (s : List UInt8) (c : Nat) (acc : List (ByteArray × α)), kT sub f s c acc = qC (yj sub) 125 f s c acc
 | 0, _, _, _ => rfl
 | f + 1, s, c, acc => by
  unfold kT qC
  have hs : yj sub s c acc = match qd (zp s) with
   | .inl e => .inl e
   | .inr (k, r) =>
    if acc.any (fun p => decide (p.1 = zg k)) then .inl 53
    else if (zp r).head? = some 58 then
     match sub (zp r).tail c with
     | .inl e => .inl e
     | .inr (v, r, c') => .inr (acc ++ [(zg k, v)], r, c')
    else .inl 50 := rfl
  rw [hs]
  cases qd (zp s) with
  | inl e => rfl
  | inr x =>
   obtain ⟨k, r⟩ := x
   simp only
   by_cases h1 : acc.any (fun p => decide (p.1 = zg k)) = true
   ·rw [if_pos h1, if_pos h1]
   ·rw [if_neg h1, if_neg h1]
    by_cases h2 : (zp r).head? = some 58
    ·rw [if_pos h2, if_pos h2]
     cases sub (zp r).tail c with
     | inl e => rfl
     | inr y =>
      obtain ⟨v, r', c'⟩ := y
      simp only [Qc f]
    ·rw [if_neg h2, if_neg h2]
theorem pRead_items (s : List UInt8) (c : Nat) (hd : s.head? = some 91) : yG sub s c = match yw (ym sub) 93 (s.length + 1) s.tail c [] with | .inl e => .inl e | .inr (l, r, c') => .inr (⟨5, 0, ⟨#[]⟩, l, []⟩, r, c') := by
 cases s with
 | nil => cases hd
 | cons y t =>
  simp only [List.head?_cons, Option.some.injEq] at hd
  subst hd
  have h0 : yG sub (91 :: t) c = if (zp t).head? = some 93 then .inr (kt 5 0 ⟨#[]⟩, (zp t).tail, c) else match vQ sub ((91 :: t).length + 1) (zp t) c [] with | .inl e => .inl e | .inr (l, r, c') => .inr (⟨5, 0, ⟨#[]⟩, l, []⟩, r, c') := by
   unfold yG
   rw [if_neg (by simp [jO, List.isPrefixOf]), if_neg (by simp [jR, List.isPrefixOf]), if_neg (by simp [qS, List.isPrefixOf]), if_neg (by simp), if_pos (by simp)]
   rfl
  rw [h0, K0]
  show _ = (match yw (ym sub) 93 ((91 :: t).length + 1) t c [] with | .inl e => .inl e | .inr (l, r, c') => .inr (⟨5, 0, ⟨#[]⟩, l, []⟩, r, c') : Sum Int (VS α × List UInt8 × Nat))
  by_cases h : (zp t).head? = some 93
  ·have e1 : yw (ym sub) 93 ((91 :: t).length + 1) t c [] = Sum.inr ([], (zp t).tail, c) := if_pos h
   rw [e1]
   exact if_pos h
  ·have e1 : yw (ym sub) 93 ((91 :: t).length + 1) t c [] = qC (ym sub) 93 ((91 :: t).length + 1) (zp t) c [] := if_neg h
   rw [e1]
   exact if_neg h
theorem pRead_map (s : List UInt8) (c : Nat) (hd : s.head? = some 123) : yG sub s c = match yw (yj sub) 125 (s.length + 1) s.tail c [] with | .inl e => .inl e | .inr (l, r, c') => .inr (⟨6, 0, ⟨#[]⟩, [], l⟩, r, c') := by
 cases s with
 | nil => cases hd
 | cons y t =>
  simp only [List.head?_cons, Option.some.injEq] at hd
  subst hd
  have h0 : yG sub (123 :: t) c = if (zp t).head? = some 125 then .inr (kt 6 0 ⟨#[]⟩, (zp t).tail, c) else match kT sub ((123 :: t).length + 1) (zp t) c [] with | .inl e => .inl e | .inr (l, r, c') => .inr (⟨6, 0, ⟨#[]⟩, [], l⟩, r, c') := by
   unfold yG
   rw [if_neg (by simp [jO, List.isPrefixOf]), if_neg (by simp [jR, List.isPrefixOf]), if_neg (by simp [qS, List.isPrefixOf]), if_neg (by simp), if_neg (by simp), if_pos (by simp)]
   rfl
  rw [h0, Qc]
  show _ = (match yw (yj sub) 125 ((123 :: t).length + 1) t c [] with | .inl e => .inl e | .inr (l, r, c') => .inr (⟨6, 0, ⟨#[]⟩, [], l⟩, r, c') : Sum Int (VS α × List UInt8 × Nat))
  by_cases h : (zp t).head? = some 125
  ·have e1 : yw (yj sub) 125 ((123 :: t).length + 1) t c [] = Sum.inr ([], (zp t).tail, c) := if_pos h
   rw [e1]
   exact if_pos h
  ·have e1 : yw (yj sub) 125 ((123 :: t).length + 1) t c [] = qC (yj sub) 125 ((123 :: t).length + 1) (zp t) c [] := if_neg h
   rw [e1]
   exact if_neg h
end
open Go.Lib (decodeL)
def bf (m : Nat) : Prop := m < 55296 ∨ (57344 ≤ m ∧ m ≤ 1114111)
def jF (s : List UInt8) : Sum Int (List UInt8 × Nat) :=
 match s with
 | [] => .inl 31
 | c :: _ =>
  if c.toNat < 32 then .inl 31
  else if c = 92 then (match ja s with | none => .inl 31 | some x => .inr x)
  else if (decodeL s).1 = 65533 ∧ (decodeL s).2 = 1 then .inl 30
  else .inr (s.take (decodeL s).2, (decodeL s).2)
theorem unq_part (f : Nat) (s acc : List UInt8) (h : s.head? ≠ some 34) : yV (f + 1) s acc = match jF s with | .inl e => .inl e | .inr (b, n) => yV f (s.drop n) (acc ++ b) := by
 cases s with
 | nil => rfl
 | cons c r =>
  have h34 : ¬ c = 34 := fun e => h (by rw [e]; rfl)
  have e1 : yV (f + 1) (c :: r) acc = if c = 34 then .inr (acc, r) else if c.toNat < 32 then .inl 31 else if c = 92 then (match ja (c :: r) with | none => .inl 31 | some (b, n) => yV f ((c :: r).drop n) (acc ++ b)) else if (decodeL (c :: r)).1 = 65533 ∧ (decodeL (c :: r)).2 = 1 then .inl 30 else yV f ((c :: r).drop (decodeL (c :: r)).2) (acc ++ (c :: r).take (decodeL (c :: r)).2) := rfl
  have e2 : jF (c :: r) = if c.toNat < 32 then .inl 31 else if c = 92 then (match ja (c :: r) with | none => .inl 31 | some x => .inr x) else if (decodeL (c :: r)).1 = 65533 ∧ (decodeL (c :: r)).2 = 1 then .inl 30 else .inr ((c :: r).take (decodeL (c :: r)).2, (decodeL (c :: r)).2) := rfl
  rw [e1, e2, if_neg h34]
  by_cases h1 : c.toNat < 32
  ·rw [if_pos h1, if_pos h1]
  rw [if_neg h1, if_neg h1]
  by_cases h2 : c = 92
  ·rw [if_pos h2, if_pos h2]
   cases ja (c :: r) with
   | none => rfl
   | some x => obtain ⟨b, n⟩ := x; rfl
  rw [if_neg h2, if_neg h2]
  by_cases h3 : (decodeL (c :: r)).1 = 65533 ∧ (decodeL (c :: r)).2 = 1
  ·rw [if_pos h3, if_pos h3]
  ·rw [if_neg h3, if_neg h3]
theorem unq_quoteEnd (f : Nat) (s acc : List UInt8) (h : s.head? = some 34) : yV (f + 1) s acc = .inr (acc, s.tail) := by
 cases s with
 | nil => cases h
 | cons c r =>
  simp only [List.head?_cons, Option.some.injEq] at h
  subst h
  exact unq_end f r acc
theorem Q9 (e : UInt8) (h : e.toNat < 128) : yh e.toNat = [e] := by
 rw [xI _ (by omega), if_pos h, UInt8.ofNat_toNat]
theorem esc_rune {s b : List UInt8} {n : Nat} (h : ja s = some (b, n)) : ∃ m, bf m ∧ yh m = b := by
 match s, h with
 | [], h => cases h
 | [_], h => cases h
 | x :: y :: r, h =>
  rcases J1 y with ⟨k, e, -, -, -, h4, h5⟩ | ⟨-, h5⟩
  ·rw [h5] at h
   injection h with h; injection h with h1 h2
   subst h1
   exact ⟨e.toNat, .inl (by omega), Q9 e h4⟩
  ·rw [h5] at h
   split at h
   ·cases h
   ·split at h
    ·rename_i z hz hc
     injection h with h; injection h with h1 h2
     have := (qY hz).1
     exact ⟨z, by unfold bf; omega, h1⟩
    split at h
    ·cases h
    split at h
    ·cases h
    ·rename_i z hz hn hn2 t ht
     split at h
     ·injection h with h; injection h with h1 h2
      exact ⟨_, by unfold bf; omega, h1⟩
     ·cases h
theorem part_ok {s b : List UInt8} {n : Nat} (h : jF s = .inr (b, n)) : 1 ≤ n ∧ n ≤ s.length ∧ b ≠ [] ∧ b.length ≤ n ∧ ∃ m, bf m ∧ yh m = b := by
 have hne : ∀ m, bf m → yh m ≠ [] := fun m hm e => by
  have := (xR m hm).2.1
  rw [e] at this
  simp at this
 have hfin : (1 ≤ n ∧ n ≤ s.length ∧ b.length ≤ n) → (∃ m, bf m ∧ yh m = b) → 1 ≤ n ∧ n ≤ s.length ∧ b ≠ [] ∧ b.length ≤ n ∧ ∃ m, bf m ∧ yh m = b := by
  rintro ⟨a1, a2, a3⟩ ⟨m, m1, m2⟩
  exact ⟨a1, a2, by rw [← m2]; exact hne m m1, a3, m, m1, m2⟩
 unfold jF at h
 split at h
 ·cases h
 ·rename_i c r
  split at h
  ·cases h
  split at h
  ·split at h
   ·cases h
   ·rename_i x hx
    injection h with h
    subst h
    obtain ⟨e1, e2, e3, e4⟩ := YW hx
    exact hfin ⟨e3, e4, e2⟩ (esc_rune hx)
  split at h
  ·cases h
  ·rename_i hb
   injection h with h
   injection h with h1 h2
   subst h1 h2
   have D := kG (by simp) hb
   exact hfin ⟨D.pos, D.le, by rw [List.length_take]; omega⟩ ⟨_, D.valid, D.rune⟩
def vM (s : List UInt8) (k : Nat) (acc : List UInt8) : Prop := (k ≤ s.length ∧ acc.length ≤ k) ∧ ∃ f, (s.drop k).length < f ∧ yV f (s.drop k) acc = qd s
theorem vM.start {c : UInt8} {r : List UInt8} (h : c = 34) : vM (c :: r) 1 [] := by
 subst h
 exact ⟨⟨by simp, by simp⟩, r.length + 1, by simp, by unfold qd; simp⟩
theorem vM.done {s acc : List UInt8} {k : Nat} (h : vM s k acc) (hd : (s.drop k).head? = some 34) : qd s = .inr (acc, s.drop (k + 1)) ∧ k + 1 ≤ s.length := by
 obtain ⟨h0, f, h1, h2⟩ := h
 match f, h1 with
 | f + 1, h1 =>
  rw [← h2, unq_quoteEnd f _ _ hd, List.tail_drop]
  refine ⟨rfl, ?_⟩
  refine Nat.lt_of_not_le fun hc => ?_
  rw [List.drop_eq_nil_of_le hc] at hd
  cases hd
theorem vM.bad {s acc : List UInt8} {k : Nat} (h : vM s k acc) (hd : (s.drop k).head? ≠ some 34) {e : Int} (hp : jF (s.drop k) = .inl e) : qd s = .inl e := by
 obtain ⟨h0, f, h1, h2⟩ := h
 match f, h1 with
 | f + 1, h1 => rw [← h2, unq_part f _ _ hd, hp]
theorem vM.next {s acc b : List UInt8} {k n : Nat} (h : vM s k acc) (hd : (s.drop k).head? ≠ some 34) (hp : jF (s.drop k) = .inr (b, n)) : vM s (k + n) (acc ++ b) := by
 obtain ⟨h0, f, h1, h2⟩ := h
 obtain ⟨p1, p2, -, p3, -⟩ := part_ok hp
 rw [List.length_drop] at p2
 match f, h1 with
 | f + 1, h1 =>
  refine ⟨⟨by omega, by rw [List.length_append]; omega⟩, f, ?_, ?_⟩
  ·rw [List.length_drop] at h1 ⊢; omega
  ·rw [← h2, unq_part f _ _ hd, hp]
   show yV f (s.drop (k + n)) (acc ++ b) = yV f ((s.drop k).drop n) (acc ++ b)
   rw [List.drop_drop]
def vX (s : List UInt8) (e : Ending) : Prop :=
 match qd s with
 | .inr (t, r) => ∃ k, k ≤ s.length ∧ s.drop k = r ∧ 1 ≤ k ∧ e = .returned (.tuple #[.string (zg t), .int .i64 (k : Nat), .int .i64 0])
 | .inl x => ∃ k, k ≤ s.length ∧ e = .returned (.tuple #[.string ⟨#[]⟩, .int .i64 (k : Nat), .int .i64 x])
theorem unqAns_ok {s t r : List UInt8} {k : Nat} (h : qd s = .inr (t, r)) (h1 : k ≤ s.length) (h2 : s.drop k = r) (h3 : 1 ≤ k) : vX s (.returned (.tuple #[.string (zg t), .int .i64 (k : Nat), .int .i64 0])) := by
 unfold vX; rw [h]; exact ⟨k, h1, h2, h3, rfl⟩
theorem Ki {s : List UInt8} {x : Int} {k : Nat} (h : qd s = .inl x) (h1 : k ≤ s.length) : vX s (.returned (.tuple #[.string ⟨#[]⟩, .int .i64 (k : Nat), .int .i64 x])) := by
 unfold vX; rw [h]; exact ⟨k, h1, rfl⟩
theorem YM : ∀ (f : Nat) (s acc : List UInt8) (e : Int), yV f s acc = .inl e → e = 30 ∨ e = 31
 | 0, _, _, e, h => by injection h with h; omega
 | f + 1, s, acc, e, h => by
  unfold yV at h
  split at h
  ·injection h with h; omega
  split at h
  ·cases h
  split at h
  ·injection h with h; omega
  split at h
  ·split at h
   ·injection h with h; omega
   ·exact YM f _ _ e h
  split at h
  ·injection h with h; omega
  ·exact YM f _ _ e h
theorem unq_err {s : List UInt8} {e : Int} (h : qd s = .inl e) : e = 30 ∨ e = 31 := by
 unfold qd at h
 split at h
 ·injection h with h; omega
 split at h
 ·exact YM _ _ _ _ h
 ·injection h with h; omega
def K3 (r : List UInt8) : Bool := decide (r.head? = some 45)
def qA (r : List UInt8) : List UInt8 := if K3 r = true then r.tail else r
def qz (r : List UInt8) : List UInt8 := (qA r).takeWhile yH
theorem YJ (r : List UInt8) : qM r = qH (K3 r) (qA r) := by
 unfold qM qA K3
 by_cases h : r.head? = some 45
 ·rw [if_pos h, decide_eq_true h, if_pos rfl]
 ·rw [if_neg h, decide_eq_false h, if_neg (by decide)]
theorem num_none {r : List UInt8} (h : qz r = []) : qM r = .inl 50 := by
 rw [YJ]; unfold qH; exact if_pos (.inl h)
theorem num_zero {r t : List UInt8} (h : qz r = 48 :: t) (h2 : K3 r = true ∨ t ≠ []) : qM r = .inl 50 := by
 rw [YJ]; unfold qH
 refine if_pos (.inr ⟨by show (qz r).head? = _; rw [h]; rfl, ?_⟩)
 rcases h2 with h2 | h2
 ·exact .inl h2
 ·refine .inr ?_
  show 1 < (qz r).length
  rw [h, List.length_cons]
  have := List.length_pos_iff.2 h2
  omega
theorem QI {r t : List UInt8} {d : UInt8} (h : qz r = d :: t) (h2 : ¬ (d = 48 ∧ (K3 r = true ∨ t ≠ []))) :
  qM r = if ky ((qA r).drop (qz r).length) [46, 101, 69] = true then .inl 51 else if 9007199254740991 < zI (qz r) then .inl 52 else .inr (if K3 r = true then -(zI (qz r) : Int) else zI (qz r), (qA r).drop (qz r).length) := by
 rw [YJ]; unfold qH
 refine if_neg ?_
 rintro (h3 | ⟨h3, h4⟩)
 ·have h3' : qz r = [] := h3
  rw [h] at h3'
  cases h3'
 ·have h3' : (qz r).head? = some 48 := h3
  have h4' : K3 r = true ∨ 1 < (qz r).length := h4
  rw [h] at h3' h4'
  simp only [List.head?_cons, Option.some.injEq] at h3'
  refine h2 ⟨h3', ?_⟩
  rcases h4' with h4 | h4
  ·exact .inl h4
  ·refine .inr fun e => ?_
   rw [e] at h4
   simp at h4
theorem numD_dig (r : List UInt8) : ∀ c, c ∈ qz r → 48 ≤ c.toNat ∧ c.toNat ≤ 57 := by
 intro c hc
 have h : yH c = true := by
  have := List.all_takeWhile (p := yH) (l := qA r)
  exact List.all_eq_true.1 this c hc
 unfold yH at h
 simpa using h
abbrev PX := Sum Int (List UInt8 × Nat)
def Q0 (e : Int) : PX → PX | .inl x => .inl x | .inr _ => .inl e
def qQ : PX → List UInt8 | .inl _ => [] | .inr (r, _) => r
def qi : PX → PX | .inl e => .inl e | .inr (r, c) => .inr (zp r, c)
def Zu (w : List UInt8) : PX → Bool | .inl _ => false | .inr (r, _) => w.isPrefixOf r
def dropX (n : Nat) : PX → PX | .inl e => .inl e | .inr (r, c) => .inr (r.drop n, c)
def eatX (w : List UInt8) (x : PX) : PX := if Zu w x = true then dropX w.length x else x
def vO (w : List UInt8) (x : PX) : PX := if Zu w x = true then dropX w.length x else Q0 50 x
def YG : PX → List UInt8 | .inl _ => [] | .inr (r, _) => match qd r with | .inl _ => [] | .inr (t, _) => t
def Zy : PX → PX | .inl e => .inl e | .inr (r, c) => match qd r with | .inl e => .inl e | .inr (_, r') => .inr (r', c)
theorem ji (a : UInt8) (r : List UInt8) (c : Nat) : Zu [a] (.inr (r, c)) = decide (r.head? = some a) := by
 cases r with
 | nil => rfl
 | cons b t =>
  show List.isPrefixOf [a] (b :: t) = _
  simp only [List.isPrefixOf, Bool.and_true, List.head?_cons, Option.some.injEq]
  by_cases h : a = b
  ·subst h; simp
  ·have : ¬ b = a := fun e => h e.symm
   simp [h, this]
theorem QZ {w : List UInt8} {x : PX} (h : Zu w x = true) : eatX w x = dropX w.length x := if_pos h
theorem ZT {w : List UInt8} {x : PX} (h : Zu w x = false) : eatX w x = x := if_neg (by rw [h]; decide)
theorem zab {w : List UInt8} {x : PX} (h : Zu w x = true) : vO w x = dropX w.length x := if_pos h
theorem Z8 {w : List UInt8} {x : PX} (h : Zu w x = false) : vO w x = Q0 50 x := if_neg (by rw [h]; decide)
def Qu {σ : Type} (step : List UInt8 → Nat → σ → Sum Int (σ × List UInt8 × Nat)) (stop : UInt8) (R : Sum Int (σ × List UInt8 × Nat)) (s : List UInt8) (c : Nat) (acc : σ) : Prop := ∃ f, s.length < f ∧ qC step stop f s c acc = R
section
variable {σ : Type} {step : List UInt8 → Nat → σ → Sum Int (σ × List UInt8 × Nat)} {stop : UInt8} {R : Sum Int (σ × List UInt8 × Nat)} {s r : List UInt8} {c c' : Nat} {acc acc' : σ}
theorem Qu.bad (h : Qu step stop R s c acc) {e : Int} (hs : step s c acc = .inl e) : R = .inl e := by
 obtain ⟨f, h1, h2⟩ := h
 match f, h1 with
 | f + 1, h1 => rw [← h2]; unfold qC; rw [hs]
theorem Qu.done (h : Qu step stop R s c acc) (hs : step s c acc = .inr (acc', r, c')) (hr : r.head? = some stop) : R = .inr (acc', r.tail, c') := by
 obtain ⟨f, h1, h2⟩ := h
 match f, h1 with
 | f + 1, h1 => rw [← h2]; unfold qC; rw [hs]; exact if_pos hr
theorem Qu.next (h : Qu step stop R s c acc) (hs : step s c acc = .inr (acc', r, c')) (hn : r.head? ≠ some stop) (hr : r.head? = some 44) (hl : r.length ≤ s.length) : Qu step stop R r.tail c' acc' := by
 obtain ⟨f, h1, h2⟩ := h
 match f, h1 with
 | f + 1, h1 =>
  refine ⟨f, ?_, ?_⟩
  ·cases r with
   | nil => cases hr
   | cons a t => simp only [List.tail_cons, List.length_cons] at *; omega
  ·rw [← h2]
   conv => rhs; unfold qC
   rw [hs]
   simp only
   rw [if_neg hn, if_pos hr]
theorem Qu.other (h : Qu step stop R s c acc) (hs : step s c acc = .inr (acc', r, c')) (hn : r.head? ≠ some stop) (hr : r.head? ≠ some 44) : R = .inl 50 := by
 obtain ⟨f, h1, h2⟩ := h
 match f, h1 with
 | f + 1, h1 =>
  rw [← h2]
  unfold qC
  rw [hs]
  simp only
  rw [if_neg hn, if_neg hr]
end
theorem Qj {d : Nat} {s r : List UInt8} {c c' : Nat} {v : V d} (h : zr d s c = .inr (v, r, c')) : r.length ≤ s.length ∧ c' ≤ 4096 := by
 obtain ⟨h1, h2, h3, h4⟩ := vC d s c v r c' h
 exact ⟨by omega, h3⟩
theorem listStep_le {d : Nat} {s r : List UInt8} {c c' : Nat} {acc acc' : List (V d)} (h : ym (zr d) s c acc = .inr (acc', r, c')) : r.length ≤ s.length ∧ c' ≤ 4096 := by
 unfold ym at h
 split at h
 ·cases h
 ·rename_i v r0 c0 hv
  injection h with h; injection h with h1 h2; injection h2 with h2 h3; subst h2; subst h3
  exact Qj hv
theorem pairStep_le {d : Nat} {s r : List UInt8} {c c' : Nat} {acc acc' : List (ByteArray × V d)} (h : yj (zr d) s c acc = .inr (acc', r, c')) : r.length ≤ s.length ∧ c' ≤ 4096 := by
 unfold yj at h
 split at h
 ·cases h
 ·rename_i k r0 hk
  split at h
  ·cases h
  split at h
  ·split at h
   ·cases h
   ·rename_i v r1 c1 hv
    injection h with h; injection h with h1 h2; injection h2 with h2 h3; subst h2; subst h3
    obtain ⟨h4, h5⟩ := Qj hv
    have h6 := (bG hk).2
    have h7 := x7 s
    have h8 := x7 r0
    rw [List.length_tail] at h4
    exact ⟨by omega, h5⟩
  ·cases h
theorem ZO (k : ByteArray) (l : List ByteArray) : (yW k l).length = l.length := by unfold yW; rw [List.length_map]
theorem maps_few {α : Type} {sub : α → α → List ByteArray} {cnt : α → Nat} (h : ∀ x y, (sub x y).length ≤ cnt x + cnt y) (hc : ∀ x, 1 ≤ cnt x) :
  ∀ (f : Nat) (a b : List (ByteArray × α)), (yy sub f a b).length ≤ (a.map (fun p => cnt p.2)).sum + (b.map (fun p => cnt p.2)).sum := by
 intro f
 induction f with
 | zero => intro a b; exact Nat.zero_le _
 | succ f ih =>
  intro a b
  match a, b with
  | [], [] => exact Nat.zero_le _
  | x :: a, [] =>
   show ((qL ++ x.1) :: yy sub f a []).length ≤ _
   have := ih a []
   have := hc x.2
   simp only [List.length_cons, List.map_cons, List.sum_cons, List.map_nil, List.sum_nil] at *
   omega
  | [], y :: b =>
   show ((qL ++ y.1) :: yy sub f [] b).length ≤ _
   have := ih [] b
   have := hc y.2
   simp only [List.length_cons, List.map_cons, List.sum_cons, List.map_nil, List.sum_nil] at *
   omega
  | x :: a, y :: b =>
   unfold yy
   split
   ·have := ih a (y :: b)
    have := hc x.2
    simp only [List.length_cons, List.map_cons, List.sum_cons] at *
    omega
   split
   ·have := ih (x :: a) b
    have := hc y.2
    simp only [List.length_cons, List.map_cons, List.sum_cons] at *
    omega
   ·have := ih a b
    have h2 := h x.2 y.2
    rw [List.length_append, ZO]
    simp only [List.map_cons, List.sum_cons] at *
    omega
theorem list_few {α : Type} {sub : α → α → List ByteArray} {cnt : α → Nat} (h : ∀ x y, (sub x y).length ≤ cnt x + cnt y) :
  ∀ (a b : List α) (i : Nat), (xz sub i a b).length ≤ (a.map cnt).sum + (b.map cnt).sum
 | [], _, _ => by simp [xz]
 | _ :: _, [], _ => by simp [xz]
 | x :: a, y :: b, i => by
  have := list_few h a b (i + 1)
  have h2 := h x y
  unfold xz
  rw [List.length_append, ZO]
  simp only [List.map_cons, List.sum_cons]
  omega
theorem count_one {n : Nat} (x : V n) : 1 ≤ ze n x := by
 rcases vo (n := n) (v := x) with h | h
 ·subst h; exact nomatch x
 ·exact h
theorem jU {n : Nat} (a b : VS (V n)) : zY (n + 1) a b = if eqV (n + 1) a b then [] else if a.kind = 6 ∧ b.kind = 6 then yy (zY n) (a.m.length + b.m.length) a.m b.m
  else if a.kind = 5 ∧ b.kind = 5 ∧ a.l.length = b.l.length then xz (zY n) 0 a.l b.l else [⟨#[]⟩] := rfl
theorem bJ : ∀ (n : Nat) (a b : V n), (zY n a b).length ≤ ze n a + ze n b
 | 0, a, _ => nomatch a
 | n + 1, (a : VS (V n)), (b : VS (V n)) => by
  have ih := bJ n
  have ca : ze (n + 1) a = 1 + ((a.l.map (ze n)).sum + (a.m.map (fun p => ze n p.2)).sum) := by rw [← xT]; rfl
  have cb : ze (n + 1) b = 1 + ((b.l.map (ze n)).sum + (b.m.map (fun p => ze n p.2)).sum) := by rw [← xT]; rfl
  rw [jU]
  split
  ·exact Nat.zero_le _
  split
  ·have h1 := maps_few (sub := zY n) (cnt := ze n) ih count_one (a.m.length + b.m.length) a.m b.m
   omega
  split
  ·have h1 := list_few (sub := zY n) (cnt := ze n) ih a.l b.l 0
   omega
  ·simp only [List.length_cons, List.length_nil]; omega
theorem kV : qL.size = 1 := rfl
theorem Qb {k : ByteArray} {l : List ByteArray} {A B : Nat} (hk : k.size ≤ A) (h : ∀ x, x ∈ l → x.size ≤ B) : ∀ x, x ∈ yW k l → x.size ≤ 1 + A + B := by
 intro x hx
 obtain ⟨y, hy, rfl⟩ := List.mem_map.1 hx
 rw [ByteArray.size_append, ByteArray.size_append, kV]
 have := h y hy
 omega
theorem maps_short {α : Type} {sub : α → α → List ByteArray} {A B : Nat} : ∀ (f : Nat) (a b : List (ByteArray × α)), (∀ p, p ∈ a → p.1.size ≤ A) → (∀ p, p ∈ b → p.1.size ≤ A) → (∀ p q, p ∈ a → q ∈ b → ∀ x, x ∈ sub p.2 q.2 → x.size ≤ B) →
  ∀ x, x ∈ yy sub f a b → x.size ≤ 1 + A + B := by
 intro f
 induction f with
 | zero => intro a b _ _ _ x hx; cases hx
 | succ f ih =>
  intro a b ha hb h x hx
  match a, b with
  | [], [] => cases hx
  | u :: a, [] =>
   rcases List.mem_cons.1 hx with rfl | hx
   ·rw [ByteArray.size_append, kV]; have := ha u (List.mem_cons_self ..); omega
   ·exact ih a [] (fun p hp => ha p (List.mem_cons_of_mem _ hp)) hb (fun p q hp hq => h p q (List.mem_cons_of_mem _ hp) hq) x hx
  | [], v :: b =>
   rcases List.mem_cons.1 hx with rfl | hx
   ·rw [ByteArray.size_append, kV]; have := hb v (List.mem_cons_self ..); omega
   ·exact ih [] b ha (fun p hp => hb p (List.mem_cons_of_mem _ hp)) (fun p q hp hq => h p q hp (List.mem_cons_of_mem _ hq)) x hx
  | u :: a, v :: b =>
   unfold yy at hx
   split at hx
   ·rcases List.mem_cons.1 hx with rfl | hx
    ·rw [ByteArray.size_append, kV]; have := ha u (List.mem_cons_self ..); omega
    ·exact ih a (v :: b) (fun p hp => ha p (List.mem_cons_of_mem _ hp)) hb (fun p q hp hq => h p q (List.mem_cons_of_mem _ hp) hq) x hx
   split at hx
   ·rcases List.mem_cons.1 hx with rfl | hx
    ·rw [ByteArray.size_append, kV]; have := hb v (List.mem_cons_self ..); omega
    ·exact ih (u :: a) b ha (fun p hp => hb p (List.mem_cons_of_mem _ hp)) (fun p q hp hq => h p q hp (List.mem_cons_of_mem _ hq)) x hx
   ·rcases List.mem_append.1 hx with hx | hx
    ·exact Qb (ha u (List.mem_cons_self ..)) (h u v (List.mem_cons_self ..) (List.mem_cons_self ..)) x hx
    ·exact ih a b (fun p hp => ha p (List.mem_cons_of_mem _ hp)) (fun p hp => hb p (List.mem_cons_of_mem _ hp)) (fun p q hp hq => h p q (List.mem_cons_of_mem _ hp) (List.mem_cons_of_mem _ hq)) x hx
theorem QL {α : Type} {sub : α → α → List ByteArray} {B M : Nat} (hM : M ≤ 1000000) : ∀ (a b : List α) (i : Nat), i + a.length ≤ M → (∀ p q, p ∈ a → q ∈ b → ∀ x, x ∈ sub p q → x.size ≤ B) → ∀ x, x ∈ xz sub i a b → x.size ≤ 1 + 21 + B
 | [], _, _, _, _, _, hx => by simp [xz] at hx
 | _ :: _, [], _, _, _, _, hx => by simp [xz] at hx
 | u :: a, v :: b, i, hi, h, x, hx => by
  unfold xz at hx
  rw [List.length_cons] at hi
  rcases List.mem_append.1 hx with hx | hx
  ·refine Qb ?_ (h u v (List.mem_cons_self ..) (List.mem_cons_self ..)) x hx
   have := QR (i : Int) (by omega)
   simpa [zg, ByteArray.size] using this
  ·exact QL hM a b (i + 1) (by omega) (fun p q hp hq => h p q (List.mem_cons_of_mem _ hp) (List.mem_cons_of_mem _ hq)) x hx
theorem vZ : ∀ (n : Nat) (a b : V n), zZ n a → zZ n b → ∀ x, x ∈ zY n a b → x.size ≤ n * 500000
 | 0, a, _, _, _, _, _ => nomatch a
 | n + 1, (a : VS (V n)), (b : VS (V n)), ha, hb, x, hx => by
  have ih := vZ n
  rw [jU] at hx
  split at hx
  ·cases hx
  split at hx
  ·have h1 := maps_short (A := 400000) (B := n * 500000) (sub := zY n) _ a.m b.m (fun p hp => by have := ZG hp; have := ha.2; omega) (fun p hp => by have := ZG hp; have := hb.2; omega) (fun p q hp hq => ih p.2 q.2 (ha.kid (xV hp)) (hb.kid (xV hq))) x hx
   rw [Nat.succ_mul]; omega
  split at hx
  ·have hl : a.l.length ≤ 20000 := by have := Q7 a; have := ha.1; omega
   have h1 := QL (M := 20000) (B := n * 500000) (sub := zY n) (by decide) a.l b.l 0 (by omega) (fun p q hp hq => ih p q (ha.kid (xY hp)) (hb.kid (xY hq))) x hx
   rw [Nat.succ_mul]; omega
  ·rcases List.mem_singleton.1 hx with rfl
   exact Nat.zero_le _
structure b8 (n : Nat) (v : V n) : Prop where
 few : zZ n v
 chk : zi n v = 0
 ord : OrdV n v
theorem b8.kid {n : Nat} {v : VS (V n)} (h : b8 (n + 1) v) {x : V n} (hx : x ∈ v.kids) : b8 n x := by
 obtain ⟨c1, c2, c3⟩ := qu.1 h.chk
 refine ⟨h.few.kid hx, qu.2 ⟨by have := QY hx; omega, by have := QQ hx; omega, qZ c3 hx⟩, ?_⟩
 obtain ⟨-, o2, o3⟩ := h.ord
 rcases List.mem_append.1 hx with hx | hx
 ·exact o2 x hx
 ·obtain ⟨p, hp, rfl⟩ := List.mem_map.1 hx
  exact o3 p hp
theorem JU {n : Nat} {v : V n} (hs : zZ n v) (hc : zi n v = 0) : b8 n (zH n v) :=
 ⟨⟨by rw [j8]; exact hs.1, by rw [ZD]; exact hs.2⟩, (Zj v).trans hc, QV n v⟩
def jT (n : Nat) (k : Int) : V (n + 3) := (⟨6, 0, ⟨#[]⟩, [], [(⟨#[98]⟩, (⟨5, 0, ⟨#[]⟩, [(⟨3, k, ⟨#[]⟩, [], []⟩ : VS (V n))], []⟩ : VS (V (n + 1)))), (⟨#[97]⟩, (⟨4, 0, ⟨#[120]⟩, [], []⟩ : VS (V (n + 1))))]⟩ : VS (V (n + 2)))
def oneS (n : Nat) (k : Int) : V (n + 3) := (⟨6, 0, ⟨#[]⟩, [], [(⟨#[97]⟩, (⟨4, 0, ⟨#[120]⟩, [], []⟩ : VS (V (n + 1)))), (⟨#[98]⟩, (⟨5, 0, ⟨#[]⟩, [(⟨3, k, ⟨#[]⟩, [], []⟩ : VS (V n))], []⟩ : VS (V (n + 1))))]⟩ : VS (V (n + 2)))
def mapA (n : Nat) : V (n + 2) := (⟨6, 0, ⟨#[]⟩, [], [(⟨#[97]⟩, (⟨3, 1, ⟨#[]⟩, [], []⟩ : VS (V n)))]⟩ : VS (V (n + 1)))
def YD : List UInt8 := [123, 34, 97, 34, 58, 34, 120, 34, 44, 34, 98, 34, 58, 91, 49, 93, 125]
def Kr : List UInt8 := [123, 34, 97, 34, 58, 32, 49, 125]
def KK : List UInt8 := [123, 34, 97, 34, 58, 49]
theorem QM {n : Nat} {k m : Int} {s : ByteArray} : OrdV (n + 1) (⟨k, m, s, [], []⟩ : VS (V n)) := ⟨List.Pairwise.nil, fun _ h => absurd h (by simp), fun _ h => absurd h (by simp)⟩
theorem ord_one {n : Nat} {k m : Int} {s : ByteArray} {x : V n} (h : OrdV n x) : OrdV (n + 1) (⟨k, m, s, [x], []⟩ : VS (V n)) := ⟨List.Pairwise.nil, fun y hy => by rcases List.mem_singleton.1 hy with rfl; exact h, fun _ h => absurd h (by simp)⟩
theorem sort_two {α : Type} (x y : α) : List.mergeSort [((⟨#[98]⟩ : ByteArray), x), (⟨#[97]⟩, y)] leK = [(⟨#[97]⟩, y), (⟨#[98]⟩, x)] := by
 refine Ze ((List.mergeSort_perm _ _).trans (List.Perm.swap _ _ _)) (List.pairwise_mergeSort YO Y0 _) ?_ ?_
 ·exact List.pairwise_cons.2 ⟨fun z hz => by rcases List.mem_singleton.1 hz with rfl; exact (by decide : decide ((⟨#[97]⟩ : ByteArray).data.toList ≤ (⟨#[98]⟩ : ByteArray).data.toList) = true), List.pairwise_singleton _ _⟩
 ·exact ((List.mergeSort_perm _ _).map _).nodup_iff.2 (by simp)
theorem kK (k : Int) : zH 12 (jT 9 k) = oneS 9 k := by
 have h0 : zH 12 (jT 9 k) = (⟨6, 0, ⟨#[]⟩, [], ((jT 9 k : VS (V 11)).m.map (xF (zH 11))).mergeSort leK⟩ : VS (V 11)) := jb (n := 11) (jT 9 k)
 rw [h0]
 have h1 : zH 11 (⟨5, 0, ⟨#[]⟩, [(⟨3, k, ⟨#[]⟩, [], []⟩ : VS (V 9))], []⟩ : VS (V 10)) = (⟨5, 0, ⟨#[]⟩, [(⟨3, k, ⟨#[]⟩, [], []⟩ : VS (V 9))], []⟩ : VS (V 10)) := jn 11 _ (ord_one QM)
 have h2 : zH 11 (⟨4, 0, ⟨#[120]⟩, [], []⟩ : VS (V 10)) = (⟨4, 0, ⟨#[120]⟩, [], []⟩ : VS (V 10)) := jn 11 _ QM
 have h3 : ((jT 9 k : VS (V 11)).m.map (xF (zH 11))).mergeSort leK = (oneS 9 k : VS (V 11)).m := by
  show List.mergeSort [(_, zH 11 _), (_, zH 11 _)] leK = _
  rw [h1, h2]
  exact sort_two _ _
 rw [h3]
 rfl
theorem vu (k : Int) (h : k = 1 ∨ k = 2) : zi 12 (jT 9 k) = 0 := by
 rcases h with rfl | rfl
 ·exact qu.2 ⟨by rw [show zG 12 (jT 9 1) = 3 by kernel_rfl]; decide, by rw [show ze 12 (jT 9 1) = 4 by kernel_rfl]; decide, by kernel_rfl⟩
 ·exact qu.2 ⟨by rw [show zG 12 (jT 9 2) = 3 by kernel_rfl]; decide, by rw [show ze 12 (jT 9 2) = 4 by kernel_rfl]; decide, by kernel_rfl⟩
theorem vy (k : Int) (h : k = 1 ∨ k = 2) : zZ 12 (jT 9 k) := by
 rcases h with rfl | rfl
 ·exact ⟨by rw [show ze 12 (jT 9 1) = 4 by kernel_rfl]; decide, by rw [show zw 12 (jT 9 1) = 3 by kernel_rfl]; decide⟩
 ·exact ⟨by rw [show ze 12 (jT 9 2) = 4 by kernel_rfl]; decide, by rw [show zw 12 (jT 9 2) = 3 by kernel_rfl]; decide⟩
theorem Zw : zo 12 (oneS 9 1) = YD := by kernel_rfl
theorem enc_oneV : vf 12 (jT 9 1) = (YD, 0) := Qw.2 ⟨vu 1 (.inl rfl), by rw [kK, Zw]; decide, by rw [kK, Zw]⟩
theorem dec_text1 : bZ YD = .inr (oneS 9 1) := by
 have h := (dec_enc enc_oneV).1
 rw [kK] at h
 exact h
theorem parse_text2 : yM Kr = .inr (mapA 10) := by kernel_rfl
theorem sort_mapA : zH 12 (mapA 10) = mapA 10 := jn 12 _ ⟨List.pairwise_singleton _ _, fun _ h => absurd h (by simp [mapA]), fun p hp => by rcases List.mem_singleton.1 hp with rfl; exact QM⟩
theorem write_mapA : zo 12 (mapA 10) = [123, 34, 97, 34, 58, 49, 125] := by kernel_rfl
theorem dec_text2 : bZ Kr = .inl 60 := by
 unfold bZ
 rw [parse_text2]
 refine if_neg (fun h => ?_)
 have h2 := (Qw.1 h).2.2
 rw [sort_mapA, write_mapA] at h2
 exact absurd h2 (by decide)
theorem dec_text3 : bZ KK = .inl 50 := by
 unfold bZ
 rw [show yM KK = .inl 50 by kernel_rfl]
theorem diff_ones : ZI 12 (jT 9 1) (jT 9 2) = [⟨#[47, 98, 47, 48]⟩] := by
 unfold ZI
 rw [if_pos ⟨vu 1 (.inl rfl), vu 2 (.inr rfl)⟩, kK, kK]
 kernel_rfl
end Go.Proofs.YtpbphdkjjoipnaaGreatDoor

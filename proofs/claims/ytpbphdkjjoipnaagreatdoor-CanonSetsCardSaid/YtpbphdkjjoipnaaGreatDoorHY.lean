/- Parts of one proof, merged: XYA XYB XYC XYD XYE XYF. -/
import Derived.Test.YtpbphdkjjoipnaaGreatDoorHB
import Derived.Test.YtpbphdkjjoipnaaGreatDoorHU
import Derived.Lib.AtoiAllCases
import Derived.Lib.ItoaMem
import Derived.Test.YtpbphdkjjoipnaaGreatDoorHC
import Derived.Shelf.SlicesQ.IndexFunc
import Derived.Test.YtpbphdkjjoipnaaGreatDoorHE
import Derived.Test.YtpbphdkjjoipnaaGreatDoorHK
set_option linter.all false
set_option maxHeartbeats 12800000
set_option maxRecDepth 10000
set_option linter.unusedVariables false
set_option linter.unusedSimpArgs false
set_option linter.unnecessarySimpa false
namespace Go.Proofs.YtpbphdkjjoipnaaGreatDoor
open Go.Proofs.Tryz
def valOf (l : List UInt8) : Nat := l.foldl (fun a c => a * 10 + (c.toNat - 48)) 0
theorem KU (u : Nat) : valOf (Lib.decDigits u) = u := by
 induction u using Nat.strongRecOn with
 | ind u ih =>
  rw [Lib.decDigits]
  have hd : ∀ k, k < 10 → (UInt8.ofNat (48 + k)).toNat - 48 = k := by
   intro k hk
   simp only [UInt8.toNat_ofNat']
   omega
  by_cases h : u < 10
  ·rw [dif_pos h]
   simp only [valOf, List.foldl_cons, List.foldl_nil]
   rw [hd u h]
   omega
  ·rw [dif_neg h]
   have h1 := ih (u / 10) (by omega)
   unfold valOf at h1 ⊢
   rw [List.foldl_append, h1]
   simp only [List.foldl_cons, List.foldl_nil]
   rw [hd _ (Nat.mod_lt _ (by decide))]
   omega
theorem Zo {i j : Nat} (h : Lib.decDigits i = Lib.decDigits j) : i = j := by rw [← KU i, h, KU]
theorem bW {k : Nat} (h : k < 10) : (UInt8.ofNat (48 + k)).toNat = 48 + k := by
 simp only [UInt8.toNat_ofNat']
 omega
theorem digits_ch (u : Nat) : ∀ c, c ∈ Lib.decDigits u → 48 ≤ c.toNat ∧ c.toNat ≤ 57 := by
 induction u using Nat.strongRecOn with
 | ind u ih =>
  intro c hc
  rw [Lib.decDigits] at hc
  by_cases h : u < 10
  ·rw [dif_pos h] at hc
   simp only [List.mem_cons, List.not_mem_nil, or_false] at hc
   subst hc
   rw [bW h]; omega
  ·rw [dif_neg h] at hc
   rcases List.mem_append.1 hc with hc | hc
   ·exact ih (u / 10) (by omega) c hc
   ·simp only [List.mem_cons, List.not_mem_nil, or_false] at hc
    subst hc
    rw [bW (Nat.mod_lt _ (by decide))]
    have := Nat.mod_lt u (show 0 < 10 by decide)
    omega
theorem J0 : ∀ (a b : List UInt8) (acc m : Nat), Lib.parseUint10 acc a = .ok m → Lib.parseUint10 acc (a ++ b) = Lib.parseUint10 m b
 | [], b, acc, m, h => by
  simp only [Lib.parseUint10] at h
  cases h
  rfl
 | c :: a, b, acc, m, h => by
  simp only [List.cons_append, Lib.parseUint10] at h ⊢
  split at h
  ·rename_i h1
   rw [if_pos h1]
   split at h
   ·cases h
   ·rename_i h2
    rw [if_neg h2]
    split at h
    ·cases h
    ·rename_i h3
     rw [if_neg h3]
     exact J0 a b _ m h
  ·cases h
theorem parse_digits (u : Nat) : u ≤ 100000000000000000 → Lib.parseUint10 0 (Lib.decDigits u) = .ok u := by
 induction u using Nat.strongRecOn with
 | ind u ih =>
  intro hu
  rw [Lib.decDigits]
  by_cases h : u < 10
  ·rw [dif_pos h]
   simp only [Lib.parseUint10, bW h]
   rw [if_pos (by omega), if_neg (by omega), if_neg (by omega)]
   congr 1; omega
  ·rw [dif_neg h, J0 _ _ _ _ (ih (u / 10) (by omega) (by omega))]
   have hm := Nat.mod_lt u (show 0 < 10 by decide)
   simp only [Lib.parseUint10, bW hm]
   rw [if_pos (by omega), if_neg (by omega), if_neg (by omega)]
   congr 1; omega
theorem digits_ne (u : Nat) : Lib.decDigits u ≠ [] := by
 rw [Lib.decDigits]
 split <;> simp
theorem atoi_digits {u : Nat} (hu : u ≤ 100000000000000000) : Lib.atoiAll (Lib.decDigits u) = .ok (u : Int) := by
 have h1 := parse_digits u hu
 have h2 := digits_ch u
 cases hd : Lib.decDigits u with
 | nil => exact absurd hd (digits_ne u)
 | cons c r =>
  rw [hd] at h1 h2
  have hc := h2 c (List.mem_cons_self ..)
  rw [Lib.atoiAll_plain c r (by omega) (by omega)]
  unfold Lib.parseMag
  rw [if_neg (by simp), h1]
  unfold Lib.signless
  simp only
  rw [if_neg (by omega)]
def jf (s : List UInt8) : Int := match Lib.atoiAll s with
 | .ok v => if Lib.itoa v = s then v else -1
 | _ => -1
theorem idx_ge {s : List UInt8} (h : 0 ≤ jf s) : Lib.decDigits (jf s).toNat = s := by
 unfold jf at h ⊢
 split at h
 ·rename_i v hv
  split at h
  ·rename_i e
   rw [if_pos e]
   obtain ⟨u, rfl⟩ := Int.eq_ofNat_of_zero_le h
   rw [Int.toNat_natCast]
   rw [Lib.itoa_nonneg] at e
   exact e
  ·omega
 ·omega
theorem idx_of {s : List UInt8} {i : Nat} (hi : i ≤ 100000000000000000) (h : Lib.decDigits i = s) : jf s = i := by
 subst h
 unfold jf
 rw [atoi_digits hi]
 simp only
 rw [Lib.itoa_nonneg, if_pos rfl]
def zU {α : Type} (v : VS α) (s : List UInt8) : Option Nat :=
 if v.kind = 5 then (List.range v.l.length).find? (fun i => decide (Lib.decDigits i = s)) else if v.kind = 6 then v.m.findIdx? (fun p => decide (p.1 = zg s)) else none
def yX {α : Type} (v : VS α) (s : List UInt8) : Option α := match zU v s with
 | none => none
 | some i => if v.kind = 5 then v.l[i]? else v.m[i]?.map (·.2)
theorem ZE {α : Type} {v : VS α} {s : List UInt8} {i : Nat} (hk : v.kind = 5) (hi : i < v.l.length) (h : Lib.decDigits i = s) : zU v s = some i := by
 unfold zU
 rw [if_pos hk, List.find?_eq_some_iff_append]
 refine ⟨by simpa using h, List.range i, (List.range' (i + 1) (v.l.length - i - 1)), ?_, fun j hj => ?_⟩
 ·rw [List.range_eq_range', List.range_eq_range', show v.l.length = i + (v.l.length - i - 1 + 1) by omega, ← List.range'_append_1, List.range'_succ]
  congr 3 <;> omega
 ·have hj' := List.mem_range.1 hj
  simp only [Bool.not_eq_eq_eq_not, Bool.not_true, decide_eq_false_iff_not]
  intro e
  have := Zo (e.trans h.symm)
  omega
theorem xH {α : Type} {v : VS α} {s : List UInt8} (hk : v.kind = 5) (h : ∀ i, i < v.l.length → Lib.decDigits i ≠ s) : zU v s = none := by
 unfold zU
 rw [if_pos hk, List.find?_eq_none]
 intro i hi
 simpa using h i (List.mem_range.1 hi)
theorem jV {α : Type} {v : VS α} {s : List UInt8} {i : Nat} (hk : v.kind = 6) (hi : i < v.m.length) (h : v.m[i].1 = zg s) (hn : ∀ j (hj : j < i), (v.m[j]'(by omega)).1 ≠ zg s) : zU v s = some i := by
 unfold zU
 rw [if_neg (by omega), if_pos hk, List.findIdx?_eq_some_iff_getElem]
 exact ⟨hi, by simpa using h, fun j hj => by simpa using hn j hj⟩
theorem qF {α : Type} {v : VS α} {s : List UInt8} (hk : v.kind = 6) (h : ∀ i (hi : i < v.m.length), v.m[i].1 ≠ zg s) : zU v s = none := by
 unfold zU
 rw [if_neg (by omega), if_pos hk, List.findIdx?_eq_none_iff]
 intro p hp
 obtain ⟨i, hi, rfl⟩ := List.getElem_of_mem hp
 simpa using h i hi
theorem bz {α : Type} {v : VS α} {s : List UInt8} (h5 : v.kind ≠ 5) (h6 : v.kind ≠ 6) : zU v s = none := by
 unfold zU
 rw [if_neg h5, if_neg h6]
theorem xE {α : Type} {v : VS α} {s : List UInt8} {i : Nat} (h : zU v s = some i) : (v.kind = 5 ∧ ∃ hi : i < v.l.length, yX v s = some v.l[i]) ∨ (v.kind = 6 ∧ ∃ hi : i < v.m.length, yX v s = some v.m[i].2) := by
 unfold yX
 rw [h]
 unfold zU at h
 by_cases h5 : v.kind = 5
 ·rw [if_pos h5] at h
  have h1 := List.mem_range.1 (List.mem_of_find?_eq_some h)
  exact .inl ⟨h5, h1, by simp only [if_pos h5]; exact List.getElem?_eq_getElem h1⟩
 ·rw [if_neg h5] at h
  by_cases h6 : v.kind = 6
  ·rw [if_pos h6] at h
   obtain ⟨h1, -⟩ := List.findIdx?_eq_some_iff_getElem.1 h
   exact .inr ⟨h6, h1, by simp only [if_neg h5]; rw [List.getElem?_eq_getElem h1]; rfl⟩
  ·rw [if_neg h6] at h; cases h
theorem qh {α : Type} {v : VS α} {s : List UInt8} (h : zU v s = none) : yX v s = none := by unfold yX; rw [h]
def atV : (n : Nat) → V n → List (List UInt8) → Option (Sigma V)
 | 0, _, _ => none
 | n + 1, v, [] => some ⟨n + 1, v⟩
 | n + 1, (v : VS (V n)), s :: r => match yX v s with
  | none => none
  | some x => atV n x r
theorem xx {n : Nat} {v : VS (V n)} {s : List UInt8} {r : List (List UInt8)} {x : V n} (h : yX v s = some x) : atV (n + 1) v (s :: r) = atV n x r := by
 show (match yX v s with | none => none | some x => atV n x r) = _
 rw [h]
theorem vE {n : Nat} {v : VS (V n)} {s : List UInt8} {r : List (List UInt8)} (h : yX v s = none) : atV (n + 1) v (s :: r) = none := by
 show (match yX v s with | none => none | some x => atV n x r) = _
 rw [h]
open Go.RowKit
def qB (w : World) : Prop := (∃ v, w.cell? ⟨Tryz.shAtoi_ren.g 15, 0, none⟩ = some v ∧ (v = .nilIface ∨ ∃ t p, v = .iface t p)) ∧ (∃ v, w.cell? ⟨Tryz.shAtoi_ren.g 16, 0, none⟩ = some v ∧ (v = .nilIface ∨ ∃ t p, v = .iface t p))
theorem qB.kept0 {w w' : World} (h : qB w) (k : zb [] w w') : qB w' := by
 obtain ⟨⟨v, h1, h2⟩, u, h3, h4⟩ := h
 exact ⟨⟨v, k.cell h1 (by simp), h2⟩, u, k.cell h3 (by simp), h4⟩
section
variable {w : World}
theorem libAtoi (he : qB w) (s : ByteArray) (hs : s.size ≤ 1000000) : Calls Tryz.prog 176 #[.string s] w fun e w' =>
  (match Lib.atoiAll s.data.toList with
   | .ok v => e = .returned (.tuple #[.int .i64 v, .nilIface])
   | _ => ∃ v N, e = .returned (.tuple #[.int .i64 v, .iface (Tryz.shAtoi_ren.t 168) (.pointer (some ⟨N, 0, none⟩))])) ∧ zb [] w w' := by
 obtain ⟨⟨v, h1, h2⟩, u, h3, h4⟩ := he
 rcases ha : Lib.atoiAll s.data.toList with n | _ | _
 ·skip
  refine (Any.strconv_Atoi_ok Tryz.shAtoi s (by omega) n ha w).mono ?_
  rintro e w' ⟨rfl, hw⟩
  refine ⟨rfl, ?_⟩
  rcases hw with rfl | ⟨t, rfl⟩
  ·exact zb.refl _ _
  ·exact zb.of_below (Lib.bytesWorld_below _ _ _)
 ·skip
  refine (Any.strconv_Atoi_syntax Tryz.shAtoi s (by omega) ha v w h1 h2).mono ?_
  rintro e w' ⟨N, rfl, -, -, hb⟩
  exact ⟨⟨_, N, rfl⟩, zb.of_below hb⟩
 ·skip
  refine (Any.strconv_Atoi_range Tryz.shAtoi s (by omega) ha u w h3 h4).mono ?_
  rintro e w' ⟨N, rfl, -, -, hb⟩
  exact ⟨⟨_, N, rfl⟩, zb.of_below hb⟩
set_option maxRecDepth 100000 in
theorem J7 (ht : yK w) (he : qB w) (s : ByteArray) (hs : s.size ≤ 1000000) :
  Calls Tryz.prog 133 #[.string s] w fun e w' => e = .returned (.int .i64 (jf s.data.toList)) ∧ zb [] w w' := by
 have CA := qI (libAtoi he s hs)
 have HT := qI ht
 clear ht he hs
 go_enter func133, ntmps133
 go_wp2_with fail
 refine CA.o.mono ?_
 rintro e w1 ⟨h1, hk1⟩
 have Ga := qI hk1
 clear hk1 CA
 have hne : ∀ (t : Nat) (v : Value) (w : World), (binOp .neq 74 (.iface t v) .nilIface).run Tryz.prog w = .ok (.bool true) w := fun _ _ _ => rfl
 have hnn : ∀ (w : World), (binOp .neq 74 .nilIface .nilIface).run Tryz.prog w = .ok (.bool false) w := fun _ => rfl
 rcases ha : Lib.atoiAll s.data.toList with n | _ | _
 ·skip
  rw [ha] at h1
  obtain rfl := h1
  obtain ⟨b1, b2⟩ := Lib.atoiAll_bounds ha
  have CI := qI (libItoa (HT.o.kept0 Ga.o) n b1 b2)
  have HI : Hid (jf s.data.toList = if Lib.itoa n = s.data.toList then n else -1) := qI (by unfold jf; rw [ha])
  clear ha b1 b2
  by_cases hq : zg (Lib.itoa n) = s
  ·have HJ : Hid (jf s.data.toList = n) := qI (by rw [HI.o, if_pos (by rw [← hq, zq])])
   obtain ⟨f1, f2⟩ := qo hq
   go_wp2_with fail
   refine CI.o.mono ?_
   rintro e w2 ⟨rfl, hk2⟩
   have Gc := qI (Ga.o.then hk2)
   clear hk2 hq CI HI
   revert f1 f2
   generalize zg (Lib.itoa n) = T
   intro f1 f2
   go_wp2_with fail
   go_ret
   exact ⟨by rw [HJ.o]; rfl, Gc.o⟩
  ·have HJ : Hid (jf s.data.toList = -1) := qI (by rw [HI.o, if_neg (fun e => hq (by rw [e]; rfl))])
   obtain ⟨f1, f2⟩ := xM hq
   go_wp2_with fail
   refine CI.o.mono ?_
   rintro e w2 ⟨rfl, hk2⟩
   have Gc := qI (Ga.o.then hk2)
   clear hk2 hq CI HI
   revert f1 f2
   generalize zg (Lib.itoa n) = T
   intro f1 f2
   go_wp2_with fail
   go_ret
   exact ⟨by rw [HJ.o]; rfl, Gc.o⟩
 ·skip
  rw [ha] at h1
  obtain ⟨v, N, rfl⟩ := h1
  have HI : Hid (jf s.data.toList = -1) := qI (by unfold jf; rw [ha])
  clear ha
  go_wp2_with fail
  go_ret
  exact ⟨by rw [HI.o]; rfl, Ga.o⟩
 ·skip
  rw [ha] at h1
  obtain ⟨v, N, rfl⟩ := h1
  have HI : Hid (jf s.data.toList = -1) := qI (by unfold jf; rw [ha])
  clear ha
  go_wp2_with fail
  go_ret
  exact ⟨by rw [HI.o]; rfl, Ga.o⟩
end
theorem idx_spec {α : Type} (p : α → Bool) (x : α) : ∀ (zs : List α) (k : Nat), (Lib.idxByFrom (fun _ y => p y) x zs k = -1 ∧ ∀ i (h : i < zs.length), p zs[i] = false) ∨ ∃ i, ∃ h : i < zs.length, Lib.idxByFrom (fun _ y => p y) x zs k = ((k + i : Nat) : Int) ∧ p zs[i] = true ∧ ∀ j (hj : j < i), p (zs[j]'(by omega)) = false
 | [], k => .inl ⟨rfl, fun i h => by cases h⟩
 | z :: zs, k => by
  unfold Lib.idxByFrom
  cases hz : p z with
  | true =>
   refine .inr ⟨0, by simp, ?_, hz, fun j hj => by omega⟩
   simp
  | false =>
   simp only [Bool.false_eq_true, if_false]
   rcases idx_spec p x zs (k + 1) with ⟨h1, h2⟩ | ⟨i, h, h1, h2, h3⟩
   ·refine .inl ⟨h1, fun i hi => ?_⟩
    cases i with
    | zero => exact hz
    | succ i => exact h2 i (by simpa using hi)
   ·refine .inr ⟨i + 1, by simpa using h, by rw [h1]; congr 1; omega, by simpa using h2, fun j hj => ?_⟩
    cases j with
    | zero => exact hz
    | succ j => simpa using h3 j (by omega)
def KeyIx {α : Type} (m : List (ByteArray × α)) (s : ByteArray) (r : Int) : Prop := (r = -1 ∧ ∀ i (h : i < m.length), m[i].1 ≠ s) ∨ ∃ i, ∃ h : i < m.length, r = (i : Int) ∧ m[i].1 = s ∧ ∀ j (hj : j < i), (m[j]'(by omega)).1 ≠ s
section
variable {w : World}
set_option maxRecDepth 100000 in
theorem indexNone (a : Option Addr) (c : Nat) (fv : Value) :
  Calls Tryz.prog 134 #[.slice a 0 c, fv] w fun e w' => e = .returned (.int .i64 (-1)) ∧ zb [] w w' := by
 go_enter func134, ntmps134
 go_wp2_with fail
 go_loopw [8] (fun i wr => i = .int .i64 0 ∧ w = wr) (fun _ _ => 0)
 case atStart => exact ⟨rfl, rfl⟩
 case round =>
  obtain ⟨rfl, rfl⟩ := hrel
  go_wp2_with fail
  go_ret
  exact ⟨rfl, zb.refl _ _⟩
set_option maxRecDepth 100000 in
theorem sameKey_any (x : PC) (s : ByteArray) (b : Nat) (h : w.cell? ⟨b, 0, none⟩ = some (.string s)) :
  Calls Tryz.prog 135 #[.agg x.enc.toArray, .pointer (some ⟨b, 0, none⟩)] w fun e w' => e = .returned (.bool (decide (x.key = s))) ∧ zb [] w w' := by
 have hc : ∀ o : Obj, (w.alloc o).cell? ⟨b, 0, none⟩ = some (.string s) := fun o => ((zb.refl [] w).alloc o).cell h (by simp)
 have HK : Hid (∀ o : Obj, zb [] w (w.alloc o)) := qI (fun o => (zb.refl [] w).alloc o)
 have he : x.enc.toArray = #[.string x.key, .int .i64 x.k, .int .i64 x.m, .string x.s, .slice x.p x.i x.c, .slice x.q x.j x.d] := rfl
 rw [he]
 clear h he
 by_cases e : x.key = s
 ·obtain ⟨f1, f2⟩ := qo e
  rw [decide_eq_true e]
  clear e
  go_enter func135, ntmps135
  go_wp2_with fail
  go_ret
  exact ⟨rfl, HK.o _⟩
 ·obtain ⟨f1, f2⟩ := xM e
  rw [decide_eq_false e]
  clear e
  go_enter func135, ntmps135
  go_wp2_with fail
  go_ret
  exact ⟨rfl, HK.o _⟩
theorem aggPair (w : World) : (isAgg (Tryz.shIndexFunc_ren.t 23)).run Tryz.prog w = .ok true w := isAgg60 w
theorem sizePair (w : World) : (Go.sizeOf (Tryz.shIndexFunc_ren.t 23)).run Tryz.prog w = .ok 6 w := sizeOf60 w
theorem enter_same : ∀ (args : Array Value) (w : World), (callFunc 135 args).run Tryz.prog w = .ok (.enter 135 args) w := enters_of func135 (by kernel_rfl) rfl
section
variable {n : Nat} {S : Nat → Prop} {cs : List Value} {v : VS (V n)} {vl vm : Value} {lcs : List (List Value)} {mcs : List (ByteArray × List Value)}
theorem KC (h : ya (Rep n S w) S w cs v vl vm lcs mcs) {b : Nat} {s : ByteArray} (hb : w.cell? ⟨b, 0, none⟩ = some (.string s)) (hl : v.m.length ≤ 1000000) :
  Calls Tryz.prog 134 #[vm, .func (.func 135) #[] #[.pointer (some ⟨b, 0, none⟩)]] w fun e w' => (∃ r, e = .returned (.int .i64 r) ∧ KeyIx v.m s r) ∧ zb [] w w' := by
 obtain ⟨ds, e1, e2⟩ := pcs_of h.allm
 have hlen : ds.length = v.m.length := by rw [← h.allm.1, e1, List.length_map]
 have hkey : ∀ i (hi : i < v.m.length), (ds[i]'(by omega)).key = v.m[i].1 := fun i hi => by
  have h9 := (h.allm.2 i ((ds[i]'(by omega)).key, (ds[i]'(by omega)).cs) v.m[i] (by rw [e1, List.getElem?_map, List.getElem?_eq_getElem (by omega)]; rfl) (List.getElem?_eq_getElem hi)).1
  exact h9
 by_cases h0 : v.m.length = 0
 ·have hs := h.slcm
  rw [h0] at hs
  obtain ⟨a, c, rfl, -, -⟩ := hs.form
  refine (indexNone a c _).mono ?_
  rintro e w' ⟨rfl, hk⟩
  exact ⟨⟨-1, rfl, .inl ⟨rfl, fun i hi => by omega⟩⟩, hk⟩
 rcases h.slcm.2 with ⟨-, q⟩ | ⟨q, -⟩ | ⟨g, o, cap, rfl, -, hm, hr⟩
 ·omega
 ·omega
 rw [e2] at hr
 refine (AnyQ.slices_IndexFunc Tryz.shIndexFunc 6 aggPair sizePair PC.enc PC.enc_len (fun x => decide (x.key = s)) 135 #[.pointer (some ⟨b, 0, none⟩)] enter_same g o v.m.length cap ds w (fun W x hbl => ?_) (by omega) (by omega) hr.2 (fun j hj i u hu => ?_)).mono ?_
 ·have hcb : W.cell? ⟨b, 0, none⟩ = some (.string s) := (zb.of_below hbl).cell hb (by simp)
  refine (sameKey_any x s b hcb).mono ?_
  rintro e w' ⟨rfl, hk⟩
  exact ⟨rfl, ((zb.of_below hbl).then hk).below (Nat.le_refl _) (by simp)⟩
 ·rw [getElem!_pos ds j hj] at hu
  have hi6 : i < 6 := by
   rcases Nat.lt_or_ge i 6 with q | q
   ·exact q
   ·rw [List.getElem?_eq_none (by rw [PC.enc_len]; exact q)] at hu; cases hu
  have h2 := yU (size := 6) (ds.map PC.enc) j i (by intro c hc; obtain ⟨x, _, rfl⟩ := List.mem_map.1 hc; rfl) (by simpa using hj) hi6
  rw [List.getElem_map] at h2
  have h3 := hr.cells (j * 6 + i) u (by rw [show ds.flatMap PC.enc = (ds.map PC.enc).flatten by simp [List.flatMap], h2]; exact hu)
  rw [← Nat.add_assoc] at h3
  exact h3
 ·rintro e w' ⟨rfl, hbl⟩
  refine ⟨⟨_, rfl, ?_⟩, zb.of_below hbl⟩
  rw [List.take_of_length_le (by omega)]
  unfold Lib.idxBy
  rcases idx_spec (fun x : PC => decide (x.key = s)) default ds 0 with ⟨q1, q2⟩ | ⟨i, hi, q1, q2, q3⟩
  ·rw [q1]
   refine .inl ⟨rfl, fun i hi => ?_⟩
   have := q2 i (by omega)
   rw [hkey i hi] at this
   simpa using this
  ·rw [q1]
   refine .inr ⟨i, by omega, by rw [Nat.zero_add], ?_, fun j hj => ?_⟩
   ·rw [hkey i (by omega)] at q2
    simpa using q2
   ·have := q3 j hj
    rw [hkey j (by omega)] at this
    simpa using this
end
end
def qy (m : Nat) (S : Nat → Prop) (w : World) (g o : Nat) (v : V m) : Prop :=
 ∃ k i s a b, w.cell? ⟨g, o, none⟩ = some (.int .i64 k) ∧ w.cell? ⟨g, o + 1, none⟩ = some (.int .i64 i) ∧ w.cell? ⟨g, o + 2, none⟩ = some (.string s) ∧ w.cell? ⟨g, o + 3, none⟩ = some a ∧ w.cell? ⟨g, o + 4, none⟩ = some b ∧ Rep m S w [.int .i64 k, .int .i64 i, .string s, a, b] v
def Went {n : Nat} (S : Nat → Prop) (x : Option (V n)) (e : Ending) (w' : World) : Prop := match x with
 | none => e = .returned (.pointer none)
 | some u => ∃ g o, e = .returned (.pointer (some ⟨g, o, none⟩)) ∧ qy n S w' g o u
theorem bM {n : Nat} {S : Nat → Prop} {x : Option (V n)} {w' : World} (h : x = none) : Went S x (.returned (.pointer none)) w' := by subst h; exact rfl
theorem J6 {n : Nat} {S : Nat → Prop} {x : Option (V n)} {u : V n} {w' : World} {g o : Nat} (h : x = some u) (p : qy n S w' g o u) : Went S x (.returned (.pointer (some ⟨g, o, none⟩))) w' := by subst h; exact ⟨g, o, rfl, p⟩
theorem kid_list {α : Type} {v : VS α} {s : List UInt8} {i : Nat} (hk : v.kind = 5) (hi : i < v.l.length) (h : Lib.decDigits i = s) : yX v s = some v.l[i] := by
 rcases xE (ZE hk hi h) with ⟨-, _, h1⟩ | ⟨h6, -⟩
 ·exact h1
 ·omega
theorem kid_map {α : Type} {v : VS α} {s : List UInt8} {i : Nat} (hk : v.kind = 6) (hi : i < v.m.length) (h : v.m[i].1 = zg s) (hn : ∀ j (hj : j < i), (v.m[j]'(by omega)).1 ≠ zg s) : yX v s = some v.m[i].2 := by
 rcases xE (jV hk hi h hn) with ⟨h5, -⟩ | ⟨-, _, h1⟩
 ·omega
 ·exact h1
section
variable {n : Nat} {S : Nat → Prop} {w : World} {g o : Nat} {v : VS (V n)}
set_option maxRecDepth 100000 in
theorem within_any (hp : qy (n + 1) S w g o v) (s : ByteArray) (hs : s.size ≤ 1000000) (ht : yK w) (he : qB w) (hl : v.l.length ≤ 1000000 ∧ v.m.length ≤ 1000000) :
  Calls Tryz.prog 91 #[.pointer (some ⟨g, o, none⟩), .string s] w fun e w' => Went S (yX v s.data.toList) e w' ∧ zb [] w w' := by
 obtain ⟨k, nm, st, a, b, h0, h1, h2, h3, h4, h5⟩ := hp
 obtain ⟨vl, vm, lcs, mcs, hr⟩ := h5.open_
 have hc := hr.cells
 simp only [List.cons.injEq, Value.int.injEq, true_and, Value.string.injEq, and_true] at hc
 obtain ⟨rfl, rfl, rfl, rfl, rfl⟩ := hc
 obtain ⟨pl, cl, pm, cm, rfl, rfl, -⟩ := hr.forms
 have HR := qI hr
 have Gk := qI hl
 have Gi : Hid (∃ lcs mcs, ya (Rep n S (w.alloc (.cells #[.string s] 9))) S (w.alloc (.cells #[.string s] 9)) [.int .i64 v.kind, .int .i64 v.num, .string v.s, .slice pl v.l.length cl, .slice pm v.m.length cm] v (.slice pl v.l.length cl) (.slice pm v.m.length cm) lcs mcs) := qI (by
  obtain ⟨vl', vm', l', m', h'⟩ := (h5.kept0 ((zb.refl [] w).alloc (.cells #[.string s] 9))).open_
  have hc := h'.cells
  simp only [List.cons.injEq, true_and, and_true] at hc
  obtain ⟨rfl, rfl⟩ := hc
  exact ⟨l', m', h'⟩)
 have Gb : Hid (zb [] w (w.alloc (.cells #[.string s] 9))) := qI ((zb.refl [] w).alloc _)
 have HB : Hid ((w.alloc (.cells #[.string s] 9)).heap[w.heap.size]? = some (.cells #[.string s] 9 (0, 0))) := qI (zn rfl)
 have CI : Hid (∀ w1, zb [] w w1 → Calls Tryz.prog 133 #[.string s] w1 fun e w' => e = .returned (.int .i64 (jf s.data.toList)) ∧ zb [] w1 w') := qI (fun w1 q => J7 (ht.kept0 q) (he.kept0 q) s hs)
 have HC : Hid (∀ w1, zb [] w w1 → w1.cell? ⟨g, o, none⟩ = some (.int .i64 v.kind) ∧ w1.cell? ⟨g, o + 3, none⟩ = some (.slice pl v.l.length cl) ∧ w1.cell? ⟨g, o + 4, none⟩ = some (.slice pm v.m.length cm)) := qI (fun w1 q => ⟨q.cell h0 (by simp), q.cell h3 (by simp), q.cell h4 (by simp)⟩)
 clear hr hl ht he h0 h1 h2 h3 h4 h5 hs
 obtain ⟨x0, x3, x4⟩ := HC.o _ Gb.o
 by_cases k5 : v.kind = 5
 ·have y0 := za (o := 0) (v := .string s) HB.o rfl
  obtain ⟨f1, f2⟩ := yg (a := v.kind) (b := 5) k5
  have Ge := qI k5
  clear k5
  go_enter func91, ntmps91
  go_wp2_with fail
  refine (CI.o _ Gb.o).mono ?_
  rintro e w1 ⟨rfl, hk1⟩
  have Ga := qI (Gb.o.then hk1)
  clear x0 x3 x4 y0
  obtain ⟨x0, x3, x4⟩ := HC.o _ Ga.o
  clear hk1
  by_cases hi0 : 0 ≤ jf s.data.toList
  ·obtain ⟨i, hi⟩ := Int.eq_ofNat_of_zero_le hi0
   have HD : Hid (Lib.decDigits i = s.data.toList) := qI (by have := idx_ge hi0; rw [hi] at this; exact this)
   rw [hi]
   clear hi0 hi
   by_cases hil : i < v.l.length
   ·have hilI : (i : Int) < v.l.length := by omega
    have Gf := qI (kid_list Ge.o hil HD.o)
    obtain ⟨g1, o1, c1, kd, nm, st, a1, b1, e1, c0, c1, c2, c3, c4, hrp⟩ := HR.o.at_l Ga.o i hil
    simp only [Value.slice.injEq] at e1
    obtain ⟨rfl, -, rfl⟩ := e1
    have HP : Hid (qy n S w1 g1 (o1 + i * 5) v.l[i]) := qI ⟨kd, nm, st, a1, b1, c0, c1, c2, c3, c4, hrp⟩
    clear c0 c1 c2 c3 c4 hrp
    go_wp2_with fail
    go_ret
    exact ⟨J6 Gf.o HP.o, Ga.o⟩
   ·have hilI : ¬ (i : Int) < v.l.length := by omega
    have HN : Hid (yX v s.data.toList = none) := qI (qh (xH Ge.o (fun j hj e => by
     have := Zo (e.trans HD.o.symm)
     omega)))
    clear hil
    go_wp2_with fail
    go_ret
    exact ⟨bM HN.o, Ga.o⟩
  ·have hi1 : ¬ 0 ≤ jf s.data.toList := hi0
   have HN : Hid (yX v s.data.toList = none) := qI (qh (xH Ge.o (fun j hj e => by
    have h9 := idx_of (by have := Gk.o.1; omega) e
    omega)))
   clear hi0
   revert hi1
   generalize jf s.data.toList = r
   intro hi1
   go_wp2_with fail
   go_ret
   exact ⟨bM HN.o, Ga.o⟩
 obtain ⟨f1, f2⟩ := zt (a := v.kind) (b := 5) k5
 by_cases k6 : v.kind = 6
 rotate_left
 ·obtain ⟨f3, f4⟩ := zt (a := v.kind) (b := 6) k6
  have HN : Hid (yX v s.data.toList = none) := qI (qh (bz k5 k6))
  clear k5 k6
  go_enter func91, ntmps91
  go_wp2_with fail
  go_ret
  exact ⟨bM HN.o, Gb.o⟩
 obtain ⟨f3, f4⟩ := yg (a := v.kind) (b := 6) k6
 have Gt := qI k6
 obtain ⟨l', m', hr0⟩ := Gi.o
 have CX := qI (KC (w := w.alloc (.cells #[.string s] 9)) hr0 (za (o := 0) (v := .string s) HB.o rfl) Gk.o.2)
 have hmf : ∀ w1 : World, (Instr.makeFunc (.func 135) #[] #[.pointer (some ⟨w.heap.size, 0, none⟩)]).run Tryz.prog w1 = .ok (.func (.func 135) #[] #[.pointer (some ⟨w.heap.size, 0, none⟩)]) w1 := fun _ => rfl
 clear k5 k6 hr0
 go_enter func91, ntmps91
 go_wp2_with fail
 refine CX.o.mono ?_
 rintro e w1 ⟨⟨r, rfl, hix⟩, hk1⟩
 have Ga := qI (Gb.o.then hk1)
 clear x0 x3 x4 hk1
 obtain ⟨x0, x3, x4⟩ := HC.o _ Ga.o
 rcases hix with ⟨rfl, hno⟩ | ⟨i, hi, rfl, hki, hno⟩
 ·have HN : Hid (yX v s.data.toList = none) := qI (qh (qF Gt.o hno))
  clear hno
  go_wp2_with fail
  go_ret
  exact ⟨bM HN.o, Ga.o⟩
 ·have Gf := qI (kid_map Gt.o hi hki hno)
  obtain ⟨g1, o1, c1, kd, nm, st, a1, b1, e1, -, c0, c1, c2, c3, c4, hrp⟩ := HR.o.at_m Ga.o i hi
  simp only [Value.slice.injEq] at e1
  obtain ⟨rfl, -, rfl⟩ := e1
  have HP : Hid (qy n S w1 g1 (o1 + i * 6 + 1) v.m[i].2) := qI ⟨kd, nm, st, a1, b1, c0, by rw [Nat.add_assoc]; exact c1, by rw [Nat.add_assoc]; exact c2, by rw [Nat.add_assoc]; exact c3, by rw [Nat.add_assoc]; exact c4, hrp⟩
  clear c0 c1 c2 c3 c4 hrp hno hki
  have hiI : (i : Int) < v.m.length := by omega
  go_wp2_with fail
  go_ret
  exact ⟨J6 Gf.o HP.o, Ga.o⟩
end
theorem kid_mem {n : Nat} {v : VS (V n)} {s : List UInt8} {x : V n} (h : yX v s = some x) : x ∈ v.kids := by
 cases hp : zU v s with
 | none => rw [qh hp] at h; cases h
 | some i =>
  rcases xE hp with ⟨-, hi, e⟩ | ⟨-, hi, e⟩
  ·rw [e] at h; cases h; exact xY (List.getElem_mem hi)
  ·rw [e] at h; cases h; exact xV (List.getElem_mem hi)
def WentFar (S : Nat → Prop) (x : Option (Sigma V)) (e : Ending) (w' : World) : Prop := match x with
 | none => e = .returned (.pointer none)
 | some u => ∃ g o, e = .returned (.pointer (some ⟨g, o, none⟩)) ∧ qy u.1 S w' g o u.2
theorem far_none {S : Nat → Prop} {x : Option (Sigma V)} {w' : World} (h : x = none) : WentFar S x (.returned (.pointer none)) w' := by subst h; exact rfl
theorem far_some {m : Nat} {S : Nat → Prop} {x : Option (Sigma V)} {u : V m} {w' : World} {g o : Nat} (h : x = some ⟨m, u⟩) (p : qy m S w' g o u) : WentFar S x (.returned (.pointer (some ⟨g, o, none⟩))) w' := by subst h; exact ⟨g, o, rfl, p⟩
theorem jM {n : Nat} {v : VS (V n)} (h : zZ (n + 1) v) : v.l.length ≤ 1000000 ∧ v.m.length ≤ 1000000 := by
 have h1 := Q7 v
 have h2 := h.1
 omega
section
variable {m : Nat} {S : Nat → Prop} {w : World} {g o : Nat} {v : V m} {a : Option Addr} {n c : Nat} {la : List ByteArray}
set_option maxRecDepth 100000 in
theorem walk_any (hp : qy m S w g o v) (ha : Slc w 1 (.slice a n c) n (zL la)) (hn : n ≤ 1000000) (hs : ∀ x, x ∈ la → x.size ≤ 1000000) (hsm : zZ m v) (ht : yK w) (he : qB w) :
  Calls Tryz.prog 63 #[.pointer (some ⟨g, o, none⟩), .slice a n c] w fun e w' => WentFar S (atV m v (la.map (·.data.toList))) e w' ∧ zb [] w w' := by
 have HP := qI hp
 have HA := qI ha
 have Gu := qI (bc ha)
 have Jb := qI hs
 have Gm := qI hsm
 have HT := qI ht
 have HE := qI he
 have hnI : (n : Int) ≤ 1000000 := by omega
 clear hp ha hn hs hsm ht he
 go_enter func63, ntmps63
 go_wp2_with fail
 go_loopw [0, 9] (fun p i wr => ∃ k : Nat, i = .int .i64 k ∧ k ≤ n ∧ zb [] w wr ∧ ∃ m' g' o', p = .pointer (some ⟨g', o', none⟩) ∧ ∃ u : V m', qy m' S wr g' o' u ∧ zZ m' u ∧ atV m v (la.map (·.data.toList)) = atV m' u ((la.drop k).map (·.data.toList))) (fun _ i _ => n - (intOf i).toNat)
 case atStart => exact ⟨0, rfl, Nat.zero_le _, zb.refl _ _, m, g, o, rfl, v, HP.o, Gm.o, by rw [List.drop_zero]⟩
 case round =>
  obtain ⟨k, rfl, hk, hkw, m', g', o', rfl, u, hpu, hsu, hat⟩ := hrel
  have Gn := qI hkw
  have Gv := qI hpu
  have Gw := qI hsu
  have Gj := qI hat
  by_cases hlt : k < n
  rotate_left
  ·obtain rfl : k = n := by omega
   have hltI : ¬ (k : Int) < k := by omega
   have HF : Hid (atV m v (la.map (·.data.toList)) = some ⟨m', u⟩) := qI (by
    rw [Gj.o, List.drop_of_length_le (by rw [Gu.o]; exact Nat.le_refl _)]
    cases m' with
    | zero => exact nomatch u
    | succ m' => rfl)
   clear hlt hk hkw hpu hsu hat
   go_wp2_with fail
   go_ret
   exact ⟨far_some HF.o Gv.o, Gn.o⟩
  have hltI : (k : Int) < n := by omega
  have hka : k < la.length := by rw [Gu.o]; exact hlt
  obtain ⟨ga, oa, rfl, q0⟩ := jQ (HA.o.kept0 hkw) hka
  have Gp : Hid (la[k].size ≤ 1000000) := qI (Jb.o _ (List.getElem_mem hka))
  rw [List.drop_eq_getElem_cons hka, List.map_cons] at Gj
  have Gx := qI hlt
  cases m' with
  | zero => exact nomatch u
  | succ m' =>
  clear hlt hk hkw hpu hsu hat
  revert q0 Gp Gj
  generalize la[k] = X
  intro q0 Gp Gj
  clear hka
  have CW := qI (within_any (v := u) Gv.o X Gp.o (HT.o.kept0 Gn.o) (HE.o.kept0 Gn.o) (jM Gw.o))
  go_wp2_with fail
  refine CW.o.mono ?_
  rintro e w1 ⟨hwent, hk1⟩
  have Ga := qI (Gn.o.then hk1)
  clear hk1 q0
  cases hkd : yX (α := V m') u X.data.toList with
  | none =>
   rw [hkd] at hwent
   obtain rfl := hwent
   have HF : Hid (atV m v (la.map (·.data.toList)) = none) := qI (by rw [Gj.o]; exact vE hkd)
   go_wp2_with fail
   go_ret
   exact ⟨far_none HF.o, Ga.o⟩
  | some x =>
   rw [hkd] at hwent
   obtain ⟨g2, o2, rfl, hp2⟩ := hwent
   have Jc := qI hp2
   have Jd := qI (Gw.o.kid (kid_mem hkd))
   have Je := qI (Gj.o.trans (xx hkd))
   clear hp2 hkd
   go_wp2_with fail
   case roundEnd => exact ⟨⟨k + 1, by go_num, by have := Gx.o; omega, Ga.o, m', g2, o2, rfl, x, Jc.o, Jd.o, Je.o⟩, by have := Gx.o; simp [intOf]; omega⟩
end
def atR (n : Nat) (v : V n) (p : List UInt8) : Option (Sigma V) × Int :=
 if zi n v ≠ 0 then (none, zi n v) else match yf p with
  | none => (none, 60)
  | some L => match atV n v L with
   | none => (none, 4)
   | some u => (some u, 0)
theorem atR_bad {n : Nat} {v : V n} {p : List UInt8} (h : zi n v ≠ 0) : atR n v p = (none, zi n v) := by unfold atR; rw [if_pos h]
theorem atR_path {n : Nat} {v : V n} {p : List UInt8} (h : zi n v = 0) (hp : yf p = none) : atR n v p = (none, 60) := by unfold atR; rw [if_neg (by simpa using h), hp]
theorem atR_none {n : Nat} {v : V n} {p : List UInt8} {L : List (List UInt8)} (h : zi n v = 0) (hp : yf p = some L) (ha : atV n v L = none) : atR n v p = (none, 4) := by unfold atR; rw [if_neg (by simpa using h), hp]; simp only [ha]
theorem atR_some {n : Nat} {v : V n} {p : List UInt8} {L : List (List UInt8)} {u : Sigma V} (h : zi n v = 0) (hp : yf p = some L) (ha : atV n v L = some u) : atR n v p = (some u, 0) := by unfold atR; rw [if_neg (by simpa using h), hp]; simp only [ha]
def Zb (r : Option (Sigma V) × Int) (e : Ending) (w' : World) : Prop := match r.1 with
 | none => e = .returned (.tuple #[.agg #[.int .i64 0, .int .i64 0, .string ⟨#[]⟩, .slice none 0 0, .slice none 0 0], .int .i64 r.2])
 | some u => ∃ k i s p a b q c d, ∃ S : Nat → Prop, e = .returned (.tuple #[.agg #[.int .i64 k, .int .i64 i, .string s, .slice p a b, .slice q c d], .int .i64 r.2]) ∧ Rep u.1 S w' [.int .i64 k, .int .i64 i, .string s, .slice p a b, .slice q c d] u.2
theorem yD {r : Option (Sigma V) × Int} {x : Int} {w' : World} (h : r = (none, x)) : Zb r (.returned (.tuple #[.agg #[.int .i64 0, .int .i64 0, .string ⟨#[]⟩, .slice none 0 0, .slice none 0 0], .int .i64 x])) w' := by subst h; exact rfl
theorem ZH {r : Option (Sigma V) × Int} {m : Nat} {u : V m} {x : Int} {w' : World} {S : Nat → Prop} {k i : Int} {s : ByteArray} {p q : Option Addr} {a b c d : Nat} (h : r = (some ⟨m, u⟩, x)) (hr : Rep m S w' [.int .i64 k, .int .i64 i, .string s, .slice p a b, .slice q c d] u) :
  Zb r (.returned (.tuple #[.agg #[.int .i64 k, .int .i64 i, .string s, .slice p a b, .slice q c d], .int .i64 x])) w' := by subst h; exact ⟨k, i, s, p, a, b, q, c, d, S, rfl, hr⟩
theorem Kk {L : List (List UInt8)} {b : Nat} (h : ∀ x, x ∈ L → x.length ≤ b) : ∀ x, x ∈ L.map zg → x.size ≤ b := fun x hx => by
 obtain ⟨y, hy, rfl⟩ := List.mem_map.1 hx
 rw [zK]
 exact h y hy
theorem v8 {p : List UInt8} {L : List (List UInt8)} (h : yf p = some L) : L.length ≤ p.length ∧ ∀ x, x ∈ L → x.length ≤ p.length := by
 have e := jz h
 subst e
 refine ⟨ptr_ge L, fun x hx => ?_⟩
 obtain ⟨a, b, rfl⟩ := List.append_of_mem hx
 have h1 := esc_ge x
 unfold kr
 rw [List.flatMap_append, List.flatMap_cons]
 simp only [List.length_append, List.length_cons]
 omega
section
variable {n : Nat} {v : V n} {S : Nat → Prop} {w : World} {cs : List Value}
set_option maxRecDepth 100000 in
theorem at_any (hr : Rep n S w cs v) (hsm : zZ n v) (hn : n ≤ 100) (p : ByteArray) (hp : p.size ≤ 900000) (hm : b9 w) (ht : yK w) (he : qB w) :
  Calls Tryz.prog 33 #[.agg cs.toArray, .string p] w fun e w' => Zb (atR n v p.data.toList) e w' ∧ zb [] w w' := by
 obtain ⟨kd, nm, st, a, la, ea, b, lb, eb, rfl⟩ := hr.conv
 obtain ⟨W0, Gl⟩ : ∃ W0, Hid (W0 = (w.alloc (.cells #[.int .i64 kd, .int .i64 nm, .string st, .slice a la ea, .slice b lb eb] 25)).alloc (.cells #[.int .i64 0, .int .i64 0, .string ⟨#[]⟩, .slice none 0 0, .slice none 0 0] 25)) := ⟨_, qI rfl⟩
 have Gb : Hid (zb [] w W0) := qI (by rw [Gl.o]; exact ((zb.refl [] w).alloc _).alloc _)
 have Gy : Hid (z6 W0 w.heap.size kd nm st (.slice a la ea) (.slice b lb eb)) := qI (by rw [Gl.o]; exact (yb _ _ _ _ _ _ _).kept0 ((zb.refl [] _).alloc _))
 have Gi : Hid (xh W0 (w.heap.size + 1)) := qI (by rw [Gl.o]; exact zn (by simp))
 have Jf := qI (hr.kept0 Gb.o)
 have Gm := qI hsm
 have HT := qI (ht.kept0 Gb.o)
 have HE := qI (he.kept0 Gb.o)
 have CK := qI (xn (hr.kept0 Gb.o) hsm hn HT.o)
 have CPT := qI (fun (w' : World) (k : zb [] w w') => ZZ (hm.kept0 k) p hp)
 have Gz := qI hp
 have hbx := Gy.o
 rw [Gl.o] at hbx
 obtain ⟨x0, x1, x2, x3, x4⟩ := hbx
 clear hr hsm hm ht he hp hn
 go_enter func33, ntmps33
 go_wp2_with fail
 rw [← Gl.o]
 clear x0 x1 x2 x3 x4
 refine CK.o.mono ?_
 rintro e w1 ⟨rfl, hk1⟩
 have Ga := qI hk1
 clear hk1
 by_cases hc : zi n v = 0
 rotate_left
 ·have Gg := qI (atR_bad (p := p.data.toList) hc)
  obtain ⟨g1, g2⟩ := zt (a := zi n v) (b := 0) hc
  have Gd := qI (Gi.o.kept Ga.o (by simp))
  obtain ⟨⟨d0, d1, d2, d3, d4⟩, f0, f1, f2, f3, f4⟩ := Gd.o.facts
  clear hc
  go_wp2_with fail
  obtain ⟨WF, e⟩ : ∃ WF, WF = zy w1 (w.heap.size + 1) (.int .i64 0) (.int .i64 0) (.string ⟨#[]⟩) (.slice none 0 0) (.slice none 0 0) := ⟨_, rfl⟩
  obtain ⟨KF, y0, y1, y2, y3, y4⟩ := Gd.o.stored e
  unfold zy at e
  rw [← e]
  exact bodyPost_ret (v := .tuple #[.agg #[.int .i64 0, .int .i64 0, .string ⟨#[]⟩, .slice none 0 0, .slice none 0 0], .int .i64 (zi n v)]) (by simp [results, results33, go_sem, y0, y1, y2, y3, y4]) rfl ⟨yD Gg.o, ((Gb.o.mono (Y := [w.heap.size + 1]) (by simp)).trans' ((Ga.o.mono (by simp)).trans' KF)).fresh (by simp)⟩
 have HC := qI hc
 rw [hc]
 have CPT1 := qI (CPT.o _ (Gb.o.then Ga.o))
 clear hc
 go_wp2_with fail
 refine CPT1.o.mono ?_
 rintro e w2 ⟨ha2, hk2⟩
 have Gc := qI (Ga.o.then hk2)
 clear hk2 CPT1
 cases hpl : yf p.data.toList with
 | none =>
  obtain rfl := ha2.none_ hpl
  have Gg := qI (atR_path HC.o hpl)
  have Gd := qI (Gi.o.kept Gc.o (by simp))
  obtain ⟨⟨d0, d1, d2, d3, d4⟩, f0, f1, f2, f3, f4⟩ := Gd.o.facts
  clear ha2 hpl
  go_wp2_with fail
  obtain ⟨WF, e⟩ : ∃ WF, WF = zy w2 (w.heap.size + 1) (.int .i64 0) (.int .i64 0) (.string ⟨#[]⟩) (.slice none 0 0) (.slice none 0 0) := ⟨_, rfl⟩
  obtain ⟨KF, y0, y1, y2, y3, y4⟩ := Gd.o.stored e
  unfold zy at e
  rw [← e]
  exact bodyPost_ret (v := .tuple #[.agg #[.int .i64 0, .int .i64 0, .string ⟨#[]⟩, .slice none 0 0, .slice none 0 0], .int .i64 60]) (by simp [results, results33, go_sem, y0, y1, y2, y3, y4]) rfl ⟨yD Gg.o, ((Gb.o.mono (Y := [w.heap.size + 1]) (by simp)).trans' ((Gc.o.mono (by simp)).trans' KF)).fresh (by simp)⟩
 | some L =>
  obtain ⟨pa, ca, rfl, hsl⟩ := ha2.some_ hpl
  have Ja := qI hpl
  have Jg := qI hsl
  have Gk := qI (v8 hpl)
  obtain ⟨x0, x1, x2, x3, x4⟩ := Gy.o.kept0 Gc.o
  have CC := qI (JW n v (Jf.o.kept0 Gc.o) Gm.o)
  clear ha2 hpl hsl
  go_wp2_with fail
  refine CC.o.mono ?_
  rintro e w3 ⟨⟨cs3, rfl, ho3⟩, hk3⟩
  obtain ⟨k3, m3, s3, p3, i3, c3, q3, j3, d3, rfl⟩ := ho3.rep.conv
  clear x0 x1 x2 x3 x4
  obtain ⟨W4, Gq⟩ : ∃ W4, Hid (W4 = w3.alloc (.cells #[.int .i64 k3, .int .i64 m3, .string s3, .slice p3 i3 c3, .slice q3 j3 d3] 25)) := ⟨_, qI rfl⟩
  have Gh : Hid (zb [] w3 W4) := qI (by rw [Gq.o]; exact (zb.refl [] w3).alloc _)
  have Gr := qI ((Gc.o.then hk3).then Gh.o)
  have Jh : Hid (qy n (fun g => w2.heap.size ≤ g) W4 w3.heap.size 0 v) := qI (by
   have h9 := ho3.rep.kept0 Gh.o
   have hb : W4.heap[w3.heap.size]? = some (.cells #[.int .i64 k3, .int .i64 m3, .string s3, .slice p3 i3 c3, .slice q3 j3 d3] 25 (0, 0)) := by rw [Gq.o]; exact zn rfl
   exact ⟨k3, m3, s3, _, _, za (o := 0) hb rfl, za (o := 1) hb rfl, za (o := 2) hb rfl, za (o := 3) hb rfl, za (o := 4) hb rfl, h9⟩)
  have Gs := qI ((Jg.o.kept0 hk3).kept0 Gh.o)
  have CW := qI (walk_any Jh.o Gs.o (by have h1 := Gk.o.1; rw [ju] at h1; have := Gz.o; omega) (Kk (fun x hx => by have h1 := Gk.o.2 x hx; rw [ju] at h1; have := Gz.o; omega)) Gm.o (HT.o.kept0 Gr.o) (HE.o.kept0 Gr.o))
  rw [Zz] at CW
  clear ho3 hk3
  go_upto_region 8 with fail
  rw [← Gq.o]
  go_wp2_with fail
  refine CW.o.mono ?_
  rintro e w5 ⟨ha5, hk5⟩
  have Ge := qI (Gr.o.then hk5)
  have Gd := qI (Gi.o.kept Ge.o (by simp))
  obtain ⟨⟨d0, d1, d2, d3, d4⟩, f0, f1, f2, f3, f4⟩ := Gd.o.facts
  clear hk5
  cases hat : atV n v L with
  | none =>
   rw [hat] at ha5
   obtain rfl := ha5
   have Gg := qI (atR_none HC.o Ja.o hat)
   clear hat
   go_wp2_with fail
   obtain ⟨WF, e⟩ : ∃ WF, WF = zy w5 (w.heap.size + 1) (.int .i64 0) (.int .i64 0) (.string ⟨#[]⟩) (.slice none 0 0) (.slice none 0 0) := ⟨_, rfl⟩
   obtain ⟨KF, y0, y1, y2, y3, y4⟩ := Gd.o.stored e
   unfold zy at e
   rw [← e]
   exact bodyPost_ret (v := .tuple #[.agg #[.int .i64 0, .int .i64 0, .string ⟨#[]⟩, .slice none 0 0, .slice none 0 0], .int .i64 4]) (by simp [results, results33, go_sem, y0, y1, y2, y3, y4]) rfl ⟨yD Gg.o, ((Gb.o.mono (Y := [w.heap.size + 1]) (by simp)).trans' ((Ge.o.mono (by simp)).trans' KF)).fresh (by simp)⟩
  | some u =>
   rw [hat] at ha5
   obtain ⟨g5, o5, rfl, k5, i5, s5, a5, b5, y0, y1, y2, y3, y4, hr5⟩ := ha5
   obtain ⟨p5, m5, c5, q5, n5, e5, rfl, rfl⟩ := hr5.sl
   have Ji := qI hr5
   have Gg := qI (atR_some HC.o Ja.o hat)
   clear hat hr5
   go_wp2_with fail
   obtain ⟨WF, e⟩ : ∃ WF, WF = zy w5 (w.heap.size + 1) (.int .i64 k5) (.int .i64 i5) (.string s5) (.slice p5 m5 c5) (.slice q5 n5 e5) := ⟨_, rfl⟩
   obtain ⟨KF, z0, z1, z2, z3, z4⟩ := Gd.o.stored e
   have Jj := qI (Ji.o.kept KF (by simp; have := Gc.o.size; have := Gi.o; have := lt_of_block this; omega))
   unfold zy at e
   rw [← e]
   exact bodyPost_ret (v := .tuple #[.agg #[.int .i64 k5, .int .i64 i5, .string s5, .slice p5 m5 c5, .slice q5 n5 e5], .int .i64 0]) (by simp [results, results33, go_sem, z0, z1, z2, z3, z4]) rfl ⟨ZH Gg.o Jj.o, ((Gb.o.mono (Y := [w.heap.size + 1]) (by simp)).trans' ((Ge.o.mono (by simp)).trans' KF)).fresh (by simp)⟩
end
end Go.Proofs.YtpbphdkjjoipnaaGreatDoor

/- Parts of one proof, merged: XVZ XVD XVN XK3A XK3B. -/
import Derived.Test.YtckbnjipecclaaaGreatDoorHkC
import Derived.Test.YtckbnjipecclaaaGreatDoorHkA
import Derived.WalkSpells
import Derived.IntWalk
set_option linter.all false
set_option maxHeartbeats 12800000
set_option maxRecDepth 10000
set_option linter.unusedVariables false
set_option linter.unusedSimpArgs false
set_option linter.unnecessarySimpa false
namespace Go.Proofs.YtckbnjipecclaaaGreatDoor
open Go.Lib (decodeL decodeN)
theorem gb_zero (a : Nat) (t : List UInt8) (h : a < 256) : gb (UInt8.ofNat a :: t) 0 = a := by
 show (UInt8.ofNat a).toNat = a
 rw [UInt8.toNat_ofNat']; omega
theorem gb_one (x : UInt8) (a : Nat) (t : List UInt8) (h : a < 256) : gb (x :: UInt8.ofNat a :: t) 1 = a := gb_zero a t h
theorem gb_two (x y : UInt8) (a : Nat) (t : List UInt8) (h : a < 256) : gb (x :: y :: UInt8.ofNat a :: t) 2 = a := gb_zero a t h
theorem gb_three (x y z : UInt8) (a : Nat) (t : List UInt8) (h : a < 256) : gb (x :: y :: z :: UInt8.ofNat a :: t) 3 = a := gb_zero a t h
theorem decode_rune (c : Nat) (h : c < 55296 ∨ (57344 ≤ c ∧ c ≤ 1114111)) : decodeL (runeB c) = (c, (runeB c).length) ∧ 1 ≤ (runeB c).length ∧ (runeB c).length ≤ 4 ∧ (c < 65536 → (runeB c).length ≤ 3) ∧ ((runeB c).length = 1 → c < 128) := by
 rw [encode_eq c h]
 by_cases c1 : c < 128
 ·rw [if_pos c1, decodeL_eq, gb_zero _ _ (by omega)]
  refine ⟨?_, Nat.le_refl _, by simp, fun _ => by simp, fun _ => c1⟩
  unfold decodeN
  rw [if_pos c1]; rfl
 rw [if_neg c1]
 by_cases c2 : c < 2048
 ·rw [if_pos c2, decodeL_eq, gb_zero _ _ (by omega), gb_one _ _ _ (by omega)]
  refine ⟨?_, by simp, by simp, fun _ => by simp, fun q => by simp at q⟩
  unfold decodeN
  rw [if_neg (by omega), if_pos ⟨by omega, by simp, by omega⟩, if_pos (by omega)]
  exact Prod.ext (by show _ = c; omega) rfl
 rw [if_neg c2]
 by_cases c3 : c < 65536
 ·rw [if_pos c3, decodeL_eq, gb_zero _ _ (by omega), gb_one _ _ _ (by omega), gb_two _ _ _ _ (by omega)]
  refine ⟨?_, by simp, by simp, fun _ => by simp, fun q => by simp at q⟩
  unfold decodeN
  rw [if_neg (by omega), if_neg (by omega), if_pos ⟨by omega, ⟨by simp, by omega⟩, by simp, by omega⟩, if_pos (by omega)]
  exact Prod.ext (by show _ = c; omega) rfl
 ·rw [if_neg c3, decodeL_eq, gb_zero _ _ (by omega), gb_one _ _ _ (by omega), gb_two _ _ _ _ (by omega), gb_three _ _ _ _ _ (by omega)]
  refine ⟨?_, by simp, by simp, fun _ => by omega, fun q => by simp at q⟩
  unfold decodeN
  rw [if_neg (by omega), if_neg (by omega), if_neg (by omega), if_pos ⟨by omega, ⟨by simp, by omega⟩, ⟨by simp, by omega⟩, by simp, by omega⟩, if_pos (by omega)]
  exact Prod.ext (by show _ = c; omega) rfl
section
variable {α : Type} {good : α → Prop} {cnt byt : α → Nat} {sub : List UInt8 → Nat → Sum Int (α × List UInt8 × Nat)}
end
theorem depth_le : ∀ (n : Nat) (v : V n), depthV n v ≤ n
 | 0, v => nomatch v
 | n + 1, (v : VS (V n)) => by
  have : maxL (v.kids.map (depthV n)) ≤ n := maxL_le.2 fun x hx => by
   obtain ⟨y, _, rfl⟩ := List.mem_map.1 hx
   exact depth_le n y
  show 1 + _ ≤ n + 1
  omega
open Go.Lib (itoa)
def ltB (a b : ByteArray) : Bool := decide (a.data.toList < b.data.toList)
section
variable {α : Type} (sub : α → α → List ByteArray)
end
theorem ltB_none {a b : ByteArray} (h1 : ¬ ltB a b = true) (h2 : ¬ ltB b a = true) : a = b := by
 unfold ltB at h1 h2
 rw [decide_eq_true_iff] at h1 h2
 exact ba_eq (List.le_antisymm (List.not_lt.1 h2) (List.not_lt.1 h1))
theorem ltB_asymm {a b : ByteArray} (h1 : ltB a b = true) : ¬ ltB b a = true := by
 unfold ltB at h1 ⊢
 rw [decide_eq_true_iff] at h1 ⊢
 exact List.lt_asymm h1
def codeZ (s : List UInt8) (n : Nat) : Int :=
 if n = 1 then gb s 0 else if n = 2 then 64 * ((gb s 0 : Int) - 192) + gb s 1 - 128
 else if n = 3 then 64 * (64 * ((gb s 0 : Int) - 224) + gb s 1 - 128) + gb s 2 - 128
 else 64 * (64 * (64 * ((gb s 0 : Int) - 240) + gb s 1 - 128) + gb s 2 - 128) + gb s 3 - 128
def mayZ (c : Int) : Bool := decide (0 ≤ c) && decide (c ≤ 1114111) && (decide (c < 55296) || decide (57343 < c))
def nextGo : Nat → Nat → List UInt8 → Int × Nat
 | 0, _, _ => (-1, 0)
 | f + 1, n, s => if n ≤ 4 ∧ n ≤ s.length then (if mayZ (codeZ s n) = true ∧ runeB (codeZ s n).toNat = s.take n then (codeZ s n, n) else nextGo f (n + 1) s) else (-1, 0)
def nextZ (s : List UInt8) : Int × Nat := if s = [] ∨ ((decodeL s).1 = 65533 ∧ (decodeL s).2 = 1) then (-1, 0) else ((decodeL s).1, (decodeL s).2)
theorem mayZ_iff {c : Int} : mayZ c = true ↔ ∃ m : Nat, c = m ∧ (m < 55296 ∨ (57344 ≤ m ∧ m ≤ 1114111)) := by
 unfold mayZ
 simp only [Bool.and_eq_true, Bool.or_eq_true, decide_eq_true_eq]
 constructor
 ·intro h
  exact ⟨c.toNat, by omega, by omega⟩
 ·rintro ⟨m, rfl, h⟩
  omega
theorem gb_take {s : List UInt8} {k i : Nat} (h : i < k) : gb (s.take k) i = gb s i := by
 unfold gb
 rw [List.getD_eq_getElem?_getD, List.getD_eq_getElem?_getD, List.getElem?_take_of_lt h]
theorem code_of {s : List UInt8} {c k : Nat} (D : Decoded s c k) : codeZ s k = c ∧ k ≤ 4 := by
 have hr := D.rune
 have hv := D.valid
 have hl : (s.take k).length = k := by rw [List.length_take]; have := D.le; omega
 have g : ∀ i, i < k → gb s i = gb (runeB c) i := fun i hi => by rw [hr, gb_take hi]
 rw [← hr] at hl
 rw [encode_eq c hv] at hl g
 clear hr
 by_cases c1 : c < 128
 ·rw [if_pos c1] at hl g
  have hk : k = 1 := hl.symm
  subst hk
  have g0 := g 0 (by omega)
  rw [gb_zero _ _ (by omega)] at g0
  refine ⟨?_, by decide⟩
  unfold codeZ
  rw [if_pos rfl, g0]
 rw [if_neg c1] at hl g
 by_cases c2 : c < 2048
 ·rw [if_pos c2] at hl g
  have hk : k = 2 := hl.symm
  subst hk
  have g0 := g 0 (by omega)
  have g1 := g 1 (by omega)
  rw [gb_zero _ _ (by omega)] at g0
  rw [gb_one _ _ _ (by omega)] at g1
  refine ⟨?_, by decide⟩
  unfold codeZ
  rw [if_neg (by decide), if_pos rfl, g0, g1]
  omega
 rw [if_neg c2] at hl g
 by_cases c3 : c < 65536
 ·rw [if_pos c3] at hl g
  have hk : k = 3 := hl.symm
  subst hk
  have g0 := g 0 (by omega)
  have g1 := g 1 (by omega)
  have g2 := g 2 (by omega)
  rw [gb_zero _ _ (by omega)] at g0
  rw [gb_one _ _ _ (by omega)] at g1
  rw [gb_two _ _ _ _ (by omega)] at g2
  refine ⟨?_, by decide⟩
  unfold codeZ
  rw [if_neg (by decide), if_neg (by decide), if_pos rfl, g0, g1, g2]
  omega
 ·rw [if_neg c3] at hl g
  have hk : k = 4 := hl.symm
  subst hk
  have g0 := g 0 (by omega)
  have g1 := g 1 (by omega)
  have g2 := g 2 (by omega)
  have g3 := g 3 (by omega)
  rw [gb_zero _ _ (by omega)] at g0
  rw [gb_one _ _ _ (by omega)] at g1
  rw [gb_two _ _ _ _ (by omega)] at g2
  rw [gb_three _ _ _ _ _ (by omega)] at g3
  refine ⟨?_, by decide⟩
  unfold codeZ
  rw [if_neg (by decide), if_neg (by decide), if_neg (by decide), g0, g1, g2, g3]
  omega
theorem match_of {s : List UInt8} {c n : Nat} (hc : c < 55296 ∨ (57344 ≤ c ∧ c ≤ 1114111)) (hn : n ≤ s.length) (h : runeB c = s.take n) : decodeL s = (c, n) ∧ ¬ (c = 65533 ∧ n = 1) ∧ s ≠ [] := by
 obtain ⟨h1, h2, h3, h4, h5⟩ := decode_rune c hc
 have hl : (runeB c).length = n := by rw [h, List.length_take]; omega
 rw [hl] at h1 h2 h5
 have hb : ¬ (c = 65533 ∧ n = 1) := fun q => by have := h5 q.2; omega
 have D := decoded (l := runeB c) (by intro q; rw [q] at hl; simp at hl; omega) (by rw [h1]; exact hb)
 rw [h1] at D
 have hm := D.more (s.drop n)
 have e : (runeB c).take n = runeB c := List.take_of_length_le (by omega)
 have hm : decodeL ((runeB c).take n ++ s.drop n) = (c, n) := hm
 rw [e, h, List.take_append_drop] at hm
 exact ⟨hm, hb, by intro q; subst q; simp at hn; omega⟩
theorem nextGo_none : ∀ (f n : Nat) (s : List UInt8), (s = [] ∨ ((decodeL s).1 = 65533 ∧ (decodeL s).2 = 1)) → nextGo f n s = (-1, 0) := by
 intro f
 induction f with
 | zero => intro n s _; rfl
 | succ f ih =>
  intro n s h
  unfold nextGo
  split
  ·rename_i hn
   rw [if_neg, ih _ _ h]
   rintro ⟨q1, q2⟩
   obtain ⟨m, e, hm⟩ := mayZ_iff.1 q1
   rw [e, Int.toNat_natCast] at q2
   obtain ⟨g1, g2, g3⟩ := match_of hm hn.2 q2
   rcases h with h | h
   ·exact g3 h
   ·rw [g1] at h; exact g2 h
  ·rfl
theorem nextGo_some : ∀ (f n : Nat) (s : List UInt8) (c k : Nat), Decoded s c k → ¬ (c = 65533 ∧ k = 1) → n ≤ k → k < n + f → nextGo f n s = ((c : Int), k) := by
 intro f
 induction f with
 | zero => intro n s c k _ _ h1 h2; omega
 | succ f ih =>
  intro n s c k D hb h1 h2
  obtain ⟨e, h4⟩ := code_of D
  have hle := D.le
  unfold nextGo
  rw [if_pos ⟨by omega, by omega⟩]
  by_cases hk : n = k
  ·subst hk
   rw [if_pos, e]
   rw [e, Int.toNat_natCast]
   exact ⟨mayZ_iff.2 ⟨c, rfl, D.valid⟩, D.rune⟩
  ·rw [if_neg]
   ·exact ih (n + 1) s c k D hb (by omega) (by omega)
   ·rintro ⟨q1, q2⟩
    obtain ⟨m, e, hm⟩ := mayZ_iff.1 q1
    rw [e, Int.toNat_natCast] at q2
    obtain ⟨g1, g2, g3⟩ := match_of hm (by omega) q2
    have := D.eq.symm.trans g1
    exact hk (Prod.mk.inj this).2.symm
theorem nextGo_eq (s : List UInt8) : nextGo 4 1 s = nextZ s := by
 unfold nextZ
 by_cases h : s = [] ∨ ((decodeL s).1 = 65533 ∧ (decodeL s).2 = 1)
 ·rw [if_pos h, nextGo_none _ _ _ h]
 ·rw [if_neg h]
  have D := decoded (fun q => h (.inl q)) (fun q => h (.inr q))
  exact nextGo_some 4 1 s _ _ D (fun q => h (.inr q)) D.pos (by have := (code_of D).2; omega)
open Go.RowKit
theorem ret_bool {a b : Bool} (h : a = b) : Ending.returned (.bool a) = .returned (.bool b) := by rw [h]
theorem ret_int {k : IntKind} {a b : Int} (h : a = b) : Ending.returned (.int k a) = .returned (.int k b) := by rw [h]
theorem gb_at (s : ByteArray) (k : Nat) (h : k < s.size) : (gb s.data.toList k : Int) = (s[k].toNat : Int) := by
 unfold gb
 have h' : k < s.data.toList.length := by simpa using h
 rw [List.getD_eq_getElem?_getD, List.getElem?_eq_getElem h']
 rfl
theorem ext_list (s : ByteArray) (i j : Nat) (hj : j ≤ s.size) : (s.extract i j).data.toList = (s.data.toList.take j).drop i := by
 rw [ByteArray.data_extract, Array.toList_extract, List.extract_eq_take_drop, List.drop_take]
theorem ext_from (s : ByteArray) (i : Nat) : (s.extract i s.size).data.toList = s.data.toList.drop i := by
 rw [ext_list s i s.size (Nat.le_refl _), List.take_of_length_le (by simp)]
theorem may_any (c : Int) (w : World) : Calls Tryz.prog 168 #[.int .i64 c] w fun e w' => e = .returned (.bool (mayZ c)) ∧ w = w' := by
 by_cases h0 : 0 ≤ c
 ·by_cases h1 : c ≤ 1114111
  ·by_cases h2 : c < 55296
   ·have HM : Hid (true = mayZ c) := qI (by unfold mayZ; simp [h0, h1, h2])
    go_enter Tryz.func168, Tryz.ntmps168
    go_wp2_with fail
    go_ret
    exact ⟨ret_bool HM.o, rfl⟩
   ·have HM : Hid (decide (57343 < c) = mayZ c) := qI (by unfold mayZ; simp [h0, h1, h2])
    go_enter Tryz.func168, Tryz.ntmps168
    go_wp2_with fail
    go_ret
    exact ⟨ret_bool HM.o, rfl⟩
  ·have HM : Hid (mayZ c = false) := qI (by unfold mayZ; simp; omega)
   go_enter Tryz.func168, Tryz.ntmps168
   go_wp2_with fail
   go_ret
   exact ⟨ret_bool HM.o.symm, rfl⟩
 ·have HM : Hid (mayZ c = false) := qI (by unfold mayZ; simp; omega)
  go_enter Tryz.func168, Tryz.ntmps168
  go_wp2_with fail
  go_ret
  exact ⟨ret_bool HM.o.symm, rfl⟩
theorem int_ne {a b : Int} (h : a ≠ b) : (a == b) = false ∧ (a != b) = true := by simp [h]
theorem nat_ne {a b : Nat} (h : a ≠ b) : ((a : Int) == (b : Int)) = false ∧ ((a : Int) != (b : Int)) = true := int_ne (by omega)
theorem toList_inj {a b : ByteArray} (h : a.toList = b.toList) : a = b := by
 rw [ByteArray.toList_eq, ByteArray.toList_eq] at h
 cases a; cases b
 simp only [ByteArray.mk.injEq] at *
 exact Array.toList_inj.1 h
theorem str_ne {a b : ByteArray} (h : a ≠ b) : (a.toList == b.toList) = false ∧ (a.toList != b.toList) = true := by
 have : a.toList ≠ b.toList := fun e => h (toList_inj e)
 simp [this]
theorem str_eq {a b : ByteArray} (h : a = b) : (a.toList == b.toList) = true ∧ (a.toList != b.toList) = false := by
 subst h; simp
theorem int_eq {a b : Int} (h : a = b) : (a == b) = true ∧ (a != b) = false := by simp [h]
theorem nat_eq {a b : Nat} (h : a = b) : ((a : Int) == (b : Int)) = true ∧ ((a : Int) != (b : Int)) = false := by simp [h]
def codeAt (s : ByteArray) (n : Nat) : Nat → Int
 | 0 => 0
 | 1 => (gb s.data.toList 0 : Int) - (if n = 2 then 192 else if n = 3 then 224 else 240)
 | k + 2 => 64 * codeAt s n (k + 1) + gb s.data.toList (k + 1) - 128
theorem codeAt_bd (s : ByteArray) (n k : Nat) (hk : k ≤ 4) : -100000000 ≤ codeAt s n k ∧ codeAt s n k ≤ 100000000 := by
 have g0 := gb_lt s.data.toList 0
 have g1 := gb_lt s.data.toList 1
 have g2 := gb_lt s.data.toList 2
 have g3 := gb_lt s.data.toList 3
 have hb : (0 : Int) ≤ (if n = 2 then 192 else if n = 3 then 224 else 240) ∧ (if n = 2 then 192 else if n = 3 then 224 else 240 : Int) ≤ 240 := by
  split
  ·omega
  ·split <;> omega
 match k, hk with
 | 0, _ => simp only [codeAt]; omega
 | 1, _ => simp only [codeAt]; omega
 | 2, _ => simp only [codeAt, Nat.zero_add]; omega
 | 3, _ => simp only [codeAt, Nat.zero_add, Nat.reduceAdd]; omega
 | 4, _ => simp only [codeAt, Nat.zero_add, Nat.reduceAdd]; omega
theorem codeAt_all (s : ByteArray) (n : Nat) (h : n = 2 ∨ n = 3 ∨ n = 4) : codeAt s n n = codeZ s.data.toList n := by
 rcases h with rfl | rfl | rfl
 ·simp only [codeAt, codeZ, Nat.zero_add, Nat.reduceAdd]; simp
 ·simp only [codeAt, codeZ, Nat.zero_add, Nat.reduceAdd]; simp
 ·simp only [codeAt, codeZ, Nat.zero_add, Nat.reduceAdd]; simp
theorem codeAt_one (s : ByteArray) (n : Nat) : codeAt s n 1 = (gb s.data.toList 0 : Int) - (if n = 2 then 192 else if n = 3 then 224 else 240) := rfl
theorem codeAt_next (s : ByteArray) (n k : Nat) (h : 1 ≤ k) : codeAt s n (k + 1) = 64 * codeAt s n k + gb s.data.toList k - 128 := by
 match k, h with
 | k + 1, _ => rfl
theorem code_any (s : ByteArray) (n : Nat) (h1 : 1 ≤ n) (h4 : n ≤ 4) (hs : n ≤ s.size) (hmax : s.size ≤ 281474976710656) (w : World) :
  Calls Tryz.prog 167 #[.string s, .int .i64 n] w fun e w' => e = .returned (.int .i64 (codeZ s.data.toList n)) ∧ w = w' := by
 have h0 : 0 < s.size := by omega
 have G0 := qI (gb_at s 0 h0)
 have hb0 : (s[0].toNat : Int) ≤ 255 := by have := s[0].toNat_lt; omega
 have hc : n = 1 ∨ n = 2 ∨ n = 3 ∨ n = 4 := by omega
 rcases hc with rfl | hc
 ·have HZ : Hid (codeZ s.data.toList 1 = (s[0].toNat : Int)) := qI (by rw [← G0.o]; rfl)
  clear h1 h4
  go_enter Tryz.func167, Tryz.ntmps167
  go_wp2_with fail
  go_ret
  rw [HZ.o]
  exact ⟨rfl, rfl⟩
 ·have HZ := qI (codeAt_all s n hc)
  have HB : Hid (∀ k, k ≤ 4 → -100000000 ≤ codeAt s n k ∧ codeAt s n k ≤ 100000000) := qI (codeAt_bd s n)
  have f1 := (nat_ne (a := n) (b := 1) (by omega)).1
  have Ga : Hid (((((n : Int) == 2) = true ∧ codeAt s n 1 = (s[0].toNat : Int) - 192) ∨ (((n : Int) == 2) = false ∧ ((n : Int) == 3) = true ∧ codeAt s n 1 = (s[0].toNat : Int) - 224) ∨
    (((n : Int) == 2) = false ∧ ((n : Int) == 3) = false ∧ ((n : Int) == 4) = true ∧ codeAt s n 1 = (s[0].toNat : Int) - 240))) := qI (by
   rw [codeAt_one, G0.o]
   rcases hc with rfl | rfl | rfl <;> simp)
  clear hc
  rcases Ga.o with ⟨g1, hx⟩ | ⟨g1, g2, hx⟩ | ⟨g1, g2, g3, hx⟩
  all_goals
   have HX := qI hx
   clear hx
   go_enter Tryz.func167, Tryz.ntmps167
   go_wp2_with fail
   go_loop [5, 6] (fun x i => ∃ k : Nat, 1 ≤ k ∧ k ≤ n ∧ i = .int .i64 k ∧ x = .int .i64 (codeAt s n k)) (fun _ i => n - (intOf i).toNat)
   case atStart => exact ⟨1, by omega, by omega, rfl, by rw [HX.o]⟩
   case round =>
    obtain ⟨k, hk1, hk, rfl, rfl⟩ := hrel
    have hb := HB.o k (by omega)
    by_cases hlt : k < n
    ·have hltI : (k : Int) < n := by omega
     have hks : k < s.size := by omega
     have hbk : (s[k].toNat : Int) ≤ 255 := by have := s[k].toNat_lt; omega
     have HN : Hid (codeAt s n (k + 1) = 64 * codeAt s n k + (s[k].toNat : Int) - 128) := qI (by rw [codeAt_next s n k hk1, gb_at s k hks])
     revert hb HN
     generalize codeAt s n k = X
     intro hb HN
     go_wp2_with fail
     go_round
     case rel => exact ⟨k + 1, by omega, by omega, by go_num, by rw [HN.o]⟩
     case measure => simp [intOf]; omega
    ·obtain rfl : k = n := by omega
     go_wp2_with fail
     go_ret
     exact ⟨ret_int HZ.o, rfl⟩
theorem bv_nat (n : Nat) (h : n < 256) : bv (UInt8.ofNat n) = .int .u8 n := by
 unfold bv
 congr 1
 have : (UInt8.ofNat n).toNat = n := by simp [UInt8.toNat_ofNat']; omega
 rw [this]
def bytesZ (c : Int) : List Value :=
 if c < 128 then [.int .u8 c] else if c < 2048 then [.int .u8 (192 + c / 64), .int .u8 (128 + c % 64)]
 else if c < 65536 then [.int .u8 (224 + c / 4096), .int .u8 (128 + c / 64 % 64), .int .u8 (128 + c % 64)]
 else [.int .u8 (240 + c / 262144), .int .u8 (128 + c / 4096 % 64), .int .u8 (128 + c / 64 % 64), .int .u8 (128 + c % 64)]
theorem refBytes_int (c : Int) (h0 : 0 ≤ c) (h11 : c ≤ 1114111) (w : World) :
  Calls Tryz.prog 169 #[.int .i64 c] w fun e w' => e = .returned (.slice (some ⟨w.heap.size, 0, none⟩) (bytesZ c).length (bytesZ c).length) ∧ w' = w.alloc (.cells (bytesZ c).toArray 5) := by
 by_cases h1 : c < 128
 ·have HZ : Hid (bytesZ c = [.int .u8 c]) := qI (by unfold bytesZ; rw [if_pos h1])
  go_enter Tryz.func169, Tryz.ntmps169
  go_wp2_with fail
  go_ret
  rw [HZ.o]
  exact ⟨rfl, rfl⟩
 by_cases h2 : c < 2048
 ·have HZ : Hid (bytesZ c = [.int .u8 (192 + c / 64), .int .u8 (128 + c % 64)]) := qI (by unfold bytesZ; rw [if_neg h1, if_pos h2])
  go_enter Tryz.func169, Tryz.ntmps169
  go_wp2_with fail
  go_ret
  rw [HZ.o]
  exact ⟨rfl, rfl⟩
 by_cases h3 : c < 65536
 ·have HZ : Hid (bytesZ c = [.int .u8 (224 + c / 4096), .int .u8 (128 + c / 64 % 64), .int .u8 (128 + c % 64)]) := qI (by unfold bytesZ; rw [if_neg h1, if_neg h2, if_pos h3])
  go_enter Tryz.func169, Tryz.ntmps169
  go_wp2_with fail
  go_ret
  rw [HZ.o]
  exact ⟨rfl, rfl⟩
 ·have HZ : Hid (bytesZ c = [.int .u8 (240 + c / 262144), .int .u8 (128 + c / 4096 % 64), .int .u8 (128 + c / 64 % 64), .int .u8 (128 + c % 64)]) := qI (by unfold bytesZ; rw [if_neg h1, if_neg h2, if_neg h3])
  go_enter Tryz.func169, Tryz.ntmps169
  go_wp2_with fail
  go_ret
  rw [HZ.o]
  exact ⟨rfl, rfl⟩
theorem bytesZ_rune (m : Nat) (hm : m < 55296 ∨ (57344 ≤ m ∧ m ≤ 1114111)) : bytesZ m = (runeB m).map bv := by
 rw [encode_eq m hm]
 unfold bytesZ
 by_cases h1 : m < 128
 ·rw [if_pos h1, if_pos (by omega)]
  simp only [List.map_cons, List.map_nil]
  rw [bv_nat _ (by omega)]
 rw [if_neg h1, if_neg (by omega)]
 by_cases h2 : m < 2048
 ·rw [if_pos h2, if_pos (by omega)]
  simp only [List.map_cons, List.map_nil]
  rw [bv_nat _ (by omega), bv_nat _ (by omega)]
  rfl
 rw [if_neg h2, if_neg (by omega)]
 by_cases h3 : m < 65536
 ·rw [if_pos h3, if_pos (by omega)]
  simp only [List.map_cons, List.map_nil]
  rw [bv_nat _ (by omega), bv_nat _ (by omega), bv_nat _ (by omega)]
  rfl
 ·rw [if_neg h3, if_neg (by omega)]
  simp only [List.map_cons, List.map_nil]
  rw [bv_nat _ (by omega), bv_nat _ (by omega), bv_nat _ (by omega), bv_nat _ (by omega)]
  rfl
theorem refBytes_any (m : Nat) (hm : m < 55296 ∨ (57344 ≤ m ∧ m ≤ 1114111)) (w : World) :
  Calls Tryz.prog 169 #[.int .i64 m] w fun e w' => (∃ a c, e = .returned (.slice a (runeB m).length c) ∧ Bytes w' (.slice a (runeB m).length c) (runeB m)) ∧ Kept [] w w' :=
 (refBytes_int m (by omega) (by omega) w).mono fun e w' ⟨h1, h2⟩ => by
  have e1 := bytesZ_rune m hm
  have e2 : (bytesZ m).length = (runeB m).length := by rw [e1, List.length_map]
  rw [e2] at h1
  rw [e1] at h2
  subst h2
  refine ⟨⟨_, _, h1, ?_⟩, (Kept.refl _ _).alloc _⟩
  have h4 : (runeB m).length ≤ 4 := (decode_rune m hm).2.2.1
  exact slc_new w ((runeB m).map bv) 1 (runeB m).length 5 w.heap.size rfl (by simp) (by simp only [maxLen]; omega)
end Go.Proofs.YtckbnjipecclaaaGreatDoor

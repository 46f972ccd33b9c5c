/- Parts of one proof, merged: XRB XRC XRD XQA XQB XQC. -/
import Derived.Test.YtpbphdkjjoipnaaGreatDoorEF
import Derived.Test.YtpbphdkjjoipnaaGreatDoorEC
import Derived.Test.YtpbphdkjjoipnaaGreatDoorED
import Derived.Test.YtpbphdkjjoipnaaGreatDoorEI
set_option linter.all false
set_option maxHeartbeats 12800000
set_option maxRecDepth 10000
set_option linter.unusedVariables false
set_option linter.unusedSimpArgs false
set_option linter.unnecessarySimpa false
namespace Go.Proofs.YtpbphdkjjoipnaaGreatDoor
open Go.RowKit
def digZ (z : Int) : Int := if 48 ≤ z ∧ z ≤ 57 then z - 48 else if 97 ≤ z ∧ z ≤ 102 then z - 87 else if 65 ≤ z ∧ z ≤ 70 then z - 55 else -1
theorem digZ_none {c : UInt8} (h : hexV c = none) : digZ c.toNat = -1 := by
 unfold hexV at h
 unfold digZ
 split at h
 ·cases h
 split at h
 ·cases h
 split at h
 ·cases h
 ·rw [if_neg (by omega), if_neg (by omega), if_neg (by omega)]
theorem digZ_some {c : UInt8} {n : Nat} (h : hexV c = some n) : digZ c.toNat = n := by
 unfold hexV at h
 unfold digZ
 split at h
 ·rw [if_pos (by omega)]; injection h with h; omega
 split at h
 ·rw [if_neg (by omega), if_pos (by omega)]; injection h with h; omega
 split at h
 ·rw [if_neg (by omega), if_neg (by omega), if_pos (by omega)]; injection h with h; omega
 ·cases h
theorem refDigit_any (z : Int) (h0 : 0 ≤ z) (h1 : z ≤ 255) (w : World) : Calls Tryz.prog 244 #[.int .u8 z] w fun e w' => e = .returned (.int .i64 (digZ z)) ∧ w = w' := by
 by_cases c1 : 48 ≤ z ∧ z ≤ 57
 ·have HZ : Hid (digZ z = z - 48) := qI (by unfold digZ; rw [if_pos c1])
  obtain ⟨g1, g2⟩ := c1
  go_enter Tryz.func244, Tryz.ntmps244
  go_wp2_with fail
  go_ret
  exact ⟨ret_int HZ.o.symm, rfl⟩
 by_cases c2 : 97 ≤ z ∧ z ≤ 102
 ·have HZ : Hid (digZ z = z - 97 + 10) := qI (by unfold digZ; rw [if_neg c1, if_pos c2]; omega)
  obtain ⟨g1, g2⟩ := c2
  have g3 : ¬ z ≤ 57 := by omega
  clear c1
  go_enter Tryz.func244, Tryz.ntmps244
  go_wp2_with fail
  go_ret
  exact ⟨ret_int HZ.o.symm, rfl⟩
 by_cases c3 : 65 ≤ z ∧ z ≤ 70
 ·have HZ : Hid (digZ z = z - 65 + 10) := qI (by unfold digZ; rw [if_neg c1, if_neg c2, if_pos c3]; omega)
  obtain ⟨g1, g2⟩ := c3
  have g3 : ¬ z ≤ 57 := by omega
  have g4 : ¬ 97 ≤ z := by omega
  clear c1 c2
  go_enter Tryz.func244, Tryz.ntmps244
  go_wp2_with fail
  go_ret
  exact ⟨ret_int HZ.o.symm, rfl⟩
 have HZ : Hid (digZ z = -1) := qI (by unfold digZ; rw [if_neg c1, if_neg c2, if_neg c3])
 have d1 : z < 48 ∨ (57 < z ∧ z < 65) ∨ (70 < z ∧ z < 97) ∨ 102 < z := by omega
 clear c1 c2 c3
 rcases d1 with g | ⟨g, g'⟩ | ⟨g, g'⟩ | g
 ·have k1 : ¬ 48 ≤ z := by omega
  have k2 : ¬ 97 ≤ z := by omega
  have k3 : ¬ 65 ≤ z := by omega
  go_enter Tryz.func244, Tryz.ntmps244
  go_wp2_with fail
  go_ret
  exact ⟨ret_int HZ.o.symm, rfl⟩
 ·have k0 : 48 ≤ z := by omega
  have k1 : ¬ z ≤ 57 := by omega
  have k2 : ¬ 97 ≤ z := by omega
  have k3 : ¬ 65 ≤ z := by omega
  go_enter Tryz.func244, Tryz.ntmps244
  go_wp2_with fail
  go_ret
  exact ⟨ret_int HZ.o.symm, rfl⟩
 ·have k0 : 48 ≤ z := by omega
  have k1 : ¬ z ≤ 57 := by omega
  have k2 : ¬ 97 ≤ z := by omega
  have k3 : 65 ≤ z := by omega
  have k4 : ¬ z ≤ 70 := by omega
  go_enter Tryz.func244, Tryz.ntmps244
  go_wp2_with fail
  go_ret
  exact ⟨ret_int HZ.o.symm, rfl⟩
 ·have k0 : 48 ≤ z := by omega
  have k1 : ¬ z ≤ 57 := by omega
  have k2 : 97 ≤ z := by omega
  have k3 : 65 ≤ z := by omega
  have k4 : ¬ z ≤ 70 := by omega
  have k5 : ¬ z ≤ 102 := by omega
  go_enter Tryz.func244, Tryz.ntmps244
  go_wp2_with fail
  go_ret
  exact ⟨ret_int HZ.o.symm, rfl⟩
def hexGo : Nat → List UInt8 → Option Nat
 | x, [] => some x
 | x, c :: r => match hexV c with | none => none | some d => hexGo (16 * x + d) r
theorem hex4_go (a b c d : UInt8) : hex4 a b c d = hexGo 0 [a, b, c, d] := by
 unfold hex4
 simp only [hexGo]
 cases hexV a with
 | none => rfl
 | some x =>
  cases hexV b with
  | none => rfl
  | some y =>
   cases hexV c with
   | none => rfl
   | some z =>
    cases hexV d with
    | none => rfl
    | some t => simp only [Option.some.injEq]; omega
theorem hexGo_none {x : Nat} {c : UInt8} {r : List UInt8} (h : hexV c = none) : hexGo x (c :: r) = none := by show (match hexV c with | none => none | some d => hexGo (16 * x + d) r) = _; rw [h]
theorem hexGo_some {x d : Nat} {c : UInt8} {r : List UInt8} (h : hexV c = some d) : hexGo x (c :: r) = hexGo (16 * x + d) r := by show (match hexV c with | none => none | some d => hexGo (16 * x + d) r) = _; rw [h]
theorem refFour_any (s : ByteArray) (hs : s.size ≤ 262144) (w : World) :
  Calls Tryz.prog 214 #[.string s] w fun e w' => e = .returned (.int .i64 (fourZ s.data.toList)) ∧ w = w' := by
 have HL : Hid (s.data.toList.length = s.size) := qI (by simp)
 by_cases h6 : s.size < 6
 ·have h6I : (s.size : Int) < 6 := by omega
  have HZ := qI (fourZ_none (four_short (by rw [HL.o]; exact h6)))
  clear h6
  go_enter Tryz.func214, Tryz.ntmps214
  go_wp2_with fail
  go_ret
  rw [HZ.o]
  exact ⟨rfl, rfl⟩
 obtain ⟨x, y, a, b, c, d, r, hl⟩ := six_of (l := s.data.toList) (by rw [HL.o]; omega)
 have h6I : (6 : Int) ≤ s.size := by omega
 have hx : s[0]'(by omega) = x := by
  show s.data.toList[0]'_ = x
  simp only [hl]; rfl
 have hy : s[1]'(by omega) = y := by
  show s.data.toList[1]'_ = y
  simp only [hl]; rfl
 have Ji := qI hl
 by_cases hxy : x = 92 ∧ y = 117
 rotate_left
 ·have HZ : Hid (fourZ s.data.toList = -1) := qI (fourZ_none (by rw [hl]; exact four_not hxy))
  have hd : ((x.toNat : Int) != 92) = true ∨ ((x.toNat : Int) != 92) = false ∧ ((y.toNat : Int) != 117) = true := by
   by_cases q : x = 92
   ·refine .inr ⟨(int_eq (by rw [q]; rfl)).2, (int_ne (fun e => hxy ⟨q, ?_⟩)).2⟩
    have : y.toNat = (117 : UInt8).toNat := by show y.toNat = 117; omega
    exact UInt8.toNat_inj.1 this
   ·refine .inl (int_ne (fun e => q ?_)).2
    have : x.toNat = (92 : UInt8).toNat := by show x.toNat = 92; omega
    exact UInt8.toNat_inj.1 this
  clear hxy hl
  rcases hd with f1 | ⟨f1, f2⟩
  all_goals
   go_enter Tryz.func214, Tryz.ntmps214
   go_wp2_with fail
   go_ret
   rw [HZ.o]
   exact ⟨rfl, rfl⟩
 obtain ⟨rfl, rfl⟩ := hxy
 have HF : Hid (fourL s.data.toList = hexGo 0 [a, b, c, d]) := qI (by rw [hl, four_is, hex4_go])
 have HI : Hid (∀ (k : Nat) (h2 : 2 ≤ k) (h6 : k < 6), ∃ (h : k < s.size) (e : UInt8), s[k]'h = e ∧ [a, b, c, d].drop (k - 2) = e :: [a, b, c, d].drop (k + 1 - 2)) := qI (fun k h2 h6 => by
  have hk : k = 2 ∨ k = 3 ∨ k = 4 ∨ k = 5 := by omega
  have hg : ∀ (h : k < s.size) (e : UInt8), s.data.toList[k]? = some e → s[k]'h = e := fun h e q => by
   have h9 : s.data.toList[k]'(by rw [HL.o]; exact h) = e := (List.getElem_eq_iff (by rw [HL.o]; exact h)).2 q
   exact h9
  rw [hl] at hg
  rcases hk with rfl | rfl | rfl | rfl
  ·exact ⟨by omega, a, hg _ _ rfl, rfl⟩
  ·exact ⟨by omega, b, hg _ _ rfl, rfl⟩
  ·exact ⟨by omega, c, hg _ _ rfl, rfl⟩
  ·exact ⟨by omega, d, hg _ _ rfl, rfl⟩)
 clear hl
 go_enter Tryz.func214, Tryz.ntmps214
 go_wp2_with fail
 clear hx hy
 go_loopw [3, 4] (fun x i wr => ∃ (k m : Nat), i = .int .i64 (k : Int) ∧ x = .int .i64 (m : Int) ∧ 2 ≤ k ∧ k ≤ 6 ∧ Hid (m < 16 ^ (k - 2)) ∧ Hid (hexGo m ([a, b, c, d].drop (k - 2)) = fourL s.data.toList) ∧ w = wr) (fun _ i _ => 6 - (intOf i).toNat)
 case atStart => exact ⟨2, 0, rfl, rfl, by omega, by omega, qI (by decide), qI HF.o.symm, rfl⟩
 case round =>
  obtain ⟨k, m, rfl, rfl, hk2, hk6, HM, HG, rfl⟩ := hrel
  have hm4 : m < 65536 := Nat.lt_of_lt_of_le HM.o (by
   have : k = 2 ∨ k = 3 ∨ k = 4 ∨ k = 5 ∨ k = 6 := by omega
   rcases this with rfl | rfl | rfl | rfl | rfl <;> decide)
  have hmI : (m : Int) < 65536 := by omega
  have Ga := qI hk2
  have Jb := qI hk6
  clear hm4 hk2 hk6
  by_cases h4 : k < 6
  ·obtain ⟨hlt, cc, he, hst⟩ := HI.o k Ga.o h4
   have Gu := qI hst
   have HJ : Hid (k < 6) := qI h4
   have hjI : (k : Int) < 6 := by omega
   have hcb := cc.toNat_lt
   have CD := qI (refDigit_any (cc.toNat : Int) (by omega) (by omega) w)
   have hc9 : ¬ ((cc.toNat : Int) < 0) := by omega
   clear hcb h4 hst hc9
   cases hv : hexV cc with
   | none =>
    have HZ : Hid (fourZ s.data.toList = -1) := qI (fourZ_none (by rw [← HG.o, Gu.o]; exact hexGo_none hv))
    rw [digZ_none hv] at CD
    clear hv
    go_wp2_with fail
    refine CD.o.mono ?_
    rintro e w1 ⟨rfl, rfl⟩
    go_wp2_with fail
    go_ret
    rw [HZ.o]
    exact ⟨rfl, rfl⟩
   | some dd =>
    have hd16 := hexV_lt hv
    have Jc : Hid ((dd : Int) < 16) := qI (by omega)
    have hd0 : decide ((dd : Int) < 0) = false := decide_eq_false (by omega)
    have Jd := qI hmI
    clear hmI
    rw [digZ_some hv] at CD
    have HN : Hid (hexGo (16 * m + dd) ([a, b, c, d].drop (k + 1 - 2)) = fourL s.data.toList) := qI (by rw [← HG.o, Gu.o]; exact (hexGo_some hv).symm)
    have Je : Hid (16 * m + dd < 16 ^ (k + 1 - 2)) := qI (by
     have h1 := HM.o
     have h2 := Ga.o
     rw [show k + 1 - 2 = k - 2 + 1 by omega, Nat.pow_succ]
     omega)
    clear hv hd16
    go_wp2_with fail
    refine CD.o.mono ?_
    rintro e w1 ⟨rfl, rfl⟩
    go_wp2_with fail
    refine CD.o.mono ?_
    rintro e w1 ⟨rfl, rfl⟩
    have hdI := Jc.o
    have hmI := Jd.o
    go_wp2_with fail
    case roundEnd => exact ⟨⟨k + 1, 16 * m + dd, congrArg (Value.int .i64) (by omega), congrArg (Value.int .i64) (by unfold wrap64; omega), by have := Ga.o; omega, by have := HJ.o; omega, Je, HN, trivial⟩, by have := HJ.o; simp [intOf]; omega⟩
  ·obtain rfl : k = 6 := by have := Jb.o; omega
   have HZ : Hid (fourZ s.data.toList = m) := qI (fourZ_some (by rw [← HG.o]; rfl))
   go_wp2_with fail
   go_ret
   rw [HZ.o]
   exact ⟨rfl, rfl⟩
def REscAns (s : List UInt8) (e : Ending) (w' : World) : Prop :=
 match escL s with
 | none => e = .returned (.tuple #[.slice none 0 0, .int .i64 0])
 | some (b, n) => ∃ a c, e = .returned (.tuple #[.slice a b.length c, .int .i64 n]) ∧ Bytes w' (.slice a b.length c) b
theorem rescAns_none {s : List UInt8} {w : World} (h : escL s = none) : REscAns s (.returned (.tuple #[.slice none 0 0, .int .i64 0])) w := by unfold REscAns; rw [h]
theorem rescAns_some {s b : List UInt8} {n : Nat} {w : World} {a : Option Addr} {c m : Nat} (h : escL s = some (b, n)) (hm : m = b.length) (hb : Bytes w (.slice a b.length c) b) : REscAns s (.returned (.tuple #[.slice a m c, .int .i64 n])) w := by
 unfold REscAns; rw [h, hm]; exact ⟨a, c, rfl, hb⟩
theorem esc_other {x y : UInt8} {r : List UInt8} (h1 : y ≠ 34) (h2 : y ≠ 92) (h3 : y ≠ 47) (h4 : y ≠ 98) (h5 : y ≠ 102) (h6 : y ≠ 110) (h7 : y ≠ 114) (h8 : y ≠ 116) :
  escL (x :: y :: r) = (match fourL (x :: y :: r) with
   | none => none
   | some z => if z < 55296 ∨ 57343 < z then some (runeB z, 6) else if 56319 < z then none else
    match fourL ((x :: y :: r).drop 6) with
    | none => none
    | some t => if 56320 ≤ t ∧ t ≤ 57343 then some (runeB (65536 + (z - 55296) * 1024 + (t - 56320)), 12) else none) := by
 conv => lhs; unfold escL
 simp only
 rw [if_neg h1, if_neg h2, if_neg h3, if_neg h4, if_neg h5, if_neg h6, if_neg h7, if_neg h8]
 cases fourL (x :: y :: r) with
 | none => rfl
 | some z =>
  cases fourL ((x :: y :: r).drop 6) with
  | none => rfl
  | some t => rfl
theorem one_byte (w : World) (x : UInt8) : Bytes (w.alloc (.cells #[.int .u8 x.toNat] 5)) (.slice (some ⟨w.heap.size, 0, none⟩) 1 1) [x] := slc_one w (bv x) 5 _ rfl
section
variable {w : World}
set_option maxRecDepth 100000 in
theorem refEscape_any (s : ByteArray) (hs : s.size ≤ 262144) :
  Calls Tryz.prog 180 #[.string s] w fun e w' => REscAns s.data.toList e w' ∧ Kept [] w w' := by
 have HL : Hid (s.data.toList.length = s.size) := qI (by simp)
 by_cases h2 : s.size < 2
 ·have h2I : (s.size : Int) < 2 := by omega
  have HZ := qI (fun w' => rescAns_none (w := w') (esc_short (l := s.data.toList) (by rw [HL.o]; exact h2)))
  clear h2
  go_enter Tryz.func180, Tryz.ntmps180
  go_wp2_with fail
  go_ret2
  exact ⟨HZ.o _, Kept.refl _ _⟩
 obtain ⟨x, y, r, hl⟩ := two_of (l := s.data.toList) (by rw [HL.o]; omega)
 have h2I : (2 : Int) ≤ s.size := by omega
 have hy : s[1]'(by omega) = y := by
  show s.data.toList[1]'_ = y
  simp only [hl]; rfl
 have CF := qI (fun w' => refFour_any s hs w')
 rw [hl] at CF ⊢
 by_cases q : y = 34 ∨ y = 92 ∨ y = 47 ∨ y = 98 ∨ y = 102 ∨ y = 110 ∨ y = 114 ∨ y = 116
 ·have HB := qI (fun e => one_byte w e)
  have HK : Hid (∀ o, Kept [] w (w.alloc o)) := qI (fun o => (Kept.refl [] w).alloc o)
  have HZ : Hid (∀ e, escL (x :: y :: r) = some ([e], 2) → REscAns (x :: y :: r) (.returned (.tuple #[.slice (some ⟨w.heap.size, 0, none⟩) 1 1, .int .i64 2])) (w.alloc (.cells #[.int .u8 e.toNat] 5))) := qI (fun e h => rescAns_some (b := [e]) (n := 2) h rfl (HB.o e))
  clear hl CF
  rcases q with rfl | rfl | rfl | rfl | rfl | rfl | rfl | rfl
  ·go_enter Tryz.func180, Tryz.ntmps180
   go_wp2_with fail
   go_ret2
   exact ⟨HZ.o 34 rfl, HK.o _⟩
  ·go_enter Tryz.func180, Tryz.ntmps180
   go_wp2_with fail
   go_ret2
   exact ⟨HZ.o 92 rfl, HK.o _⟩
  ·go_enter Tryz.func180, Tryz.ntmps180
   go_wp2_with fail
   go_ret2
   exact ⟨HZ.o 47 rfl, HK.o _⟩
  ·go_enter Tryz.func180, Tryz.ntmps180
   go_wp2_with fail
   go_ret2
   exact ⟨HZ.o 8 rfl, HK.o _⟩
  ·go_enter Tryz.func180, Tryz.ntmps180
   go_wp2_with fail
   go_ret2
   exact ⟨HZ.o 12 rfl, HK.o _⟩
  ·go_enter Tryz.func180, Tryz.ntmps180
   go_wp2_with fail
   go_ret2
   exact ⟨HZ.o 10 rfl, HK.o _⟩
  ·go_enter Tryz.func180, Tryz.ntmps180
   go_wp2_with fail
   go_ret2
   exact ⟨HZ.o 13 rfl, HK.o _⟩
  ·go_enter Tryz.func180, Tryz.ntmps180
   go_wp2_with fail
   go_ret2
   exact ⟨HZ.o 9 rfl, HK.o _⟩
 have hne : ∀ k : Nat, k < 256 → y ≠ UInt8.ofNat k → ((y.toNat : Int) == (k : Int)) = false := fun k hk h => (int_ne (fun e => h (by
  have : y.toNat = k := by omega
  rw [← this]; simp))).1
 have q1 : y ≠ 34 := fun e => q (.inl e)
 have q2 : y ≠ 92 := fun e => q (.inr (.inl e))
 have q3 : y ≠ 47 := fun e => q (.inr (.inr (.inl e)))
 have q4 : y ≠ 98 := fun e => q (.inr (.inr (.inr (.inl e))))
 have q5 : y ≠ 102 := fun e => q (.inr (.inr (.inr (.inr (.inl e)))))
 have q6 : y ≠ 110 := fun e => q (.inr (.inr (.inr (.inr (.inr (.inl e))))))
 have q7 : y ≠ 114 := fun e => q (.inr (.inr (.inr (.inr (.inr (.inr (.inl e)))))))
 have q8 : y ≠ 116 := fun e => q (.inr (.inr (.inr (.inr (.inr (.inr (.inr e)))))))
 have h5' := esc_other (x := x) (r := r) q1 q2 q3 q4 q5 q6 q7 q8
 have f1 := hne 34 (by decide) q1
 have f2 := hne 92 (by decide) q2
 have f3 := hne 47 (by decide) q3
 have f4 := hne 98 (by decide) q4
 have f5 := hne 102 (by decide) q5
 have f6 := hne 110 (by decide) q6
 have f7 := hne 114 (by decide) q7
 have f8 := hne 116 (by decide) q8
 clear q1 q2 q3 q4 q5 q6 q7 q8 q hne
 have F : Hid _ := qI (And.intro f1 (And.intro f2 (And.intro f3 (And.intro f4 (And.intro f5 (And.intro f6 (And.intro f7 f8)))))))
 clear f1 f2 f3 f4 f5 f6 f7 f8
 cases h6 : fourL (x :: y :: r) with
 | none =>
  rw [h6] at h5'
  have HZ := qI (fun w' => rescAns_none (w := w') h5')
  rw [fourZ_none h6] at CF
  clear hl h5' h6
  obtain ⟨f1, f2, f3, f4, f5, f6, f7, f8⟩ := F.o
  go_enter Tryz.func180, Tryz.ntmps180
  go_wp2_with fail
  refine (CF.o _).mono ?_
  rintro e w1 ⟨rfl, rfl⟩
  go_wp2_with fail
  go_ret2
  exact ⟨HZ.o _, Kept.refl _ _⟩
 | some z =>
  rw [h6] at h5'
  simp only at h5'
  rw [fourZ_some h6] at CF
  have hz := (four_facts h6).1
  have hz6 : 6 ≤ s.size := by
   have := (four_facts h6).2
   rw [← hl, HL.o] at this
   exact this
  have hz0 : decide ((z : Int) < 0) = false := decide_eq_false (by omega)
  have CM := qI (fun w' => may_any (z : Int) w')
  by_cases h7 : z < 55296 ∨ 57343 < z
  ·rw [if_pos h7] at h5'
   have CB := qI (fun w' => refBytes_any z (by omega) w')
   rw [mayZ_iff.2 ⟨z, rfl, by omega⟩] at CM
   have HZ := qI (fun w' a c => rescAns_some (w := w') (a := a) (c := c) h5' rfl)
   clear hl h5' h6 h7 hz
   obtain ⟨f1, f2, f3, f4, f5, f6, f7, f8⟩ := F.o
   go_enter Tryz.func180, Tryz.ntmps180
   go_wp2_with fail
   refine (CF.o _).mono ?_
   rintro e w1 ⟨rfl, rfl⟩
   go_wp2_with fail
   refine (CM.o _).mono ?_
   rintro e w2 ⟨rfl, rfl⟩
   go_wp2_with fail
   refine (CB.o _).mono ?_
   rintro e w3 ⟨⟨a3, c3, rfl, hb3⟩, hk3⟩
   go_wp2_with fail
   go_ret2
   exact ⟨HZ.o _ _ _ hb3, hk3⟩
  ·rw [if_neg h7] at h5'
   have hmf : mayZ (z : Int) = false := by
    cases e : mayZ (z : Int) with
    | false => rfl
    | true =>
     obtain ⟨m, h1, h2⟩ := mayZ_iff.1 e
     omega
   rw [hmf] at CM
   have hz6I : (6 : Int) ≤ s.size := by omega
   have hz1 : 55296 ≤ z ∧ z ≤ 57343 := by omega
   clear hmf
   by_cases h8 : 56319 < z
   ·rw [if_pos h8] at h5'
    have HZ := qI (fun w' => rescAns_none (w := w') h5')
    have h8I : (56319 : Int) < z := by omega
    clear hl h5' h6 h7 hz h8 hz1
    obtain ⟨f1, f2, f3, f4, f5, f6, f7, f8⟩ := F.o
    go_enter Tryz.func180, Tryz.ntmps180
    go_wp2_with fail
    refine (CF.o _).mono ?_
    rintro e w1 ⟨rfl, rfl⟩
    go_wp2_with fail
    refine (CM.o _).mono ?_
    rintro e w2 ⟨rfl, rfl⟩
    go_wp2_with fail
    go_ret2
    exact ⟨HZ.o _, Kept.refl _ _⟩
   rw [if_neg h8] at h5'
   have h8I : decide ((56319 : Int) < z) = false := decide_eq_false (by omega)
   have Gv : Hid ((55296 : Int) ≤ z ∧ (z : Int) ≤ 56319) := qI (by omega)
   have CF2 := qI (fun w' => refFour_any (s.extract 6 s.size) (by
     have h9 : (s.extract 6 s.size).data.toList.length = (s.extract 6 s.size).size := by simp
     rw [ext_from, List.length_drop, HL.o] at h9
     omega) w')
   rw [ext_from, hl] at CF2
   clear hl h6 h7 hz h8 hz1
   cases h9 : fourL ((x :: y :: r).drop 6) with
   | none =>
    rw [h9] at h5'
    have HZ := qI (fun w' => rescAns_none (w := w') h5')
    rw [fourZ_none h9] at CF2
    clear h5' h9
    obtain ⟨f1, f2, f3, f4, f5, f6, f7, f8⟩ := F.o
    go_enter Tryz.func180, Tryz.ntmps180
    go_wp2_with fail
    refine (CF.o _).mono ?_
    rintro e w1 ⟨rfl, rfl⟩
    go_wp2_with fail
    refine (CM.o _).mono ?_
    rintro e w2 ⟨rfl, rfl⟩
    go_wp2_with fail
    refine (CF2.o _).mono ?_
    rintro e w3 ⟨rfl, rfl⟩
    go_wp2_with fail
    go_ret2
    exact ⟨HZ.o _, Kept.refl _ _⟩
   | some t =>
    rw [h9] at h5'
    simp only at h5'
    rw [fourZ_some h9] at CF2
    have ht := (four_facts h9).1
    clear h9
    by_cases h10 : 56320 ≤ t ∧ t ≤ 57343
    rotate_left
    ·rw [if_neg h10] at h5'
     have HZ := qI (fun w' => rescAns_none (w := w') h5')
     have hc : decide ((t : Int) < 56320) = true ∨ (decide ((t : Int) < 56320) = false ∧ decide ((57343 : Int) < t) = true) := by
      by_cases q : (t : Int) < 56320
      ·exact .inl (decide_eq_true q)
      ·exact .inr ⟨decide_eq_false q, decide_eq_true (by omega)⟩
     have HC := qI hc
     clear h5' ht h10 hc
     obtain ⟨f1, f2, f3, f4, f5, f6, f7, f8⟩ := F.o
     go_enter Tryz.func180, Tryz.ntmps180
     go_wp2_with fail
     refine (CF.o _).mono ?_
     rintro e w1 ⟨rfl, rfl⟩
     go_wp2_with fail
     refine (CM.o _).mono ?_
     rintro e w2 ⟨rfl, rfl⟩
     go_wp2_with fail
     refine (CF2.o _).mono ?_
     rintro e w3 ⟨rfl, rfl⟩
     clear f1 f2 f3 f4 f5 f6 f7 f8 hz0 h8I
     rcases HC.o with g1 | ⟨g1, g2⟩
     all_goals
      go_wp2_with fail
      go_ret2
      exact ⟨HZ.o _, Kept.refl _ _⟩
    ·rw [if_pos h10] at h5'
     have Gp : Hid ((56320 : Int) ≤ t ∧ (t : Int) ≤ 57343) := qI (by omega)
     obtain ⟨M, hM⟩ : ∃ M : Nat, M = 65536 + (z - 55296) * 1024 + (t - 56320) := ⟨_, rfl⟩
     rw [← hM] at h5'
     have CB := qI (fun w' => refBytes_any M (by have := Gv.o; omega) w')
     have HZ := qI (fun w' a c => rescAns_some (w := w') (a := a) (c := c) h5' rfl)
     have HE : Hid (wrap64 (wrap64 (wrap64 (65536 + wrap64 (1024 * wrap64 ((z : Int) - 55296))) + (t : Int)) - 56320) = (M : Int)) := qI (by have h1 := Gv.o; have h2 := Gp.o; unfold wrap64; omega)
     clear hM
     clear h5' ht h10
     obtain ⟨f1, f2, f3, f4, f5, f6, f7, f8⟩ := F.o
     go_enter Tryz.func180, Tryz.ntmps180
     go_wp2_with fail
     refine (CF.o _).mono ?_
     rintro e w1 ⟨rfl, rfl⟩
     go_wp2_with fail
     refine (CM.o _).mono ?_
     rintro e w2 ⟨rfl, rfl⟩
     go_wp2_with fail
     refine (CF2.o _).mono ?_
     rintro e w3 ⟨rfl, rfl⟩
     clear f1 f2 f3 f4 f5 f6 f7 f8 hz0 h8I
     have g1 : decide ((t : Int) < 56320) = false := decide_eq_false (by have := Gp.o; omega)
     have g2 : decide ((57343 : Int) < t) = false := decide_eq_false (by have := Gp.o; omega)
     go_wp2_with fail
     rw [HE.o]
     refine (CB.o _).mono ?_
     rintro e w4 ⟨⟨a3, c3, rfl, hb3⟩, hk3⟩
     go_wp2_with fail
     go_ret2
     exact ⟨HZ.o _ _ _ hb3, hk3⟩
end
def RUnqAns (s : List UInt8) (e : Ending) : Prop :=
 match unqL s with
 | .inl x => ∃ n : Nat, n ≤ s.length ∧ (0 < x ∧ x ≤ 1000) ∧ e = .returned (.tuple #[.string ⟨#[]⟩, .int .i64 n, .int .i64 x])
 | .inr (t, r) => ∃ n : Nat, n ≤ s.length ∧ s.drop n = r ∧ e = .returned (.tuple #[.string (strB t), .int .i64 n, .int .i64 0])
theorem runq_bad {s : List UInt8} {x : Int} {n : Nat} (h : unqL s = .inl x) (hx : 0 < x ∧ x ≤ 1000) (hn : n ≤ s.length) : RUnqAns s (.returned (.tuple #[.string ⟨#[]⟩, .int .i64 n, .int .i64 x])) := by
 unfold RUnqAns; rw [h]; exact ⟨n, hn, hx, rfl⟩
theorem runq_ok {s t r : List UInt8} {n : Nat} (h : unqL s = .inr (t, r)) (hn : n ≤ s.length) (hd : s.drop n = r) : RUnqAns s (.returned (.tuple #[.string (strB t), .int .i64 n, .int .i64 0])) := by
 unfold RUnqAns; rw [h]; exact ⟨n, hn, hd, rfl⟩
theorem ba_len (x : ByteArray) : x.data.toList.length = x.size := by simp
section
variable {f k v : Nat} {c : UInt8} {r acc : List UInt8}
theorem unq_ctl (h : c.toNat < 32) : unqGo (f + 1) (c :: r) acc = .inl 31 := by
 rw [unqGo]
 rw [if_neg (fun e => by rw [e] at h; revert h; decide), if_pos h]
theorem unq_bad (h : escL (92 :: r) = none) : unqGo (f + 1) (92 :: r) acc = .inl 31 := by
 rw [unqGo]
 rw [if_neg (by decide), if_neg (by decide), if_pos rfl, h]
theorem unq_raw (h1 : c ≠ 34) (h2 : ¬ c.toNat < 32) (h3 : c ≠ 92) (hb : (Lib.decodeL (c :: r)).1 = 65533 ∧ (Lib.decodeL (c :: r)).2 = 1) : unqGo (f + 1) (c :: r) acc = .inl 30 := by
 rw [unqGo]
 rw [if_neg h1, if_neg h2, if_neg h3, if_pos hb]
end
theorem refUnquote_any {w : World} (s : ByteArray) (hs : s.size ≤ 262144) :
  Calls Tryz.prog 142 #[.string s] w fun e w' => RUnqAns s.data.toList e ∧ Kept [] w w' := by
 have HL : Hid (s.data.toList.length = s.size) := qI (by simp)
 cases hl : s.data.toList with
 | nil =>
  have HZ := qI (runq_bad (s := []) (x := 31) (n := 0) rfl (by decide) (Nat.zero_le _))
  obtain rfl : s = ⟨#[]⟩ := ba_eq hl
  clear hl
  go_enter Tryz.func142, Tryz.ntmps142
  go_wp2_with fail
  go_ret3
  exact ⟨HZ.o, Kept.refl _ _⟩
 | cons c0 r0 =>
 have h1 : 1 ≤ s.size := by have := HL.o; rw [hl] at this; simp only [List.length_cons] at this; omega
 have h1I : (1 : Int) ≤ s.size := by omega
 have hc0 : s[0]'(by omega) = c0 := by
  show s.data.toList[0]'_ = c0
  simp only [hl]; rfl
 have g0 : ((s.size : Int) == 0) = false := (int_ne (by omega)).1
 by_cases h34 : c0 = 34
 rotate_left
 ·have HZ := qI (runq_bad (s := c0 :: r0) (x := 31) (n := 0) (if_neg h34) (by decide) (Nat.zero_le _))
  have f1 : ((c0.toNat : Int) != 34) = true := (int_ne (fun e => h34 (UInt8.toNat_inj.1 (show c0.toNat = 34 by omega)))).2
  clear hl h34
  go_enter Tryz.func142, Tryz.ntmps142
  go_wp2_with fail
  go_ret3
  exact ⟨HZ.o, Kept.refl _ _⟩
 subst h34
 have HU : Hid (unqL s.data.toList = unqGo (r0.length + 1) (s.data.toList.drop 1) []) := qI (by
  rw [hl]
  show (if (34 : UInt8) = 34 then unqGo (r0.length + 1) r0 [] else .inl 31) = _
  rw [if_pos rfl]
  rfl)
 have Jf : Hid ((s.data.toList.drop 1).length < r0.length + 1) := qI (by rw [hl]; simp)
 rw [← hl]
 have hsI : (s.size : Int) ≤ 262144 := by omega
 clear hl
 go_enter Tryz.func142, Tryz.ntmps142
 go_wp2_with fail
 clear hc0 g0 h1
 go_loopw [5, 6] (fun o i wr => ∃ (k f : Nat) (acc : List UInt8) (a : Option Addr) (c : Nat), i = .int .i64 (k : Int) ∧ o = .slice a acc.length c ∧ 1 ≤ k ∧ k ≤ s.size ∧ Hid (acc.length ≤ k) ∧ wr.ownsRow w.heap.size 5 1 (.slice a acc.length c) acc.length (acc.map bv) ∧ Hid (unqGo f (s.data.toList.drop k) acc = unqL s.data.toList) ∧ Hid ((s.data.toList.drop k).length < f) ∧ Kept [] w wr) (fun _ i _ => s.size - (intOf i).toNat)
 case atStart => exact ⟨1, _, [], none, 0, rfl, rfl, by omega, by omega, qI (Nat.zero_le _), World.ownsRow_nil _ _ _ _, qI HU.o.symm, Jf, Kept.refl _ _⟩
 case round =>
  obtain ⟨k, f, acc, a, c, rfl, rfl, hk1, hk, Gj, hrow, HG, Gn, hkr⟩ := hrel
  have Gk := qI hrow
  have Gf := qI hkr
  have hkI : (1 : Int) ≤ k := by omega
  clear hrow hkr
  by_cases hlt : k < s.size
  rotate_left
  ·obtain rfl : k = s.size := by omega
   have HZ := qI (runq_bad (s := s.data.toList) (x := 31) (n := s.size) (by
    have h2 := Gn.o
    rw [← HG.o]
    rw [List.drop_eq_nil_of_le (by rw [HL.o]; exact Nat.le_refl _)] at h2 ⊢
    obtain ⟨f', rfl⟩ : ∃ f', f = f' + 1 := ⟨f - 1, by simp only [List.length_nil] at h2; omega⟩
    rfl) (by decide) (by rw [HL.o]; exact Nat.le_refl _))
   have hnlt : ¬ ((s.size : Int) < s.size) := by omega
   clear hlt hk hk1
   go_wp2_with fail
   go_ret3
   exact ⟨HZ.o, Gf.o⟩
  have hltI : (k : Int) < s.size := by omega
  have Gw := qI hlt
  have hkl : k < s.data.toList.length := by rw [HL.o]; exact hlt
  obtain ⟨cc, hcc⟩ : ∃ cc, s.data.toList[k] = cc := ⟨_, rfl⟩
  have hsk : s[k]'hlt = cc := hcc
  have hdr : s.data.toList.drop k = cc :: s.data.toList.drop (k + 1) := by rw [List.drop_eq_getElem_cons hkl, hcc]
  obtain ⟨f', rfl⟩ : ∃ f', f = f' + 1 := ⟨f - 1, by have := Gn.o; omega⟩
  have Gl := qI hdr
  have Gq : Hid (1 ≤ k ∧ k ≤ s.size) := qI ⟨hk1, hk⟩
  have hacl : acc.length ≤ 262144 := by have := Gj.o; omega
  have hcb := cc.toNat_lt
  clear hcc hkl hdr
  by_cases h34 : cc = 34
  ·have HZ := qI (runq_ok (s := s.data.toList) (t := acc) (r := s.data.toList.drop (k + 1)) (n := k + 1) (by rw [← HG.o, Gl.o, h34]; exact unq_end _ _ _) (by rw [HL.o]; omega) rfl)
   have hkc : ((k + 1 : Nat) : Int) = (k : Int) + 1 := by omega
   have kc : (convert 28 9 (.slice a acc.length c)).run Tryz.prog wr = .ok (.string (strB acc)) wr := Bytes.toStr (Slc.of_row Gk.o)
   subst h34
   rw [hkc] at HZ
   clear hk hk1 hcb hkc
   revert kc HZ
   generalize strB acc = T
   intro HZ kc
   go_wp2_with fail
   go_ret3
   exact ⟨HZ.o, Gf.o⟩
  have f1 : ((cc.toNat : Int) == 34) = false := (int_ne (fun e => h34 (UInt8.toNat_inj.1 (show cc.toNat = 34 by omega)))).1
  by_cases h32 : cc.toNat < 32
  ·have HZ := qI (runq_bad (s := s.data.toList) (x := 31) (n := k) (by rw [← HG.o, Gl.o]; exact unq_ctl h32) (by decide) (by rw [HL.o]; omega))
   have h32I : (cc.toNat : Int) < 32 := by omega
   clear hk hk1 hcb h34
   go_wp2_with fail
   go_ret3
   exact ⟨HZ.o, Gf.o⟩
  have h32I : ¬ (cc.toNat : Int) < 32 := by omega
  by_cases h92 : cc = 92
  ·have f2 : ((cc.toNat : Int) == 92) = true := (int_eq (by rw [h92]; rfl)).1
   have hsz : (s.extract k s.size).size ≤ 262144 := by
    have h9 : (s.extract k s.size).data.toList.length = (s.extract k s.size).size := by simp
    rw [ext_from, List.length_drop, HL.o] at h9
    omega
   have CE := qI (refEscape_any (w := wr) (s.extract k s.size) hsz)
   rw [ext_from] at CE
   unfold REscAns at CE
   cases he : escL (s.data.toList.drop k) with
   | none =>
    have HZ := qI (runq_bad (s := s.data.toList) (x := 31) (n := k) (by rw [← HG.o]; rw [Gl.o, h92] at he ⊢; exact unq_bad he) (by decide) (by rw [HL.o]; omega))
    rw [he] at CE
    clear hk hk1 hcb h34 h92 hsz he
    go_wp2_with fail
    refine CE.o.mono ?_
    rintro e w2 ⟨rfl, hk2⟩
    go_wp2_with fail
    go_ret3
    exact ⟨HZ.o, Gf.o.then hk2⟩
   | some x =>
    obtain ⟨b, n⟩ := x
    obtain ⟨-, hb2, hb3, hb4⟩ := esc_facts he
    have Gr : Hid (unqGo f' (s.data.toList.drop (k + n)) (acc ++ b) = unqL s.data.toList) := qI (by
     rw [← HG.o, ← List.drop_drop]
     rw [Gl.o, h92] at he ⊢
     exact (unq_esc he).symm)
    have HN : Hid (b.length ≤ n ∧ 1 ≤ n ∧ k + n ≤ s.size) := qI (by rw [List.length_drop, HL.o] at hb4; omega)
    obtain ⟨g1, g2⟩ := int_ne (a := (n : Int)) (b := 0) (by omega)
    have hnI : (k : Int) + n ≤ 262144 := by have := HN.o; omega
    have hbl : b.length ≤ 262144 := by have := HN.o; omega
    have Jj := qI hbl
    rw [he] at CE
    clear hk hk1 hcb h34 h92 hsz he hb2 hb3 hb4
    go_wp2_with fail
    refine CE.o.mono ?_
    rintro e w2 ⟨⟨a2, c2, rfl, hb⟩, hk2⟩
    have HB := qI hb
    have Ga := qI (Gf.o.then hk2)
    have Gb := qI (row_kept Gk.o hk2 (by simp))
    clear hb hk2
    go_wp2_with (at_builtin; refine wpList_append_slc tyByte Gb.o HB.o (bvs_one _) (by simp only [maxLen]; omega) (by omega) Ga.o.size rfl _ _ rfl rfl rfl ?_; intro v' w' hown hk3 _ hbk; have Ge := qI hown; have Gd := qI hk3; clear hown hk3 hbk)
    case roundEnd =>
     have h9 := Ge.o
     rw [← List.map_append] at h9
     obtain ⟨a7, c7, rfl, -, -⟩ := (Slc.of_row h9).form
     exact ⟨⟨k + n, f', acc ++ b, a7, c7, congrArg (Value.int .i64) (by have := Gq.o; omega), by rw [List.length_append], by have := Gq.o; omega, HN.o.2.2, qI (by rw [List.length_append]; have h1 := Gj.o; have h2 := HN.o.1; omega), by rw [List.length_append]; exact h9, Gr, qI (by have h1 := Gn.o; have h2 := HN.o; have h3 := HL.o; have h4 := Gw.o; rw [List.length_drop] at h1 ⊢; omega), Ga.o.trans Gd.o (fun i hi => .inr (Gb.o.lt i (Option.mem_toList.1 hi)).1)⟩, by have := HN.o; simp [intOf]; omega⟩
  have f2 : ((cc.toNat : Int) == 92) = false := (int_ne (fun e => h92 (UInt8.toNat_inj.1 (show cc.toNat = 92 by omega)))).1
  have CN := qI (fun w' => refNext_any (s.extract k s.size) (by
    have h9 : (s.extract k s.size).data.toList.length = (s.extract k s.size).size := by simp
    rw [ext_from, List.length_drop, HL.o] at h9
    omega) w')
  rw [ext_from] at CN
  by_cases hbad : (Lib.decodeL (s.data.toList.drop k)).1 = 65533 ∧ (Lib.decodeL (s.data.toList.drop k)).2 = 1
  ·have HZ := qI (runq_bad (s := s.data.toList) (x := 30) (n := k) (by rw [← HG.o]; rw [Gl.o] at hbad ⊢; exact unq_raw h34 h32 h92 hbad) (by decide) (by rw [HL.o]; omega))
   rw [show nextZ (s.data.toList.drop k) = (-1, 0) from if_pos (.inr hbad)] at CN
   clear hk hk1 hcb h34 h92 h32 hbad
   go_wp2_with fail
   refine (CN.o _).mono ?_
   rintro e w2 ⟨rfl, hk2⟩
   go_wp2_with fail
   go_ret3
   exact ⟨HZ.o, Gf.o.then hk2⟩
  have hne : s.data.toList.drop k ≠ [] := by rw [Gl.o]; exact List.cons_ne_nil _ _
  have D := decoded hne hbad
  obtain ⟨v, n, hd⟩ : ∃ v n, Lib.decodeL (s.data.toList.drop k) = (v, n) := ⟨_, _, rfl⟩
  have hnz : nextZ (s.data.toList.drop k) = ((v : Int), n) := by
   unfold nextZ
   rw [if_neg (fun q => q.elim hne hbad), hd]
  rw [hd] at D hbad
  rw [hnz] at CN
  have hn1 := D.pos
  have hn2 := D.le
  rw [List.length_drop, HL.o] at hn2
  have HN : Hid (1 ≤ n ∧ k + n ≤ s.size) := qI (by omega)
  have Gr : Hid (unqGo f' (s.data.toList.drop (k + n)) (acc ++ (s.data.toList.drop k).take n) = unqL s.data.toList) := qI (by
   rw [← HG.o, ← List.drop_drop]
   rw [Gl.o] at hd ⊢
   exact (unq_plain h34 h32 h92 hd hbad).symm)
  have Gx : Hid ((s.extract k (k + n)).data.toList = (s.data.toList.drop k).take n) := qI (by
   rw [ext_list s k (k + n) (by omega), List.take_drop])
  have Gy : Hid ((s.extract k (k + n)).size = n) := qI (by
   have h9 := ba_len (s.extract k (k + n))
   rw [Gx.o, List.length_take, List.length_drop, HL.o] at h9
   have := HN.o
   omega)
  obtain ⟨g1, g2⟩ := int_ne (a := (n : Int)) (b := 0) (by omega)
  have hnI : (k : Int) + n ≤ s.size := by omega
  have hnI2 : (k : Int) + n ≤ 262144 := by omega
  have hes := Gy.o
  obtain ⟨i0, hi, hz0, hz1, hz2⟩ := info_parts tyByte.info
  have HI := qI hi
  have Gs := qI (And.intro hz0 (And.intro hz1 hz2))
  have hkn : k + n ≤ 262144 := by omega
  have Jk : Hid (((k : Int) + (n : Int)).toNat = k + n) := qI (by omega)
  clear hk hk1 hcb h34 h92 h32 hbad D hne hd hnz hn1 hn2 hi hz0 hz1 hz2
  go_wp2_with fail
  refine (CN.o _).mono ?_
  rintro e w2 ⟨rfl, hk2⟩
  have Ga := qI (Gf.o.then hk2)
  have Gb := qI (row_kept Gk.o hk2 (by simp))
  clear hk2
  go_wp2_with (at_builtin; refine Lib.wpList_append_own_string _ rfl _ _ 28 9 rfl w.heap.size 5 i0 Tryz.underlying28 Tryz.underlying9 HI.o Gs.o.1 Gs.o.2.1 Gs.o.2.2 (.slice a acc.length c) acc.length (acc.map bv) rfl Gb.o (s.extract k (k + n)) rfl (by simp only [maxLen]; omega) (by omega) Ga.o.size ?_; intro v' w' hown hg3 _; have Ge := qI hown; have Gd := qI ((Kept.refl _ _).grown (X := (Value.slice a acc.length c).ownBlock.toList) hg3 (fun k e => .inl (by simp [e]))); clear hown hg3)
  case roundEnd =>
   have h9 := Ge.o
   have e9 : Lib.strCells (s.extract k (k + n)) = ((s.data.toList.drop k).take n).map bv := by unfold Lib.strCells; rw [Gx.o]; rfl
   rw [e9, ← List.map_append, Gy.o] at h9
   obtain ⟨a7, c7, rfl, -, -⟩ := (Slc.of_row h9).form
   have hlen : (acc ++ (s.data.toList.drop k).take n).length = acc.length + n := by
    rw [List.length_append, List.length_take, List.length_drop, HL.o]
    have := HN.o
    omega
   exact ⟨⟨k + n, f', acc ++ (s.data.toList.drop k).take n, a7, c7, congrArg (Value.int .i64) (by omega), by rw [hlen], by have := Gq.o; omega, HN.o.2, qI (by rw [hlen]; have h1 := Gj.o; omega), by rw [hlen]; exact h9, Gr, qI (by have h1 := Gn.o; have h2 := HN.o; have h3 := HL.o; have h4 := Gw.o; rw [List.length_drop] at h1 ⊢; omega), Ga.o.trans Gd.o (fun i hi => .inr (Gb.o.lt i (Option.mem_toList.1 hi)).1)⟩, by have := HN.o; simp [intOf]; omega⟩
def nextB : PX → Nat | .inl _ => 0 | .inr ([], _) => 0 | .inr (c :: _, _) => c.toNat
def qMeas (S : ByteArray) (p : Nat) (w : World) : Nat :=
 match w.heap[p]? with
 | some (.cells c _ _) => (match (c[1]? : Option Value), (c[2]? : Option Value) with | some (Value.int _ i), some (Value.int _ e) => if e = 0 then S.size - i.toNat + 1 else 0 | _, _ => 0)
 | _ => 0
section
variable {w : World} {p B : Nat} {S : ByteArray} {x : PX}
theorem qmeas_ok {c : Nat} {r : List UInt8} (h : QS w p S B (.inr (r, c))) : qMeas S p w = r.length + 1 := by
 obtain ⟨i, h1, hi, hc, hr⟩ := h.open_ok
 have := drop_len hr hi
 unfold QAt at h1
 unfold qMeas
 rw [h1]
 simp
 omega
theorem qmeas_bad {e : Int} (h : QS w p S B (.inl e)) : qMeas S p w = 0 := by
 obtain ⟨i, c, h1, hi, hc, h2, h3⟩ := h.open_bad
 unfold QAt at h1
 unfold qMeas
 rw [h1]
 have : e ≠ 0 := by omega
 simp [this]
theorem QS.places (h : QS w p S B x) : ∃ (i c : Nat) (e : Int), QAt w p S i c e ∧ i ≤ S.size ∧ c ≤ B := by
 obtain ⟨i, c, e, h1, h2, h3, _⟩ := h
 exact ⟨i, c, e, h1, h2, h3⟩
theorem at_drop {i : Nat} {c : UInt8} {t : List UInt8} (h : S.data.toList.drop i = c :: t) : ∃ h : i < S.size, S[i]'h = c := by
 have hl : i < S.data.toList.length := by
  rcases Nat.lt_or_ge i S.data.toList.length with g | g
  ·exact g
  ·rw [List.drop_eq_nil_of_le g] at h; cases h
 have hi : i < S.size := by simpa using hl
 refine ⟨hi, ?_⟩
 rw [List.drop_eq_getElem_cons hl] at h
 exact (List.cons.inj h).1
theorem qnext_any (h : QS w p S B x) (hS : S.size ≤ 262144) :
  Calls Tryz.prog 101 #[.pointer (some ⟨p, 0, none⟩)] w fun r w' => r = .returned (.int .u8 (nextB x : Int)) ∧ Kept [] w w' := by
 cases x with
 | inl e0 =>
  obtain ⟨i, c, h1, hi, hc, h2, h3⟩ := h.open_bad
  obtain ⟨c0, c1, c2, c3, fz⟩ := h1.cells
  obtain ⟨-, f⟩ := int_ne (a := e0) (b := 0) (by omega)
  have e2 := ext_cell c2
  clear h h1 fz
  go_enter Tryz.func101, Tryz.ntmps101
  go_wp2_with fail
  refine wp_region_ext w (by kernel_rfl) (by kernel_rfl) (Kept.refl _ _) ?_
  clear c0 c1 c2 c3
  repeat go_big_quiet_step (fail)
  refine wpQuiet_nil ?_
  intro w2 hk2
  clear e2
  go_wp2_with fail
  go_ret
  exact ⟨rfl, hk2⟩
 | inr q =>
  obtain ⟨r, c⟩ := q
  obtain ⟨i, h1, hi, hc, hr⟩ := h.open_ok
  obtain ⟨c0, c1, c2, c3, fz⟩ := h1.cells
  have e0 := ext_cell c0
  have e1 := ext_cell c1
  have e2 := ext_cell c2
  have C0 := qI c0
  have C1 := qI c1
  cases r with
  | nil =>
   have hl := drop_len hr hi
   simp only [List.length_nil, Nat.add_zero] at hl
   have hlI : (S.size : Int) ≤ (i : Int) := by omega
   clear h h1 fz hr hl hi hc
   go_enter Tryz.func101, Tryz.ntmps101
   go_wp2_with fail
   refine wp_region_ext w (by kernel_rfl) (by kernel_rfl) (Kept.refl _ _) ?_
   clear c0 c1 c2 c3
   repeat go_big_quiet_step (fail)
   refine wpQuiet_nil ?_
   intro w2 hk2
   clear e0 e1 e2
   go_wp2_with fail
   go_ret
   exact ⟨rfl, hk2⟩
  | cons a t =>
   obtain ⟨hlt, ha⟩ := at_drop hr
   have hlI : ¬ (S.size : Int) ≤ (i : Int) := by omega
   have hltI : (i : Int) < S.size := by omega
   clear h h1 fz hr hi hc
   go_enter Tryz.func101, Tryz.ntmps101
   go_wp2_with fail
   refine wp_region_ext w (by kernel_rfl) (by kernel_rfl) (Kept.refl _ _) ?_
   clear c0 c1 c2 c3
   repeat go_big_quiet_step (fail)
   refine wpQuiet_nil ?_
   intro w2 hk2
   have Ga := qI hk2
   have g0 := ext_cell (hk2.cell C0.o (by simp))
   have g1 := ext_cell (hk2.cell C1.o (by simp))
   clear e0 e1 e2 hk2
   go_wp2_with fail
   refine wp_region_ext w2 (by kernel_rfl) (by kernel_rfl) (Kept.refl _ _) ?_
   repeat go_big_quiet_step (fail)
   refine wpQuiet_nil ?_
   intro w3 hk3
   clear g0 g1
   go_wp2_with fail
   go_ret
   exact ⟨rfl, Ga.o.then hk3⟩
theorem qfail_any (h : QS w p S B x) (k : Nat) (e : Int) (hk : k ≤ S.size) (h0 : 0 < e) (h9 : e ≤ 1000) :
  Calls Tryz.prog 72 #[.pointer (some ⟨p, 0, none⟩), .int .i64 k, .int .i64 e] w fun r w' => r = .returned (.tuple #[]) ∧ QS w' p S B (failX e x) ∧ Kept [p] w w' := by
 cases x with
 | inl e0 =>
  obtain ⟨i, c, h1, hi, hc, h2, h3⟩ := h.open_bad
  obtain ⟨c0, c1, c2, c3, fz⟩ := h1.cells
  obtain ⟨f, -⟩ := int_ne (a := e0) (b := 0) (by omega)
  have H := qI h
  clear h h1 fz
  go_enter Tryz.func72, Tryz.ntmps72
  go_wp2_with fail
  go_end0
  exact ⟨rfl, H.o, Kept.refl _ _⟩
 | inr q =>
  obtain ⟨r, c⟩ := q
  obtain ⟨i, h1, hi, hc, hr⟩ := h.open_ok
  obtain ⟨c0, c1, c2, c3, fz⟩ := h1.cells
  have f1 := fz 1
  have f2 := fz 2
  have H := qI h1
  clear h h1 fz hr
  go_enter Tryz.func72, Tryz.ntmps72
  go_wp2_with fail
  go_end0
  exact ⟨rfl, QS.bad ((H.o.set1 k).set2 e) hk hc h0 h9, (kept_set _ _ _ _).trans' (kept_set _ _ _ _)⟩
theorem blank_cases (x : PX) : (∃ c a t, x = .inr (a :: t, c) ∧ isBlank a = true) ∨ (skipX x = x ∧ ∀ k : Nat, k = 32 ∨ k = 9 ∨ k = 10 ∨ k = 13 → nextB x ≠ k) := by
 match x with
 | .inl e => exact .inr ⟨rfl, fun k hk => by show 0 ≠ k; omega⟩
 | .inr ([], c) => exact .inr ⟨rfl, fun k hk => by show 0 ≠ k; omega⟩
 | .inr (a :: t, c) =>
  cases hb : isBlank a with
  | true => exact .inl ⟨c, a, t, rfl, hb⟩
  | false =>
   refine .inr ⟨?_, fun k hk e => ?_⟩
   ·show (Sum.inr (skipB (a :: t), c) : PX) = _
    unfold skipB
    rw [List.dropWhile_cons_of_neg (by rw [hb]; decide)]
   ·have e' : a.toNat = k := e
    have ea : a = UInt8.ofNat k := by rw [← e']; simp
    rcases hk with rfl | rfl | rfl | rfl <;> (rw [ea] at hb; exact absurd hb (by decide))
theorem qblanks_any (h : QS w p S B x) (hS : S.size ≤ 262144) :
  Calls Tryz.prog 100 #[.pointer (some ⟨p, 0, none⟩)] w fun r w' => r = .returned (.tuple #[]) ∧ QS w' p S B (skipX x) ∧ Kept [p] w w' := by
 have H := qI h
 clear h
 go_enter Tryz.func100, Tryz.ntmps100
 go_wp2_with fail
 go_loopw [] (fun wr => ∃ y : PX, QS wr p S B y ∧ Hid (skipX y = skipX x) ∧ Kept [p] w wr) (fun wr => qMeas S p wr)
 case atStart => exact ⟨x, H.o, qI rfl, Kept.refl _ _⟩
 case round =>
  obtain ⟨y, hy, Gz, hkr⟩ := hrel
  have HY := qI hy
  have Gf := qI hkr
  have CN : Hid (∀ w', Kept [] wr w' → Calls Tryz.prog 101 #[.pointer (some ⟨p, 0, none⟩)] w' fun r w'' => r = .returned (.int .u8 (nextB y : Int)) ∧ Kept [] w' w'') := qI (fun w' k => qnext_any (HY.o.kept0 k) hS)
  clear hy hkr
  rcases blank_cases y with ⟨c, a, t, rfl, hb⟩ | ⟨hsk, hne⟩
  ·have hm := qmeas_ok HY.o
   have HM := qI hm
   obtain ⟨i, h1, hi, hc, hr⟩ := HY.o.open_ok
   obtain ⟨hlt, ha⟩ := at_drop hr
   have H1 := qI h1
   have HI : Hid (i < S.size ∧ c ≤ B) := qI ⟨hlt, hc⟩
   have HR := qI hr
   have hiI : (i : Int) < 262144 := by omega
   have Gg : Hid (skipX (.inr (t, c)) = skipX x) := qI (by
    rw [← Gz.o]
    show (Sum.inr (skipB t, c) : PX) = .inr (skipB (a :: t), c)
    unfold skipB
    rw [List.dropWhile_cons_of_pos hb])
   have hd : (a.toNat = 32) ∨ (a.toNat ≠ 32 ∧ a.toNat = 9) ∨ (a.toNat ≠ 32 ∧ a.toNat ≠ 9 ∧ a.toNat = 10) ∨ (a.toNat ≠ 32 ∧ a.toNat ≠ 9 ∧ a.toNat ≠ 10 ∧ a.toNat = 13) := by
    unfold isBlank at hb
    simp only [Bool.or_eq_true, beq_iff_eq] at hb
    rcases hb with ((rfl | rfl) | rfl) | rfl
    ·exact .inl rfl
    ·exact .inr (.inl ⟨by decide, rfl⟩)
    ·exact .inr (.inr (.inl ⟨by decide, by decide, rfl⟩))
    ·exact .inr (.inr (.inr ⟨by decide, by decide, by decide, rfl⟩))
   have CN2 : Hid (∀ w', Kept [] wr w' → Calls Tryz.prog 101 #[.pointer (some ⟨p, 0, none⟩)] w' fun r w'' => r = .returned (.int .u8 (a.toNat : Int)) ∧ Kept [] w' w'') := CN
   clear hm h1 hi hc hr hlt ha hb CN
   have Gh : Hid (∀ w2, Kept [] wr w2 → w2.cell? ⟨p, 1, none⟩ = some (.int .i64 i) ∧ w2.frozen? ⟨p, 1, none⟩ = false) := qI (fun w2 k => by
    have h9 := k.heap H1.o (by simp)
    exact ⟨cell_head (o := 1) h9 rfl, free_head (o := 1) h9⟩)
   have Gi : Hid (∀ w2, Kept [] wr w2 → QS (w2.setCell ⟨p, 1, none⟩ (.int .i64 ((i : Int) + 1))) p S B (.inr (t, c)) ∧ Kept [p] w (w2.setCell ⟨p, 1, none⟩ (.int .i64 ((i : Int) + 1)))) := qI (fun w2 k => by
    rw [show (i : Int) + 1 = ((i + 1 : Nat) : Int) by omega]
    have h9 : QAt w2 p S i c 0 := k.heap H1.o (by simp)
    have h8 := QS.good (B := B) (h9.set1 (i + 1)) (by have := HI.o; omega) HI.o.2
    rw [← List.drop_drop, HR.o] at h8
    exact ⟨h8, (Gf.o.then k).trans' (kept_set _ _ _ _)⟩)
   rcases hd with g1 | ⟨g1, g2⟩ | ⟨g1, g2, g3⟩ | ⟨g1, g2, g3, g4⟩
   ·obtain ⟨f1, -⟩ := int_eq (a := (a.toNat : Int)) (b := 32) (by omega)
    clear g1
    go_wp2_with fail
    refine (CN2.o _ (Kept.refl _ _)).mono ?_
    rintro e w1 ⟨rfl, hk1⟩
    have Gc := qI hk1
    clear hk1
    obtain ⟨d1, d2⟩ := Gh.o _ Gc.o
    obtain ⟨d3, d4⟩ := Gi.o _ Gc.o
    have D3 := qI d3
    have D4 := qI d4
    clear d3 d4
    go_wp2_with fail
    case roundEnd =>
     exact ⟨⟨_, D3.o, Gg, D4.o⟩, by rw [HM.o, qmeas_ok D3.o]; simp⟩
   ·obtain ⟨f1, -⟩ := int_ne (a := (a.toNat : Int)) (b := 32) (by omega)
    obtain ⟨f2, -⟩ := int_eq (a := (a.toNat : Int)) (b := 9) (by omega)
    clear g1 g2
    go_wp2_with fail
    refine (CN2.o _ (Kept.refl _ _)).mono ?_
    rintro e w1 ⟨rfl, hk1⟩
    have Gc := qI hk1
    clear hk1
    go_wp2_with fail
    refine (CN2.o _ Gc.o).mono ?_
    rintro e w2 ⟨rfl, hk2⟩
    have Ga := qI (Gc.o.then hk2)
    clear hk2
    obtain ⟨d1, d2⟩ := Gh.o _ Ga.o
    obtain ⟨d3, d4⟩ := Gi.o _ Ga.o
    have D3 := qI d3
    have D4 := qI d4
    clear d3 d4
    go_wp2_with fail
    case roundEnd =>
     exact ⟨⟨_, D3.o, Gg, D4.o⟩, by rw [HM.o, qmeas_ok D3.o]; simp⟩
   ·obtain ⟨f1, -⟩ := int_ne (a := (a.toNat : Int)) (b := 32) (by omega)
    obtain ⟨f2, -⟩ := int_ne (a := (a.toNat : Int)) (b := 9) (by omega)
    obtain ⟨f3, -⟩ := int_eq (a := (a.toNat : Int)) (b := 10) (by omega)
    clear g1 g2 g3
    go_wp2_with fail
    refine (CN2.o _ (Kept.refl _ _)).mono ?_
    rintro e w1 ⟨rfl, hk1⟩
    have Gc := qI hk1
    clear hk1
    go_wp2_with fail
    refine (CN2.o _ Gc.o).mono ?_
    rintro e w2 ⟨rfl, hk2⟩
    have Ga := qI (Gc.o.then hk2)
    clear hk2
    go_wp2_with fail
    refine (CN2.o _ Ga.o).mono ?_
    rintro e w3 ⟨rfl, hk3⟩
    have Gd := qI (Ga.o.then hk3)
    clear hk3
    obtain ⟨d1, d2⟩ := Gh.o _ Gd.o
    obtain ⟨d3, d4⟩ := Gi.o _ Gd.o
    have D3 := qI d3
    have D4 := qI d4
    clear d3 d4
    go_wp2_with fail
    case roundEnd =>
     exact ⟨⟨_, D3.o, Gg, D4.o⟩, by rw [HM.o, qmeas_ok D3.o]; simp⟩
   ·obtain ⟨f1, -⟩ := int_ne (a := (a.toNat : Int)) (b := 32) (by omega)
    obtain ⟨f2, -⟩ := int_ne (a := (a.toNat : Int)) (b := 9) (by omega)
    obtain ⟨f3, -⟩ := int_ne (a := (a.toNat : Int)) (b := 10) (by omega)
    obtain ⟨f4, -⟩ := int_eq (a := (a.toNat : Int)) (b := 13) (by omega)
    clear g1 g2 g3 g4
    go_wp2_with fail
    refine (CN2.o _ (Kept.refl _ _)).mono ?_
    rintro e w1 ⟨rfl, hk1⟩
    have Gc := qI hk1
    clear hk1
    go_wp2_with fail
    refine (CN2.o _ Gc.o).mono ?_
    rintro e w2 ⟨rfl, hk2⟩
    have Ga := qI (Gc.o.then hk2)
    clear hk2
    go_wp2_with fail
    refine (CN2.o _ Ga.o).mono ?_
    rintro e w3 ⟨rfl, hk3⟩
    have Gd := qI (Ga.o.then hk3)
    clear hk3
    go_wp2_with fail
    refine (CN2.o _ Gd.o).mono ?_
    rintro e w4 ⟨rfl, hk4⟩
    have Gm := qI (Gd.o.then hk4)
    clear hk4
    obtain ⟨d1, d2⟩ := Gh.o _ Gm.o
    obtain ⟨d3, d4⟩ := Gi.o _ Gm.o
    have D3 := qI d3
    have D4 := qI d4
    clear d3 d4
    go_wp2_with fail
    case roundEnd =>
     exact ⟨⟨_, D3.o, Gg, D4.o⟩, by rw [HM.o, qmeas_ok D3.o]; simp⟩
  ·have HE : Hid (y = skipX x) := qI (by rw [← Gz.o, hsk])
   obtain ⟨f1, -⟩ := int_ne (a := (nextB y : Int)) (b := 32) (by have := hne 32 (by omega); omega)
   obtain ⟨f2, -⟩ := int_ne (a := (nextB y : Int)) (b := 9) (by have := hne 9 (by omega); omega)
   obtain ⟨f3, -⟩ := int_ne (a := (nextB y : Int)) (b := 10) (by have := hne 10 (by omega); omega)
   obtain ⟨f4, -⟩ := int_ne (a := (nextB y : Int)) (b := 13) (by have := hne 13 (by omega); omega)
   clear hsk hne
   revert CN f1 f2 f3 f4
   generalize (nextB y : Int) = z
   intro CN f1 f2 f3 f4
   go_wp2_with fail
   refine (CN.o _ (Kept.refl _ _)).mono ?_
   rintro e w1 ⟨rfl, hk1⟩
   have Gc := qI hk1
   clear hk1
   go_wp2_with fail
   refine (CN.o _ Gc.o).mono ?_
   rintro e w2 ⟨rfl, hk2⟩
   have Ga := qI (Gc.o.then hk2)
   clear hk2
   go_wp2_with fail
   refine (CN.o _ Ga.o).mono ?_
   rintro e w3 ⟨rfl, hk3⟩
   have Gd := qI (Ga.o.then hk3)
   clear hk3
   go_wp2_with fail
   refine (CN.o _ Gd.o).mono ?_
   rintro e w4 ⟨rfl, hk4⟩
   have Gm := qI (Gd.o.then hk4)
   clear hk4
   go_wp2_with fail
   go_end0
   rw [← HE.o]
   exact ⟨rfl, HY.o.kept0 Gm.o, Gf.o.then Gm.o⟩
end
section
variable {w : World} {p B : Nat} {S : ByteArray} {x : PX}
theorem word_test {S W : ByteArray} {i : Nat} {r : List UInt8} (hr : S.data.toList.drop i = r) (hl : W.size ≤ r.length) (hi : i ≤ S.size) : (S.extract i (i + W.size) = W) ↔ W.data.toList.isPrefixOf r = true := by
 have h0 := drop_len hr hi
 have e1 : (S.extract i (i + W.size)).data.toList = r.take W.size := by
  rw [ext_list S i (i + W.size) (by omega), ← hr, List.take_drop]
 have hW : W.data.toList.length = W.size := ba_len W
 rw [List.isPrefixOf_iff_prefix, List.prefix_iff_eq_take, hW]
 constructor
 ·intro e
  rw [← e1, e]
 ·intro e
  exact ba_eq (by rw [e1]; exact e.symm)
theorem word_long {W : ByteArray} {r : List UInt8} (h : r.length < W.size) : W.data.toList.isPrefixOf r = false := by
 cases e : W.data.toList.isPrefixOf r with
 | false => rfl
 | true =>
  have := eat_room e
  rw [ba_len] at this
  omega
theorem qword_any (h : QS w p S B x) (hS : S.size ≤ 262144) (W : ByteArray) (hW : W.size ≤ 1000) :
  Calls Tryz.prog 103 #[.pointer (some ⟨p, 0, none⟩), .string W] w fun r w' => r = .returned (.bool (eatB W.data.toList x)) ∧ QS w' p S B (eatX W.data.toList x) ∧ Kept [p] w w' := by
 cases x with
 | inl e0 =>
  obtain ⟨i, c, h1, hi, hc, h2, h3⟩ := h.open_bad
  obtain ⟨c0, c1, c2, c3, fz⟩ := h1.cells
  obtain ⟨-, f⟩ := int_ne (a := e0) (b := 0) (by omega)
  have e2 := ext_cell c2
  have H := qI h
  clear h h1 fz
  go_enter Tryz.func103, Tryz.ntmps103
  go_wp2_with fail
  refine wp_region_ext w (by kernel_rfl) (by kernel_rfl) (Kept.refl _ _) ?_
  clear c0 c1 c2 c3
  repeat go_big_quiet_step (fail)
  refine wpQuiet_nil ?_
  intro w2 hk2
  clear e2
  go_wp2_with fail
  go_ret
  exact ⟨rfl, H.o.kept0 hk2, hk2.mono (by simp)⟩
 | inr q =>
  obtain ⟨r, c⟩ := q
  obtain ⟨i, h1, hi, hc, hr⟩ := h.open_ok
  obtain ⟨c0, c1, c2, c3, fz⟩ := h1.cells
  have E0 := ext_cell c0
  have E1 := ext_cell c1
  have E2 := ext_cell c2
  have H := qI h
  have H1 := qI h1
  have HR := qI hr
  have hl := drop_len hr hi
  have HL := qI hl
  have HC := qI hc
  have hw1 : wrap64 ((S.size : Int) - (i : Int)) = (r.length : Int) := by unfold wrap64; omega
  have Ja := qI (fun hb : eatB W.data.toList (.inr (r, c)) = false => eatX_no hb)
  by_cases hlt : r.length < W.size
  ·have HB : Hid (eatB W.data.toList (.inr (r, c)) = false) := qI (word_long hlt)
   have hltI : (r.length : Int) < W.size := by omega
   clear h h1 fz hr hi hc hl hlt
   go_enter Tryz.func103, Tryz.ntmps103
   go_wp2_with fail
   refine wp_region_ext w (by kernel_rfl) (by kernel_rfl) (Kept.refl _ _) ?_
   clear c0 c1 c2 c3
   repeat go_big_quiet_step (fail)
   refine wpQuiet_nil ?_
   intro w2 hk2
   clear E0 E1 E2
   go_wp2_with fail
   go_ret
   rw [HB.o, Ja.o HB.o]
   exact ⟨rfl, H.o.kept0 hk2, hk2.mono (by simp)⟩
  have hltd : decide ((S.size : Int) - i < W.size) = false := decide_eq_false (by omega)
  have hltn : ¬ ((S.size : Int) - i < W.size) := by omega
  have hT := word_test (W := W) hr (by omega) hi
  have hiW : (i : Int) + W.size ≤ S.size := by omega
  have hSI : (S.size : Int) ≤ 262144 := by omega
  have Jg : Hid (i + W.size ≤ S.size) := qI (by omega)
  clear h h1 fz hi hc hl hlt hr
  cases hb : W.data.toList.isPrefixOf r with
  | false =>
   have HB : Hid (eatB W.data.toList (.inr (r, c)) = false) := qI hb
   obtain ⟨f1, f2⟩ := str_ne (fun e => by rw [hT.1 e] at hb; cases hb)
   clear hT hb
   go_enter Tryz.func103, Tryz.ntmps103
   go_wp2_with fail
   refine wp_region_ext w (by kernel_rfl) (by kernel_rfl) (Kept.refl _ _) ?_
   clear c0 c1 c2 c3
   repeat go_big_quiet_step (fail)
   refine wpQuiet_nil ?_
   intro w2 hk2
   clear E0 E1 E2
   go_wp2_with fail
   go_ret
   rw [HB.o, Ja.o HB.o]
   exact ⟨rfl, H.o.kept0 hk2, hk2.mono (by simp)⟩
  | true =>
   have HB : Hid (eatB W.data.toList (.inr (r, c)) = true) := qI hb
   obtain ⟨f1, f2⟩ := str_eq (hT.2 hb)
   clear hT hb
   have HD : Hid (S.data.toList.drop (i + W.size) = r.drop W.data.toList.length) := qI (by rw [ba_len, ← HR.o, List.drop_drop])
   go_enter Tryz.func103, Tryz.ntmps103
   go_wp2_with fail
   refine wp_region_ext w (by kernel_rfl) (by kernel_rfl) (Kept.refl _ _) ?_
   clear c0 c1 c2 c3
   repeat go_big_quiet_step (fail)
   refine wpQuiet_nil ?_
   intro w2 hk2
   have Ga := qI hk2
   have hp2 := hk2.heap H1.o (by simp)
   have Jh : Hid (QAt w2 p S i c 0) := qI hp2
   have d1 := cell_head (o := 1) (v := .int .i64 i) hp2 rfl
   have d2 := free_head (o := 1) hp2
   clear E0 E1 E2 hk2 hp2
   go_wp2_with fail
   go_ret
   rw [HB.o, eatX_yes HB.o]
   have h9 := Jh.o.set1 (i + W.size)
   refine ⟨rfl, ?_, (Ga.o.mono (by simp)).trans' (kept_set _ _ _ _)⟩
   have h8 := QS.good h9 Jg.o HC.o
   rw [HD.o] at h8
   exact h8
end
section
variable {w : World} {p B : Nat} {S : ByteArray} {x : PX}
theorem qlitX_bad {r : List UInt8} {c : Nat} {e : Int} (h : unqL r = .inl e) : litX (.inr (r, c)) = .inl e ∧ litS (.inr (r, c)) = [] := by
 constructor
 ·show (match unqL r with | .inl e => (Sum.inl e : PX) | .inr (_, r') => .inr (r', c)) = _
  rw [h]
 ·show (match unqL r with | .inl _ => [] | .inr (t, _) => t) = _
  rw [h]
theorem qlitX_ok {r t r' : List UInt8} {c : Nat} (h : unqL r = .inr (t, r')) : litX (.inr (r, c)) = .inr (r', c) ∧ litS (.inr (r, c)) = t := by
 constructor
 ·show (match unqL r with | .inl e => (Sum.inl e : PX) | .inr (_, r') => .inr (r', c)) = _
  rw [h]
 ·show (match unqL r with | .inl _ => [] | .inr (t, _) => t) = _
  rw [h]
theorem qliteral_any (h : QS w p S B x) (hS : S.size ≤ 262144) :
  Calls Tryz.prog 104 #[.pointer (some ⟨p, 0, none⟩)] w fun r w' => r = .returned (.string (strB (litS x))) ∧ QS w' p S B (litX x) ∧ Kept [p] w w' := by
 cases x with
 | inl e0 =>
  obtain ⟨i, c, h1, hi, hc, h2, h3⟩ := h.open_bad
  obtain ⟨c0, c1, c2, c3, fz⟩ := h1.cells
  obtain ⟨-, f⟩ := int_ne (a := e0) (b := 0) (by omega)
  have H := qI h
  clear h h1 fz
  go_enter Tryz.func104, Tryz.ntmps104
  go_wp2_with fail
  go_ret
  exact ⟨rfl, H.o, Kept.refl _ _⟩
 | inr q =>
  obtain ⟨r, c⟩ := q
  obtain ⟨i, h1, hi, hc, hr⟩ := h.open_ok
  obtain ⟨c0, c1, c2, c3, fz⟩ := h1.cells
  have H1 := qI h1
  have HR := qI hr
  have hl := drop_len hr hi
  have HL := qI hl
  have HC := qI hc
  have hiI : (i : Int) ≤ S.size := by omega
  have hSI : (S.size : Int) ≤ 262144 := by omega
  have hsz : (S.extract i S.size).size ≤ 262144 := by
   have h9 := ba_len (S.extract i S.size)
   rw [ext_from, List.length_drop, ba_len] at h9
   omega
  have CU := qI (fun w' => refUnquote_any (w := w') (S.extract i S.size) hsz)
  rw [ext_from, hr] at CU
  unfold RUnqAns at CU
  clear h h1 fz hr hi hc hl hsz
  go_enter Tryz.func104, Tryz.ntmps104
  go_wp2_with fail
  clear c0 c1 c2 c3
  refine wp_region_last' (n := 17) (fun w' : World => QAt w' p S i c 0 ∧ Kept [] w w') 17 (by kernel_rfl) (by kernel_rfl) ?_
  change wpAnyT _ _ _ _ _ _ _ _ _ w.drew
  have hSS : (fun w' : World => QAt w' p S i c 0 ∧ Kept [] w w') w.drew := ⟨(Kept.refl [] w).drew.heap H1.o (by simp), (Kept.refl [] w).drew⟩
  revert hSS
  generalize w.drew = WD
  intro hSS
  refine wpAnyT_start ?_
  intro O R hO hR
  have hQp : ∀ c a (d : Nat) v w, R (.panic c) (a.put (some d) v) w → R (.panic c) a w := by subst hR; exact fun _ _ _ _ _ h => h
  refine wpAnyT_take' (i := 0) (v := ?_) hO rfl rfl (by kernel_rfl) (by kernel_rfl) (by kernel_rfl) (by kernel_rfl) hQp (Or.inl ⟨by kernel_rfl, fun w hSw => ?_⟩) hSS ?_
  rotate_left
  ·go_simp; try with_reducible rfl
  try simp only [zA,zN,zB,zC,zD]
  refine wpAnyT_take' (i := 1) (v := ?_) hO rfl rfl (by kernel_rfl) (by kernel_rfl) (by kernel_rfl) (by kernel_rfl) hQp (Or.inl ⟨by kernel_rfl, fun w hSw => ?_⟩) hSS ?_
  rotate_left
  ·go_simp; try with_reducible rfl
  try simp only [zA,zN,zB,zC,zD]
  refine wpAnyT_take' (i := 2) (v := ?_) hO rfl rfl (by kernel_rfl) (by kernel_rfl) (by kernel_rfl) (by kernel_rfl) hQp (Or.inl ⟨by kernel_rfl, fun w hSw => ?_⟩) hSS ?_
  rotate_left
  ·go_simp; try with_reducible rfl
  try simp only [zA,zN,zB,zC,zD]
  refine wpAnyT_take' (i := 3) (v := ?_) hO rfl rfl (by kernel_rfl) (by kernel_rfl) (by kernel_rfl) (by kernel_rfl) hQp (Or.inl ⟨by kernel_rfl, fun w hSw => ?_⟩) hSS ?_
  rotate_left
  ·obtain ⟨s0, s1, s2, s3, s4⟩ := hSw.1.cells; go_simp; try with_reducible rfl
  try simp only [zA,zN,zB,zC,zD]
  refine wpAnyT_take' (i := 4) (v := ?_) hO rfl rfl (by kernel_rfl) (by kernel_rfl) (by kernel_rfl) (by kernel_rfl) hQp (Or.inl ⟨by kernel_rfl, fun w hSw => ?_⟩) hSS ?_
  rotate_left
  ·go_simp; try with_reducible rfl
  try simp only [zA,zN,zB,zC,zD]
  refine wpAnyT_take' (i := 5) (v := ?_) hO rfl rfl (by kernel_rfl) (by kernel_rfl) (by kernel_rfl) (by kernel_rfl) hQp (Or.inl ⟨by kernel_rfl, fun w hSw => ?_⟩) hSS ?_
  rotate_left
  ·go_simp; try with_reducible rfl
  try simp only [zA,zN,zB,zC,zD]
  refine wpAnyT_take' (i := 6) (v := ?_) hO rfl rfl (by kernel_rfl) (by kernel_rfl) (by kernel_rfl) (by kernel_rfl) hQp (Or.inl ⟨by kernel_rfl, fun w hSw => ?_⟩) hSS ?_
  rotate_left
  ·go_simp; try with_reducible rfl
  try simp only [zA,zN,zB,zC,zD]
  refine wpAnyT_take' (i := 7) (v := ?_) hO rfl rfl (by kernel_rfl) (by kernel_rfl) (by kernel_rfl) (by kernel_rfl) hQp (Or.inl ⟨by kernel_rfl, fun w hSw => ?_⟩) hSS ?_
  rotate_left
  ·obtain ⟨s0, s1, s2, s3, s4⟩ := hSw.1.cells; go_simp; try with_reducible rfl
  try simp only [zA,zN,zB,zC,zD]
  refine wpAnyT_take' (i := 8) (v := ?_) hO rfl rfl (by kernel_rfl) (by kernel_rfl) (by kernel_rfl) (by kernel_rfl) hQp (Or.inl ⟨by kernel_rfl, fun w hSw => ?_⟩) hSS ?_
  rotate_left
  ·go_simp; try with_reducible rfl
  try simp only [zA,zN,zB,zC,zD]
  refine wpAnyT_one' (i := 9) hO rfl (by kernel_rfl) (by kernel_rfl) (fun K hK => ?_)
  go_simp
  refine Calls.mono (CU.o _) ?_
  cases hu : unqL r with
  | inl e0 =>
   rintro e w2 ⟨⟨n, hn, hx, rfl⟩, hk2⟩
   have hS2 : (fun w' : World => QAt w' p S i c 0 ∧ Kept [] w w') w2 := ⟨hk2.heap hSS.1 (by simp), hSS.2.then hk2⟩
   refine hK _ _ (.inr hS2) ?_
   clear hK K
   try simp only [zA,zN,zB,zC,zD]
   clear hSS hk2
   have hSS := hS2
   clear hS2
   refine wpAnyT_take' (i := 10) (v := ?_) hO rfl rfl (by kernel_rfl) (by kernel_rfl) (by kernel_rfl) (by kernel_rfl) hQp (Or.inl ⟨by kernel_rfl, fun w hSw => ?_⟩) hSS ?_
   rotate_left
   ·go_simp; try with_reducible rfl
   try simp only [zA,zN,zB,zC,zD]
   refine wpAnyT_take' (i := 11) (v := ?_) hO rfl rfl (by kernel_rfl) (by kernel_rfl) (by kernel_rfl) (by kernel_rfl) hQp (Or.inl ⟨by kernel_rfl, fun w hSw => ?_⟩) hSS ?_
   rotate_left
   ·go_simp; try with_reducible rfl
   try simp only [zA,zN,zB,zC,zD]
   refine wpAnyT_take' (i := 12) (v := ?_) hO rfl rfl (by kernel_rfl) (by kernel_rfl) (by kernel_rfl) (by kernel_rfl) hQp (Or.inl ⟨by kernel_rfl, fun w hSw => ?_⟩) hSS ?_
   rotate_left
   ·go_simp; try with_reducible rfl
   try simp only [zA,zN,zB,zC,zD]
   refine wpAnyT_take' (i := 13) (v := ?_) hO rfl rfl (by kernel_rfl) (by kernel_rfl) (by kernel_rfl) (by kernel_rfl) hQp (Or.inl ⟨by kernel_rfl, fun w hSw => ?_⟩) hSS ?_
   rotate_left
   ·go_simp; try with_reducible rfl
   try simp only [zA,zN,zB,zC,zD]
   refine wpAnyT_take' (i := 14) (v := ?_) hO rfl rfl (by kernel_rfl) (by kernel_rfl) (by kernel_rfl) (by kernel_rfl) hQp (Or.inl ⟨by kernel_rfl, fun w hSw => ?_⟩) hSS ?_
   rotate_left
   ·go_simp; try with_reducible rfl
   try simp only [zA,zN,zB,zC,zD]
   refine wpAnyT_take' (i := 15) (v := ?_) hO rfl rfl (by kernel_rfl) (by kernel_rfl) (by kernel_rfl) (by kernel_rfl) hQp (Or.inl ⟨by kernel_rfl, fun w hSw => ?_⟩) hSS ?_
   rotate_left
   ·go_simp; try with_reducible rfl
   try simp only [zA,zN,zB,zC,zD]
   refine wpAnyT_take' (i := 16) (v := ?_) hO rfl rfl (by kernel_rfl) (by kernel_rfl) (by kernel_rfl) (by kernel_rfl) hQp (Or.inl ⟨by kernel_rfl, fun w hSw => ?_⟩) hSS ?_
   rotate_left
   ·go_simp; try with_reducible rfl
   try simp only [zA,zN,zB,zC,zD]
   refine wpAnyT_done' hO (by kernel_rfl) ?_ _
   subst hR
   try clear hQp hO O
   have Gt := qI hSS.1
   have Ga := qI hSS.2
   obtain ⟨s0, s1, s2, s3, s4⟩ := hSS.1.cells
   obtain ⟨g1, g2⟩ := int_ne (a := e0) (b := 0) (by omega)
   have hnI : (i : Int) + n ≤ S.size := by have := HL.o; omega
   have CF := qI (qfail_any (w := w2) (x := .inr (r, c)) (by rw [← HR.o]; exact QS.good (B := B) Gt.o (by have := HL.o; omega) HC.o) (i + n) e0 (by have := HL.o; omega) hx.1 hx.2)
   rw [show ((i + n : Nat) : Int) = (i : Int) + n by omega] at CF
   have HX := qI (qlitX_bad (c := c) hu)
   clear hSS hx hn hu s4
   go_wp2_with fail
   refine CF.o.mono ?_
   rintro e w3 ⟨rfl, hq3, hk3⟩
   go_wp2_with fail
   go_ret
   rw [HX.o.1, HX.o.2]
   exact ⟨rfl, hq3, (Ga.o.mono (by simp)).trans' hk3⟩
  | inr y =>
   obtain ⟨t, r'⟩ := y
   rintro e w2 ⟨⟨n, hn, hd, rfl⟩, hk2⟩
   have hS2 : (fun w' : World => QAt w' p S i c 0 ∧ Kept [] w w') w2 := ⟨hk2.heap hSS.1 (by simp), hSS.2.then hk2⟩
   refine hK _ _ (.inr hS2) ?_
   clear hK K
   try simp only [zA,zN,zB,zC,zD]
   clear hSS hk2
   have hSS := hS2
   clear hS2
   refine wpAnyT_take' (i := 10) (v := ?_) hO rfl rfl (by kernel_rfl) (by kernel_rfl) (by kernel_rfl) (by kernel_rfl) hQp (Or.inl ⟨by kernel_rfl, fun w hSw => ?_⟩) hSS ?_
   rotate_left
   ·go_simp; try with_reducible rfl
   try simp only [zA,zN,zB,zC,zD]
   refine wpAnyT_take' (i := 11) (v := ?_) hO rfl rfl (by kernel_rfl) (by kernel_rfl) (by kernel_rfl) (by kernel_rfl) hQp (Or.inl ⟨by kernel_rfl, fun w hSw => ?_⟩) hSS ?_
   rotate_left
   ·go_simp; try with_reducible rfl
   try simp only [zA,zN,zB,zC,zD]
   refine wpAnyT_take' (i := 12) (v := ?_) hO rfl rfl (by kernel_rfl) (by kernel_rfl) (by kernel_rfl) (by kernel_rfl) hQp (Or.inl ⟨by kernel_rfl, fun w hSw => ?_⟩) hSS ?_
   rotate_left
   ·go_simp; try with_reducible rfl
   try simp only [zA,zN,zB,zC,zD]
   refine wpAnyT_take' (i := 13) (v := ?_) hO rfl rfl (by kernel_rfl) (by kernel_rfl) (by kernel_rfl) (by kernel_rfl) hQp (Or.inl ⟨by kernel_rfl, fun w hSw => ?_⟩) hSS ?_
   rotate_left
   ·go_simp; try with_reducible rfl
   try simp only [zA,zN,zB,zC,zD]
   refine wpAnyT_take' (i := 14) (v := ?_) hO rfl rfl (by kernel_rfl) (by kernel_rfl) (by kernel_rfl) (by kernel_rfl) hQp (Or.inl ⟨by kernel_rfl, fun w hSw => ?_⟩) hSS ?_
   rotate_left
   ·go_simp; try with_reducible rfl
   try simp only [zA,zN,zB,zC,zD]
   refine wpAnyT_take' (i := 15) (v := ?_) hO rfl rfl (by kernel_rfl) (by kernel_rfl) (by kernel_rfl) (by kernel_rfl) hQp (Or.inl ⟨by kernel_rfl, fun w hSw => ?_⟩) hSS ?_
   rotate_left
   ·go_simp; try with_reducible rfl
   try simp only [zA,zN,zB,zC,zD]
   refine wpAnyT_take' (i := 16) (v := ?_) hO rfl rfl (by kernel_rfl) (by kernel_rfl) (by kernel_rfl) (by kernel_rfl) hQp (Or.inl ⟨by kernel_rfl, fun w hSw => ?_⟩) hSS ?_
   rotate_left
   ·go_simp; try with_reducible rfl
   try simp only [zA,zN,zB,zC,zD]
   refine wpAnyT_done' hO (by kernel_rfl) ?_ _
   subst hR
   try clear hQp hO O
   have Gt := qI hSS.1
   have Ga := qI hSS.2
   obtain ⟨s0, s1, s2, s3, fz⟩ := hSS.1.cells
   have f1 := fz 1
   have hnI : (i : Int) + n ≤ S.size := by have := HL.o; omega
   have HX := qI (qlitX_ok (c := c) hu)
   have HD := qI hd
   have HN : Hid (i + n ≤ S.size) := qI (by have := HL.o; omega)
   clear hSS hd hn hu fz
   go_wp2_with fail
   go_ret
   rw [HX.o.1, HX.o.2]
   have h9 := QS.good (B := B) (Gt.o.set1 (i + n)) HN.o HC.o
   rw [← List.drop_drop, HR.o, HD.o] at h9
   exact ⟨rfl, h9, (Ga.o.mono (by simp)).trans' (kept_set _ _ _ _)⟩
end
end Go.Proofs.YtpbphdkjjoipnaaGreatDoor

/- Parts of one proof, merged: XRA XKF XKK. -/
import Derived.Test.YtpbphdkjjoipnaaGreatDoorHD
import Derived.Deep.DeepCutAuto
import Derived.Deep.CutBlock
import Derived.Test.YtpbphdkjjoipnaaGreatDoorHC
import Derived.Test.YtpbphdkjjoipnaaGreatDoorHA
set_option linter.all false
set_option maxHeartbeats 12800000
set_option maxRecDepth 10000
set_option linter.unusedVariables false
set_option linter.unusedSimpArgs false
set_option linter.unnecessarySimpa false
namespace Go.Proofs.YtpbphdkjjoipnaaGreatDoor
open Go.Proofs.Tryz
open Go.RowKit
theorem one_digit (k : Nat) (hk : k < 10) : (⟨#[48, 49, 50, 51, 52, 53, 54, 55, 56, 57]⟩ : ByteArray).extract k (k + 1) = ⟨#[UInt8.ofNat (48 + k)]⟩ := by
 have : k = 0 ∨ k = 1 ∨ k = 2 ∨ k = 3 ∨ k = 4 ∨ k = 5 ∨ k = 6 ∨ k = 7 ∨ k = 8 ∨ k = 9 := by omega
 rcases this with rfl | rfl | rfl | rfl | rfl | rfl | rfl | rfl | rfl | rfl <;> rfl
theorem Zv (u : Nat) (h : u ≤ 9223372036854775808) : (Lib.decDigits u).length ≤ 21 := by
 by_cases h0 : u = 0
 ·subst h0
  rw [Lib.decDigits]
  simp
 ·have := Lib.itoa_length_le (-(u : Int)) (by omega) (by omega)
  rw [Lib.itoa_neg u (by omega)] at this
  simp at this
  omega
theorem JZ (u : Nat) : u ≤ 9223372036854775808 → ∀ w : World, Calls Tryz.prog 82 #[.int .i64 (-(u : Int))] w fun e w' => e = .returned (.string ⟨(Lib.decDigits u).toArray⟩) ∧ w = w' := by
 induction u using Nat.strongRecOn with
 | ind u ih =>
  intro hu w
  have hq : (-(u : Int)).tdiv 10 = -((u / 10 : Nat) : Int) := by rw [Int.neg_tdiv]; rfl
  have hr : (-(u : Int)).tmod 10 = -((u % 10 : Nat) : Int) := by rw [Int.neg_tmod]; rfl
  have hs := qI (one_digit (u % 10) (Nat.mod_lt _ (by decide)))
  have hl := Zv u hu
  have hm : u % 10 < 10 := Nat.mod_lt _ (by decide)
  by_cases h10 : 10 ≤ u
  ·have hi := qI (ih (u / 10) (by omega) (by omega))
   have hl2 := Zv (u / 10) (by omega)
   have hd : Hid ((⟨(Lib.decDigits u).toArray⟩ : ByteArray) = ⟨(Lib.decDigits (u / 10)).toArray⟩ ++ ⟨#[UInt8.ofNat (48 + u % 10)]⟩) := qI (by
    rw [Lib.decDigits, dif_neg (by omega)]
    apply ByteArray.ext
    simp)
   have hsz : ¬ 9223372036854775807 < (⟨(Lib.decDigits (u / 10)).toArray⟩ : ByteArray).size + 1 := by simp [ByteArray.size]; omega
   revert hd hi hsz
   generalize (⟨(Lib.decDigits (u / 10)).toArray⟩ : ByteArray) = t
   intro hi hd hsz
   clear ih hl hl2
   go_enter func82, ntmps82
   go_wp2_with (go_at_call 82; refine (hi.o _).mono ?_; rintro e w' ⟨rfl, rfl⟩)
   go_ret
   exact ⟨by rw [hd.o, ← hs.o]; rfl, rfl⟩
  ·have hd : Hid ((⟨(Lib.decDigits u).toArray⟩ : ByteArray) = ⟨#[UInt8.ofNat (48 + u % 10)]⟩) := qI (by
    rw [Lib.decDigits, dif_pos (by omega), Nat.mod_eq_of_lt (by omega)])
   have hn : ¬ (-(u : Int)) ≤ -10 := by omega
   clear ih hl
   go_enter func82, ntmps82
   go_wp2_with fail
   go_ret
   exact ⟨by rw [hd.o, ← hs.o]; exact congrArg (fun b => Ending.returned (Value.string b)) (by apply ByteArray.ext; simp), rfl⟩
theorem K7 (n : Int) (h0 : -9223372036854775808 ≤ n) (h1 : n ≤ 9223372036854775807) (w : World) : Calls Tryz.prog 52 #[.int .i64 n] w fun e w' => e = .returned (.string ⟨(Lib.itoa n).toArray⟩) ∧ w = w' := by
 by_cases hn : n < 0
 ·obtain ⟨u, rfl⟩ : ∃ u : Nat, n = -(u : Int) := ⟨n.natAbs, by omega⟩
  have hb := qI (JZ u (by omega) w)
  have hd : Hid ((⟨(Lib.itoa (-(u : Int))).toArray⟩ : ByteArray) = ⟨#[45]⟩ ++ ⟨(Lib.decDigits u).toArray⟩) := qI (by
   rw [Lib.itoa_neg u (by omega)]
   apply ByteArray.ext
   simp)
  have hl := Zv u (by omega)
  have hsz : ¬ 9223372036854775807 < 1 + (⟨(Lib.decDigits u).toArray⟩ : ByteArray).size := by simp [ByteArray.size]; omega
  rw [hd.o]
  clear hl
  revert hb hsz
  generalize (⟨(Lib.decDigits u).toArray⟩ : ByteArray) = t
  intro hb hsz
  clear hd
  go_enter func52, ntmps52
  go_wp2_with (go_at_call 82; refine hb.o.mono ?_; rintro e w' ⟨rfl, rfl⟩)
  go_ret
  exact ⟨rfl, rfl⟩
 ·obtain ⟨u, rfl⟩ := Int.eq_ofNat_of_zero_le (show 0 ≤ n by omega)
  have hb := qI (JZ u (by omega) w)
  rw [Lib.itoa_nonneg]
  generalize (⟨(Lib.decDigits u).toArray⟩ : ByteArray) = t at hb ⊢
  have hw : IntKind.i64.wrap (-(u : Int)) = -(u : Int) := by rw [IntKind.wrap_i64]; omega
  go_enter func52, ntmps52
  go_wp2_with (go_at_call 82; refine hb.o.mono ?_; rintro e w' ⟨rfl, rfl⟩)
  go_ret
  exact ⟨rfl, rfl⟩
theorem K6 (n : Int) (h0 : -9223372036854775808 ≤ n) (h1 : n ≤ 9223372036854775807) (w : World) : Calls Tryz.prog 52 #[.int .i64 n] w fun e w' => e = .returned (.string (zg (Lib.itoa n))) ∧ w = w' := K7 n h0 h1 w
theorem all_drop {α : Type} {r : α → Bool} {xs : List α} {k : Nat} (h : k < xs.length) : (xs.drop k).all r = (r xs[k] && (xs.drop (k + 1)).all r) := by
 rw [List.drop_eq_getElem_cons h]; rfl
theorem rightV_other {n : Nat} {v : VS (V n)} (h : ¬ (v.kind = 1 ∨ v.kind = 2 ∨ v.kind = 3 ∨ v.kind = 4 ∨ v.kind = 5 ∨ v.kind = 6)) : zj (n + 1) v = false := by
 have e : zj (n + 1) v = (zE v && v.kids.all (zj n)) := rfl
 rw [e]
 have : zE v = false := by
  unfold zE
  rw [if_neg (by omega), if_neg (by omega), if_neg (by omega), if_neg (by omega), if_neg (by omega), if_neg (by omega)]
 rw [this]; rfl
theorem vG {n : Nat} {v : VS (V n)} (h : zE v = false) : zj (n + 1) v = false := by
 have e : zj (n + 1) v = (zE v && v.kids.all (zj n)) := rfl
 rw [e, h]; rfl
def qG (n : Nat) : Prop := ∀ (v : V n) {S : Nat → Prop} {w : World} {cs : List Value}, Rep n S w cs v → zZ n v →
    Calls Tryz.prog 43 #[.agg cs.toArray] w fun e w' => e = .returned (.bool (zj n v)) ∧ zb [] w w'
set_option maxRecDepth 100000 in
theorem Yx {n : Nat} (known : qG n) : qG (n + 1) := fun (v : VS (V n)) {S} {w} {cs} h hs => by
  have Ja := qI h
  have Gy := qI hs
  obtain ⟨vl, vm, lcs, mcs, h⟩ := h
  obtain ⟨a, c, b, e, rfl, rfl, rfl⟩ := h.forms
  have H := qI h
  have IH := qI known
  obtain ⟨W1, Gc⟩ : ∃ W1, Hid (W1 = w.alloc (.cells #[.int .i64 v.kind, .int .i64 v.num, .string v.s, .slice a v.l.length c, .slice b v.m.length e] 25)) := ⟨_, qI rfl⟩
  have HB : Hid (z6 W1 w.heap.size v.kind v.num v.s (.slice a v.l.length c) (.slice b v.m.length e)) := qI (by rw [Gc.o]; exact yb w v.kind v.num v.s (.slice a v.l.length c) (.slice b v.m.length e) 25)
  have Gb : Hid (zb [] w W1) := qI (by rw [Gc.o]; exact ((zb.refl [] w).alloc _))
  have Jd : Hid (W1.heap.size = w.heap.size + 1) := qI (by rw [Gc.o]; simp)
  have hlv : v.l.length ≤ 20000 := by have := hs.few; omega
  have hmv : v.m.length ≤ 20000 := by have := hs.few; omega
  have hsv : (v.s.size : Int) ≤ 400000 := by have := hs.2; have e : zw (n + 1) v = v.s.size + v.keyBytes + (v.kids.map (zw n)).sum := rfl; omega
  have Gs : Hid (∀ p, p ∈ v.m → p.1.size ≤ 400000) := qI fun p hp => Nat.le_trans (ZG hp) hs.2
  obtain ⟨c0, c1, c2, c3, c4⟩ := HB.o
  rw [Gc.o] at c0 c1 c2 c3 c4
  clear h hs
  go_enter func43, ntmps43
  go_upto_block 0 with fail
  go_cut [] from 12 to 58 (fun wr => ∃ (m : Int) (s : ByteArray) (l k : Nat) (al am : Option Addr) (cl cm : Nat), zb [] W1 wr ∧ z6 wr (w.heap.size + 1) v.kind m s (.slice al l cl) (.slice am k cm) ∧ Hid (jw v m s l k))
  case first =>
   by_cases k1 : v.kind = 1
   ·have f1 := (yg k1).1
    have Gd : Hid (jw v 0 ⟨#[]⟩ 0 0) := qI (.inl ⟨k1, rfl, rfl, rfl, rfl⟩)
    clear k1
    go_wp2_with fail
    go_meet
    exact ⟨0, ⟨#[]⟩, 0, 0, _, _, _, _, by rw [Gc.o]; exact (zb.refl _ _).alloc _, ql (by simp) _ _ _ _ _ _, Gd⟩
   have f1 := (zt k1).1
   by_cases k2 : v.kind = 2
   ·have f2 := (yg k2).1
    by_cases n0 : v.num = 0
    ·have g0 := yg n0
     have Gd : Hid (jw v v.num ⟨#[]⟩ 0 0) := qI (.inr (.inl ⟨k2, .inl n0, rfl, rfl, rfl, rfl⟩))
     obtain ⟨g1, g2⟩ := g0
     clear k1 k2 n0
     go_wp2_with fail
     go_meet
     exact ⟨v.num, ⟨#[]⟩, 0, 0, _, _, _, _, by rw [Gc.o]; exact (zb.refl _ _).alloc _, ql (by simp) _ _ _ _ _ _, Gd⟩
    obtain ⟨g1, g2⟩ := zt n0
    by_cases n1 : v.num = 1
    ·obtain ⟨g3, g4⟩ := yg n1
     have Gd : Hid (jw v v.num ⟨#[]⟩ 0 0) := qI (.inr (.inl ⟨k2, .inr n1, rfl, rfl, rfl, rfl⟩))
     clear k1 k2 n0 n1
     go_wp2_with fail
     go_meet
     exact ⟨v.num, ⟨#[]⟩, 0, 0, _, _, _, _, by rw [Gc.o]; exact (zb.refl _ _).alloc _, ql (by simp) _ _ _ _ _ _, Gd⟩
    ·obtain ⟨g3, g4⟩ := zt n1
     have HF : Hid (zj (n + 1) v = false) := qI (vG (by unfold zE; rw [if_neg k1, if_pos k2]; simp [n0, n1]))
     clear k1 k2 n0 n1
     go_wp2_with fail
     go_ret
     rw [HF.o]
     exact ⟨rfl, by have h1 := Gb.o; rw [Gc.o] at h1; exact h1.alloc _⟩
   have f2 := (zt k2).1
   by_cases k3 : v.kind = 3
   ·have f3 := (yg k3).1
    by_cases n0 : v.num < -9007199254740991
    ·have HF : Hid (zj (n + 1) v = false) := qI (vG (by unfold zE; rw [if_neg k1, if_neg k2, if_pos k3, decide_eq_false (by omega)]; simp))
     clear k1 k2 k3
     go_wp2_with fail
     go_ret
     rw [HF.o]
     exact ⟨rfl, by have h1 := Gb.o; rw [Gc.o] at h1; exact h1.alloc _⟩
    by_cases n1 : 9007199254740991 < v.num
    ·have HF : Hid (zj (n + 1) v = false) := qI (vG (by unfold zE; rw [if_neg k1, if_neg k2, if_pos k3, decide_eq_false (by omega)]; simp))
     clear k1 k2 k3
     go_wp2_with fail
     go_ret
     rw [HF.o]
     exact ⟨rfl, by have h1 := Gb.o; rw [Gc.o] at h1; exact h1.alloc _⟩
    ·have Gd : Hid (jw v v.num ⟨#[]⟩ 0 0) := qI (.inr (.inr (.inl ⟨k3, by omega, rfl, rfl, rfl, rfl⟩)))
     clear k1 k2 k3
     go_wp2_with fail
     go_meet
     exact ⟨v.num, ⟨#[]⟩, 0, 0, _, _, _, _, by rw [Gc.o]; exact (zb.refl _ _).alloc _, ql (by simp) _ _ _ _ _ _, Gd⟩
   have f3 := (zt k3).1
   by_cases k4 : v.kind = 4
   ·have f4 := (yg k4).1
    cases hb : zX v.s with
    | true =>
     have Gd : Hid (jw v 0 v.s 0 0) := qI (.inr (.inr (.inr (.inl ⟨k4, hb, rfl, rfl, rfl, rfl⟩))))
     have Gt := qI hb
     clear k1 k2 k3 k4 hb
     go_wp2_with (go_at_call 70; refine (vt v.s (by omega) _).mono ?_; rw [Gt.o]; rintro e w2 ⟨rfl, hk2⟩)
     go_meet
     exact ⟨0, v.s, 0, 0, _, _, _, _, by rw [Gc.o]; exact ((zb.refl _ _).alloc _).then hk2, (ql (by simp) _ _ _ _ _ _).kept0 hk2, Gd⟩
    | false =>
     have HF : Hid (zj (n + 1) v = false) := qI (vG (by unfold zE; rw [if_neg k1, if_neg k2, if_neg k3, if_pos k4, hb]; simp))
     have Gt := qI hb
     clear k1 k2 k3 k4 hb
     go_wp2_with (go_at_call 70; refine (vt v.s (by omega) _).mono ?_; rw [Gt.o]; rintro e w2 ⟨rfl, hk2⟩)
     go_ret
     rw [HF.o]
     exact ⟨rfl, by have h1 := Gb.o; rw [Gc.o] at h1; exact (h1.alloc _).then hk2⟩
   have f4 := (zt k4).1
   by_cases k5 : v.kind = 5
   ·have f5 := (yg k5).1
    have Gd : Hid (jw v 0 ⟨#[]⟩ v.l.length 0) := qI (.inr (.inr (.inr (.inr (.inl ⟨k5, rfl, rfl, rfl, rfl⟩)))))
    clear k1 k2 k3 k4 k5
    go_wp2_with fail
    go_meet
    exact ⟨0, ⟨#[]⟩, v.l.length, 0, _, _, _, _, by rw [Gc.o]; exact (zb.refl _ _).alloc _, ql (by simp) _ _ _ _ _ _, Gd⟩
   have f5 := (zt k5).1
   by_cases k6 : v.kind = 6
   ·have f6 := (yg k6).1
    have Gd : Hid (jw v 0 ⟨#[]⟩ 0 v.m.length) := qI (.inr (.inr (.inr (.inr (.inr ⟨k6, rfl, rfl, rfl, rfl⟩)))))
    clear k1 k2 k3 k4 k5 k6
    go_wp2_with fail
    go_meet
    exact ⟨0, ⟨#[]⟩, 0, v.m.length, _, _, _, _, by rw [Gc.o]; exact (zb.refl _ _).alloc _, ql (by simp) _ _ _ _ _ _, Gd⟩
   ·have f6 := (zt k6).1
    have HF : Hid (zj (n + 1) v = false) := qI (rightV_other (by omega))
    clear k1 k2 k3 k4 k5 k6
    go_wp2_with fail
    go_ret
    rw [HF.o]
    exact ⟨rfl, by have h1 := Gb.o; rw [Gc.o] at h1; exact h1.alloc _⟩
  case rest =>
   obtain ⟨m, s, l, k, al, am, cl, cm, hkr, hb, Gk⟩ := hcut
   have Gl := qI (right_bare Gk.o)
   have Je := qI hkr
   have Ge := qI (Gb.o.trans' hkr)
   have Gu := qI (HB.o.kept0 hkr)
   clear c0 c1 c2 c3 c4
   obtain ⟨c0, c1, c2, c3, c4⟩ := Gu.o
   obtain ⟨d0, d1, d2, d3, d4⟩ := hb
   clear hkr Gk
   by_cases hnum : v.num = m
   rotate_left
   ·obtain ⟨f1, f2⟩ := zt hnum
    have HF : Hid (zj (n + 1) v = false) := qI (by rw [Gl.o]; simp [hnum])
    clear hnum
    go_wp2_with fail
    go_ret
    rw [HF.o]
    exact ⟨rfl, Ge.o⟩
   obtain ⟨g1, g2⟩ := yg hnum
   have Hnum := qI hnum
   clear hnum
   by_cases hstr : v.s = s
   rotate_left
   ·obtain ⟨f1, f2⟩ := xM hstr
    have HF : Hid (zj (n + 1) v = false) := qI (by rw [Gl.o]; simp [hstr])
    clear hstr
    go_wp2_with fail
    go_ret
    rw [HF.o]
    exact ⟨rfl, Ge.o⟩
   obtain ⟨g3, g4⟩ := qo hstr
   have Hstr := qI hstr
   clear hstr
   by_cases hl : v.l.length = l
   rotate_left
   ·obtain ⟨f1, f2⟩ := qK hl
    have HF : Hid (zj (n + 1) v = false) := qI (by rw [Gl.o]; simp [hl])
    clear hl
    go_wp2_with fail
    go_ret
    rw [HF.o]
    exact ⟨rfl, Ge.o⟩
   obtain ⟨g5, g6⟩ := vv hl
   have Hl := qI hl
   clear hl
   by_cases hm : v.m.length = k
   rotate_left
   ·obtain ⟨f1, f2⟩ := qK hm
    have HF : Hid (zj (n + 1) v = false) := qI (by rw [Gl.o]; simp [hm])
    clear hm
    go_wp2_with fail
    go_ret
    rw [HF.o]
    exact ⟨rfl, Ge.o⟩
   obtain ⟨g7, g8⟩ := vv hm
   have Hm := qI hm
   clear hm
   have Gm : Hid (zj (n + 1) v = (v.l.all (zj n) && xO (zj n) [] v.m)) := qI (by rw [Gl.o]; simp [Hnum.o, Hstr.o, Hl.o, Hm.o])
   go_wp2_with fail
   clear c0 c1 c2 c3 c4 d0 d1 d2 d3 d4 g1 g2 g3 g4 g5 g6 g7 g8 Gl Hnum Hstr Hl Hm
   go_loopw [4] (fun i wr => ∃ k : Nat, i = .int .i64 k ∧ k ≤ v.l.length ∧ (v.l.drop k).all (zj n) = v.l.all (zj n) ∧ zb [] wc wr) (fun i _ => v.l.length - (intOf i).toNat)
   case atStart => exact ⟨0, rfl, Nat.zero_le _, rfl, zb.refl _ _⟩
   case round =>
    obtain ⟨k, rfl, hk, hg, hkr⟩ := hrel
    have HG := qI hg
    have Gn := qI hkr
    have Gg := qI (Ge.o.trans' hkr)
    obtain ⟨c0, c1, c2, c3, c4⟩ := Gu.o.kept0 hkr
    clear hg hkr
    by_cases hlt : k < v.l.length
    ·have hltI : (k : Int) < v.l.length := by omega
     obtain ⟨g, o, cap, kd, nm, st, a1, b1, he, q0, q1, q2, q3, q4, hr⟩ := H.o.at_l Gg.o k hlt
     simp only [Value.slice.injEq] at he
     obtain ⟨rfl, -, rfl⟩ := he
     have CL := qI (IH.o _ hr (Gy.o.kid (xY (List.getElem_mem hlt))))
     have HD := qI (all_drop (r := zj n) hlt)
     clear hr
     revert CL HD
     generalize zj n v.l[k] = r
     intro CL HD
     cases r
     ·go_wp2_with (go_at_call 43; refine CL.o.mono ?_; rintro e w2 ⟨rfl, hk2⟩)
      go_ret
      rw [Gm.o, ← HG.o, HD.o]
      exact ⟨by simp, Gg.o.then hk2⟩
     ·go_wp2_with (go_at_call 43; refine CL.o.mono ?_; rintro e w2 ⟨rfl, hk2⟩)
      case roundEnd =>
       refine ⟨⟨k + 1, by go_num, by omega, ?_, Gn.o.then hk2⟩, by simp [intOf]; omega⟩
       rw [← HG.o, HD.o]
       simp
    ·obtain rfl : k = v.l.length := by omega
     have Gh : Hid (zj (n + 1) v = xO (zj n) [] v.m) := qI (by rw [Gm.o, ← HG.o, List.drop_length]; simp)
     have Gp := qI Gn.o
     go_wp2_with fail
     clear HG Gg Gn c0 c1 c2 c3 c4
     go_loopw [5] (fun i wr => ∃ k : Nat, i = .int .i64 k ∧ k ≤ v.m.length ∧ xO (zj n) ((v.m.take k).map (fun p => p.1)) (v.m.drop k) = xO (zj n) [] v.m ∧ zb [] wc wr) (fun i _ => v.m.length - (intOf i).toNat)
     case atStart => exact ⟨0, rfl, Nat.zero_le _, rfl, Gp.o⟩
     case round =>
      obtain ⟨k, rfl, hk, hg, hkr⟩ := hrel
      have HG := qI hg
      have Gn := qI hkr
      have Gg := qI (Ge.o.trans' hkr)
      have Gd := qI (Gu.o.kept0 hkr)
      obtain ⟨c0, c1, c2, c3, c4⟩ := Gd.o
      clear hg hkr Gp
      by_cases hlt : k < v.m.length
      ·have hltI : (k : Int) < v.m.length := by omega
       obtain ⟨g, o, cap, kd, nm, st, a1, b1, he, q0, q1, q2, q3, q4, q5, hr⟩ := H.o.at_m Gg.o k hlt
       simp only [Value.slice.injEq] at he
       obtain ⟨rfl, -, rfl⟩ := he
       have hk3 : v.m[k].1.size ≤ 281474976710656 := by have := Gs.o _ (List.getElem_mem hlt); omega
       have CL : Hid (∀ w2, zb [] wr w2 → Calls Tryz.prog 43 #[.agg #[.int .i64 kd, .int .i64 nm, .string st, a1, b1]] w2 fun e w' => e = .returned (.bool (zj n v.m[k].2)) ∧ zb [] w2 w') := qI fun w2 hk => IH.o _ (hr.kept0 hk) (Gy.o.kid (xV (List.getElem_mem hlt)))
       have CV := qI (vt v.m[k].1 hk3 wr)
       have HD : Hid (xO (zj n) ((v.m.take k).map (fun p => p.1)) (v.m.drop k) = (zX v.m[k].1 && zj n v.m[k].2 && !(((v.m.take k).map (fun p => p.1)).any (fun x => decide (x = v.m[k].1))) && xO (zj n) ((v.m.take (k + 1)).map (fun p => p.1)) (v.m.drop (k + 1)))) := qI (by
        rw [List.drop_eq_getElem_cons hlt, yQ _ _ _ hlt]
        rfl)
       clear hr hk3
       revert CL CV HD
       generalize hkey : v.m[k].1 = key at q0
       generalize zj n v.m[k].2 = r
       generalize zX key = ok
       intro CL CV HD
       have Hkey := qI hkey
       clear hkey
       cases ok with
       | false =>
        go_wp2_with (go_at_call 70; refine CV.o.mono ?_; rintro e w2 ⟨rfl, hk2⟩)
        go_ret
        rw [Gh.o, ← HG.o, HD.o]
        exact ⟨by simp, Gg.o.then hk2⟩
       | true =>
        cases r with
        | false =>
         go_wp2_with (first
          | (go_at_call 70; refine CV.o.mono ?_; rintro e w2 ⟨rfl, hk2⟩; have Ga := qI hk2; have e4 := hk2.cell c4 (by simp); have e1 := hk2.cell q1 (by simp); have e2 := hk2.cell q2 (by simp); have e3 := hk2.cell q3 (by simp); have e5 := hk2.cell q4 (by simp); have e6 := hk2.cell q5 (by simp); clear hk2)
          | (go_at_call 43; refine (CL.o _ Ga.o).mono ?_; rintro e w3 ⟨rfl, hk3⟩))
         go_ret
         rw [Gh.o, ← HG.o, HD.o]
         exact ⟨by simp, (Gg.o.then Ga.o).then hk3⟩
        | true =>
         go_wp2_with (first
          | (go_at_call 70; refine CV.o.mono ?_; rintro e w2 ⟨rfl, hk2⟩; have Ga := qI hk2; have e4 := hk2.cell c4 (by simp); have e1 := hk2.cell q1 (by simp); have e2 := hk2.cell q2 (by simp); have e3 := hk2.cell q3 (by simp); have e5 := hk2.cell q4 (by simp); have e6 := hk2.cell q5 (by simp); clear hk2)
          | (go_at_call 43; refine (CL.o _ Ga.o).mono ?_; rintro e w3 ⟨rfl, hk3⟩))
         have Gi := qI (Ga.o.then hk3)
         clear hk3 Ga e1 e2 e3 e4 e5 e6 CL CV
         have Gz : Hid (xO (zj n) ((v.m.take k).map (fun p => p.1)) (v.m.drop k) = (!(((v.m.take k).map (fun p => p.1)).any (fun x => decide (x = key))) && xO (zj n) ((v.m.take (k + 1)).map (fun p => p.1)) (v.m.drop (k + 1)))) := qI (by rw [HD.o]; simp)
         have Gv : Hid (wr.cell? ⟨g, o + k * 6, none⟩ = some (.string key)) := qI q0
         clear HD c0 c1 c2 c3 c4 q0 q1 q2 q3 q4 q5
         go_loopw [6] (fun i wr3 => ∃ j : Nat, i = .int .i64 j ∧ j ≤ k ∧ ((v.m.take j).map (fun p => p.1)).any (fun x => decide (x = key)) = false ∧ zb [] wr wr3) (fun i _ => k - (intOf i).toNat)
         case atStart => exact ⟨0, rfl, Nat.zero_le _, rfl, Gi.o⟩
         case round =>
          obtain ⟨j, rfl, hj, hany, hkr3⟩ := hrel
          have Gq := qI hany
          have Gf := qI hkr3
          clear hany hkr3
          by_cases hjt : j < k
          ·have hjI : (j : Int) < k := by omega
           have hjm : j < v.m.length := by omega
           have hjmI : (j : Int) < v.m.length := by omega
           obtain ⟨c0, c1, c2, c3, c4⟩ := Gd.o.kept0 Gf.o
           have q0 := Gf.o.cell Gv.o (by simp)
           obtain ⟨g2, o2, cap2, kd2, nm2, st2, a2, b2, he, p0, p1, p2, p3, p4, p5, -⟩ := H.o.at_m (Gg.o.then Gf.o) j hjm
           simp only [Value.slice.injEq, Option.some.injEq, Addr.mk.injEq] at he
           obtain ⟨⟨rfl, rfl, -⟩, -, -⟩ := he
           have Gw : Hid (((v.m.take (j + 1)).map (fun p => p.1)).any (fun x => decide (x = key)) = decide (v.m[j].1 = key)) := qI (by rw [yQ _ _ _ hjm, List.any_append, Gq.o]; simp)
           have Gx : Hid (v.m[j].1 = key → ((v.m.take k).map (fun p => p.1)).any (fun x => decide (x = key)) = true) := qI fun e => List.any_eq_true.2 ⟨key, List.mem_map.2 ⟨v.m[j], List.mem_take_iff_getElem.2 ⟨j, by omega, rfl⟩, e⟩, by simp⟩
           have E0 := zu c4
           have E1 := zu q0
           have E2 := zu p0
           revert E2 Gw Gx
           generalize v.m[j].1 = key2
           intro Gw Gx E2
           by_cases hkk : key2 = key
           ·obtain ⟨f1, f2⟩ := qo hkk
            have Jb := qI (Gx.o hkk)
            clear hkk
            go_wp2_with fail
            refine yd wr (by kernel_rfl) (by kernel_rfl) (zb.refl _ _) ?_
            clear c0 c1 c2 c3 c4 q0 p0 p1 p2 p3 p4 p5
            repeat go_big_quiet_step (fail)
            refine wpQuiet_nil ?_
            intro w5 hk5
            go_wp2_with fail
            go_ret
            rw [Gh.o, ← HG.o, Gz.o, Jb.o]
            exact ⟨by simp, (Gg.o.then Gf.o).then hk5⟩
           ·obtain ⟨f1, f2⟩ := xM hkk
            have Jc : Hid (((v.m.take (j + 1)).map (fun p => p.1)).any (fun x => decide (x = key)) = false) := qI (by rw [Gw.o]; exact decide_eq_false hkk)
            clear hkk
            go_wp2_with fail
            refine yd wr (by kernel_rfl) (by kernel_rfl) (zb.refl _ _) ?_
            clear c0 c1 c2 c3 c4 q0 p0 p1 p2 p3 p4 p5
            repeat go_big_quiet_step (fail)
            refine wpQuiet_nil ?_
            intro w5 hk5
            go_wp2_with fail
            case roundEnd => exact ⟨⟨j + 1, by go_num, by omega, Jc.o, Gf.o.then hk5⟩, by simp [intOf]; omega⟩
          ·obtain rfl : j = k := by omega
           go_wp2_with fail
           case roundEnd =>
            refine ⟨⟨j + 1, by go_num, by omega, ?_, Gn.o.then Gf.o⟩, by simp [intOf]; omega⟩
            rw [← HG.o, Gz.o, Gq.o]
            simp
      ·obtain rfl : k = v.m.length := by omega
       go_wp2_with fail
       go_ret
       rw [Gh.o, ← HG.o, List.drop_length]
       exact ⟨rfl, Gg.o⟩
theorem je : ∀ (n : Nat), qG n
 | 0 => fun v {_} {_} {_} h _ => h.elim
 | n + 1 => Yx (je n)
theorem refRight_any : ∀ (n : Nat) (v : V n) {S : Nat → Prop} {w : World} {cs : List Value}, Rep n S w cs v → zZ n v →
  Calls Tryz.prog 43 #[.agg cs.toArray] w fun e w' => e = .returned (.bool (zj n v)) ∧ zb [] w w' := fun n => je n
theorem refLarge_any {n : Nat} {v : V n} {S : Nat → Prop} {w : World} {cs : List Value} (h : Rep n S w cs v) (ht : x9 BB n v) :
  Calls Tryz.prog 11 #[.agg cs.toArray] w fun e w' => e = .returned (.bool (decide (6000 < zF n 0 v))) ∧ zb [] w w' := by
 obtain ⟨kd, nm, st, a1, b1, rfl⟩ := h.five
 obtain ⟨p1, i1, d1, p2, i2, d2, rfl, rfl⟩ := h.sl
 obtain ⟨W0, Gj⟩ : ∃ W0, Hid (W0 = w.alloc (.cells #[.int .i64 kd, .int .i64 nm, .string st, .slice p1 i1 d1, .slice p2 i2 d2] 25)) := ⟨_, qI rfl⟩
 have Gb : Hid (zb [] w W0) := qI (by rw [Gj.o]; exact (zb.refl [] w).alloc _)
 have CL := qI (large_any n v (h.kept0 Gb.o) ht (d := 0) (by omega))
 rw [show ((0 : Nat) : Int) = 0 from rfl] at CL
 have HF : Hid (decide ((6000 : Int) < (zF n 0 v : Int)) = decide (6000 < zF n 0 v)) := qI (by
  by_cases h : 6000 < zF n 0 v
  ·rw [decide_eq_true h, decide_eq_true (by omega)]
  ·rw [decide_eq_false h, decide_eq_false (by omega)])
 clear h ht
 revert CL HF
 generalize zF n 0 v = L
 intro CL HF
 go_enter func11, ntmps11
 go_wp2_with fail
 rw [← Gj.o]
 refine CL.o.mono ?_
 rintro e w2 ⟨rfl, hk2⟩
 have Ga := qI (Gb.o.then hk2)
 clear hk2
 go_wp2_with fail
 go_ret
 exact ⟨jG HF.o, Ga.o⟩
theorem vg {n : Nat} {v : V n} {S : Nat → Prop} {w : World} {cs : List Value} (h : Rep n S w cs v) (hs : zZ n v) (hn : n ≤ 100) :
  Calls Tryz.prog 15 #[.agg cs.toArray] w fun e w' => e = .returned (.int .i64 (zi n v)) ∧ zb [] w w' := by
 obtain ⟨kd, nm, st, a1, b1, rfl⟩ := h.five
 obtain ⟨p1, i1, d1, p2, i2, d2, rfl, rfl⟩ := h.sl
 obtain ⟨W0, Gj⟩ : ∃ W0, Hid (W0 = w.alloc (.cells #[.int .i64 kd, .int .i64 nm, .string st, .slice p1 i1 d1, .slice p2 i2 d2] 25)) := ⟨_, qI rfl⟩
 have Gb : Hid (zb [] w W0) := qI (by rw [Gj.o]; exact (zb.refl [] w).alloc _)
 have Gr : Hid (z6 W0 w.heap.size kd nm st (.slice p1 i1 d1) (.slice p2 i2 d2)) := qI (by rw [Gj.o]; exact yb _ _ _ _ _ _ _)
 have C1 := qI (depth_any n v (h.kept0 Gb.o) hs hn)
 have C2 : Hid (∀ w1, zb [] W0 w1 → _) := qI fun w1 (k : zb [] W0 w1) => count_any n v (h.kept0 (Gb.o.trans' k)) hs
 have C3 : Hid (∀ w1, zb [] W0 w1 → _) := qI fun w1 (k : zb [] W0 w1) => refRight_any n v (h.kept0 (Gb.o.trans' k)) hs
 have hct := hs.1
 have hdt : zG n v ≤ 100 := Nat.le_trans (kN n v) hn
 have HC : Hid (zi n v = if 12 < zG n v then 41 else if 4096 < ze n v then 42 else if zj n v then 0 else 40) := qI rfl
 clear h hs
 revert C1 C2 C3 hct hdt HC
 generalize zG n v = D
 generalize ze n v = C
 generalize zj n v = R
 generalize zi n v = K
 intro C1 C2 C3 hct hdt HC
 by_cases h1 : 12 < D
 ·have h1I : (12 : Int) < D := by omega
  have HF : Hid (K = 41) := qI (by rw [HC.o, if_pos h1])
  go_enter func15, ntmps15
  go_wp2_with fail
  rw [← Gj.o]
  refine C1.o.mono ?_
  rintro e w2 ⟨rfl, hk2⟩
  have Ga := qI (Gb.o.then hk2)
  clear hk2
  go_wp2_with fail
  go_ret
  rw [HF.o]
  exact ⟨rfl, Ga.o⟩
 have h1I : ¬ (12 : Int) < D := by omega
 by_cases h2 : 4096 < C
 ·have h2I : (4096 : Int) < C := by omega
  have HF : Hid (K = 42) := qI (by rw [HC.o, if_neg h1, if_pos h2])
  go_enter func15, ntmps15
  go_wp2_with fail
  rw [← Gj.o]
  refine C1.o.mono ?_
  rintro e w2 ⟨rfl, hk2⟩
  have Ga := qI hk2
  obtain ⟨c0, c1, c2, c3, c4⟩ := Gr.o.kept0 hk2
  clear hk2
  go_wp2_with (go_at_call 42; refine (C2.o _ Ga.o).mono ?_; rintro e w3 ⟨rfl, hk3⟩)
  go_ret
  rw [HF.o]
  exact ⟨rfl, (Gb.o.then Ga.o).then hk3⟩
 have h2I : ¬ (4096 : Int) < C := by omega
 cases R with
 | true =>
  have HF : Hid (K = 0) := qI (by rw [HC.o, if_neg h1, if_neg h2, if_pos rfl])
  clear h1 h2
  go_enter func15, ntmps15
  go_wp2_with fail
  rw [← Gj.o]
  refine C1.o.mono ?_
  rintro e w2 ⟨rfl, hk2⟩
  have Ga := qI hk2
  obtain ⟨c0, c1, c2, c3, c4⟩ := Gr.o.kept0 hk2
  clear hk2
  go_wp2_with (first
   | (go_at_call 42; refine (C2.o _ Ga.o).mono ?_; rintro e w3 ⟨rfl, hk3⟩; have Gi := qI (Ga.o.then hk3); obtain ⟨y0, y1, y2, y3, y4⟩ := Gr.o.kept0 Gi.o; clear hk3)
   | (go_at_call 43; refine (C3.o _ Gi.o).mono ?_; rintro e w4 ⟨rfl, hk4⟩))
  go_ret
  rw [HF.o]
  exact ⟨rfl, (Gb.o.then Gi.o).then hk4⟩
 | false =>
  have HF : Hid (K = 40) := qI (by rw [HC.o, if_neg h1, if_neg h2, if_neg (by simp)])
  clear h1 h2
  go_enter func15, ntmps15
  go_wp2_with fail
  rw [← Gj.o]
  refine C1.o.mono ?_
  rintro e w2 ⟨rfl, hk2⟩
  have Ga := qI hk2
  obtain ⟨c0, c1, c2, c3, c4⟩ := Gr.o.kept0 hk2
  clear hk2
  go_wp2_with (first
   | (go_at_call 42; refine (C2.o _ Ga.o).mono ?_; rintro e w3 ⟨rfl, hk3⟩; have Gi := qI (Ga.o.then hk3); obtain ⟨y0, y1, y2, y3, y4⟩ := Gr.o.kept0 Gi.o; clear hk3)
   | (go_at_call 43; refine (C3.o _ Gi.o).mono ?_; rintro e w4 ⟨rfl, hk4⟩))
  go_ret
  rw [HF.o]
  exact ⟨rfl, (Gb.o.then Gi.o).then hk4⟩
end Go.Proofs.YtpbphdkjjoipnaaGreatDoor

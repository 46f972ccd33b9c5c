/- Parts of one proof, merged: XYG XYH XYI XYJ. -/
import Derived.Test.YtpbphdkjjoipnaaGreatDoorGY
import Derived.Test.YtpbphdkjjoipnaaGreatDoorGR
import Derived.Test.YtpbphdkjjoipnaaGreatDoorFC
import Derived.Test.YtpbphdkjjoipnaaGreatDoorGU
set_option linter.all false
set_option maxHeartbeats 12800000
set_option maxRecDepth 10000
set_option linter.unusedVariables false
set_option linter.unusedSimpArgs false
set_option linter.unnecessarySimpa false
namespace Go.Proofs.YtpbphdkjjoipnaaGreatDoor
open Go.RowKit
def ju (x : Option Nat) : Int := match x with | some i => i | none => -1
theorem QT {k : Nat} {s : ByteArray} : zf (Lib.decDigits k) = s ↔ Lib.decDigits k = s.data.toList :=
 ⟨fun h => by rw [← h, zo], fun h => by rw [h]; rfl⟩
section
variable {n : Nat} {v : VS (V n)} {S : Nat → Prop} {w : World} {cs : List Value}
set_option maxRecDepth 100000 in
theorem place_any (hr : Rep (n + 1) S w cs v) (s : ByteArray) (hl : v.l.length ≤ 1000000 ∧ v.m.length ≤ 1000000) :
  Calls Tryz.prog 90 #[.agg cs.toArray, .string s] w fun e w' => e = .returned (.int .i64 (ju (yE v s.data.toList))) ∧ zc [] w w' := by
 obtain ⟨vl, vm, lcs, mcs, hr⟩ := hr.open_
 obtain ⟨pl, cl, pm, cm, rfl, rfl, rfl⟩ := hr.forms
 obtain ⟨W0, Gd⟩ : ∃ W0, Hid (W0 = w.alloc (.cells #[.int .i64 v.kind, .int .i64 v.num, .string v.s, .slice pl v.l.length cl, .slice pm v.m.length cm] 25)) := ⟨_, qI rfl⟩
 have Ga : Hid (zc [] w W0) := qI (by rw [Gd.o]; exact (zc.refl [] w).alloc _)
 have Gg : Hid (z8 W0 w.heap.size v.kind v.num v.s (.slice pl v.l.length cl) (.slice pm v.m.length cm)) := qI (by rw [Gd.o]; exact yg _ _ _ _ _ _ _)
 have HR := qI hr
 have Jb := qI hl
 have hlI : (v.l.length : Int) ≤ 1000000 := by omega
 have hmI : (v.m.length : Int) ≤ 1000000 := by omega
 clear hr hl
 by_cases k5 : v.kind = 5
 ·obtain ⟨f1, f2⟩ := yk (a := v.kind) (b := 5) k5
  obtain ⟨f3, f4⟩ := zy (a := v.kind) (b := 6) (by omega)
  have Jc := qI k5
  clear k5
  go_enter Tryz.func90, Tryz.ntmps90
  go_wp2_with fail
  rw [← Gd.o]
  obtain ⟨x0, x1, x2, x3, x4⟩ := Gg.o
  go_loopw [5] (fun i wr => ∃ k : Nat, i = .int .i64 k ∧ k ≤ v.l.length ∧ Hid (∀ j, j < k → Lib.decDigits j ≠ s.data.toList) ∧ W0 = wr) (fun i _ => v.l.length - (intOf i).toNat)
  case atStart => exact ⟨0, rfl, Nat.zero_le _, qI (fun j hj => by omega), rfl⟩
  case round =>
   obtain ⟨k, rfl, hk, Gc, rfl⟩ := hrel
   by_cases hlt : k < v.l.length
   ·have hltI : (k : Int) < v.l.length := by omega
    have CD := qI (bQ k (by omega) (by omega) W0)
    rw [Lib.itoa_nonneg] at CD
    have Gh := qI hlt
    by_cases hq : zf (Lib.decDigits k) = s
    ·have HP : Hid (ju (yE v s.data.toList) = (k : Int)) := qI (by rw [Za Jc.o hlt (QT.1 hq)]; rfl)
     obtain ⟨q1, q2⟩ := qd hq
     clear hlt hk hq
     revert CD q1 q2
     generalize zf (Lib.decDigits k) = T
     intro CD q1 q2
     go_wp2_with (go_at_call 52; refine CD.o.mono ?_; rintro e w2 ⟨rfl, rfl⟩)
     go_ret
     exact ⟨by rw [HP.o]; rfl, Ga.o⟩
    ·have Gn : Hid (∀ j, j < k + 1 → Lib.decDigits j ≠ s.data.toList) := qI (fun j hj e => by
      rcases Nat.lt_or_ge j k with h | h
      ·exact Gc.o j h e
      ·obtain rfl : j = k := by omega
       exact hq (QT.2 e))
     obtain ⟨q1, q2⟩ := xW hq
     clear hlt hk hq Gc
     revert CD q1 q2
     generalize zf (Lib.decDigits k) = T
     intro CD q1 q2
     go_wp2_with (go_at_call 52; refine CD.o.mono ?_; rintro e w2 ⟨rfl, rfl⟩)
     case roundEnd => exact ⟨⟨k + 1, by go_num, by have := Gh.o; omega, Gn, trivial⟩, by have := Gh.o; simp [intOf]; omega⟩
   ·obtain rfl : k = v.l.length := by omega
    have hltI : ¬ (v.l.length : Int) < v.l.length := by omega
    have HP : Hid (ju (yE v s.data.toList) = -1) := qI (by rw [kv Jc.o Gc.o]; rfl)
    clear hlt hk Gc
    go_wp2_with fail
    go_loopw [6] (fun i wr => i = .int .i64 0 ∧ W0 = wr) (fun _ _ => 0)
    case atStart => exact ⟨rfl, rfl⟩
    case round =>
     obtain ⟨rfl, rfl⟩ := hrel
     by_cases h0 : (0 : Int) < v.m.length
     ·go_wp2_with fail
      go_ret
      exact ⟨by rw [HP.o]; rfl, Ga.o⟩
     ·go_wp2_with fail
      go_ret
      exact ⟨by rw [HP.o]; rfl, Ga.o⟩
 obtain ⟨f1, f2⟩ := zy (a := v.kind) (b := 5) k5
 by_cases k6 : v.kind = 6
 ·obtain ⟨f3, f4⟩ := yk (a := v.kind) (b := 6) k6
  have Gv := qI k6
  clear k5 k6
  go_enter Tryz.func90, Tryz.ntmps90
  go_wp2_with fail
  rw [← Gd.o]
  obtain ⟨x0, x1, x2, x3, x4⟩ := Gg.o
  go_loopw [5] (fun i wr => i = .int .i64 0 ∧ W0 = wr) (fun _ _ => 0)
  case atStart => exact ⟨rfl, rfl⟩
  case round =>
   obtain ⟨rfl, rfl⟩ := hrel
   by_cases h0 : (0 : Int) < v.l.length
   ·go_wp2_with fail
    go_loopw [6] (fun i wr => ∃ k : Nat, i = .int .i64 k ∧ k ≤ v.m.length ∧ Hid (∀ j (hj : j < v.m.length), j < k → v.m[j].1 ≠ s) ∧ W0 = wr) (fun i _ => v.m.length - (intOf i).toNat)
    case atStart => exact ⟨0, rfl, Nat.zero_le _, qI (fun j _ hj => by omega), rfl⟩
    case round =>
     obtain ⟨k, rfl, hk, Gc, rfl⟩ := hrel
     by_cases hlt : k < v.m.length
     ·have hltI : (k : Int) < v.m.length := by omega
      obtain ⟨g1, o1, c1, kd, nm, st, a1, b1, e1, q0, -⟩ := HR.o.at_m Ga.o k hlt
      simp only [Value.slice.injEq] at e1
      obtain ⟨rfl, -, rfl⟩ := e1
      have Gh := qI hlt
      by_cases hq : v.m[k].1 = s
      ·have HP : Hid (ju (yE v s.data.toList) = (k : Int)) := qI (by rw [bt Gv.o hlt hq (fun j hj => Gc.o j (by omega) hj)]; rfl)
       obtain ⟨q1, q2⟩ := qd hq
       clear hk hq
       revert q0 q1 q2
       generalize v.m[k].1 = T
       intro q0 q1 q2
       clear hlt
       go_wp2_with fail
       go_ret
       exact ⟨by rw [HP.o]; rfl, Ga.o⟩
      ·have Gn : Hid (∀ j (hj : j < v.m.length), j < k + 1 → v.m[j].1 ≠ s) := qI (fun j hjl hj e => by
        rcases Nat.lt_or_ge j k with h | h
        ·exact Gc.o j hjl h e
        ·obtain rfl : j = k := by omega
         exact hq e)
       obtain ⟨q1, q2⟩ := xW hq
       clear hk hq Gc
       revert q0 q1 q2
       generalize v.m[k].1 = T
       intro q0 q1 q2
       clear hlt
       go_wp2_with fail
       case roundEnd => exact ⟨⟨k + 1, by go_num, by have := Gh.o; omega, Gn, trivial⟩, by have := Gh.o; simp [intOf]; omega⟩
     ·obtain rfl : k = v.m.length := by omega
      have hltI : ¬ (v.m.length : Int) < v.m.length := by omega
      have HP : Hid (ju (yE v s.data.toList) = -1) := qI (by rw [kY Gv.o (fun j hj => Gc.o j hj hj)]; rfl)
      clear hlt hk Gc
      go_wp2_with fail
      go_ret
      exact ⟨by rw [HP.o]; rfl, Ga.o⟩
   ·go_wp2_with fail
    go_loopw [6] (fun i wr => ∃ k : Nat, i = .int .i64 k ∧ k ≤ v.m.length ∧ Hid (∀ j (hj : j < v.m.length), j < k → v.m[j].1 ≠ s) ∧ W0 = wr) (fun i _ => v.m.length - (intOf i).toNat)
    case atStart => exact ⟨0, rfl, Nat.zero_le _, qI (fun j _ hj => by omega), rfl⟩
    case round =>
     obtain ⟨k, rfl, hk, Gc, rfl⟩ := hrel
     by_cases hlt : k < v.m.length
     ·have hltI : (k : Int) < v.m.length := by omega
      obtain ⟨g1, o1, c1, kd, nm, st, a1, b1, e1, q0, -⟩ := HR.o.at_m Ga.o k hlt
      simp only [Value.slice.injEq] at e1
      obtain ⟨rfl, -, rfl⟩ := e1
      have Gh := qI hlt
      by_cases hq : v.m[k].1 = s
      ·have HP : Hid (ju (yE v s.data.toList) = (k : Int)) := qI (by rw [bt Gv.o hlt hq (fun j hj => Gc.o j (by omega) hj)]; rfl)
       obtain ⟨q1, q2⟩ := qd hq
       clear hk hq
       revert q0 q1 q2
       generalize v.m[k].1 = T
       intro q0 q1 q2
       clear hlt
       go_wp2_with fail
       go_ret
       exact ⟨by rw [HP.o]; rfl, Ga.o⟩
      ·have Gn : Hid (∀ j (hj : j < v.m.length), j < k + 1 → v.m[j].1 ≠ s) := qI (fun j hjl hj e => by
        rcases Nat.lt_or_ge j k with h | h
        ·exact Gc.o j hjl h e
        ·obtain rfl : j = k := by omega
         exact hq e)
       obtain ⟨q1, q2⟩ := xW hq
       clear hk hq Gc
       revert q0 q1 q2
       generalize v.m[k].1 = T
       intro q0 q1 q2
       clear hlt
       go_wp2_with fail
       case roundEnd => exact ⟨⟨k + 1, by go_num, by have := Gh.o; omega, Gn, trivial⟩, by have := Gh.o; simp [intOf]; omega⟩
     ·obtain rfl : k = v.m.length := by omega
      have hltI : ¬ (v.m.length : Int) < v.m.length := by omega
      have HP : Hid (ju (yE v s.data.toList) = -1) := qI (by rw [kY Gv.o (fun j hj => Gc.o j hj hj)]; rfl)
      clear hlt hk Gc
      go_wp2_with fail
      go_ret
      exact ⟨by rw [HP.o]; rfl, Ga.o⟩
 ·obtain ⟨f3, f4⟩ := zy (a := v.kind) (b := 6) k6
  have HP : Hid (ju (yE v s.data.toList) = -1) := qI (by rw [YI k5 k6]; rfl)
  clear k5 k6
  go_enter Tryz.func90, Tryz.ntmps90
  go_wp2_with fail
  rw [← Gd.o]
  obtain ⟨x0, x1, x2, x3, x4⟩ := Gg.o
  go_loopw [5] (fun i wr => i = .int .i64 0 ∧ W0 = wr) (fun _ _ => 0)
  case atStart => exact ⟨rfl, rfl⟩
  case round =>
   obtain ⟨rfl, rfl⟩ := hrel
   by_cases h0 : (0 : Int) < v.l.length
   ·go_wp2_with fail
    go_loopw [6] (fun i wr => i = .int .i64 0 ∧ W0 = wr) (fun _ _ => 0)
    case atStart => exact ⟨rfl, rfl⟩
    case round =>
     obtain ⟨rfl, rfl⟩ := hrel
     by_cases h1 : (0 : Int) < v.m.length
     ·go_wp2_with fail
      go_ret
      exact ⟨by rw [HP.o]; rfl, Ga.o⟩
     ·go_wp2_with fail
      go_ret
      exact ⟨by rw [HP.o]; rfl, Ga.o⟩
   ·go_wp2_with fail
    go_loopw [6] (fun i wr => i = .int .i64 0 ∧ W0 = wr) (fun _ _ => 0)
    case atStart => exact ⟨rfl, rfl⟩
    case round =>
     obtain ⟨rfl, rfl⟩ := hrel
     by_cases h1 : (0 : Int) < v.m.length
     ·go_wp2_with fail
      go_ret
      exact ⟨by rw [HP.o]; rfl, Ga.o⟩
     ·go_wp2_with fail
      go_ret
      exact ⟨by rw [HP.o]; rfl, Ga.o⟩
end
theorem Y5 {w : World} {g o : Nat} {v : Value} (h : w.cell? ⟨g, o, none⟩ = some v) : g < w.heap.size := by
 rcases Nat.lt_or_ge g w.heap.size with h1 | h1
 ·exact h1
 ·simp [World.cell?, Array.getElem?_eq_none h1] at h
def be (S : Nat → Prop) (x : Option (Sigma V)) (e : Ending) (w' : World) : Prop := match x with
 | none => e = .returned (.tuple #[.agg #[.int .i64 0, .int .i64 0, .string ⟨#[]⟩, .slice none 0 0, .slice none 0 0], .bool false])
 | some u => ∃ k i s p a b q c d, e = .returned (.tuple #[.agg #[.int .i64 k, .int .i64 i, .string s, .slice p a b, .slice q c d], .bool true]) ∧ Rep u.1 S w' [.int .i64 k, .int .i64 i, .string s, .slice p a b, .slice q c d] u.2
theorem got_none {S : Nat → Prop} {x : Option (Sigma V)} {w' : World} (h : x = none) : be S x (.returned (.tuple #[.agg #[.int .i64 0, .int .i64 0, .string ⟨#[]⟩, .slice none 0 0, .slice none 0 0], .bool false])) w' := by subst h; exact rfl
theorem got_some {m : Nat} {S : Nat → Prop} {x : Option (Sigma V)} {u : V m} {w' : World} {k i : Int} {s : ByteArray} {p q : Option Addr} {a b c d : Nat} (h : x = some ⟨m, u⟩) (hr : Rep m S w' [.int .i64 k, .int .i64 i, .string s, .slice p a b, .slice q c d] u) :
  be S x (.returned (.tuple #[.agg #[.int .i64 k, .int .i64 i, .string s, .slice p a b, .slice q c d], .bool true])) w' := by subst h; exact ⟨k, i, s, p, a, b, q, c, d, rfl, hr⟩
theorem got_mono {S T : Nat → Prop} {x : Option (Sigma V)} {e : Ending} {w' : World} (h : be T x e w') (hT : ∀ g, T g → S g) : be S x e w' := by
 cases x with
 | none => exact h
 | some u =>
  obtain ⟨k, i, s, p, a, b, q, c, d, e1, hr⟩ := h
  exact ⟨k, i, s, p, a, b, q, c, d, e1, hr.mono (fun g _ hg => hT g hg)⟩
theorem got_five {S : Nat → Prop} {x : Option (Sigma V)} {e : Ending} {w' : World} (h : be S x e w') : ∃ k i s p a b q c d fl, e = .returned (.tuple #[.agg #[.int .i64 k, .int .i64 i, .string s, .slice p a b, .slice q c d], .bool fl]) ∧
  ∀ (X : List Nat) (w'' : World), zc X w' w'' → (∀ g, g ∈ X → ¬ S g) → be S x (.returned (.tuple #[.agg #[.int .i64 k, .int .i64 i, .string s, .slice p a b, .slice q c d], .bool fl])) w'' := by
 cases x with
 | none => exact ⟨0, 0, ⟨#[]⟩, none, 0, 0, none, 0, 0, false, h, fun _ _ _ _ => rfl⟩
 | some u =>
  obtain ⟨k, i, s, p, a, b, q, c, d, e1, hr⟩ := h
  exact ⟨k, i, s, p, a, b, q, c, d, true, e1, fun _ _ hk hX => ⟨k, i, s, p, a, b, q, c, d, rfl, hr.kept hk hX⟩⟩
def zaf (n : Nat) : Prop := ∀ (v : V n) {S : Nat → Prop} {w : World} {cs : List Value} {a : Option Addr} {k c : Nat} {la : List ByteArray}, Rep n S w cs v → Slc w 1 (.slice a k c) k (zI la) → zU n v → k ≤ 1000000 →
 Calls Tryz.prog 64 #[.agg cs.toArray, .slice a k c] w fun e w' => be S (atV n v (la.map (·.data.toList))) e w' ∧ zc [] w w'
set_option maxRecDepth 100000 in
theorem refAt_step {n : Nat} (IH : zaf n) : zaf (n + 1) := fun (v : VS (V n)) {S0} {w} {cs} {a} {k} {c} {la} hr hsl hsm hk => by
 have hr := hr.move (T := fun g => S0 g ∧ g < w.heap.size) (zc.refl [] w) (fun g h1 h2 => ⟨by simp, h2, h1⟩)
 refine Calls.mono (R := fun e w' => be (fun g => S0 g ∧ g < w.heap.size) (atV (n + 1) v (la.map (·.data.toList))) e w' ∧ zc [] w w') ?_ (fun e w' h => ⟨got_mono h.1 (fun g hg => hg.1), h.2⟩)
 obtain ⟨S, hS⟩ : ∃ S : Nat → Prop, S = fun g => S0 g ∧ g < w.heap.size := ⟨_, rfl⟩
 rw [← hS] at hr ⊢
 have Jd : Hid (∀ g, S g → g < w.heap.size) := qI (fun g hg => by rw [hS] at hg; exact hg.2)
 clear hS
 obtain ⟨vl, vm, lcs, mcs, hr⟩ := hr.open_
 obtain ⟨pl, cl, pm, cm, rfl, rfl, rfl⟩ := hr.forms
 obtain ⟨W1, Gp⟩ : ∃ W1, Hid (W1 = (w.alloc (.cells #[.int .i64 v.kind, .int .i64 v.num, .string v.s, .slice pl v.l.length cl, .slice pm v.m.length cm] 25)).alloc (.cells #[.int .i64 0, .int .i64 0, .string ⟨#[]⟩, .slice none 0 0, .slice none 0 0] 25)) := ⟨_, qI rfl⟩
 have Ga : Hid (zc [] w W1) := qI (by rw [Gp.o]; exact ((zc.refl [] w).alloc _).alloc _)
 have Gg : Hid (z8 W1 w.heap.size v.kind v.num v.s (.slice pl v.l.length cl) (.slice pm v.m.length cm)) := qI (by rw [Gp.o]; exact (yg _ _ _ _ _ _ _).kept0 ((zc.refl [] _).alloc _))
 have Ge : Hid (xf W1 (w.heap.size + 1)) := qI (by rw [Gp.o]; exact zp (by simp))
 have Gw := qI hr
 have Gq := qI hsm
 have Je := qI hk
 have hkI : (k : Int) ≤ 1000000 := by omega
 have Jf := qI (ja hsl)
 cases la with
 | nil =>
  obtain rfl : k = 0 := by have := Jf.o; simpa using this.symm
  have Gk : Hid (atV (n + 1) v (([] : List ByteArray).map (·.data.toList)) = some ⟨n + 1, v⟩) := qI rfl
  obtain ⟨x0, x1, x2, x3, x4⟩ := Gg.o
  obtain ⟨⟨d0, d1, d2, d3, d4⟩, f0, f1, f2, f3, f4⟩ := Ge.o.facts
  have Gy : Hid (Rep (n + 1) S w [.int .i64 v.kind, .int .i64 v.num, .string v.s, .slice pl v.l.length cl, .slice pm v.m.length cm] v) := qI hr.close
  clear hr hsl hsm hk
  go_enter Tryz.func64, Tryz.ntmps64
  go_upto_region 1 with fail
  rw [← Gp.o]
  go_wp2_with fail
  obtain ⟨WF, e⟩ : ∃ WF, WF = zQ W1 (w.heap.size + 1) (.int .i64 v.kind) (.int .i64 v.num) (.string v.s) (.slice pl v.l.length cl) (.slice pm v.m.length cm) := ⟨_, rfl⟩
  obtain ⟨KF, y0, y1, y2, y3, y4⟩ := Ge.o.stored e
  unfold zQ at e
  rw [← e]
  have hkf : zc [] w WF := ((Ga.o.mono (Y := [w.heap.size + 1]) (by simp)).trans' KF).fresh (by simp)
  exact bodyPost_ret (v := .tuple #[.agg #[.int .i64 v.kind, .int .i64 v.num, .string v.s, .slice pl v.l.length cl, .slice pm v.m.length cm], .bool true]) (by simp [results, Tryz.results64, go_sem, y0, y1, y2, y3, y4]) rfl ⟨got_some Gk.o (Gy.o.kept0 hkf), hkf⟩
 | cons s rest =>
  have hk1 : k = rest.length + 1 := by have := Jf.o; simpa using this.symm
  have h0I : ¬ (k : Int) = 0 := by omega
  obtain ⟨i1, i2⟩ := zy (a := (k : Int)) (b := 0) h0I
  have hk0 : (0 : Int) < k := by omega
  obtain ⟨g, o, rfl, qs0⟩ := qW (hsl.kept0 Ga.o) (k := 0) (by simp)
  have qs : W1.cell? ⟨g, o, none⟩ = some (.string s) := qs0
  clear qs0
  obtain ⟨a', c', hsc, hsl'⟩ := slc_tail qG hsl 1 (by omega)
  rw [show (zI (s :: rest)).drop (1 * 1) = zI rest from rfl] at hsl'
  have Ji := qI hk1
  have hsc2 : ∀ W, (Instr.slice 39 (.slice (some ⟨g, o, none⟩) k c) (some (.int .i64 1)) none none).run Tryz.prog W = .ok (.slice a' (k - 1) c') W := hsc
  have Jg := qI hsl'
  have CP := qI (fun (w' : World) (q : zc [] w w') => place_any (hr.close.kept0 q) s (jO Gq.o))
  clear hr hsl hsm hk hsl' hk1 hsc
  go_enter Tryz.func64, Tryz.ntmps64
  go_wp2_with fail
  rw [← Gp.o]
  obtain ⟨x0, x1, x2, x3, x4⟩ := Gg.o
  have E0 := zv x0
  have E1 := zv x1
  have E2 := zv x2
  have E3 := zv x3
  have E4 := zv x4
  have ES := zv qs
  have CPE : Hid (∀ z : Ext W1, Calls Tryz.prog 90 #[.agg #[.int .i64 v.kind, .int .i64 v.num, .string v.s, .slice pl v.l.length cl, .slice pm v.m.length cm], .string s] z.w fun e w' => e = .returned (.int .i64 (ju (yE v s.data.toList))) ∧ zc [] z.w w') := qI (fun z => CP.o _ (Ga.o.then z.k))
  clear x0 x1 x2 x3 x4 qs
  obtain ⟨z, hz⟩ : ∃ z, ju (yE v s.data.toList) = z := ⟨_, rfl⟩
  rw [hz] at CPE
  refine zR W1 (by kernel_rfl) (by kernel_rfl) (zc.refl _ _) ?_
  repeat go_big_quiet_step ((go_at_call 90; exact ext_of (CPE.o _)))
  refine wpQuiet_nil ?_
  intro w2 hk2
  clear E0 E1 E2 E3 E4 ES
  have Gf := qI hk2
  have Gx := qI (Ga.o.then hk2)
  have Gh : Hid (w.heap.size + 1 < w2.heap.size) := qI (by have h1 := Ge.o; have h2 := lt_of_block h1; have := hk2.size; omega)
  obtain ⟨x0, x1, x2, x3, x4⟩ := Gg.o.kept0 hk2
  clear hk2
  cases hpv : yE v s.data.toList with
  | none =>
   have Gk : Hid (atV (n + 1) v ((s :: rest).map (·.data.toList)) = none) := qI (by rw [List.map_cons]; exact at_none (jE hpv))
   have Gb := qI (Ge.o.kept Gf.o (by simp))
   obtain ⟨⟨d0, d1, d2, d3, d4⟩, f0, f1, f2, f3, f4⟩ := Gb.o.facts
   obtain rfl : z = -1 := by rw [← hz, hpv]; rfl
   clear hpv hz
   go_wp2_with fail
   obtain ⟨WF, e⟩ : ∃ WF, WF = zQ w2 (w.heap.size + 1) (.int .i64 0) (.int .i64 0) (.string ⟨#[]⟩) (.slice none 0 0) (.slice none 0 0) := ⟨_, rfl⟩
   obtain ⟨KF, y0, y1, y2, y3, y4⟩ := Gb.o.stored e
   unfold zQ at e
   rw [← e]
   exact bodyPost_ret (v := .tuple #[.agg #[.int .i64 0, .int .i64 0, .string ⟨#[]⟩, .slice none 0 0, .slice none 0 0], .bool false]) (by simp [results, Tryz.results64, go_sem, y0, y1, y2, y3, y4]) rfl ⟨got_none Gk.o, ((Ga.o.mono (Y := [w.heap.size + 1]) (by simp)).trans' ((Gf.o.mono (by simp)).trans' KF)).fresh (by simp)⟩
  | some i =>
   obtain rfl : z = (i : Int) := by rw [← hz, hpv]; rfl
   rcases q8 hpv with ⟨k5, hi, hkid⟩ | ⟨k6, hi, hkid⟩
   ·obtain ⟨f1, f2⟩ := yk (a := v.kind) (b := 5) k5
    clear hpv hz k5
    obtain ⟨g1, o1, c1, kd, nm, st, a1, b1, e1, q0, q1, q2, q3, q4, hrp⟩ := Gw.o.at_l Gx.o i hi
    simp only [Value.slice.injEq] at e1
    obtain ⟨rfl, -, rfl⟩ := e1
    obtain ⟨pa1, na1, ca1, pb1, nb1, cb1, rfl, rfl⟩ := hrp.sl
    obtain ⟨_, _, _, _, _, _, _, _, e9, ql, -⟩ := Gw.o.at_l (zc.refl [] w) i hi
    simp only [Value.slice.injEq, Option.some.injEq, Addr.mk.injEq, and_true, true_and] at e9
    obtain ⟨⟨rfl, rfl⟩, rfl⟩ := e9
    have hg1 : g1 < w.heap.size := Y5 ql
    clear ql
    have Gk : Hid (atV (n + 1) v ((s :: rest).map (·.data.toList)) = atV n v.l[i] (rest.map (·.data.toList))) := qI (by rw [List.map_cons]; exact bD hkid)
    have CA := qI (fun (w' : World) (k : zc [] w2 w') => IH v.l[i] (hrp.kept0 k) ((Jg.o.kept0 Gx.o).kept0 k) (Gq.o.kid (xr (List.getElem_mem hi))) (by have := Je.o; omega))
    have hiI : (i : Int) < v.l.length := by omega
    clear hkid
    go_upto_region 7 with fail
    refine zj (n := 12) (fun w' : World => zc [w.heap.size + 1] w2 w') 11 (by kernel_rfl) (by kernel_rfl) ?_
    change zS _ _ _ _ _ _ _ _ _ w2.drew
    have hSS : (fun w' : World => zc [w.heap.size + 1] w2 w') w2.drew := (zc.refl _ w2).drew
    have Gi : Hid (zc [] w2 w2.drew) := qI (zc.refl _ w2).drew
    revert hSS Gi
    generalize w2.drew = WD
    intro hSS Gi
    refine zu ?_
    intro O R hO hR
    have hQp : ∀ c a (d : Nat) v w, R (.panic c) (a.put (some d) v) w → R (.panic c) a w := by subst hR; exact fun _ _ _ _ _ h => h
    refine za (i := 0) (v := ?_) hO rfl rfl (by kernel_rfl) (by kernel_rfl) (by kernel_rfl) (by kernel_rfl) hQp (Or.inl ⟨by kernel_rfl, fun w hSw => ?_⟩) hSS ?_
    rotate_left
    ·go_simp; try with_reducible rfl
    try simp only [zA,zN,zB,zC,zD]
    refine za (i := 1) (v := ?_) hO rfl rfl (by kernel_rfl) (by kernel_rfl) (by kernel_rfl) (by kernel_rfl) hQp (Or.inl ⟨by kernel_rfl, fun w hSw => ?_⟩) hSS ?_
    rotate_left
    ·have s3 := hSw.cell x3 (by simp); go_simp; try with_reducible rfl
    try simp only [zA,zN,zB,zC,zD]
    refine za (i := 2) (v := ?_) hO rfl rfl (by kernel_rfl) (by kernel_rfl) (by kernel_rfl) (by kernel_rfl) hQp (Or.inl ⟨by kernel_rfl, fun w hSw => ?_⟩) hSS ?_
    rotate_left
    ·go_simp; try with_reducible rfl
    try simp only [zA,zN,zB,zC,zD]
    refine za (i := 3) (v := ?_) hO rfl rfl (by kernel_rfl) (by kernel_rfl) (by kernel_rfl) (by kernel_rfl) hQp (Or.inl ⟨by kernel_rfl, fun w hSw => ?_⟩) hSS ?_
    rotate_left
    ·go_simp; try with_reducible rfl
    try simp only [zA,zN,zB,zC,zD]
    refine za (i := 4) (v := ?_) hO rfl rfl (by kernel_rfl) (by kernel_rfl) (by kernel_rfl) (by kernel_rfl) hQp (Or.inl ⟨by kernel_rfl, fun w hSw => ?_⟩) hSS ?_
    rotate_left
    ·have s0 := hSw.cell q0 (by simp; omega); have s1 := hSw.cell q1 (by simp; omega); have s2 := hSw.cell q2 (by simp; omega); have s3 := hSw.cell q3 (by simp; omega); have s4 := hSw.cell q4 (by simp; omega); go_simp; try with_reducible rfl
    try simp only [zA,zN,zB,zC,zD]
    refine za (i := 5) (v := ?_) hO rfl rfl (by kernel_rfl) (by kernel_rfl) (by kernel_rfl) (by kernel_rfl) hQp (Or.inl ⟨by kernel_rfl, fun w hSw => ?_⟩) hSS ?_
    rotate_left
    ·go_simp; try with_reducible rfl
    try simp only [zA,zN,zB,zC,zD]
    refine za (i := 6) (v := ?_) hO rfl rfl (by kernel_rfl) (by kernel_rfl) (by kernel_rfl) (by kernel_rfl) hQp (Or.inl ⟨by kernel_rfl, fun w hSw => ?_⟩) hSS ?_
    rotate_left
    ·go_simp; try with_reducible rfl
    try simp only [zA,zN,zB,zC,zD]
    refine zd (i := 7) hO rfl (by kernel_rfl) (by kernel_rfl) (fun K hK => ?_)
    go_simp
    refine Calls.mono (CA.o _ Gi.o) ?_
    rintro e w3 ⟨ha3, hk3⟩
    obtain ⟨k3, i3, s3, p3, n3, c3, q3, m3, d3, fl, rfl, hga⟩ := got_five ha3
    have Gz := qI hga
    have hS1 : (fun w' : World => zc [w.heap.size + 1] w2 w') w3 := hSS.then hk3
    have Gr := qI (Gf.o.then (Gi.o.then hk3))
    refine hK _ _ (.inr hS1) ?_
    clear hK K
    try simp only [zA,zN,zB,zC,zD]
    clear hSS hk3 ha3 hga
    have hSS := hS1
    clear hS1
    refine za (i := 8) (v := ?_) hO rfl rfl (by kernel_rfl) (by kernel_rfl) (by kernel_rfl) (by kernel_rfl) hQp (Or.inl ⟨by kernel_rfl, fun w hSw => ?_⟩) hSS ?_
    rotate_left
    ·go_simp; try with_reducible rfl
    try simp only [zA,zN,zB,zC,zD]
    refine za (i := 9) (v := ?_) hO rfl rfl (by kernel_rfl) (by kernel_rfl) (by kernel_rfl) (by kernel_rfl) hQp (Or.inl ⟨by kernel_rfl, fun w hSw => ?_⟩) hSS ?_
    rotate_left
    ·go_simp; try with_reducible rfl
    try simp only [zA,zN,zB,zC,zD]
    have Gb := qI (Ge.o.kept Gr.o (by simp))
    obtain ⟨⟨d0, d1, d2, d3', d4⟩, f0, f1, f2, f3', f4⟩ := Gb.o.facts
    refine zd (i := 10) hO rfl (by kernel_rfl) (by kernel_rfl) (fun K hK => ?_)
    go_simp
    obtain ⟨WF, e⟩ : ∃ WF, WF = zQ w3 (w.heap.size + 1) (.int .i64 k3) (.int .i64 i3) (.string s3) (.slice p3 n3 c3) (.slice q3 m3 d3) := ⟨_, rfl⟩
    obtain ⟨KF, y0, y1, y2, y3, y4⟩ := Gb.o.stored e
    unfold zQ at e
    rw [← e]
    have hS1 : (fun w' : World => zc [w.heap.size + 1] w2 w') WF := hSS.trans' KF
    refine hK _ _ (.inr hS1) ?_
    clear hK K
    try simp only [zA,zN,zB,zC,zD]
    clear hSS d0 d1 d2 d3' d4 f0 f1 f2 f3' f4 e
    have hSS := hS1
    clear hS1
    refine zd (i := 11) hO rfl (by kernel_rfl) (by kernel_rfl) (fun K hK => ?_)
    go_simp
    refine hK _ _ (.inl rfl) ?_
    clear hK K
    try simp only [zA,zN,zB,zC,zD]
    refine zt hO (by kernel_rfl) ?_ _
    subst hR
    try clear hQp hO O
    have Gs := qI KF
    clear KF
    go_wp2_with fail
    exact bodyPost_ret (v := .tuple #[.agg #[.int .i64 k3, .int .i64 i3, .string s3, .slice p3 n3 c3, .slice q3 m3 d3], .bool fl]) (by simp [results, Tryz.results64, go_sem, y0, y1, y2, y3, y4]) rfl ⟨by
     have h9 := Gz.o _ _ Gs.o (by intro g hg; simp at hg; subst hg; intro hs; have := Jd.o _ hs; omega)
     rw [← Gk.o] at h9
     exact h9, ((Ga.o.mono (Y := [w.heap.size + 1]) (by simp)).trans' ((Gr.o.mono (by simp)).trans' Gs.o)).fresh (by simp)⟩
   ·obtain ⟨f1, f2⟩ := zy (a := v.kind) (b := 5) (by omega)
    clear hpv hz k6
    obtain ⟨g1, o1, c1, kd, nm, st, a1, b1, e1, -, q0, q1, q2, q3, q4, hrp⟩ := Gw.o.at_m Gx.o i hi
    simp only [Value.slice.injEq] at e1
    obtain ⟨rfl, -, rfl⟩ := e1
    obtain ⟨pa1, na1, ca1, pb1, nb1, cb1, rfl, rfl⟩ := hrp.sl
    obtain ⟨_, _, _, _, _, _, _, _, e9, ql, -⟩ := Gw.o.at_m (zc.refl [] w) i hi
    simp only [Value.slice.injEq, Option.some.injEq, Addr.mk.injEq, and_true, true_and] at e9
    obtain ⟨⟨rfl, rfl⟩, rfl⟩ := e9
    have hg1 : g1 < w.heap.size := Y5 ql
    clear ql
    have Gk : Hid (atV (n + 1) v ((s :: rest).map (·.data.toList)) = atV n v.m[i].2 (rest.map (·.data.toList))) := qI (by rw [List.map_cons]; exact bD hkid)
    have CA := qI (fun (w' : World) (k : zc [] w2 w') => IH v.m[i].2 (hrp.kept0 k) ((Jg.o.kept0 Gx.o).kept0 k) (Gq.o.kid (xh (List.getElem_mem hi))) (by have := Je.o; omega))
    have hiI : (i : Int) < v.m.length := by omega
    clear hkid
    go_upto_region 8 with fail
    refine zj (n := 13) (fun w' : World => zc [w.heap.size + 1] w2 w') 12 (by kernel_rfl) (by kernel_rfl) ?_
    change zS _ _ _ _ _ _ _ _ _ w2.drew
    have hSS : (fun w' : World => zc [w.heap.size + 1] w2 w') w2.drew := (zc.refl _ w2).drew
    have Gi : Hid (zc [] w2 w2.drew) := qI (zc.refl _ w2).drew
    revert hSS Gi
    generalize w2.drew = WD
    intro hSS Gi
    refine zu ?_
    intro O R hO hR
    have hQp : ∀ c a (d : Nat) v w, R (.panic c) (a.put (some d) v) w → R (.panic c) a w := by subst hR; exact fun _ _ _ _ _ h => h
    refine za (i := 0) (v := ?_) hO rfl rfl (by kernel_rfl) (by kernel_rfl) (by kernel_rfl) (by kernel_rfl) hQp (Or.inl ⟨by kernel_rfl, fun w hSw => ?_⟩) hSS ?_
    rotate_left
    ·go_simp; try with_reducible rfl
    try simp only [zA,zN,zB,zC,zD]
    refine za (i := 1) (v := ?_) hO rfl rfl (by kernel_rfl) (by kernel_rfl) (by kernel_rfl) (by kernel_rfl) hQp (Or.inl ⟨by kernel_rfl, fun w hSw => ?_⟩) hSS ?_
    rotate_left
    ·have s3 := hSw.cell x4 (by simp); go_simp; try with_reducible rfl
    try simp only [zA,zN,zB,zC,zD]
    refine za (i := 2) (v := ?_) hO rfl rfl (by kernel_rfl) (by kernel_rfl) (by kernel_rfl) (by kernel_rfl) hQp (Or.inl ⟨by kernel_rfl, fun w hSw => ?_⟩) hSS ?_
    rotate_left
    ·go_simp; try with_reducible rfl
    try simp only [zA,zN,zB,zC,zD]
    refine za (i := 3) (v := ?_) hO rfl rfl (by kernel_rfl) (by kernel_rfl) (by kernel_rfl) (by kernel_rfl) hQp (Or.inl ⟨by kernel_rfl, fun w hSw => ?_⟩) hSS ?_
    rotate_left
    ·go_simp; try with_reducible rfl
    try simp only [zA,zN,zB,zC,zD]
    refine za (i := 4) (v := ?_) hO rfl rfl (by kernel_rfl) (by kernel_rfl) (by kernel_rfl) (by kernel_rfl) hQp (Or.inl ⟨by kernel_rfl, fun w hSw => ?_⟩) hSS ?_
    rotate_left
    ·go_simp; try with_reducible rfl
    try simp only [zA,zN,zB,zC,zD]
    refine za (i := 5) (v := ?_) hO rfl rfl (by kernel_rfl) (by kernel_rfl) (by kernel_rfl) (by kernel_rfl) hQp (Or.inl ⟨by kernel_rfl, fun w hSw => ?_⟩) hSS ?_
    rotate_left
    ·have s0 := hSw.cell q0 (by simp; omega); have s1 := hSw.cell q1 (by simp; omega); have s2 := hSw.cell q2 (by simp; omega); have s3 := hSw.cell q3 (by simp; omega); have s4 := hSw.cell q4 (by simp; omega); go_simp; try with_reducible rfl
    try simp only [zA,zN,zB,zC,zD]
    refine za (i := 6) (v := ?_) hO rfl rfl (by kernel_rfl) (by kernel_rfl) (by kernel_rfl) (by kernel_rfl) hQp (Or.inl ⟨by kernel_rfl, fun w hSw => ?_⟩) hSS ?_
    rotate_left
    ·go_simp; try with_reducible rfl
    try simp only [zA,zN,zB,zC,zD]
    refine za (i := 7) (v := ?_) hO rfl rfl (by kernel_rfl) (by kernel_rfl) (by kernel_rfl) (by kernel_rfl) hQp (Or.inl ⟨by kernel_rfl, fun w hSw => ?_⟩) hSS ?_
    rotate_left
    ·go_simp; try with_reducible rfl
    try simp only [zA,zN,zB,zC,zD]
    refine zd (i := 8) hO rfl (by kernel_rfl) (by kernel_rfl) (fun K hK => ?_)
    go_simp
    refine Calls.mono (CA.o _ Gi.o) ?_
    rintro e w3 ⟨ha3, hk3⟩
    obtain ⟨k3, i3, s3, p3, n3, c3, q3, m3, d3, fl, rfl, hga⟩ := got_five ha3
    have Gz := qI hga
    have hS1 : (fun w' : World => zc [w.heap.size + 1] w2 w') w3 := hSS.then hk3
    have Gr := qI (Gf.o.then (Gi.o.then hk3))
    refine hK _ _ (.inr hS1) ?_
    clear hK K
    try simp only [zA,zN,zB,zC,zD]
    clear hSS hk3 ha3 hga
    have hSS := hS1
    clear hS1
    refine za (i := 9) (v := ?_) hO rfl rfl (by kernel_rfl) (by kernel_rfl) (by kernel_rfl) (by kernel_rfl) hQp (Or.inl ⟨by kernel_rfl, fun w hSw => ?_⟩) hSS ?_
    rotate_left
    ·go_simp; try with_reducible rfl
    try simp only [zA,zN,zB,zC,zD]
    refine za (i := 10) (v := ?_) hO rfl rfl (by kernel_rfl) (by kernel_rfl) (by kernel_rfl) (by kernel_rfl) hQp (Or.inl ⟨by kernel_rfl, fun w hSw => ?_⟩) hSS ?_
    rotate_left
    ·go_simp; try with_reducible rfl
    try simp only [zA,zN,zB,zC,zD]
    have Gb := qI (Ge.o.kept Gr.o (by simp))
    obtain ⟨⟨d0, d1, d2, d3', d4⟩, f0, f1, f2, f3', f4⟩ := Gb.o.facts
    refine zd (i := 11) hO rfl (by kernel_rfl) (by kernel_rfl) (fun K hK => ?_)
    go_simp
    obtain ⟨WF, e⟩ : ∃ WF, WF = zQ w3 (w.heap.size + 1) (.int .i64 k3) (.int .i64 i3) (.string s3) (.slice p3 n3 c3) (.slice q3 m3 d3) := ⟨_, rfl⟩
    obtain ⟨KF, y0, y1, y2, y3, y4⟩ := Gb.o.stored e
    unfold zQ at e
    rw [← e]
    have hS1 : (fun w' : World => zc [w.heap.size + 1] w2 w') WF := hSS.trans' KF
    refine hK _ _ (.inr hS1) ?_
    clear hK K
    try simp only [zA,zN,zB,zC,zD]
    clear hSS d0 d1 d2 d3' d4 f0 f1 f2 f3' f4 e
    have hSS := hS1
    clear hS1
    refine zd (i := 12) hO rfl (by kernel_rfl) (by kernel_rfl) (fun K hK => ?_)
    go_simp
    refine hK _ _ (.inl rfl) ?_
    clear hK K
    try simp only [zA,zN,zB,zC,zD]
    refine zt hO (by kernel_rfl) ?_ _
    subst hR
    try clear hQp hO O
    have Gs := qI KF
    clear KF
    go_wp2_with fail
    exact bodyPost_ret (v := .tuple #[.agg #[.int .i64 k3, .int .i64 i3, .string s3, .slice p3 n3 c3, .slice q3 m3 d3], .bool fl]) (by simp [results, Tryz.results64, go_sem, y0, y1, y2, y3, y4]) rfl ⟨by
     have h9 := Gz.o _ _ Gs.o (by intro g hg; simp at hg; subst hg; intro hs; have := Jd.o _ hs; omega)
     rw [← Gk.o] at h9
     exact h9, ((Ga.o.mono (Y := [w.heap.size + 1]) (by simp)).trans' ((Gr.o.mono (by simp)).trans' Gs.o)).fresh (by simp)⟩
theorem Yz : ∀ n, zaf n
 | 0 => fun v {_} {_} {_} {_} {_} {_} {_} _ _ _ _ => nomatch v
 | n + 1 => refAt_step (Yz n)
section
variable {n : Nat} {v : V n} {S : Nat → Prop} {w : World} {cs : List Value}
set_option maxRecDepth 100000 in
theorem refAt_any (hr : Rep n S w cs v) (hsm : zU n v) (hn : n ≤ 100) (p : ByteArray) (hp : p.size ≤ 900000) :
  Calls Tryz.prog 34 #[.agg cs.toArray, .string p] w fun e w' => JD (atR n v p.data.toList) e w' ∧ zc [] w w' := by
 have hr := hr.move (T := fun g => S g ∧ g < w.heap.size) (zc.refl [] w) (fun g h1 h2 => ⟨by simp, h2, h1⟩)
 obtain ⟨kd, nm, st, a, la, ea, b, lb, eb, rfl⟩ := hr.conv
 obtain ⟨W0, Gd⟩ : ∃ W0, Hid (W0 = (w.alloc (.cells #[.int .i64 kd, .int .i64 nm, .string st, .slice a la ea, .slice b lb eb] 25)).alloc (.cells #[.int .i64 0, .int .i64 0, .string ⟨#[]⟩, .slice none 0 0, .slice none 0 0] 25)) := ⟨_, qI rfl⟩
 have Ga : Hid (zc [] w W0) := qI (by rw [Gd.o]; exact ((zc.refl [] w).alloc _).alloc _)
 have Gg : Hid (z8 W0 w.heap.size kd nm st (.slice a la ea) (.slice b lb eb)) := qI (by rw [Gd.o]; exact (yg _ _ _ _ _ _ _).kept0 ((zc.refl [] _).alloc _))
 have Ge : Hid (xf W0 (w.heap.size + 1)) := qI (by rw [Gd.o]; exact zp (by simp))
 have Jj := qI (hr.kept0 Ga.o)
 have Gq := qI hsm
 have CK := qI (ZQ (hr.kept0 Ga.o) hsm hn)
 have CPT := qI (fun (w' : World) => refParts_any (w := w') p hp)
 have Jk := qI hp
 have hbx := Gg.o
 rw [Gd.o] at hbx
 obtain ⟨x0, x1, x2, x3, x4⟩ := hbx
 clear hr hsm hp hn
 go_enter Tryz.func34, Tryz.ntmps34
 go_wp2_with fail
 rw [← Gd.o]
 clear x0 x1 x2 x3 x4
 refine CK.o.mono ?_
 rintro e w1 ⟨rfl, hk1⟩
 have Ja := qI hk1
 clear hk1
 by_cases hc : zz n v = 0
 rotate_left
 ·have Gl := qI (J0 (p := p.data.toList) hc)
  obtain ⟨g1, g2⟩ := zy (a := zz n v) (b := 0) hc
  have Gb := qI (Ge.o.kept Ja.o (by simp))
  obtain ⟨⟨d0, d1, d2, d3, d4⟩, f0, f1, f2, f3, f4⟩ := Gb.o.facts
  clear hc
  go_wp2_with fail
  obtain ⟨WF, e⟩ : ∃ WF, WF = zQ w1 (w.heap.size + 1) (.int .i64 0) (.int .i64 0) (.string ⟨#[]⟩) (.slice none 0 0) (.slice none 0 0) := ⟨_, rfl⟩
  obtain ⟨KF, y0, y1, y2, y3, y4⟩ := Gb.o.stored e
  unfold zQ at e
  rw [← e]
  exact bodyPost_ret (v := .tuple #[.agg #[.int .i64 0, .int .i64 0, .string ⟨#[]⟩, .slice none 0 0, .slice none 0 0], .int .i64 (zz n v)]) (by simp [results, Tryz.results34, go_sem, y0, y1, y2, y3, y4]) rfl ⟨qZ Gl.o, ((Ga.o.mono (Y := [w.heap.size + 1]) (by simp)).trans' ((Ja.o.mono (by simp)).trans' KF)).fresh (by simp)⟩
 have HC := qI hc
 rw [hc]
 have CPT1 := qI (CPT.o w1)
 clear hc
 go_wp2_with fail
 refine CPT1.o.mono ?_
 rintro e w2 ⟨ha2, hk2⟩
 have Gf := qI (Ja.o.then hk2)
 clear hk2 CPT1
 cases hpl : yq p.data.toList with
 | none =>
  obtain rfl := ha2.none_ hpl
  have Gl := qI (QR HC.o hpl)
  have Gb := qI (Ge.o.kept Gf.o (by simp))
  obtain ⟨⟨d0, d1, d2, d3, d4⟩, f0, f1, f2, f3, f4⟩ := Gb.o.facts
  clear ha2 hpl
  go_wp2_with fail
  obtain ⟨WF, e⟩ : ∃ WF, WF = zQ w2 (w.heap.size + 1) (.int .i64 0) (.int .i64 0) (.string ⟨#[]⟩) (.slice none 0 0) (.slice none 0 0) := ⟨_, rfl⟩
  obtain ⟨KF, y0, y1, y2, y3, y4⟩ := Gb.o.stored e
  unfold zQ at e
  rw [← e]
  exact bodyPost_ret (v := .tuple #[.agg #[.int .i64 0, .int .i64 0, .string ⟨#[]⟩, .slice none 0 0, .slice none 0 0], .int .i64 60]) (by simp [results, Tryz.results34, go_sem, y0, y1, y2, y3, y4]) rfl ⟨qZ Gl.o, ((Ga.o.mono (Y := [w.heap.size + 1]) (by simp)).trans' ((Gf.o.mono (by simp)).trans' KF)).fresh (by simp)⟩
 | some L =>
  obtain ⟨pa, ca, rfl, hsl⟩ := ha2.some_ hpl
  have Jh := qI hpl
  have Jb := qI (YT hpl)
  obtain ⟨x0, x1, x2, x3, x4⟩ := Gg.o.kept0 Gf.o
  have CA := qI (Yz n v (Jj.o.kept0 Gf.o) hsl Gq.o (by have h1 := Jb.o.1; rw [kS] at h1; have := Jk.o; omega))
  rw [QC] at CA
  clear ha2 hpl hsl
  go_wp2_with fail
  refine CA.o.mono ?_
  rintro e w3 ⟨ha3, hk3⟩
  clear x0 x1 x2 x3 x4
  cases hat : atV n v L with
  | none =>
   rw [hat] at ha3
   obtain rfl := ha3
   have Gl := qI (Qw HC.o Jh.o hat)
   obtain ⟨W4, Gm⟩ : ∃ W4, Hid (W4 = w3.alloc (.cells #[.int .i64 0, .int .i64 0, .string ⟨#[]⟩, .slice none 0 0, .slice none 0 0] 25)) := ⟨_, qI rfl⟩
   have Gj : Hid (zc [] w3 W4) := qI (by rw [Gm.o]; exact (zc.refl [] w3).alloc _)
   have Gt := qI ((Gf.o.then hk3).then Gj.o)
   have Gb := qI (Ge.o.kept Gt.o (by simp))
   obtain ⟨⟨d0, d1, d2, d3, d4⟩, f0, f1, f2, f3, f4⟩ := Gb.o.facts
   clear hat hk3
   go_upto_region 8 with fail
   rw [← Gm.o]
   go_wp2_with fail
   obtain ⟨WF, e⟩ : ∃ WF, WF = zQ W4 (w.heap.size + 1) (.int .i64 0) (.int .i64 0) (.string ⟨#[]⟩) (.slice none 0 0) (.slice none 0 0) := ⟨_, rfl⟩
   obtain ⟨KF, y0, y1, y2, y3, y4⟩ := Gb.o.stored e
   unfold zQ at e
   rw [← e]
   exact bodyPost_ret (v := .tuple #[.agg #[.int .i64 0, .int .i64 0, .string ⟨#[]⟩, .slice none 0 0, .slice none 0 0], .int .i64 4]) (by simp [results, Tryz.results34, go_sem, y0, y1, y2, y3, y4]) rfl ⟨qZ Gl.o, ((Ga.o.mono (Y := [w.heap.size + 1]) (by simp)).trans' ((Gt.o.mono (by simp)).trans' KF)).fresh (by simp)⟩
  | some u =>
   rw [hat] at ha3
   obtain ⟨k5, i5, s5, p5, m5, c5, q5, n5, e5, rfl, hr5⟩ := ha3
   have Gl := qI (Zs HC.o Jh.o hat)
   obtain ⟨W4, Gm⟩ : ∃ W4, Hid (W4 = w3.alloc (.cells #[.int .i64 k5, .int .i64 i5, .string s5, .slice p5 m5 c5, .slice q5 n5 e5] 25)) := ⟨_, qI rfl⟩
   have Gj : Hid (zc [] w3 W4) := qI (by rw [Gm.o]; exact (zc.refl [] w3).alloc _)
   have Gt := qI ((Gf.o.then hk3).then Gj.o)
   have Gu : Hid (W4.heap[w3.heap.size]? = some (.cells #[.int .i64 k5, .int .i64 i5, .string s5, .slice p5 m5 c5, .slice q5 n5 e5] 25 (0, 0))) := qI (by rw [Gm.o]; exact zp rfl)
   have Gb := qI (Ge.o.kept Gt.o (by simp))
   have Jl := qI (hr5.kept0 Gj.o)
   obtain ⟨⟨d0, d1, d2, d3, d4⟩, f0, f1, f2, f3, f4⟩ := Gb.o.facts
   have x0 := zb (o := 0) (v := .int .i64 k5) Gu.o rfl
   have x1 := zb (o := 1) (v := .int .i64 i5) Gu.o rfl
   have x2 := zb (o := 2) (v := .string s5) Gu.o rfl
   have x3 := zb (o := 3) (v := .slice p5 m5 c5) Gu.o rfl
   have x4 := zb (o := 4) (v := .slice q5 n5 e5) Gu.o rfl
   clear hat hk3 hr5
   go_upto_region 8 with fail
   rw [← Gm.o]
   go_wp2_with fail
   obtain ⟨WF, e⟩ : ∃ WF, WF = zQ W4 (w.heap.size + 1) (.int .i64 k5) (.int .i64 i5) (.string s5) (.slice p5 m5 c5) (.slice q5 n5 e5) := ⟨_, rfl⟩
   obtain ⟨KF, z0, z1, z2, z3, z4⟩ := Gb.o.stored e
   unfold zQ at e
   rw [← e]
   have Gy := qI (Jl.o.kept KF (by intro g hg; simp at hg; subst hg; intro hs; have := hs.2; omega))
   exact bodyPost_ret (v := .tuple #[.agg #[.int .i64 k5, .int .i64 i5, .string s5, .slice p5 m5 c5, .slice q5 n5 e5], .int .i64 0]) (by simp [results, Tryz.results34, go_sem, z0, z1, z2, z3, z4]) rfl ⟨Kk Gl.o Gy.o, ((Ga.o.mono (Y := [w.heap.size + 1]) (by simp)).trans' ((Gt.o.mono (by simp)).trans' KF)).fresh (by simp)⟩
end
def xF (p : ByteArray) (q : List (List UInt8)) : ByteArray := p ++ zf (zH q)
def lvS (n : Nat) (v : V n) (p : ByteArray) : List ByteArray := (yG n v).map (xF p)
theorem path_nil (p : ByteArray) : xF p [] = p := kA (by
 unfold xF
 rw [ByteArray.data_append, Array.toList_append, zo]
 simp [zH])
theorem esc_id : ∀ s : List UInt8, (∀ c, c ∈ s → c ≠ 126 ∧ c ≠ 47) → yo s = s
 | [], _ => rfl
 | c :: r, h => by
  have h1 := h c (List.mem_cons_self ..)
  have ih := esc_id r (fun d hd => h d (List.mem_cons_of_mem _ hd))
  show xM c ++ yo r = _
  rw [ih]
  unfold xM
  rw [if_neg h1.1, if_neg h1.2]; rfl
theorem Kj (u : Nat) : yo (Lib.decDigits u) = Lib.decDigits u := esc_id _ (fun c hc => by
 have h := K6 u c hc
 refine ⟨fun e => ?_, fun e => ?_⟩
 ·rw [e, show (126 : UInt8).toNat = 126 from rfl] at h; omega
 ·rw [e, show (47 : UInt8).toNat = 47 from rfl] at h; omega)
theorem path_dig (p : ByteArray) (k : Nat) (r : List (List UInt8)) : xF p (Lib.decDigits k :: r) = xF ((p ++ (⟨#[47]⟩ : ByteArray)) ++ zf (Lib.decDigits k)) r := kA (by
 unfold xF
 simp only [ByteArray.data_append, Array.toList_append, zo]
 rw [show zH (Lib.decDigits k :: r) = (47 :: yo (Lib.decDigits k)) ++ zH r from rfl, Kj]
 simp)
theorem path_key (p : ByteArray) (key : ByteArray) (r : List (List UInt8)) : xF p (key.data.toList :: r) = xF (p ++ zf (yX [key])) r := kA (by
 unfold xF yX
 simp only [ByteArray.data_append, Array.toList_append, zo]
 rw [show zH (key.data.toList :: r) = (47 :: yo key.data.toList) ++ zH r from rfl]
 simp [zH])
theorem lvL_app {α P : Type} {f : α → List (List P)} {d : Nat → P} : ∀ (a b : List α) (i : Nat), lvL f d i (a ++ b) = lvL f d i a ++ lvL f d (i + a.length) b
 | [], b, i => rfl
 | x :: a, b, i => by
  show (f x).map (d i :: ·) ++ lvL f d (i + 1) (a ++ b) = ((f x).map (d i :: ·) ++ lvL f d (i + 1) a) ++ _
  rw [lvL_app a b (i + 1), List.append_assoc]
  congr 3
  simp only [List.length_cons]
  omega
theorem lvL_len {α P : Type} {f : α → List (List P)} {d : Nat → P} : ∀ (l : List α) (i : Nat), (lvL f d i l).length = (l.map (fun x => (f x).length)).sum
 | [], _ => rfl
 | x :: l, i => by
  show ((f x).map (d i :: ·) ++ lvL f d (i + 1) l).length = _
  rw [List.length_append, List.length_map, lvL_len l (i + 1)]
  rfl
def lvA {n : Nat} (v : VS (V n)) (k : Nat) : List (List (List UInt8)) := lvL (yG n) Lib.decDigits 0 (v.l.take k)
def lvB {n : Nat} (v : VS (V n)) (k : Nat) : List (List (List UInt8)) := lvA v v.l.length ++ (v.m.take k).flatMap (fun p => (yG n p.2).map (p.1.data.toList :: ·))
theorem lvA_next {n : Nat} {v : VS (V n)} {k : Nat} (h : k < v.l.length) (p : ByteArray) : (lvA v (k + 1)).map (xF p) = (lvA v k).map (xF p) ++ lvS n v.l[k] ((p ++ (⟨#[47]⟩ : ByteArray)) ++ zf (Lib.decDigits k)) := by
 unfold lvA lvS
 rw [lvL_take h, List.map_append, List.map_map]
 congr 1
 refine List.map_congr_left fun r _ => ?_
 rw [Function.comp_apply, Nat.zero_add]
 exact path_dig p k r
theorem lvB_next {n : Nat} {v : VS (V n)} {k : Nat} (h : k < v.m.length) (p : ByteArray) : (lvB v (k + 1)).map (xF p) = (lvB v k).map (xF p) ++ lvS n v.m[k].2 (p ++ zf (yX [v.m[k].1])) := by
 unfold lvB lvS
 rw [List.take_succ_eq_append_getElem h, List.flatMap_append, ← List.append_assoc, List.map_append]
 congr 1
 simp only [List.flatMap_cons, List.flatMap_nil, List.append_nil, List.map_map]
 refine List.map_congr_left fun r _ => ?_
 rw [Function.comp_apply]
 exact path_key p _ r
theorem Q6 {n : Nat} (v : VS (V n)) : lvB v 0 = lvA v v.l.length := by unfold lvB; simp
theorem lv_all {n : Nat} {v : VS (V n)} (h : v.l.length + v.m.length ≠ 0) : yG (n + 1) v = lvB v v.m.length := by
 show (if v.l.length + v.m.length = 0 then [[]] else _) = _
 rw [if_neg h]
 unfold lvB lvA
 rw [List.take_length, List.take_length]
theorem Qc {n : Nat} {v : VS (V n)} (h : v.l.length + v.m.length = 0) : yG (n + 1) v = [[]] := by
 show (if v.l.length + v.m.length = 0 then [[]] else _) = _
 rw [if_pos h]
theorem JU {α : Type} {f g : α → Nat} : ∀ (l : List α), (∀ x, x ∈ l → f x ≤ g x) → (l.map f).sum ≤ (l.map g).sum
 | [], _ => Nat.le_refl _
 | x :: l, h => by
  have := JU l (fun y hy => h y (List.mem_cons_of_mem _ hy))
  have := h x (List.mem_cons_self ..)
  simp only [List.map_cons, List.sum_cons]
  omega
theorem ZT : ∀ (n : Nat) (v : V n), (yG n v).length ≤ zi n v
 | 0, v => nomatch v
 | n + 1, (v : VS (V n)) => by
  by_cases h : v.l.length + v.m.length = 0
  ·rw [Qc h]
   show 1 ≤ 1 + _
   omega
  ·have e : yG (n + 1) v = lvL (yG n) Lib.decDigits 0 v.l ++ v.m.flatMap (fun p => (yG n p.2).map (p.1.data.toList :: ·)) := by
    show (if v.l.length + v.m.length = 0 then [[]] else _) = _
    rw [if_neg h]
   rw [e, List.length_append, lvL_len, List.length_flatMap]
   have h1 := JU (f := fun x => (yG n x).length) (g := zi n) v.l (fun x _ => ZT n x)
   have h2 := JU (f := fun (p : ByteArray × V n) => ((yG n p.2).map (p.1.data.toList :: ·)).length) (g := fun p => zi n p.2) v.m (fun p _ => by rw [List.length_map]; exact ZT n p.2)
   show _ ≤ 1 + (v.kids.map (zi n)).sum
   unfold VS.kids
   rw [List.map_append, List.sum_append, List.map_map]
   have e3 : (v.m.map (zi n ∘ fun p => p.2)).sum = (v.m.map (fun p => zi n p.2)).sum := rfl
   rw [e3]
   omega
theorem lvB_le {n : Nat} (v : VS (V n)) (k : Nat) (h : v.l.length + v.m.length ≠ 0) : (lvB v k).length ≤ zi (n + 1) v := by
 have h1 := ZT (n + 1) v
 rw [lv_all h] at h1
 refine Nat.le_trans ?_ h1
 unfold lvB
 rw [List.length_append, List.length_append, List.take_length]
 conv => rhs; rw [← List.take_append_drop k v.m, List.flatMap_append, List.length_append]
 omega
theorem lvA_le {n : Nat} (v : VS (V n)) (k : Nat) (h : v.l.length + v.m.length ≠ 0) : (lvA v k).length ≤ zi (n + 1) v := by
 refine Nat.le_trans ?_ (lvB_le v 0 h)
 rw [Q6]
 unfold lvA
 rw [List.take_length]
 conv => rhs; rw [← List.take_append_drop k v.l, lvL_app, List.length_append]
 omega
end Go.Proofs.YtpbphdkjjoipnaaGreatDoor

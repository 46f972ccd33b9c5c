/- Parts of one proof, merged: XYG XYH XYI. -/
import Derived.Test.YtpbphdkjjoipnaaGreatDoorHY
import Derived.Test.YtpbphdkjjoipnaaGreatDoorHR
import Derived.Test.YtpbphdkjjoipnaaGreatDoorHC
set_option linter.all false
set_option maxHeartbeats 12800000
set_option maxRecDepth 10000
set_option linter.unusedVariables false
set_option linter.unusedSimpArgs false
set_option linter.unnecessarySimpa false
namespace Go.Proofs.YtpbphdkjjoipnaaGreatDoor
open Go.Proofs.Tryz
open Go.RowKit
def jA (x : Option Nat) : Int := match x with | some i => i | none => -1
theorem QT {k : Nat} {s : ByteArray} : zg (Lib.decDigits k) = s ↔ Lib.decDigits k = s.data.toList :=
 ⟨fun h => by rw [← h, zq], fun h => by rw [h]; rfl⟩
section
variable {n : Nat} {v : VS (V n)} {S : Nat → Prop} {w : World} {cs : List Value}
set_option maxRecDepth 100000 in
theorem place_any (hr : Rep (n + 1) S w cs v) (s : ByteArray) (hl : v.l.length ≤ 1000000 ∧ v.m.length ≤ 1000000) :
  Calls Tryz.prog 90 #[.agg cs.toArray, .string s] w fun e w' => e = .returned (.int .i64 (jA (zU v s.data.toList))) ∧ zb [] w w' := by
 obtain ⟨vl, vm, lcs, mcs, hr⟩ := hr.open_
 obtain ⟨pl, cl, pm, cm, rfl, rfl, rfl⟩ := hr.forms
 obtain ⟨W0, Gd⟩ : ∃ W0, Hid (W0 = w.alloc (.cells #[.int .i64 v.kind, .int .i64 v.num, .string v.s, .slice pl v.l.length cl, .slice pm v.m.length cm] 25)) := ⟨_, qI rfl⟩
 have Gb : Hid (zb [] w W0) := qI (by rw [Gd.o]; exact (zb.refl [] w).alloc _)
 have Gg : Hid (z6 W0 w.heap.size v.kind v.num v.s (.slice pl v.l.length cl) (.slice pm v.m.length cm)) := qI (by rw [Gd.o]; exact yb _ _ _ _ _ _ _)
 have HR := qI hr
 have Gi := qI hl
 have hlI : (v.l.length : Int) ≤ 1000000 := by omega
 have hmI : (v.m.length : Int) ≤ 1000000 := by omega
 clear hr hl
 by_cases k5 : v.kind = 5
 ·obtain ⟨f1, f2⟩ := yg (a := v.kind) (b := 5) k5
  obtain ⟨f3, f4⟩ := zt (a := v.kind) (b := 6) (by omega)
  have Gh := qI k5
  clear k5
  go_enter func90, ntmps90
  go_wp2_with fail
  rw [← Gd.o]
  obtain ⟨x0, x1, x2, x3, x4⟩ := Gg.o
  go_loopw [5] (fun i wr => ∃ k : Nat, i = .int .i64 k ∧ k ≤ v.l.length ∧ Hid (∀ j, j < k → Lib.decDigits j ≠ s.data.toList) ∧ W0 = wr) (fun i _ => v.l.length - (intOf i).toNat)
  case atStart => exact ⟨0, rfl, Nat.zero_le _, qI (fun j hj => by omega), rfl⟩
  case round =>
   obtain ⟨k, rfl, hk, Ga, rfl⟩ := hrel
   by_cases hlt : k < v.l.length
   ·have hltI : (k : Int) < v.l.length := by omega
    have CD := qI (K6 k (by omega) (by omega) W0)
    rw [Lib.itoa_nonneg] at CD
    have Gc := qI hlt
    by_cases hq : zg (Lib.decDigits k) = s
    ·have HP : Hid (jA (zU v s.data.toList) = (k : Int)) := qI (by rw [ZE Gh.o hlt (QT.1 hq)]; rfl)
     obtain ⟨q1, q2⟩ := qo hq
     clear hlt hk hq
     revert CD q1 q2
     generalize zg (Lib.decDigits k) = T
     intro CD q1 q2
     go_wp2_with (go_at_call 52; refine CD.o.mono ?_; rintro e w2 ⟨rfl, rfl⟩)
     go_ret
     exact ⟨by rw [HP.o]; rfl, Gb.o⟩
    ·have Ge : Hid (∀ j, j < k + 1 → Lib.decDigits j ≠ s.data.toList) := qI (fun j hj e => by
      rcases Nat.lt_or_ge j k with h | h
      ·exact Ga.o j h e
      ·obtain rfl : j = k := by omega
       exact hq (QT.2 e))
     obtain ⟨q1, q2⟩ := xM hq
     clear hlt hk hq Ga
     revert CD q1 q2
     generalize zg (Lib.decDigits k) = T
     intro CD q1 q2
     go_wp2_with (go_at_call 52; refine CD.o.mono ?_; rintro e w2 ⟨rfl, rfl⟩)
     case roundEnd => exact ⟨⟨k + 1, by go_num, by have := Gc.o; omega, Ge, trivial⟩, by have := Gc.o; simp [intOf]; omega⟩
   ·obtain rfl : k = v.l.length := by omega
    have hltI : ¬ (v.l.length : Int) < v.l.length := by omega
    have HP : Hid (jA (zU v s.data.toList) = -1) := qI (by rw [xH Gh.o Ga.o]; rfl)
    clear hlt hk Ga
    go_wp2_with fail
    go_loopw [6] (fun i wr => i = .int .i64 0 ∧ W0 = wr) (fun _ _ => 0)
    case atStart => exact ⟨rfl, rfl⟩
    case round =>
     obtain ⟨rfl, rfl⟩ := hrel
     by_cases h0 : (0 : Int) < v.m.length
     ·go_wp2_with fail
      go_ret
      exact ⟨by rw [HP.o]; rfl, Gb.o⟩
     ·go_wp2_with fail
      go_ret
      exact ⟨by rw [HP.o]; rfl, Gb.o⟩
 obtain ⟨f1, f2⟩ := zt (a := v.kind) (b := 5) k5
 by_cases k6 : v.kind = 6
 ·obtain ⟨f3, f4⟩ := yg (a := v.kind) (b := 6) k6
  have Gf := qI k6
  clear k5 k6
  go_enter func90, ntmps90
  go_wp2_with fail
  rw [← Gd.o]
  obtain ⟨x0, x1, x2, x3, x4⟩ := Gg.o
  go_loopw [5] (fun i wr => i = .int .i64 0 ∧ W0 = wr) (fun _ _ => 0)
  case atStart => exact ⟨rfl, rfl⟩
  case round =>
   obtain ⟨rfl, rfl⟩ := hrel
   by_cases h0 : (0 : Int) < v.l.length
   ·go_wp2_with fail
    go_loopw [6] (fun i wr => ∃ k : Nat, i = .int .i64 k ∧ k ≤ v.m.length ∧ Hid (∀ j (hj : j < v.m.length), j < k → v.m[j].1 ≠ s) ∧ W0 = wr) (fun i _ => v.m.length - (intOf i).toNat)
    case atStart => exact ⟨0, rfl, Nat.zero_le _, qI (fun j _ hj => by omega), rfl⟩
    case round =>
     obtain ⟨k, rfl, hk, Ga, rfl⟩ := hrel
     by_cases hlt : k < v.m.length
     ·have hltI : (k : Int) < v.m.length := by omega
      obtain ⟨g1, o1, c1, kd, nm, st, a1, b1, e1, q0, -⟩ := HR.o.at_m Gb.o k hlt
      simp only [Value.slice.injEq] at e1
      obtain ⟨rfl, -, rfl⟩ := e1
      have Gc := qI hlt
      by_cases hq : v.m[k].1 = s
      ·have HP : Hid (jA (zU v s.data.toList) = (k : Int)) := qI (by rw [jV Gf.o hlt hq (fun j hj => Ga.o j (by omega) hj)]; rfl)
       obtain ⟨q1, q2⟩ := qo hq
       clear hk hq
       revert q0 q1 q2
       generalize v.m[k].1 = T
       intro q0 q1 q2
       clear hlt
       go_wp2_with fail
       go_ret
       exact ⟨by rw [HP.o]; rfl, Gb.o⟩
      ·have Ge : Hid (∀ j (hj : j < v.m.length), j < k + 1 → v.m[j].1 ≠ s) := qI (fun j hjl hj e => by
        rcases Nat.lt_or_ge j k with h | h
        ·exact Ga.o j hjl h e
        ·obtain rfl : j = k := by omega
         exact hq e)
       obtain ⟨q1, q2⟩ := xM hq
       clear hk hq Ga
       revert q0 q1 q2
       generalize v.m[k].1 = T
       intro q0 q1 q2
       clear hlt
       go_wp2_with fail
       case roundEnd => exact ⟨⟨k + 1, by go_num, by have := Gc.o; omega, Ge, trivial⟩, by have := Gc.o; simp [intOf]; omega⟩
     ·obtain rfl : k = v.m.length := by omega
      have hltI : ¬ (v.m.length : Int) < v.m.length := by omega
      have HP : Hid (jA (zU v s.data.toList) = -1) := qI (by rw [qF Gf.o (fun j hj => Ga.o j hj hj)]; rfl)
      clear hlt hk Ga
      go_wp2_with fail
      go_ret
      exact ⟨by rw [HP.o]; rfl, Gb.o⟩
   ·go_wp2_with fail
    go_loopw [6] (fun i wr => ∃ k : Nat, i = .int .i64 k ∧ k ≤ v.m.length ∧ Hid (∀ j (hj : j < v.m.length), j < k → v.m[j].1 ≠ s) ∧ W0 = wr) (fun i _ => v.m.length - (intOf i).toNat)
    case atStart => exact ⟨0, rfl, Nat.zero_le _, qI (fun j _ hj => by omega), rfl⟩
    case round =>
     obtain ⟨k, rfl, hk, Ga, rfl⟩ := hrel
     by_cases hlt : k < v.m.length
     ·have hltI : (k : Int) < v.m.length := by omega
      obtain ⟨g1, o1, c1, kd, nm, st, a1, b1, e1, q0, -⟩ := HR.o.at_m Gb.o k hlt
      simp only [Value.slice.injEq] at e1
      obtain ⟨rfl, -, rfl⟩ := e1
      have Gc := qI hlt
      by_cases hq : v.m[k].1 = s
      ·have HP : Hid (jA (zU v s.data.toList) = (k : Int)) := qI (by rw [jV Gf.o hlt hq (fun j hj => Ga.o j (by omega) hj)]; rfl)
       obtain ⟨q1, q2⟩ := qo hq
       clear hk hq
       revert q0 q1 q2
       generalize v.m[k].1 = T
       intro q0 q1 q2
       clear hlt
       go_wp2_with fail
       go_ret
       exact ⟨by rw [HP.o]; rfl, Gb.o⟩
      ·have Ge : Hid (∀ j (hj : j < v.m.length), j < k + 1 → v.m[j].1 ≠ s) := qI (fun j hjl hj e => by
        rcases Nat.lt_or_ge j k with h | h
        ·exact Ga.o j hjl h e
        ·obtain rfl : j = k := by omega
         exact hq e)
       obtain ⟨q1, q2⟩ := xM hq
       clear hk hq Ga
       revert q0 q1 q2
       generalize v.m[k].1 = T
       intro q0 q1 q2
       clear hlt
       go_wp2_with fail
       case roundEnd => exact ⟨⟨k + 1, by go_num, by have := Gc.o; omega, Ge, trivial⟩, by have := Gc.o; simp [intOf]; omega⟩
     ·obtain rfl : k = v.m.length := by omega
      have hltI : ¬ (v.m.length : Int) < v.m.length := by omega
      have HP : Hid (jA (zU v s.data.toList) = -1) := qI (by rw [qF Gf.o (fun j hj => Ga.o j hj hj)]; rfl)
      clear hlt hk Ga
      go_wp2_with fail
      go_ret
      exact ⟨by rw [HP.o]; rfl, Gb.o⟩
 ·obtain ⟨f3, f4⟩ := zt (a := v.kind) (b := 6) k6
  have HP : Hid (jA (zU v s.data.toList) = -1) := qI (by rw [bz k5 k6]; rfl)
  clear k5 k6
  go_enter func90, ntmps90
  go_wp2_with fail
  rw [← Gd.o]
  obtain ⟨x0, x1, x2, x3, x4⟩ := Gg.o
  go_loopw [5] (fun i wr => i = .int .i64 0 ∧ W0 = wr) (fun _ _ => 0)
  case atStart => exact ⟨rfl, rfl⟩
  case round =>
   obtain ⟨rfl, rfl⟩ := hrel
   by_cases h0 : (0 : Int) < v.l.length
   ·go_wp2_with fail
    go_loopw [6] (fun i wr => i = .int .i64 0 ∧ W0 = wr) (fun _ _ => 0)
    case atStart => exact ⟨rfl, rfl⟩
    case round =>
     obtain ⟨rfl, rfl⟩ := hrel
     by_cases h1 : (0 : Int) < v.m.length
     ·go_wp2_with fail
      go_ret
      exact ⟨by rw [HP.o]; rfl, Gb.o⟩
     ·go_wp2_with fail
      go_ret
      exact ⟨by rw [HP.o]; rfl, Gb.o⟩
   ·go_wp2_with fail
    go_loopw [6] (fun i wr => i = .int .i64 0 ∧ W0 = wr) (fun _ _ => 0)
    case atStart => exact ⟨rfl, rfl⟩
    case round =>
     obtain ⟨rfl, rfl⟩ := hrel
     by_cases h1 : (0 : Int) < v.m.length
     ·go_wp2_with fail
      go_ret
      exact ⟨by rw [HP.o]; rfl, Gb.o⟩
     ·go_wp2_with fail
      go_ret
      exact ⟨by rw [HP.o]; rfl, Gb.o⟩
end
theorem cell_lt {w : World} {g o : Nat} {v : Value} (h : w.cell? ⟨g, o, none⟩ = some v) : g < w.heap.size := by
 rcases Nat.lt_or_ge g w.heap.size with h1 | h1
 ·exact h1
 ·simp [World.cell?, Array.getElem?_eq_none h1] at h
section
variable {n : Nat} {v : V n} {S : Nat → Prop} {w : World} {cs : List Value}
end
end Go.Proofs.YtpbphdkjjoipnaaGreatDoor

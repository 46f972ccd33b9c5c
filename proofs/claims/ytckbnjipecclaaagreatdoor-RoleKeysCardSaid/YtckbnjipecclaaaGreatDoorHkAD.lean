/- Parts of one proof, merged: XKF XKK XSb XKD XSa. -/
import Derived.Test.YtckbnjipecclaaaGreatDoorHkO
import Derived.Deep.DeepCutAuto
import Derived.Deep.CutBlock
import Derived.Test.YtckbnjipecclaaaGreatDoorHkK
import Derived.Test.YtckbnjipecclaaaGreatDoorHkB
import Derived.Test.YtckbnjipecclaaaGreatDoorHkAB
import Derived.Test.YtckbnjipecclaaaGreatDoorHkQ
import Derived.Test.YtckbnjipecclaaaGreatDoorHkL
import Derived.Test.YtckbnjipecclaaaGreatDoorHkD
import Derived.Test.YtckbnjipecclaaaGreatDoorHkAC
set_option linter.all false
set_option maxHeartbeats 12800000
set_option maxRecDepth 10000
set_option linter.unusedVariables false
set_option linter.unusedSimpArgs false
set_option linter.unnecessarySimpa false
namespace Go.Proofs.YtckbnjipecclaaaGreatDoor
open Go.RowKit
theorem all_drop {α : Type} {r : α → Bool} {xs : List α} {k : Nat} (h : k < xs.length) : (xs.drop k).all r = (r xs[k] && (xs.drop (k + 1)).all r) := by
 rw [List.drop_eq_getElem_cons h]; rfl
theorem box_at' {w : World} {g : Nat} (hg : w.heap.size = g) (k m : Int) (s : ByteArray) (a b : Value) (t : Nat) : BoxAt (w.alloc (.cells #[.int .i64 k, .int .i64 m, .string s, a, b] t)) g k m s a b := by
 subst hg; exact box_at w k m s a b t
theorem rightV_other {n : Nat} {v : VS (V n)} (h : ¬ (v.kind = 1 ∨ v.kind = 2 ∨ v.kind = 3 ∨ v.kind = 4 ∨ v.kind = 5 ∨ v.kind = 6)) : rightV (n + 1) v = false := by
 have e : rightV (n + 1) v = (ownRight v && v.kids.all (rightV n)) := rfl
 rw [e]
 have : ownRight v = false := by
  unfold ownRight
  rw [if_neg (by omega), if_neg (by omega), if_neg (by omega), if_neg (by omega), if_neg (by omega), if_neg (by omega)]
 rw [this]; rfl
theorem rightV_own {n : Nat} {v : VS (V n)} (h : ownRight v = false) : rightV (n + 1) v = false := by
 have e : rightV (n + 1) v = (ownRight v && v.kids.all (rightV n)) := rfl
 rw [e, h]; rfl
def refRight_anyKnown (n : Nat) : Prop := ∀ (v : V n) {S : Nat → Prop} {w : World} {cs : List Value}, Rep n S w cs v → Small n v →
    Calls Tryz.prog 60 #[.agg cs.toArray] w fun e w' => e = .returned (.bool (rightV n v)) ∧ Kept [] w w'
set_option maxRecDepth 100000 in
theorem refRight_any_step {n : Nat} (known : refRight_anyKnown n) : refRight_anyKnown (n + 1) := fun (v : VS (V n)) {S} {w} {cs} h hs => by
  have Gx := qI h
  have Gr := qI hs
  obtain ⟨vl, vm, lcs, mcs, h⟩ := h
  obtain ⟨a, c, b, e, rfl, rfl, rfl⟩ := h.forms
  have H := qI h
  have IH := qI known
  obtain ⟨W1, Ge⟩ : ∃ W1, Hid (W1 = w.alloc (.cells #[.int .i64 v.kind, .int .i64 v.num, .string v.s, .slice a v.l.length c, .slice b v.m.length e] 28)) := ⟨_, qI rfl⟩
  have HB : Hid (BoxAt W1 w.heap.size v.kind v.num v.s (.slice a v.l.length c) (.slice b v.m.length e)) := qI (by rw [Ge.o]; exact box_at w v.kind v.num v.s (.slice a v.l.length c) (.slice b v.m.length e) 28)
  have Ga : Hid (Kept [] w W1) := qI (by rw [Ge.o]; exact ((Kept.refl [] w).alloc _))
  have Jl : Hid (W1.heap.size = w.heap.size + 1) := qI (by rw [Ge.o]; simp)
  have hlv : v.l.length ≤ 20000 := by have := hs.few; omega
  have hmv : v.m.length ≤ 20000 := by have := hs.few; omega
  have hsv : (v.s.size : Int) ≤ 400000 := by have := hs.2; have e : bytesV (n + 1) v = v.s.size + v.keyBytes + (v.kids.map (bytesV n)).sum := rfl; omega
  have Gy : Hid (∀ p, p ∈ v.m → p.1.size ≤ 400000) := qI fun p hp => Nat.le_trans (key_le hp) hs.2
  obtain ⟨c0, c1, c2, c3, c4⟩ := HB.o
  rw [Ge.o] at c0 c1 c2 c3 c4
  clear h hs
  go_enter Tryz.func60, Tryz.ntmps60
  go_upto_block 0 with fail
  go_cut [] from 12 to 58 (fun wr => ∃ (m : Int) (s : ByteArray) (l k : Nat) (al am : Option Addr) (cl cm : Nat), Kept [] W1 wr ∧ BoxAt wr (w.heap.size + 1) v.kind m s (.slice al l cl) (.slice am k cm) ∧ Hid (BareIs v m s l k))
  case first =>
   by_cases k1 : v.kind = 1
   ·have f1 := (int_eq k1).1
    have Gf : Hid (BareIs v 0 ⟨#[]⟩ 0 0) := qI (.inl ⟨k1, rfl, rfl, rfl, rfl⟩)
    clear k1
    go_wp2_with fail
    go_meet
    exact ⟨0, ⟨#[]⟩, 0, 0, _, _, _, _, by rw [Ge.o]; exact (Kept.refl _ _).alloc _, box_at' (by simp) _ _ _ _ _ _, Gf⟩
   have f1 := (int_ne k1).1
   by_cases k2 : v.kind = 2
   ·have f2 := (int_eq k2).1
    by_cases n0 : v.num = 0
    ·have g0 := int_eq n0
     have Gf : Hid (BareIs v v.num ⟨#[]⟩ 0 0) := qI (.inr (.inl ⟨k2, .inl n0, rfl, rfl, rfl, rfl⟩))
     obtain ⟨g1, g2⟩ := g0
     clear k1 k2 n0
     go_wp2_with fail
     go_meet
     exact ⟨v.num, ⟨#[]⟩, 0, 0, _, _, _, _, by rw [Ge.o]; exact (Kept.refl _ _).alloc _, box_at' (by simp) _ _ _ _ _ _, Gf⟩
    obtain ⟨g1, g2⟩ := int_ne n0
    by_cases n1 : v.num = 1
    ·obtain ⟨g3, g4⟩ := int_eq n1
     have Gf : Hid (BareIs v v.num ⟨#[]⟩ 0 0) := qI (.inr (.inl ⟨k2, .inr n1, rfl, rfl, rfl, rfl⟩))
     clear k1 k2 n0 n1
     go_wp2_with fail
     go_meet
     exact ⟨v.num, ⟨#[]⟩, 0, 0, _, _, _, _, by rw [Ge.o]; exact (Kept.refl _ _).alloc _, box_at' (by simp) _ _ _ _ _ _, Gf⟩
    ·obtain ⟨g3, g4⟩ := int_ne n1
     have HF : Hid (rightV (n + 1) v = false) := qI (rightV_own (by unfold ownRight; rw [if_neg k1, if_pos k2]; simp [n0, n1]))
     clear k1 k2 n0 n1
     go_wp2_with fail
     go_ret
     rw [HF.o]
     exact ⟨rfl, by have h1 := Ga.o; rw [Ge.o] at h1; exact h1.alloc _⟩
   have f2 := (int_ne k2).1
   by_cases k3 : v.kind = 3
   ·have f3 := (int_eq k3).1
    by_cases n0 : v.num < -9007199254740991
    ·have HF : Hid (rightV (n + 1) v = false) := qI (rightV_own (by unfold ownRight; rw [if_neg k1, if_neg k2, if_pos k3, decide_eq_false (by omega)]; simp))
     clear k1 k2 k3
     go_wp2_with fail
     go_ret
     rw [HF.o]
     exact ⟨rfl, by have h1 := Ga.o; rw [Ge.o] at h1; exact h1.alloc _⟩
    by_cases n1 : 9007199254740991 < v.num
    ·have HF : Hid (rightV (n + 1) v = false) := qI (rightV_own (by unfold ownRight; rw [if_neg k1, if_neg k2, if_pos k3, decide_eq_false (by omega)]; simp))
     clear k1 k2 k3
     go_wp2_with fail
     go_ret
     rw [HF.o]
     exact ⟨rfl, by have h1 := Ga.o; rw [Ge.o] at h1; exact h1.alloc _⟩
    ·have Gf : Hid (BareIs v v.num ⟨#[]⟩ 0 0) := qI (.inr (.inr (.inl ⟨k3, by omega, rfl, rfl, rfl, rfl⟩)))
     clear k1 k2 k3
     go_wp2_with fail
     go_meet
     exact ⟨v.num, ⟨#[]⟩, 0, 0, _, _, _, _, by rw [Ge.o]; exact (Kept.refl _ _).alloc _, box_at' (by simp) _ _ _ _ _ _, Gf⟩
   have f3 := (int_ne k3).1
   by_cases k4 : v.kind = 4
   ·have f4 := (int_eq k4).1
    cases hb : bytesOk v.s with
    | true =>
     have Gf : Hid (BareIs v 0 v.s 0 0) := qI (.inr (.inr (.inr (.inl ⟨k4, hb, rfl, rfl, rfl, rfl⟩))))
     have Gz := qI hb
     clear k1 k2 k3 k4 hb
     go_wp2_with (go_at_call 97; refine (refValid_any v.s (by omega) _).mono ?_; rw [Gz.o]; rintro e w2 ⟨rfl, hk2⟩)
     go_meet
     exact ⟨0, v.s, 0, 0, _, _, _, _, by rw [Ge.o]; exact ((Kept.refl _ _).alloc _).then hk2, (box_at' (by simp) _ _ _ _ _ _).kept0 hk2, Gf⟩
    | false =>
     have HF : Hid (rightV (n + 1) v = false) := qI (rightV_own (by unfold ownRight; rw [if_neg k1, if_neg k2, if_neg k3, if_pos k4, hb]; simp))
     have Gz := qI hb
     clear k1 k2 k3 k4 hb
     go_wp2_with (go_at_call 97; refine (refValid_any v.s (by omega) _).mono ?_; rw [Gz.o]; rintro e w2 ⟨rfl, hk2⟩)
     go_ret
     rw [HF.o]
     exact ⟨rfl, by have h1 := Ga.o; rw [Ge.o] at h1; exact (h1.alloc _).then hk2⟩
   have f4 := (int_ne k4).1
   by_cases k5 : v.kind = 5
   ·have f5 := (int_eq k5).1
    have Gf : Hid (BareIs v 0 ⟨#[]⟩ v.l.length 0) := qI (.inr (.inr (.inr (.inr (.inl ⟨k5, rfl, rfl, rfl, rfl⟩)))))
    clear k1 k2 k3 k4 k5
    go_wp2_with fail
    go_meet
    exact ⟨0, ⟨#[]⟩, v.l.length, 0, _, _, _, _, by rw [Ge.o]; exact (Kept.refl _ _).alloc _, box_at' (by simp) _ _ _ _ _ _, Gf⟩
   have f5 := (int_ne k5).1
   by_cases k6 : v.kind = 6
   ·have f6 := (int_eq k6).1
    have Gf : Hid (BareIs v 0 ⟨#[]⟩ 0 v.m.length) := qI (.inr (.inr (.inr (.inr (.inr ⟨k6, rfl, rfl, rfl, rfl⟩)))))
    clear k1 k2 k3 k4 k5 k6
    go_wp2_with fail
    go_meet
    exact ⟨0, ⟨#[]⟩, 0, v.m.length, _, _, _, _, by rw [Ge.o]; exact (Kept.refl _ _).alloc _, box_at' (by simp) _ _ _ _ _ _, Gf⟩
   ·have f6 := (int_ne k6).1
    have HF : Hid (rightV (n + 1) v = false) := qI (rightV_other (by omega))
    clear k1 k2 k3 k4 k5 k6
    go_wp2_with fail
    go_ret
    rw [HF.o]
    exact ⟨rfl, by have h1 := Ga.o; rw [Ge.o] at h1; exact h1.alloc _⟩
  case rest =>
   obtain ⟨m, s, l, k, al, am, cl, cm, hkr, hb, Gq⟩ := hcut
   have Gh := qI (right_bare Gq.o)
   have Jm := qI hkr
   have Gi := qI (Ga.o.trans' hkr)
   have Ja := qI (HB.o.kept0 hkr)
   clear c0 c1 c2 c3 c4
   obtain ⟨c0, c1, c2, c3, c4⟩ := Ja.o
   obtain ⟨d0, d1, d2, d3, d4⟩ := hb
   clear hkr Gq
   by_cases hnum : v.num = m
   rotate_left
   ·obtain ⟨f1, f2⟩ := int_ne hnum
    have HF : Hid (rightV (n + 1) v = false) := qI (by rw [Gh.o]; simp [hnum])
    clear hnum
    go_wp2_with fail
    go_ret
    rw [HF.o]
    exact ⟨rfl, Gi.o⟩
   obtain ⟨g1, g2⟩ := int_eq hnum
   have Hnum := qI hnum
   clear hnum
   by_cases hstr : v.s = s
   rotate_left
   ·obtain ⟨f1, f2⟩ := str_ne hstr
    have HF : Hid (rightV (n + 1) v = false) := qI (by rw [Gh.o]; simp [hstr])
    clear hstr
    go_wp2_with fail
    go_ret
    rw [HF.o]
    exact ⟨rfl, Gi.o⟩
   obtain ⟨g3, g4⟩ := str_eq hstr
   have Hstr := qI hstr
   clear hstr
   by_cases hl : v.l.length = l
   rotate_left
   ·obtain ⟨f1, f2⟩ := nat_ne hl
    have HF : Hid (rightV (n + 1) v = false) := qI (by rw [Gh.o]; simp [hl])
    clear hl
    go_wp2_with fail
    go_ret
    rw [HF.o]
    exact ⟨rfl, Gi.o⟩
   obtain ⟨g5, g6⟩ := nat_eq hl
   have Hl := qI hl
   clear hl
   by_cases hm : v.m.length = k
   rotate_left
   ·obtain ⟨f1, f2⟩ := nat_ne hm
    have HF : Hid (rightV (n + 1) v = false) := qI (by rw [Gh.o]; simp [hm])
    clear hm
    go_wp2_with fail
    go_ret
    rw [HF.o]
    exact ⟨rfl, Gi.o⟩
   obtain ⟨g7, g8⟩ := nat_eq hm
   have Hm := qI hm
   clear hm
   have Gk : Hid (rightV (n + 1) v = (v.l.all (rightV n) && pairsOk (rightV n) [] v.m)) := qI (by rw [Gh.o]; simp [Hnum.o, Hstr.o, Hl.o, Hm.o])
   go_wp2_with fail
   clear c0 c1 c2 c3 c4 d0 d1 d2 d3 d4 g1 g2 g3 g4 g5 g6 g7 g8 Gh Hnum Hstr Hl Hm
   go_loopw [4] (fun i wr => ∃ k : Nat, i = .int .i64 k ∧ k ≤ v.l.length ∧ (v.l.drop k).all (rightV n) = v.l.all (rightV n) ∧ Kept [] wc wr) (fun i _ => v.l.length - (intOf i).toNat)
   case atStart => exact ⟨0, rfl, Nat.zero_le _, rfl, Kept.refl _ _⟩
   case round =>
    obtain ⟨k, rfl, hk, hg, hkr⟩ := hrel
    have HG := qI hg
    have Gl := qI hkr
    have Gb := qI (Gi.o.trans' hkr)
    obtain ⟨c0, c1, c2, c3, c4⟩ := Ja.o.kept0 hkr
    clear hg hkr
    by_cases hlt : k < v.l.length
    ·have hltI : (k : Int) < v.l.length := by omega
     obtain ⟨g, o, cap, kd, nm, st, a1, b1, he, q0, q1, q2, q3, q4, hr⟩ := H.o.at_l Gb.o k hlt
     simp only [Value.slice.injEq] at he
     obtain ⟨rfl, -, rfl⟩ := he
     have CL := qI (IH.o _ hr (Gr.o.kid (mem_l (List.getElem_mem hlt))))
     have HD := qI (all_drop (r := rightV n) hlt)
     clear hr
     revert CL HD
     generalize rightV n v.l[k] = r
     intro CL HD
     cases r
     ·go_wp2_with (go_at_call 60; refine CL.o.mono ?_; rintro e w2 ⟨rfl, hk2⟩)
      go_ret
      rw [Gk.o, ← HG.o, HD.o]
      exact ⟨by simp, Gb.o.then hk2⟩
     ·go_wp2_with (go_at_call 60; refine CL.o.mono ?_; rintro e w2 ⟨rfl, hk2⟩)
      case roundEnd =>
       refine ⟨⟨k + 1, by go_num, by omega, ?_, Gl.o.then hk2⟩, by simp [intOf]; omega⟩
       rw [← HG.o, HD.o]
       simp
    ·obtain rfl : k = v.l.length := by omega
     have Gd : Hid (rightV (n + 1) v = pairsOk (rightV n) [] v.m) := qI (by rw [Gk.o, ← HG.o, List.drop_length]; simp)
     have Gu := qI Gl.o
     go_wp2_with fail
     clear HG Gb Gl c0 c1 c2 c3 c4
     go_loopw [5] (fun i wr => ∃ k : Nat, i = .int .i64 k ∧ k ≤ v.m.length ∧ pairsOk (rightV n) ((v.m.take k).map (fun p => p.1)) (v.m.drop k) = pairsOk (rightV n) [] v.m ∧ Kept [] wc wr) (fun i _ => v.m.length - (intOf i).toNat)
     case atStart => exact ⟨0, rfl, Nat.zero_le _, rfl, Gu.o⟩
     case round =>
      obtain ⟨k, rfl, hk, hg, hkr⟩ := hrel
      have HG := qI hg
      have Gl := qI hkr
      have Gb := qI (Gi.o.trans' hkr)
      have Gf := qI (Ja.o.kept0 hkr)
      obtain ⟨c0, c1, c2, c3, c4⟩ := Gf.o
      clear hg hkr Gu
      by_cases hlt : k < v.m.length
      ·have hltI : (k : Int) < v.m.length := by omega
       obtain ⟨g, o, cap, kd, nm, st, a1, b1, he, q0, q1, q2, q3, q4, q5, hr⟩ := H.o.at_m Gb.o k hlt
       simp only [Value.slice.injEq] at he
       obtain ⟨rfl, -, rfl⟩ := he
       have hk3 : v.m[k].1.size ≤ 281474976710656 := by have := Gy.o _ (List.getElem_mem hlt); omega
       have CL : Hid (∀ w2, Kept [] wr w2 → Calls Tryz.prog 60 #[.agg #[.int .i64 kd, .int .i64 nm, .string st, a1, b1]] w2 fun e w' => e = .returned (.bool (rightV n v.m[k].2)) ∧ Kept [] w2 w') := qI fun w2 hk => IH.o _ (hr.kept0 hk) (Gr.o.kid (mem_m (List.getElem_mem hlt)))
       have CV := qI (refValid_any v.m[k].1 hk3 wr)
       have HD : Hid (pairsOk (rightV n) ((v.m.take k).map (fun p => p.1)) (v.m.drop k) = (bytesOk v.m[k].1 && rightV n v.m[k].2 && !(((v.m.take k).map (fun p => p.1)).any (fun x => decide (x = v.m[k].1))) && pairsOk (rightV n) ((v.m.take (k + 1)).map (fun p => p.1)) (v.m.drop (k + 1)))) := qI (by
        rw [List.drop_eq_getElem_cons hlt, take_map_succ _ _ _ hlt]
        rfl)
       clear hr hk3
       revert CL CV HD
       generalize hkey : v.m[k].1 = key at q0
       generalize rightV n v.m[k].2 = r
       generalize bytesOk key = ok
       intro CL CV HD
       have Hkey := qI hkey
       clear hkey
       cases ok with
       | false =>
        go_wp2_with (go_at_call 97; refine CV.o.mono ?_; rintro e w2 ⟨rfl, hk2⟩)
        go_ret
        rw [Gd.o, ← HG.o, HD.o]
        exact ⟨by simp, Gb.o.then hk2⟩
       | true =>
        cases r with
        | false =>
         go_wp2_with (first
          | (go_at_call 97; refine CV.o.mono ?_; rintro e w2 ⟨rfl, hk2⟩; have Gc := qI hk2; have e4 := hk2.cell c4 (by simp); have e1 := hk2.cell q1 (by simp); have e2 := hk2.cell q2 (by simp); have e3 := hk2.cell q3 (by simp); have e5 := hk2.cell q4 (by simp); have e6 := hk2.cell q5 (by simp); clear hk2)
          | (go_at_call 60; refine (CL.o _ Gc.o).mono ?_; rintro e w3 ⟨rfl, hk3⟩))
         go_ret
         rw [Gd.o, ← HG.o, HD.o]
         exact ⟨by simp, (Gb.o.then Gc.o).then hk3⟩
        | true =>
         go_wp2_with (first
          | (go_at_call 97; refine CV.o.mono ?_; rintro e w2 ⟨rfl, hk2⟩; have Gc := qI hk2; have e4 := hk2.cell c4 (by simp); have e1 := hk2.cell q1 (by simp); have e2 := hk2.cell q2 (by simp); have e3 := hk2.cell q3 (by simp); have e5 := hk2.cell q4 (by simp); have e6 := hk2.cell q5 (by simp); clear hk2)
          | (go_at_call 60; refine (CL.o _ Gc.o).mono ?_; rintro e w3 ⟨rfl, hk3⟩))
         have Gn := qI (Gc.o.then hk3)
         clear hk3 Gc e1 e2 e3 e4 e5 e6 CL CV
         have Gp : Hid (pairsOk (rightV n) ((v.m.take k).map (fun p => p.1)) (v.m.drop k) = (!(((v.m.take k).map (fun p => p.1)).any (fun x => decide (x = key))) && pairsOk (rightV n) ((v.m.take (k + 1)).map (fun p => p.1)) (v.m.drop (k + 1)))) := qI (by rw [HD.o]; simp)
         have Jb : Hid (wr.cell? ⟨g, o + k * 6, none⟩ = some (.string key)) := qI q0
         clear HD c0 c1 c2 c3 c4 q0 q1 q2 q3 q4 q5
         go_loopw [6] (fun i wr3 => ∃ j : Nat, i = .int .i64 j ∧ j ≤ k ∧ ((v.m.take j).map (fun p => p.1)).any (fun x => decide (x = key)) = false ∧ Kept [] wr wr3) (fun i _ => k - (intOf i).toNat)
         case atStart => exact ⟨0, rfl, Nat.zero_le _, rfl, Gn.o⟩
         case round =>
          obtain ⟨j, rfl, hj, hany, hkr3⟩ := hrel
          have Gv := qI hany
          have Gj := qI hkr3
          clear hany hkr3
          by_cases hjt : j < k
          ·have hjI : (j : Int) < k := by omega
           have hjm : j < v.m.length := by omega
           have hjmI : (j : Int) < v.m.length := by omega
           obtain ⟨c0, c1, c2, c3, c4⟩ := Gf.o.kept0 Gj.o
           have q0 := Gj.o.cell Jb.o (by simp)
           obtain ⟨g2, o2, cap2, kd2, nm2, st2, a2, b2, he, p0, p1, p2, p3, p4, p5, -⟩ := H.o.at_m (Gb.o.then Gj.o) j hjm
           simp only [Value.slice.injEq, Option.some.injEq, Addr.mk.injEq] at he
           obtain ⟨⟨rfl, rfl, -⟩, -, -⟩ := he
           have Jc : Hid (((v.m.take (j + 1)).map (fun p => p.1)).any (fun x => decide (x = key)) = decide (v.m[j].1 = key)) := qI (by rw [take_map_succ _ _ _ hjm, List.any_append, Gv.o]; simp)
           have Jd : Hid (v.m[j].1 = key → ((v.m.take k).map (fun p => p.1)).any (fun x => decide (x = key)) = true) := qI fun e => List.any_eq_true.2 ⟨key, List.mem_map.2 ⟨v.m[j], List.mem_take_iff_getElem.2 ⟨j, by omega, rfl⟩, e⟩, by simp⟩
           have E0 := ext_cell c4
           have E1 := ext_cell q0
           have E2 := ext_cell p0
           revert E2 Jc Jd
           generalize v.m[j].1 = key2
           intro Jc Jd E2
           by_cases hkk : key2 = key
           ·obtain ⟨f1, f2⟩ := str_eq hkk
            have Jh := qI (Jd.o hkk)
            clear hkk
            go_wp2_with fail
            refine wp_region_ext wr (by kernel_rfl) (by kernel_rfl) (Kept.refl _ _) ?_
            clear c0 c1 c2 c3 c4 q0 p0 p1 p2 p3 p4 p5
            repeat go_big_quiet_step (fail)
            refine wpQuiet_nil ?_
            intro w5 hk5
            go_wp2_with fail
            go_ret
            rw [Gd.o, ← HG.o, Gp.o, Jh.o]
            exact ⟨by simp, (Gb.o.then Gj.o).then hk5⟩
           ·obtain ⟨f1, f2⟩ := str_ne hkk
            have Ji : Hid (((v.m.take (j + 1)).map (fun p => p.1)).any (fun x => decide (x = key)) = false) := qI (by rw [Jc.o]; exact decide_eq_false hkk)
            clear hkk
            go_wp2_with fail
            refine wp_region_ext wr (by kernel_rfl) (by kernel_rfl) (Kept.refl _ _) ?_
            clear c0 c1 c2 c3 c4 q0 p0 p1 p2 p3 p4 p5
            repeat go_big_quiet_step (fail)
            refine wpQuiet_nil ?_
            intro w5 hk5
            go_wp2_with fail
            case roundEnd => exact ⟨⟨j + 1, by go_num, by omega, Ji.o, Gj.o.then hk5⟩, by simp [intOf]; omega⟩
          ·obtain rfl : j = k := by omega
           go_wp2_with fail
           case roundEnd =>
            refine ⟨⟨j + 1, by go_num, by omega, ?_, Gl.o.then Gj.o⟩, by simp [intOf]; omega⟩
            rw [← HG.o, Gp.o, Gv.o]
            simp
      ·obtain rfl : k = v.m.length := by omega
       go_wp2_with fail
       go_ret
       rw [Gd.o, ← HG.o, List.drop_length]
       exact ⟨rfl, Gb.o⟩
theorem refRight_any_known : ∀ (n : Nat), refRight_anyKnown n
 | 0 => fun v {_} {_} {_} h _ => h.elim
 | n + 1 => refRight_any_step (refRight_any_known n)
theorem refRight_any : ∀ (n : Nat) (v : V n) {S : Nat → Prop} {w : World} {cs : List Value}, Rep n S w cs v → Small n v →
  Calls Tryz.prog 60 #[.agg cs.toArray] w fun e w' => e = .returned (.bool (rightV n v)) ∧ Kept [] w w' := fun n => refRight_any_known n
theorem refLarge_any {n : Nat} {v : V n} {S : Nat → Prop} {w : World} {cs : List Value} (h : Rep n S w cs v) (ht : TextsLe BB n v) :
  Calls Tryz.prog 6 #[.agg cs.toArray] w fun e w' => e = .returned (.bool (decide (6000 < largeV n 0 v))) ∧ Kept [] w w' := by
 obtain ⟨kd, nm, st, a1, b1, rfl⟩ := h.five
 obtain ⟨p1, i1, d1, p2, i2, d2, rfl, rfl⟩ := h.sl
 obtain ⟨W0, Gg⟩ : ∃ W0, Hid (W0 = w.alloc (.cells #[.int .i64 kd, .int .i64 nm, .string st, .slice p1 i1 d1, .slice p2 i2 d2] 28)) := ⟨_, qI rfl⟩
 have Ga : Hid (Kept [] w W0) := qI (by rw [Gg.o]; exact (Kept.refl [] w).alloc _)
 have CL := qI (large_any n v (h.kept0 Ga.o) ht (d := 0) (by omega))
 rw [show ((0 : Nat) : Int) = 0 from rfl] at CL
 have HF : Hid (decide ((6000 : Int) < (largeV n 0 v : Int)) = decide (6000 < largeV n 0 v)) := qI (by
  by_cases h : 6000 < largeV n 0 v
  ·rw [decide_eq_true h, decide_eq_true (by omega)]
  ·rw [decide_eq_false h, decide_eq_false (by omega)])
 clear h ht
 revert CL HF
 generalize largeV n 0 v = L
 intro CL HF
 go_enter Tryz.func6, Tryz.ntmps6
 go_wp2_with fail
 rw [← Gg.o]
 refine CL.o.mono ?_
 rintro e w2 ⟨rfl, hk2⟩
 have Gc := qI (Ga.o.then hk2)
 clear hk2
 go_wp2_with fail
 go_ret
 exact ⟨ret_bool HF.o, Gc.o⟩
theorem refCheck_any {n : Nat} {v : V n} {S : Nat → Prop} {w : World} {cs : List Value} (h : Rep n S w cs v) (hs : Small n v) (hn : n ≤ 100) :
  Calls Tryz.prog 13 #[.agg cs.toArray] w fun e w' => e = .returned (.int .i64 (checkV n v)) ∧ Kept [] w w' := by
 obtain ⟨kd, nm, st, a1, b1, rfl⟩ := h.five
 obtain ⟨p1, i1, d1, p2, i2, d2, rfl, rfl⟩ := h.sl
 obtain ⟨W0, Gg⟩ : ∃ W0, Hid (W0 = w.alloc (.cells #[.int .i64 kd, .int .i64 nm, .string st, .slice p1 i1 d1, .slice p2 i2 d2] 28)) := ⟨_, qI rfl⟩
 have Ga : Hid (Kept [] w W0) := qI (by rw [Gg.o]; exact (Kept.refl [] w).alloc _)
 have Gw : Hid (BoxAt W0 w.heap.size kd nm st (.slice p1 i1 d1) (.slice p2 i2 d2)) := qI (by rw [Gg.o]; exact box_at _ _ _ _ _ _ _)
 have C1 := qI (depth_any n v (h.kept0 Ga.o) hs hn)
 have C2 : Hid (∀ w1, Kept [] W0 w1 → _) := qI fun w1 (k : Kept [] W0 w1) => count_any n v (h.kept0 (Ga.o.trans' k)) hs
 have C3 : Hid (∀ w1, Kept [] W0 w1 → _) := qI fun w1 (k : Kept [] W0 w1) => refRight_any n v (h.kept0 (Ga.o.trans' k)) hs
 have hct := hs.1
 have hdt : depthV n v ≤ 100 := Nat.le_trans (depth_le' n v) hn
 have HC : Hid (checkV n v = if 12 < depthV n v then 41 else if 4096 < countV n v then 42 else if rightV n v then 0 else 40) := qI rfl
 clear h hs
 revert C1 C2 C3 hct hdt HC
 generalize depthV n v = D
 generalize countV n v = C
 generalize rightV n v = R
 generalize checkV n v = K
 intro C1 C2 C3 hct hdt HC
 by_cases h1 : 12 < D
 ·have h1I : (12 : Int) < D := by omega
  have HF : Hid (K = 41) := qI (by rw [HC.o, if_pos h1])
  go_enter Tryz.func13, Tryz.ntmps13
  go_wp2_with fail
  rw [← Gg.o]
  refine C1.o.mono ?_
  rintro e w2 ⟨rfl, hk2⟩
  have Gc := qI (Ga.o.then hk2)
  clear hk2
  go_wp2_with fail
  go_ret
  rw [HF.o]
  exact ⟨rfl, Gc.o⟩
 have h1I : ¬ (12 : Int) < D := by omega
 by_cases h2 : 4096 < C
 ·have h2I : (4096 : Int) < C := by omega
  have HF : Hid (K = 42) := qI (by rw [HC.o, if_neg h1, if_pos h2])
  go_enter Tryz.func13, Tryz.ntmps13
  go_wp2_with fail
  rw [← Gg.o]
  refine C1.o.mono ?_
  rintro e w2 ⟨rfl, hk2⟩
  have Gc := qI hk2
  obtain ⟨c0, c1, c2, c3, c4⟩ := Gw.o.kept0 hk2
  clear hk2
  go_wp2_with (go_at_call 59; refine (C2.o _ Gc.o).mono ?_; rintro e w3 ⟨rfl, hk3⟩)
  go_ret
  rw [HF.o]
  exact ⟨rfl, (Ga.o.then Gc.o).then hk3⟩
 have h2I : ¬ (4096 : Int) < C := by omega
 cases R with
 | true =>
  have HF : Hid (K = 0) := qI (by rw [HC.o, if_neg h1, if_neg h2, if_pos rfl])
  clear h1 h2
  go_enter Tryz.func13, Tryz.ntmps13
  go_wp2_with fail
  rw [← Gg.o]
  refine C1.o.mono ?_
  rintro e w2 ⟨rfl, hk2⟩
  have Gc := qI hk2
  obtain ⟨c0, c1, c2, c3, c4⟩ := Gw.o.kept0 hk2
  clear hk2
  go_wp2_with (first
   | (go_at_call 59; refine (C2.o _ Gc.o).mono ?_; rintro e w3 ⟨rfl, hk3⟩; have Gn := qI (Gc.o.then hk3); obtain ⟨y0, y1, y2, y3, y4⟩ := Gw.o.kept0 Gn.o; clear hk3)
   | (go_at_call 60; refine (C3.o _ Gn.o).mono ?_; rintro e w4 ⟨rfl, hk4⟩))
  go_ret
  rw [HF.o]
  exact ⟨rfl, (Ga.o.then Gn.o).then hk4⟩
 | false =>
  have HF : Hid (K = 40) := qI (by rw [HC.o, if_neg h1, if_neg h2, if_neg (by simp)])
  clear h1 h2
  go_enter Tryz.func13, Tryz.ntmps13
  go_wp2_with fail
  rw [← Gg.o]
  refine C1.o.mono ?_
  rintro e w2 ⟨rfl, hk2⟩
  have Gc := qI hk2
  obtain ⟨c0, c1, c2, c3, c4⟩ := Gw.o.kept0 hk2
  clear hk2
  go_wp2_with (first
   | (go_at_call 59; refine (C2.o _ Gc.o).mono ?_; rintro e w3 ⟨rfl, hk3⟩; have Gn := qI (Gc.o.then hk3); obtain ⟨y0, y1, y2, y3, y4⟩ := Gw.o.kept0 Gn.o; clear hk3)
   | (go_at_call 60; refine (C3.o _ Gn.o).mono ?_; rintro e w4 ⟨rfl, hk4⟩))
  go_ret
  rw [HF.o]
  exact ⟨rfl, (Ga.o.then Gn.o).then hk4⟩
def sameV (n : Nat) (a b : V n) : Bool := decide (checkV n a = 0) && (decide (checkV n b = 0) && eqV n (sortV n a) (sortV n b))
theorem same_a {n : Nat} {a b : V n} (h : checkV n a ≠ 0) : sameV n a b = false := by unfold sameV; rw [decide_eq_false h]; rfl
theorem same_b {n : Nat} {a b : V n} (h : checkV n b ≠ 0) : sameV n a b = false := by unfold sameV; rw [decide_eq_false h, Bool.false_and, Bool.and_false]
theorem same_c {n : Nat} {a b : V n} (h : checkV n a = 0) (h' : checkV n b = 0) : sameV n a b = eqV n (sortV n a) (sortV n b) := by unfold sameV; rw [decide_eq_true h, decide_eq_true h', Bool.true_and, Bool.true_and]
theorem OwnRep.said {n : Nat} {B : Nat} {w : World} {cs : List Value} {v : V n} (h : OwnRep n B w cs v) : ∃ k m s p i c q j d, cs = [.int .i64 k, .int .i64 m, .string s, .slice p i c, .slice q j d] := h.rep.conv
section
variable {n : Nat} {va vb : V n} {S T : Nat → Prop} {w : World} {ca cb : List Value}
end
theorem drop_cons {α : Type} {l : List α} {k : Nat} (h : k < l.length) : l.drop k = l[k] :: l.drop (k + 1) := List.drop_eq_getElem_cons h
theorem eqL_drop {α : Type} {r : α → α → Bool} {xs ys : List α} {k : Nat} (h : k < xs.length) (h' : k < ys.length) : eqL r (xs.drop k) (ys.drop k) = (r xs[k] ys[k] && eqL r (xs.drop (k + 1)) (ys.drop (k + 1))) := by
 rw [drop_cons h, drop_cons h']; rfl
theorem eqL_end {α : Type} {r : α → α → Bool} {xs ys : List α} (h : xs.length = ys.length) : eqL r (xs.drop xs.length) (ys.drop xs.length) = true := by
 rw [List.drop_length, h, List.drop_length]; rfl
theorem eqL_len {α : Type} {r : α → α → Bool} : ∀ {xs ys : List α}, xs.length ≠ ys.length → eqL r xs ys = false
 | [], [], h => absurd rfl h
 | [], _ :: _, _ => rfl
 | _ :: _, [], _ => rfl
 | x :: xs, y :: ys, h => by
  show (r x y && eqL r xs ys) = false
  rw [eqL_len (fun e => h (by simp [e]))]
  simp
theorem eqV_eq {n : Nat} (a b : VS (V n)) : eqV (n + 1) a b = (decide (a.kind = b.kind) && decide (a.num = b.num) && decide (a.s = b.s) && eqL (eqV n) a.l b.l && eqL (fun p q => decide (p.1 = q.1) && eqV n p.2 q.2) a.m b.m) := rfl
def exact_anyKnown (n : Nat) : Prop := ∀ (va vb : V n) {S T : Nat → Prop} {w : World} {ca cb : List Value}, Rep n S w ca va → Rep n T w cb vb → Small n va →
    Calls Tryz.prog 52 #[.agg ca.toArray, .agg cb.toArray] w fun e w' => e = .returned (.bool (eqV n va vb)) ∧ Kept [] w w'
theorem exact_any_step {n : Nat} (known : exact_anyKnown n) : exact_anyKnown (n + 1) := fun (va : VS (V n)) (vb : VS (V n)) {S} {T} {w} {ca} {cb} h h' hs => by
  have Gx := qI h
  have Jf := qI h'
  have Gr := qI hs
  obtain ⟨vl, vm, lcs, mcs, h⟩ := h
  obtain ⟨a, c, b, e, rfl, rfl, rfl⟩ := h.forms
  have H := qI h
  obtain ⟨vl', vm', lcs', mcs', h'⟩ := h'
  obtain ⟨a', c', b', e', rfl, rfl, rfl⟩ := h'.forms
  have H' := qI h'
  have IH := qI known
  have Gh := qI (eqV_eq va vb)
  obtain ⟨W2, Gm⟩ : ∃ W2, Hid (W2 = (w.alloc (.cells #[.int .i64 va.kind, .int .i64 va.num, .string va.s, .slice a va.l.length c, .slice b va.m.length e] 28)).alloc (.cells #[.int .i64 vb.kind, .int .i64 vb.num, .string vb.s, .slice a' vb.l.length c', .slice b' vb.m.length e'] 28)) := ⟨_, qI rfl⟩
  have Ga : Hid (Kept [] w W2) := qI (by rw [Gm.o]; exact ((Kept.refl [] w).alloc _).alloc _)
  have HB : Hid (BoxAt W2 w.heap.size va.kind va.num va.s (.slice a va.l.length c) (.slice b va.m.length e)) := qI (by rw [Gm.o]; exact (box_at w _ _ _ _ _ _).kept0 ((Kept.refl [] _).alloc _))
  have Je : Hid (BoxAt W2 (w.heap.size + 1) vb.kind vb.num vb.s (.slice a' vb.l.length c') (.slice b' vb.m.length e')) := qI (by rw [Gm.o]; exact box_at' (by simp) _ _ _ _ _ _)
  have hlv : va.l.length ≤ 20000 := by have := hs.few; omega
  have hmv : va.m.length ≤ 20000 := by have := hs.few; omega
  obtain ⟨c0, c1, c2, c3, c4⟩ := HB.o
  obtain ⟨d0, d1, d2, d3, d4⟩ := Je.o
  rw [Gm.o] at c0 c1 c2 c3 c4 d0 d1 d2 d3 d4
  clear h h' hs
  by_cases hkind : va.kind = vb.kind
  rotate_left
  ·obtain ⟨f1, f2⟩ := int_ne hkind
   have HF : Hid (eqV (n + 1) va vb = false) := qI (by rw [Gh.o]; simp [hkind])
   clear hkind
   go_enter Tryz.func52, Tryz.ntmps52
   go_wp2_with fail
   go_ret
   rw [HF.o, ← Gm.o]
   exact ⟨rfl, Ga.o⟩
  obtain ⟨fkind1, fkind2⟩ := int_eq hkind
  have Hhkind := qI hkind
  clear hkind
  by_cases hnum : va.num = vb.num
  rotate_left
  ·obtain ⟨f1, f2⟩ := int_ne hnum
   have HF : Hid (eqV (n + 1) va vb = false) := qI (by rw [Gh.o]; simp [hnum])
   clear hnum
   go_enter Tryz.func52, Tryz.ntmps52
   go_wp2_with fail
   go_ret
   rw [HF.o, ← Gm.o]
   exact ⟨rfl, Ga.o⟩
  obtain ⟨fnum1, fnum2⟩ := int_eq hnum
  have Hhnum := qI hnum
  clear hnum
  by_cases hstr : va.s = vb.s
  rotate_left
  ·obtain ⟨f1, f2⟩ := str_ne hstr
   have HF : Hid (eqV (n + 1) va vb = false) := qI (by rw [Gh.o]; simp [hstr])
   clear hstr
   go_enter Tryz.func52, Tryz.ntmps52
   go_wp2_with fail
   go_ret
   rw [HF.o, ← Gm.o]
   exact ⟨rfl, Ga.o⟩
  obtain ⟨fstr1, fstr2⟩ := str_eq hstr
  have Hhstr := qI hstr
  clear hstr
  by_cases hll : va.l.length = vb.l.length
  rotate_left
  ·obtain ⟨f1, f2⟩ := nat_ne hll
   have HF : Hid (eqV (n + 1) va vb = false) := qI (by rw [Gh.o, eqL_len hll]; simp)
   clear hll
   go_enter Tryz.func52, Tryz.ntmps52
   go_wp2_with fail
   go_ret
   rw [HF.o, ← Gm.o]
   exact ⟨rfl, Ga.o⟩
  obtain ⟨fll1, fll2⟩ := nat_eq hll
  have Hhll := qI hll
  clear hll
  by_cases hml : va.m.length = vb.m.length
  rotate_left
  ·obtain ⟨f1, f2⟩ := nat_ne hml
   have HF : Hid (eqV (n + 1) va vb = false) := qI (by rw [Gh.o, eqL_len hml]; simp)
   clear hml
   go_enter Tryz.func52, Tryz.ntmps52
   go_wp2_with fail
   go_ret
   rw [HF.o, ← Gm.o]
   exact ⟨rfl, Ga.o⟩
  obtain ⟨fml1, fml2⟩ := nat_eq hml
  have Hhml := qI hml
  clear hml
  have Gk : Hid (eqV (n + 1) va vb = (eqL (eqV n) va.l vb.l && eqL (fun p q => decide (p.1 = q.1) && eqV n p.2 q.2) va.m vb.m)) := qI (by rw [Gh.o]; simp [Hhkind.o, Hhnum.o, Hhstr.o])
  have hlI : (vb.l.length : Int) ≤ 20000 := by have := Hhll.o; omega
  go_enter Tryz.func52, Tryz.ntmps52
  go_wp2_with fail
  rw [← Gm.o]
  clear c0 c1 c2 c3 c4 d0 d1 d2 d3 d4 fkind1 fkind2 fnum1 fnum2 fstr1 fstr2 fll1 fll2 fml1 fml2
  go_loopw [5] (fun i wr => ∃ k : Nat, i = .int .i64 k ∧ k ≤ va.l.length ∧ eqL (eqV n) (va.l.drop k) (vb.l.drop k) = eqL (eqV n) va.l vb.l ∧ Kept [] W2 wr) (fun i _ => va.l.length - (intOf i).toNat)
  case atStart => exact ⟨0, rfl, Nat.zero_le _, rfl, Kept.refl _ _⟩
  case round =>
   obtain ⟨k, rfl, hk, hg, hkr⟩ := hrel
   have HG := qI hg
   have Gl := qI hkr
   have Gb := qI (Ga.o.trans' hkr)
   obtain ⟨c0, c1, c2, c3, c4⟩ := HB.o.kept0 hkr
   obtain ⟨d0, d1, d2, d3, d4⟩ := Je.o.kept0 hkr
   clear hg hkr
   by_cases hlt : k < va.l.length
   ·have hltI : (k : Int) < va.l.length := by omega
    have hltI' : (k : Int) < vb.l.length := by have := Hhll.o; omega
    have hlt' : k < vb.l.length := by omega
    obtain ⟨g, o, cap, kd, nm, st, a1, b1, he, q0, q1, q2, q3, q4, hr⟩ := H.o.at_l Gb.o k hlt
    simp only [Value.slice.injEq] at he
    obtain ⟨rfl, -, rfl⟩ := he
    obtain ⟨g', o', cap', kd', nm', st', a1', b1', he, p0, p1, p2, p3, p4, hr'⟩ := H'.o.at_l Gb.o k hlt'
    simp only [Value.slice.injEq] at he
    obtain ⟨rfl, -, rfl⟩ := he
    have HR := qI hr
    have Gs := qI hr'
    have Gt := qI (Gr.o.kid (mem_l (List.getElem_mem hlt)))
    have CL : ∀ z : Ext wr, Calls Tryz.prog 52 #[.agg #[.int .i64 kd, .int .i64 nm, .string st, a1, b1], .agg #[.int .i64 kd', .int .i64 nm', .string st', a1', b1']] z.w fun e w' => e = .returned (.bool (eqV n va.l[k] vb.l[k])) ∧ Kept [] z.w w' := fun z => IH.o _ _ (HR.o.kept0 z.k) (Gs.o.kept0 z.k) Gt.o
    have HD := qI (eqL_drop (r := eqV n) hlt hlt')
    clear hr hr'
    revert CL HD
    generalize eqV n va.l[k] vb.l[k] = r
    intro CL HD
    have E0 := ext_cell c3
    have E1 := ext_cell d3
    have E2 := ext_cell q0
    have E3 := ext_cell q1
    have E4 := ext_cell q2
    have E5 := ext_cell q3
    have E6 := ext_cell q4
    have E7 := ext_cell p0
    have E8 := ext_cell p1
    have E9 := ext_cell p2
    have E10 := ext_cell p3
    have E11 := ext_cell p4
    go_wp2_with fail
    refine wp_region_ext wr (by kernel_rfl) (by kernel_rfl) (Kept.refl _ _) ?_
    clear c0 c1 c2 c4 d0 d1 d2 d4 q0 q1 q2 q3 q4 p0 p1 p2 p3 p4 c3 d3
    repeat go_big_quiet_step ((go_at_call 52; exact ext_of (CL _)))
    refine wpQuiet_nil ?_
    intro w2 hk2
    cases r
    ·go_wp2_with fail
     go_ret
     rw [Gk.o, ← HG.o, HD.o]
     exact ⟨by simp, Gb.o.then hk2⟩
    ·go_wp2_with fail
     case roundEnd =>
      refine ⟨⟨k + 1, by go_num, by omega, ?_, Gl.o.then hk2⟩, by simp [intOf]; omega⟩
      rw [← HG.o, HD.o]
      simp
   ·obtain rfl : k = va.l.length := by omega
    have hnI : (vb.l.length : Int) ≤ (va.l.length : Int) := by have := Hhll.o; omega
    have Gd : Hid (eqV (n + 1) va vb = eqL (fun p q => decide (p.1 = q.1) && eqV n p.2 q.2) va.m vb.m) := qI (by rw [Gk.o, ← HG.o, eqL_end Hhll.o]; simp)
    go_wp2_with fail
    clear HG Gb c0 c1 c2 c3 c4 d0 d1 d2 d3 d4
    go_loopw [6] (fun i wr2 => ∃ k : Nat, i = .int .i64 k ∧ k ≤ va.m.length ∧ eqL (fun p q => decide (p.1 = q.1) && eqV n p.2 q.2) (va.m.drop k) (vb.m.drop k) = eqL (fun p q => decide (p.1 = q.1) && eqV n p.2 q.2) va.m vb.m ∧ Kept [] W2 wr2) (fun i _ => va.m.length - (intOf i).toNat)
    case atStart => exact ⟨0, rfl, Nat.zero_le _, rfl, Gl.o⟩
    case round =>
     obtain ⟨k, rfl, hk, hg, hkr⟩ := hrel
     clear Gl
     have HG := qI hg
     have Gl := qI hkr
     have Gb := qI (Ga.o.trans' hkr)
     obtain ⟨c0, c1, c2, c3, c4⟩ := HB.o.kept0 hkr
     obtain ⟨d0, d1, d2, d3, d4⟩ := Je.o.kept0 hkr
     clear hg hkr
     by_cases hlt : k < va.m.length
     ·have hltI : (k : Int) < va.m.length := by omega
      have hltI' : (k : Int) < vb.m.length := by have := Hhml.o; omega
      have hlt' : k < vb.m.length := by omega
      obtain ⟨g, o, cap, kd, nm, st, a1, b1, he, q0, q1, q2, q3, q4, q5, hr⟩ := H.o.at_m Gb.o k hlt
      simp only [Value.slice.injEq] at he
      obtain ⟨rfl, -, rfl⟩ := he
      obtain ⟨g', o', cap', kd', nm', st', a1', b1', he, p0, p1, p2, p3, p4, p5, hr'⟩ := H'.o.at_m Gb.o k hlt'
      simp only [Value.slice.injEq] at he
      obtain ⟨rfl, -, rfl⟩ := he
      have HR := qI hr
      have Gs := qI hr'
      have Gt := qI (Gr.o.kid (mem_m (List.getElem_mem hlt)))
      have HD := qI (eqL_drop (r := fun p q : ByteArray × V n => decide (p.1 = q.1) && eqV n p.2 q.2) hlt hlt')
      clear hr hr'
      revert q0 p0 HR Gs Gt HD
      generalize va.m[k] = x
      generalize vb.m[k] = y
      obtain ⟨key, x⟩ := x
      obtain ⟨key', y⟩ := y
      intro p0 q0 HR Gs Gt HD
      simp only at q0 p0 HR Gs Gt HD
      have CL : ∀ z : Ext wr, Calls Tryz.prog 52 #[.agg #[.int .i64 kd, .int .i64 nm, .string st, a1, b1], .agg #[.int .i64 kd', .int .i64 nm', .string st', a1', b1']] z.w fun e w' => e = .returned (.bool (eqV n x y)) ∧ Kept [] z.w w' := fun z => IH.o _ _ (HR.o.kept0 z.k) (Gs.o.kept0 z.k) Gt.o
      have E0 := ext_cell c4
      have E1 := ext_cell d4
      have E2 := ext_cell q0
      have E3 := ext_cell q1
      have E4 := ext_cell q2
      have E5 := ext_cell q3
      have E6 := ext_cell q4
      have E7 := ext_cell q5
      have E8 := ext_cell p0
      have E9 := ext_cell p1
      have E10 := ext_cell p2
      have E11 := ext_cell p3
      have E12 := ext_cell p4
      have E13 := ext_cell p5
      by_cases hkey : key = key'
      ·obtain ⟨fk1, fk2⟩ := str_eq hkey
       have Gp : Hid (eqL (fun p q => decide (p.1 = q.1) && eqV n p.2 q.2) (va.m.drop k) (vb.m.drop k) = (eqV n x y && eqL (fun p q => decide (p.1 = q.1) && eqV n p.2 q.2) (va.m.drop (k + 1)) (vb.m.drop (k + 1)))) := qI (by rw [HD.o, decide_eq_true hkey, Bool.true_and])
       clear hkey HD
       revert CL Gp
       generalize eqV n x y = r
       intro CL Gp
       go_wp2_with fail
       refine wp_region_ext wr (by kernel_rfl) (by kernel_rfl) (Kept.refl _ _) ?_
       clear c0 c1 c2 c4 d0 d1 d2 d4 q0 q1 q2 q3 q4 q5 p0 p1 p2 p3 p4 p5 c3 d3
       repeat go_big_quiet_step ((go_at_call 52; exact ext_of (CL _)))
       refine wpQuiet_nil ?_
       intro w2 hk2
       cases r
       ·go_wp2_with fail
        go_ret
        rw [Gd.o, ← HG.o, Gp.o]
        exact ⟨by simp, Gb.o.then hk2⟩
       ·go_wp2_with fail
        case roundEnd =>
         refine ⟨⟨k + 1, by go_num, by omega, ?_, Gl.o.then hk2⟩, by simp [intOf]; omega⟩
         rw [← HG.o, Gp.o]
         simp
      ·obtain ⟨fk1, fk2⟩ := str_ne hkey
       have Gp : Hid (eqL (fun p q => decide (p.1 = q.1) && eqV n p.2 q.2) (va.m.drop k) (vb.m.drop k) = false) := qI (by rw [HD.o, decide_eq_false hkey]; simp)
       clear hkey HD CL
       go_wp2_with fail
       refine wp_region_ext wr (by kernel_rfl) (by kernel_rfl) (Kept.refl _ _) ?_
       clear c0 c1 c2 c4 d0 d1 d2 d4 q0 q1 q2 q3 q4 q5 p0 p1 p2 p3 p4 p5 c3 d3
       repeat go_big_quiet_step (fail)
       refine wpQuiet_nil ?_
       intro w2 hk2
       go_wp2_with fail
       go_ret
       rw [Gd.o, ← HG.o, Gp.o]
       exact ⟨rfl, Gb.o.then hk2⟩
     ·obtain rfl : k = va.m.length := by omega
      have hnI2 : (vb.m.length : Int) ≤ (va.m.length : Int) := by have := Hhml.o; omega
      go_wp2_with fail
      go_ret
      rw [Gd.o, ← HG.o, eqL_end Hhml.o]
      exact ⟨rfl, Gb.o⟩
theorem exact_any_known : ∀ (n : Nat), exact_anyKnown n
 | 0 => fun v _ {_} {_} {_} {_} {_} h _ _ => h.elim
 | n + 1 => exact_any_step (exact_any_known n)
theorem exact_any : ∀ (n : Nat) (va vb : V n) {S T : Nat → Prop} {w : World} {ca cb : List Value}, Rep n S w ca va → Rep n T w cb vb → Small n va →
  Calls Tryz.prog 52 #[.agg ca.toArray, .agg cb.toArray] w fun e w' => e = .returned (.bool (eqV n va vb)) ∧ Kept [] w w' := fun n => exact_any_known n
section
variable {n : Nat} {va vb : V n} {S T : Nat → Prop} {w : World} {ca cb : List Value}
theorem refSame_any (h : Rep n S w ca va) (h' : Rep n T w cb vb) (hs : Small n va) (hs' : Small n vb) (hn : n ≤ 100) :
  Calls Tryz.prog 11 #[.agg ca.toArray, .agg cb.toArray] w fun e w' => e = .returned (.bool (sameV n va vb)) ∧ Kept [] w w' := by
 obtain ⟨kd, nm, st, a, la, ea, b, lb, eb, rfl⟩ := h.conv
 obtain ⟨kd', nm', st', a', la', ea', b', lb', eb', rfl⟩ := h'.conv
 obtain ⟨W0, Gg⟩ : ∃ W0, Hid (W0 = (w.alloc (.cells #[.int .i64 kd, .int .i64 nm, .string st, .slice a la ea, .slice b lb eb] 28)).alloc (.cells #[.int .i64 kd', .int .i64 nm', .string st', .slice a' la' ea', .slice b' lb' eb'] 28)) := ⟨_, qI rfl⟩
 have Ga : Hid (Kept [] w W0) := qI (by rw [Gg.o]; exact ((Kept.refl [] w).alloc _).alloc _)
 have hA : BoxAt W0 w.heap.size kd nm st (.slice a la ea) (.slice b lb eb) := by rw [Gg.o]; exact (box_at _ _ _ _ _ _ _).kept0 ((Kept.refl [] _).alloc _)
 have hB : BoxAt W0 (w.heap.size + 1) kd' nm' st' (.slice a' la' ea') (.slice b' lb' eb') := by rw [Gg.o]; exact box_at' (by simp) _ _ _ _ _ _
 have CA : Hid (∀ w1, Kept [] W0 w1 → _) := qI (fun w1 (k : Kept [] W0 w1) => refCheck_any ((h.kept0 Ga.o).kept0 k) hs hn)
 have CB : Hid (∀ w1, Kept [] W0 w1 → _) := qI (fun w1 (k : Kept [] W0 w1) => refCheck_any ((h'.kept0 Ga.o).kept0 k) hs' hn)
 have SA : Hid (∀ w1, Kept [] W0 w1 → rightV n va = true → _) := qI (fun w1 (k : Kept [] W0 w1) (hr : rightV n va = true) => refSort_any n va ((h.kept0 Ga.o).kept0 k) hs hr)
 have SB : Hid (∀ w1, Kept [] W0 w1 → rightV n vb = true → _) := qI (fun w1 (k : Kept [] W0 w1) (hr : rightV n vb = true) => refSort_any n vb ((h'.kept0 Ga.o).kept0 k) hs' hr)
 have Gr := qI (small_sort hs)
 obtain ⟨a0, a1, a2, a3, a4⟩ := hA
 obtain ⟨b0, b1, b2, b3, b4⟩ := hB
 clear h h' hs hs'
 go_enter Tryz.func11, Tryz.ntmps11
 go_wp2_with fail
 rw [← Gg.o]
 refine wp_region_last' (n := 16) (fun w' : World => Kept [] W0 w') 16 (by kernel_rfl) (by kernel_rfl) ?_
 change wpAnyT _ _ _ _ _ _ _ _ _ W0.drew
 have hSS : (fun w' : World => Kept [] W0 w') W0.drew := (Kept.refl [] W0).drew
 revert hSS
 generalize W0.drew = W1
 intro hSS
 refine wpAnyT_start ?_
 intro O R hO hR
 have hQp : ∀ c a (d : Nat) v w, R (.panic c) (a.put (some d) v) w → R (.panic c) a w := by subst hR; exact fun _ _ _ _ _ h => h
 refine wpAnyT_take' (i := 0) (v := ?_) hO rfl rfl (by kernel_rfl) (by kernel_rfl) (by kernel_rfl) (by kernel_rfl) hQp (Or.inl ⟨by kernel_rfl, fun w hSw => ?_⟩) hSS ?_
 rotate_left
 ·have s0 := hSw.cell a0 (by simp); have s1 := hSw.cell a1 (by simp); have s2 := hSw.cell a2 (by simp); have s3 := hSw.cell a3 (by simp); have s4 := hSw.cell a4 (by simp); go_simp; try with_reducible rfl
 try simp only [zA,zN,zB,zC,zD]
 refine wpAnyT_one' (i := 1) hO rfl (by kernel_rfl) (by kernel_rfl) (fun K hK => ?_)
 go_simp
 refine Calls.mono (CA.o _ hSS) ?_
 rintro e w1 ⟨rfl, hk1⟩
 have hS1 : (fun w' : World => Kept [] W0 w') w1 := hSS.then hk1
 refine hK _ _ (.inr hS1) ?_
 clear hK K
 try simp only [zA,zN,zB,zC,zD]
 clear hSS hk1
 by_cases hca : checkV n va = 0
 rotate_left
 ·have HR := qI (same_a (b := vb) hca)
  obtain ⟨f1, f2⟩ := int_ne hca
  clear hca
  have hSS := hS1
  refine wpAnyT_take' (i := 2) (v := ?_) hO rfl rfl (by kernel_rfl) (by kernel_rfl) (by kernel_rfl) (by kernel_rfl) hQp (Or.inl ⟨by kernel_rfl, fun w hSw => ?_⟩) hSS ?_
  rotate_left
  ·go_simp; try with_reducible rfl
  try simp only [zA,zN,zB,zC,zD]
  refine wpAnyT_take' (i := 3) (v := ?_) hO rfl rfl (by kernel_rfl) (by kernel_rfl) (by kernel_rfl) (by kernel_rfl) hQp (Or.inl ⟨by kernel_rfl, fun w hSw => ?_⟩) hSS ?_
  rotate_left
  ·go_simp; try with_reducible rfl
  try simp only [zA,zN,zB,zC,zD]
  refine wpAnyT_take' (i := 4) (v := undef) hO rfl rfl (by kernel_rfl) (by kernel_rfl) (by kernel_rfl) (by kernel_rfl) hQp (Or.inr ⟨by kernel_rfl, rfl⟩) hSS ?_
  try simp only [zA,zN,zB,zC,zD]
  refine wpAnyT_take' (i := 5) (v := undef) hO rfl rfl (by kernel_rfl) (by kernel_rfl) (by kernel_rfl) (by kernel_rfl) hQp (Or.inr ⟨by kernel_rfl, rfl⟩) hSS ?_
  try simp only [zA,zN,zB,zC,zD]
  refine wpAnyT_take' (i := 6) (v := undef) hO rfl rfl (by kernel_rfl) (by kernel_rfl) (by kernel_rfl) (by kernel_rfl) hQp (Or.inr ⟨by kernel_rfl, rfl⟩) hSS ?_
  try simp only [zA,zN,zB,zC,zD]
  refine wpAnyT_take' (i := 7) (v := ?_) hO rfl rfl (by kernel_rfl) (by kernel_rfl) (by kernel_rfl) (by kernel_rfl) hQp (Or.inl ⟨by kernel_rfl, fun w hSw => ?_⟩) hSS ?_
  rotate_left
  ·go_simp; try with_reducible rfl
  try simp only [zA,zN,zB,zC,zD]
  refine wpAnyT_take' (i := 8) (v := ?_) hO rfl rfl (by kernel_rfl) (by kernel_rfl) (by kernel_rfl) (by kernel_rfl) hQp (Or.inl ⟨by kernel_rfl, fun w hSw => ?_⟩) hSS ?_
  rotate_left
  ·go_simp; try with_reducible rfl
  try simp only [zA,zN,zB,zC,zD]
  refine wpAnyT_take' (i := 9) (v := undef) hO rfl rfl (by kernel_rfl) (by kernel_rfl) (by kernel_rfl) (by kernel_rfl) hQp (Or.inr ⟨by kernel_rfl, rfl⟩) hSS ?_
  try simp only [zA,zN,zB,zC,zD]
  refine wpAnyT_take' (i := 10) (v := undef) hO rfl rfl (by kernel_rfl) (by kernel_rfl) (by kernel_rfl) (by kernel_rfl) hQp (Or.inr ⟨by kernel_rfl, rfl⟩) hSS ?_
  try simp only [zA,zN,zB,zC,zD]
  refine wpAnyT_take' (i := 11) (v := undef) hO rfl rfl (by kernel_rfl) (by kernel_rfl) (by kernel_rfl) (by kernel_rfl) hQp (Or.inr ⟨by kernel_rfl, rfl⟩) hSS ?_
  try simp only [zA,zN,zB,zC,zD]
  refine wpAnyT_take' (i := 12) (v := undef) hO rfl rfl (by kernel_rfl) (by kernel_rfl) (by kernel_rfl) (by kernel_rfl) hQp (Or.inr ⟨by kernel_rfl, rfl⟩) hSS ?_
  try simp only [zA,zN,zB,zC,zD]
  refine wpAnyT_take' (i := 13) (v := undef) hO rfl rfl (by kernel_rfl) (by kernel_rfl) (by kernel_rfl) (by kernel_rfl) hQp (Or.inr ⟨by kernel_rfl, rfl⟩) hSS ?_
  try simp only [zA,zN,zB,zC,zD]
  refine wpAnyT_take' (i := 14) (v := ?_) hO rfl rfl (by kernel_rfl) (by kernel_rfl) (by kernel_rfl) (by kernel_rfl) hQp (Or.inl ⟨by kernel_rfl, fun w hSw => ?_⟩) hSS ?_
  rotate_left
  ·go_simp; try with_reducible rfl
  try simp only [zA,zN,zB,zC,zD]
  refine wpAnyT_take' (i := 15) (v := ?_) hO rfl rfl (by kernel_rfl) (by kernel_rfl) (by kernel_rfl) (by kernel_rfl) hQp (Or.inl ⟨by kernel_rfl, fun w hSw => ?_⟩) hSS ?_
  rotate_left
  ·go_simp; try with_reducible rfl
  try simp only [zA,zN,zB,zC,zD]
  refine wpAnyT_done' hO (by kernel_rfl) ?_ _
  subst hR
  try clear hQp hO O
  clear f1 f2
  go_wp2_with fail
  go_ret
  rw [HR.o]
  exact ⟨rfl, Ga.o.then hS1⟩
 have Jg := qI hca
 rw [hca]
 clear hca
 have hSS := hS1
 clear hS1
 refine wpAnyT_take' (i := 2) (v := ?_) hO rfl rfl (by kernel_rfl) (by kernel_rfl) (by kernel_rfl) (by kernel_rfl) hQp (Or.inl ⟨by kernel_rfl, fun w hSw => ?_⟩) hSS ?_
 rotate_left
 ·go_simp; try with_reducible rfl
 try simp only [zA,zN,zB,zC,zD]
 refine wpAnyT_take' (i := 3) (v := ?_) hO rfl rfl (by kernel_rfl) (by kernel_rfl) (by kernel_rfl) (by kernel_rfl) hQp (Or.inl ⟨by kernel_rfl, fun w hSw => ?_⟩) hSS ?_
 rotate_left
 ·go_simp; try with_reducible rfl
 try simp only [zA,zN,zB,zC,zD]
 refine wpAnyT_take' (i := 4) (v := ?_) hO rfl rfl (by kernel_rfl) (by kernel_rfl) (by kernel_rfl) (by kernel_rfl) hQp (Or.inl ⟨by kernel_rfl, fun w hSw => ?_⟩) hSS ?_
 rotate_left
 ·have s0 := hSw.cell b0 (by simp); have s1 := hSw.cell b1 (by simp); have s2 := hSw.cell b2 (by simp); have s3 := hSw.cell b3 (by simp); have s4 := hSw.cell b4 (by simp); go_simp; try with_reducible rfl
 try simp only [zA,zN,zB,zC,zD]
 refine wpAnyT_one' (i := 5) hO rfl (by kernel_rfl) (by kernel_rfl) (fun K hK => ?_)
 go_simp
 refine Calls.mono (CB.o _ hSS) ?_
 rintro e w2 ⟨rfl, hk2⟩
 have hS1 : (fun w' : World => Kept [] W0 w') w2 := hSS.then hk2
 refine hK _ _ (.inr hS1) ?_
 clear hK K
 try simp only [zA,zN,zB,zC,zD]
 clear hSS hk2
 by_cases hcb : checkV n vb = 0
 rotate_left
 ·have HR := qI (same_b (a := va) hcb)
  obtain ⟨f1, f2⟩ := int_ne hcb
  clear hcb
  have hSS := hS1
  refine wpAnyT_take' (i := 6) (v := ?_) hO rfl rfl (by kernel_rfl) (by kernel_rfl) (by kernel_rfl) (by kernel_rfl) hQp (Or.inl ⟨by kernel_rfl, fun w hSw => ?_⟩) hSS ?_
  rotate_left
  ·go_simp; try with_reducible rfl
  try simp only [zA,zN,zB,zC,zD]
  refine wpAnyT_take' (i := 7) (v := ?_) hO rfl rfl (by kernel_rfl) (by kernel_rfl) (by kernel_rfl) (by kernel_rfl) hQp (Or.inl ⟨by kernel_rfl, fun w hSw => ?_⟩) hSS ?_
  rotate_left
  ·go_simp; try with_reducible rfl
  try simp only [zA,zN,zB,zC,zD]
  refine wpAnyT_take' (i := 8) (v := ?_) hO rfl rfl (by kernel_rfl) (by kernel_rfl) (by kernel_rfl) (by kernel_rfl) hQp (Or.inl ⟨by kernel_rfl, fun w hSw => ?_⟩) hSS ?_
  rotate_left
  ·go_simp; try with_reducible rfl
  try simp only [zA,zN,zB,zC,zD]
  refine wpAnyT_take' (i := 9) (v := undef) hO rfl rfl (by kernel_rfl) (by kernel_rfl) (by kernel_rfl) (by kernel_rfl) hQp (Or.inr ⟨by kernel_rfl, rfl⟩) hSS ?_
  try simp only [zA,zN,zB,zC,zD]
  refine wpAnyT_take' (i := 10) (v := undef) hO rfl rfl (by kernel_rfl) (by kernel_rfl) (by kernel_rfl) (by kernel_rfl) hQp (Or.inr ⟨by kernel_rfl, rfl⟩) hSS ?_
  try simp only [zA,zN,zB,zC,zD]
  refine wpAnyT_take' (i := 11) (v := undef) hO rfl rfl (by kernel_rfl) (by kernel_rfl) (by kernel_rfl) (by kernel_rfl) hQp (Or.inr ⟨by kernel_rfl, rfl⟩) hSS ?_
  try simp only [zA,zN,zB,zC,zD]
  refine wpAnyT_take' (i := 12) (v := undef) hO rfl rfl (by kernel_rfl) (by kernel_rfl) (by kernel_rfl) (by kernel_rfl) hQp (Or.inr ⟨by kernel_rfl, rfl⟩) hSS ?_
  try simp only [zA,zN,zB,zC,zD]
  refine wpAnyT_take' (i := 13) (v := undef) hO rfl rfl (by kernel_rfl) (by kernel_rfl) (by kernel_rfl) (by kernel_rfl) hQp (Or.inr ⟨by kernel_rfl, rfl⟩) hSS ?_
  try simp only [zA,zN,zB,zC,zD]
  refine wpAnyT_take' (i := 14) (v := ?_) hO rfl rfl (by kernel_rfl) (by kernel_rfl) (by kernel_rfl) (by kernel_rfl) hQp (Or.inl ⟨by kernel_rfl, fun w hSw => ?_⟩) hSS ?_
  rotate_left
  ·go_simp; try with_reducible rfl
  try simp only [zA,zN,zB,zC,zD]
  refine wpAnyT_take' (i := 15) (v := ?_) hO rfl rfl (by kernel_rfl) (by kernel_rfl) (by kernel_rfl) (by kernel_rfl) hQp (Or.inl ⟨by kernel_rfl, fun w hSw => ?_⟩) hSS ?_
  rotate_left
  ·go_simp; try with_reducible rfl
  try simp only [zA,zN,zB,zC,zD]
  refine wpAnyT_done' hO (by kernel_rfl) ?_ _
  subst hR
  try clear hQp hO O
  clear f1 f2
  go_wp2_with fail
  go_ret
  rw [HR.o]
  exact ⟨rfl, Ga.o.then hS1⟩
 have HR := qI (same_c Jg.o hcb)
 have Jj := qI hcb
 rw [hcb]
 clear hcb
 have hSS := hS1
 clear hS1
 refine wpAnyT_take' (i := 6) (v := ?_) hO rfl rfl (by kernel_rfl) (by kernel_rfl) (by kernel_rfl) (by kernel_rfl) hQp (Or.inl ⟨by kernel_rfl, fun w hSw => ?_⟩) hSS ?_
 rotate_left
 ·go_simp; try with_reducible rfl
 try simp only [zA,zN,zB,zC,zD]
 refine wpAnyT_take' (i := 7) (v := ?_) hO rfl rfl (by kernel_rfl) (by kernel_rfl) (by kernel_rfl) (by kernel_rfl) hQp (Or.inl ⟨by kernel_rfl, fun w hSw => ?_⟩) hSS ?_
 rotate_left
 ·go_simp; try with_reducible rfl
 try simp only [zA,zN,zB,zC,zD]
 refine wpAnyT_take' (i := 8) (v := ?_) hO rfl rfl (by kernel_rfl) (by kernel_rfl) (by kernel_rfl) (by kernel_rfl) hQp (Or.inl ⟨by kernel_rfl, fun w hSw => ?_⟩) hSS ?_
 rotate_left
 ·go_simp; try with_reducible rfl
 try simp only [zA,zN,zB,zC,zD]
 refine wpAnyT_take' (i := 9) (v := ?_) hO rfl rfl (by kernel_rfl) (by kernel_rfl) (by kernel_rfl) (by kernel_rfl) hQp (Or.inl ⟨by kernel_rfl, fun w hSw => ?_⟩) hSS ?_
 rotate_left
 ·have s0 := hSw.cell a0 (by simp); have s1 := hSw.cell a1 (by simp); have s2 := hSw.cell a2 (by simp); have s3 := hSw.cell a3 (by simp); have s4 := hSw.cell a4 (by simp); go_simp; try with_reducible rfl
 try simp only [zA,zN,zB,zC,zD]
 refine wpAnyT_take' (i := 11) (v := ?_) hO rfl rfl (by kernel_rfl) (by kernel_rfl) (by kernel_rfl) (by kernel_rfl) hQp (Or.inl ⟨by kernel_rfl, fun w hSw => ?_⟩) hSS ?_
 rotate_left
 ·have s0 := hSw.cell b0 (by simp); have s1 := hSw.cell b1 (by simp); have s2 := hSw.cell b2 (by simp); have s3 := hSw.cell b3 (by simp); have s4 := hSw.cell b4 (by simp); go_simp; try with_reducible rfl
 try simp only [zA,zN,zB,zC,zD]
 refine wpAnyT_one' (i := 10) hO rfl (by kernel_rfl) (by kernel_rfl) (fun K hK => ?_)
 go_simp
 refine Calls.mono (SA.o _ hSS (check_right Jg.o)) ?_
 rintro e w3 ⟨⟨cs3, rfl, ho3⟩, hk3⟩
 obtain ⟨k3, m3, s3, p3, i3, c3, q3, j3, d3, rfl⟩ := ho3.said
 have Jk := qI ho3
 have hS1 : (fun w' : World => Kept [] W0 w') w3 := hSS.then hk3
 refine hK _ _ (.inr hS1) ?_
 clear hK K
 try simp only [zA,zN,zB,zC,zD]
 clear hSS hk3 ho3
 have hSS := hS1
 clear hS1
 refine wpAnyT_one' (i := 12) hO rfl (by kernel_rfl) (by kernel_rfl) (fun K hK => ?_)
 go_simp
 refine Calls.mono (SB.o _ hSS (check_right Jj.o)) ?_
 rintro e w4 ⟨⟨cs4, rfl, ho4⟩, hk4⟩
 obtain ⟨k4, m4, s4, p4, i4, c4, q4, j4, d4, rfl⟩ := ho4.said
 have CE := qI (exact_any n (sortV n va) (sortV n vb) (Jk.o.rep.kept0 hk4) ho4.rep Gr.o)
 have hS1 : (fun w' : World => Kept [] W0 w') w4 := hSS.then hk4
 refine hK _ _ (.inr hS1) ?_
 clear hK K
 try simp only [zA,zN,zB,zC,zD]
 clear hSS hk4 ho4
 have hSS := hS1
 clear hS1
 refine wpAnyT_one' (i := 13) hO rfl (by kernel_rfl) (by kernel_rfl) (fun K hK => ?_)
 go_simp
 refine Calls.mono CE.o ?_
 rintro e w5 ⟨rfl, hk5⟩
 have hS1 : (fun w' : World => Kept [] W0 w') w5 := hSS.then hk5
 refine hK _ _ (.inr hS1) ?_
 clear hK K
 try simp only [zA,zN,zB,zC,zD]
 clear hSS hk5
 have hSS := hS1
 refine wpAnyT_take' (i := 14) (v := ?_) hO rfl rfl (by kernel_rfl) (by kernel_rfl) (by kernel_rfl) (by kernel_rfl) hQp (Or.inl ⟨by kernel_rfl, fun w hSw => ?_⟩) hSS ?_
 rotate_left
 ·go_simp; try with_reducible rfl
 try simp only [zA,zN,zB,zC,zD]
 refine wpAnyT_take' (i := 15) (v := ?_) hO rfl rfl (by kernel_rfl) (by kernel_rfl) (by kernel_rfl) (by kernel_rfl) hQp (Or.inl ⟨by kernel_rfl, fun w hSw => ?_⟩) hSS ?_
 rotate_left
 ·go_simp; try with_reducible rfl
 try simp only [zA,zN,zB,zC,zD]
 refine wpAnyT_done' hO (by kernel_rfl) ?_ _
 subst hR
 try clear hQp hO O
 go_wp2_with fail
 go_ret
 rw [HR.o]
 exact ⟨rfl, Ga.o.then hS1⟩
end
end Go.Proofs.YtckbnjipecclaaaGreatDoor

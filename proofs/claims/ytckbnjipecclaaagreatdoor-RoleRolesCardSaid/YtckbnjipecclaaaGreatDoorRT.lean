/- Parts of one proof, merged: XGC XGD XGE. -/
import Derived.Test.YtckbnjipecclaaaGreatDoorRS
import Derived.Test.YtckbnjipecclaaaGreatDoorRP
import Derived.Test.YtckbnjipecclaaaGreatDoorRC
import Derived.Test.YtckbnjipecclaaaGreatDoorRK
import Derived.Test.YtckbnjipecclaaaGreatDoorRG
import Derived.Deep.DeepCutAuto
import Derived.Deep.CutBlock
set_option linter.all false
set_option maxHeartbeats 12800000
set_option maxRecDepth 10000
set_option linter.unusedVariables false
set_option linter.unusedSimpArgs false
set_option linter.unnecessarySimpa false
namespace Go.Proofs.YtckbnjipecclaaaGreatDoor
open Go.RowKit
theorem fint_rget {n : Nat} (v : VS (V n)) (bad : Bool) (s : ByteArray) (lo hi : Int) : fint v bad s lo hi = match rget v bad s 3 with
  | (none, _) => (0, true)
  | (some x, _) => if lo ≤ numV n x ∧ numV n x ≤ hi then (numV n x, false) else (0, true) := by
 unfold fint
 rw [fget_rget]
 rcases rget_two v bad s 3 with h | ⟨x, h⟩ <;> rw [h]
 simp only [Bool.and_eq_true, decide_eq_true_eq]
 by_cases q : lo ≤ numV n x ∧ numV n x ≤ hi
 ·rw [if_pos q, if_pos q]
 ·rw [if_neg q, if_neg q]
theorem flist_rget {n : Nat} (v : VS (V n)) (bad : Bool) (s : ByteArray) (most : Int) : flist v bad s most = match rget v bad s 5 with
  | (none, _) => (none, true)
  | (some x, _) => if (lenV n x : Int) ≤ most then (some x, false) else (none, true) := by
 unfold flist
 rw [fget_rget]
 rcases rget_two v bad s 5 with h | ⟨x, h⟩ <;> rw [h]
 simp only [decide_eq_true_eq]
section
variable {n : Nat} {w : World} {g : Nat} {v : VS (V n)} {bad : Bool}
theorem rint_any (h : FldR n w g v bad) (hl : v.m.length ≤ 1000000) (s : ByteArray) (lo hi : Int) :
  Calls Tryz.prog 49 #[.pointer (some ⟨g, 0, none⟩), .string s, .int .i64 lo, .int .i64 hi] w fun e w' => e = .returned (.int .i64 (fint v bad s lo hi).1) ∧ FldR n w' g v (fint v bad s lo hi).2 ∧ Kept [g] w w' := by
 have CG := qI (rget_any h hl s 3)
 have HF := qI (fint_rget v bad s lo hi)
 clear h hl
 rcases rget_two v bad s 3 with hr | ⟨x, hr⟩
 ·rw [hr] at CG HF
  simp only at CG HF
  clear hr
  go_enter Tryz.func49, Tryz.ntmps49
  go_upto_region 2 with (go_at_call 93; refine CG.o.mono ?_; rintro e w2 ⟨he, hf, hk2⟩; change e = _ at he; subst he; unfold zero5; have Gd := qI hf; have Ge := qI hk2; clear hf hk2)
  obtain ⟨w3, Gb⟩ : ∃ w3, Hid (w3 = w2.alloc (.cells #[.int .i64 0, .int .i64 0, .string ⟨#[]⟩, .slice none 0 0, .slice none 0 0] 28)) := ⟨_, qI rfl⟩
  have Gc : Hid (Kept [] w2 w3) := qI (by rw [Gb.o]; exact (Kept.refl _ _).alloc _)
  have Ga := qI (Gd.o.kept0 Gc.o)
  rw [← Gb.o]
  obtain ⟨c5, f5⟩ := Ga.o.c5
  go_wp2_with fail
  go_ret
  rw [HF.o]
  exact ⟨rfl, Ga.o.put true, (Ge.o.trans' (Gc.o.mono (by simp))).trans' ((Kept.refl [g] w3).setCell (.inl (by simp)) _)⟩
 ·rw [hr] at CG HF
  simp only at CG HF
  clear hr
  obtain ⟨z, HZ⟩ : ∃ z, Hid (z = numV n x) := ⟨_, qI rfl⟩
  rw [← HZ.o] at HF
  by_cases hq : lo ≤ z ∧ z ≤ hi
  all_goals first | rw [if_pos hq] at HF | rw [if_neg hq] at HF
  ·obtain ⟨q1, q2⟩ := hq
   go_enter Tryz.func49, Tryz.ntmps49
   go_upto_region 2 with (go_at_call 93; refine CG.o.mono ?_; rintro e w2 ⟨⟨cs, he, ho⟩, hf, hk2⟩; obtain ⟨s3, p3, c3, q3, j3, d3, rfl, hs3⟩ := ho.gone; subst he; rw [← HZ.o]; have Gd := qI hf; have Ge := qI hk2; clear ho hs3; clear hf hk2)
   generalize kindV n x = kd
   generalize lenV n x = ln
   obtain ⟨w3, Gb⟩ : ∃ w3, Hid (w3 = w2.alloc (.cells #[.int .i64 kd, .int .i64 z, .string s3, .slice p3 ln c3, .slice q3 j3 d3] 28)) := ⟨_, qI rfl⟩
   have Gc : Hid (Kept [] w2 w3) := qI (by rw [Gb.o]; exact (Kept.refl _ _).alloc _)
   have Gh : Hid (BoxAt w3 w2.heap.size kd z s3 (.slice p3 ln c3) (.slice q3 j3 d3)) := qI (by rw [Gb.o]; exact box_at _ _ _ _ _ _ _)
   have Ga := qI (Gd.o.kept0 Gc.o)
   rw [← Gb.o]
   obtain ⟨c5, f5⟩ := Ga.o.c5
   obtain ⟨b0, b1, b2, b3, b4⟩ := Gh.o
   go_wp2_with fail
   go_ret
   rw [HF.o]
   exact ⟨rfl, Ga.o, Ge.o.trans' (Gc.o.mono (by simp))⟩
  ·have hq2 : z < lo ∨ (¬ z < lo ∧ hi < z) := by omega
   clear hq
   rcases hq2 with q1 | ⟨q1, q2⟩
   all_goals
    go_enter Tryz.func49, Tryz.ntmps49
    go_upto_region 2 with (go_at_call 93; refine CG.o.mono ?_; rintro e w2 ⟨⟨cs, he, ho⟩, hf, hk2⟩; obtain ⟨s3, p3, c3, q3, j3, d3, rfl, hs3⟩ := ho.gone; subst he; rw [← HZ.o]; have Gd := qI hf; have Ge := qI hk2; clear ho hs3; clear hf hk2)
    generalize kindV n x = kd
    generalize lenV n x = ln
    obtain ⟨w3, Gb⟩ : ∃ w3, Hid (w3 = w2.alloc (.cells #[.int .i64 kd, .int .i64 z, .string s3, .slice p3 ln c3, .slice q3 j3 d3] 28)) := ⟨_, qI rfl⟩
    have Gc : Hid (Kept [] w2 w3) := qI (by rw [Gb.o]; exact (Kept.refl _ _).alloc _)
    have Gh : Hid (BoxAt w3 w2.heap.size kd z s3 (.slice p3 ln c3) (.slice q3 j3 d3)) := qI (by rw [Gb.o]; exact box_at _ _ _ _ _ _ _)
    have Ga := qI (Gd.o.kept0 Gc.o)
    rw [← Gb.o]
    obtain ⟨c5, f5⟩ := Ga.o.c5
    obtain ⟨b0, b1, b2, b3, b4⟩ := Gh.o
    go_wp2_with fail
    go_ret
    rw [HF.o]
    exact ⟨rfl, Ga.o.put true, (Ge.o.trans' (Gc.o.mono (by simp))).trans' ((Kept.refl [g] w3).setCell (.inl (by simp)) _)⟩
end
section
variable {n : Nat} {w : World} {g : Nat} {v : VS (V (n + 1))} {bad : Bool}
theorem items_rep {n : Nat} {S : Nat → Prop} {w : World} {x : V (n + 1)} {k m : Int} {s : ByteArray} {p : Option Addr} {l c : Nat} {b : Value} (h : Rep (n + 1) S w [.int .i64 k, .int .i64 m, .string s, .slice p l c, b] x) : l = (itemsV (some x)).length ∧ ∃ lcs, ItemsIn S w p c (itemsV (some x)) lcs := by
 obtain ⟨vl, vm, lcs, mcs, h2⟩ := Rep.open_ (v := (x : VS (V n))) h
 have e := h2.cells
 simp only [List.cons.injEq, and_true] at e
 obtain ⟨-, -, -, rfl, -⟩ := e
 obtain ⟨p', c', e2, -, -⟩ := h2.slcl.form
 simp only [Value.slice.injEq] at e2
 obtain ⟨rfl, rfl, rfl⟩ := e2
 exact ⟨rfl, lcs, h2.slcl, h2.alll, h2.inl⟩
theorem rlist_any (h : FldR (n + 1) w g v bad) (hl : v.m.length ≤ 1000000) (s : ByteArray) (most : Int) :
  Calls Tryz.prog 66 #[.pointer (some ⟨g, 0, none⟩), .string s, .int .i64 most] w fun e w' => (∃ a c lcs, e = .returned (.slice a (itemsV (flist v bad s most).1).length c) ∧ ItemsIn (fun k => k < g) w' a c (itemsV (flist v bad s most).1) lcs) ∧ FldR (n + 1) w' g v (flist v bad s most).2 ∧ Kept [g] w w' := by
 have CG := qI (rget_any h hl s 5)
 have HF := qI (flist_rget v bad s most)
 clear h hl
 rcases rget_two v bad s 5 with hr | ⟨x, hr⟩
 ·rw [hr] at CG HF
  simp only at CG HF
  clear hr
  go_enter Tryz.func66, Tryz.ntmps66
  go_upto_region 2 with (go_at_call 93; refine CG.o.mono ?_; rintro e w2 ⟨he, hf, hk2⟩; change e = _ at he; subst he; unfold zero5; have Gd := qI hf; have Ge := qI hk2; clear hf hk2)
  obtain ⟨w3, Gb⟩ : ∃ w3, Hid (w3 = w2.alloc (.cells #[.int .i64 0, .int .i64 0, .string ⟨#[]⟩, .slice none 0 0, .slice none 0 0] 28)) := ⟨_, qI rfl⟩
  have Gc : Hid (Kept [] w2 w3) := qI (by rw [Gb.o]; exact (Kept.refl _ _).alloc _)
  have Ga := qI (Gd.o.kept0 Gc.o)
  rw [← Gb.o]
  obtain ⟨c5, f5⟩ := Ga.o.c5
  go_wp2_with fail
  go_ret
  rw [HF.o]
  exact ⟨⟨none, 0, [], rfl, slc_nil _ _, All2.nil _, by simp [itemsV, vblk]⟩, Ga.o.put true, (Ge.o.trans' (Gc.o.mono (by simp))).trans' ((Kept.refl [g] w3).setCell (.inl (by simp)) _)⟩
 ·rw [hr] at CG HF
  simp only at CG HF
  clear hr
  obtain ⟨z, HZ⟩ : ∃ z, Hid (z = lenV (n + 1) x) := ⟨_, qI rfl⟩
  rw [← HZ.o] at HF
  by_cases hq : (z : Int) ≤ most
  all_goals first | rw [if_pos hq] at HF | rw [if_neg hq] at HF
  ·have q1 := hq
   go_enter Tryz.func66, Tryz.ntmps66
   go_upto_region 2 with (go_at_call 93; refine CG.o.mono ?_; rintro e w2 ⟨⟨cs, he, ho⟩, hf, hk2⟩; obtain ⟨s3, p3, c3, q3, j3, d3, rfl, hs3⟩ := ho.gone; subst he; obtain ⟨hln, lcs, hit⟩ := items_rep ho; have Gx : Hid (z = (itemsV (some x)).length) := qI (by rw [HZ.o]; exact hln); rw [← HZ.o]; have Gy := qI hit; have Gd := qI hf; have Ge := qI hk2; clear ho hs3 hln hit; clear hf hk2)
   generalize kindV (n + 1) x = kd
   generalize numV (n + 1) x = nm
   obtain ⟨w3, Gb⟩ : ∃ w3, Hid (w3 = w2.alloc (.cells #[.int .i64 kd, .int .i64 nm, .string s3, .slice p3 z c3, .slice q3 j3 d3] 28)) := ⟨_, qI rfl⟩
   have Gc : Hid (Kept [] w2 w3) := qI (by rw [Gb.o]; exact (Kept.refl _ _).alloc _)
   have Gh : Hid (BoxAt w3 w2.heap.size kd nm s3 (.slice p3 z c3) (.slice q3 j3 d3)) := qI (by rw [Gb.o]; exact box_at _ _ _ _ _ _ _)
   have Ga := qI (Gd.o.kept0 Gc.o)
   rw [← Gb.o]
   obtain ⟨c5, f5⟩ := Ga.o.c5
   obtain ⟨b0, b1, b2, b3, b4⟩ := Gh.o
   go_wp2_with fail
   go_ret
   rw [HF.o]
   exact ⟨⟨p3, c3, lcs, by rw [Gx.o]; rfl, (Gy.o.kept Gc.o (by simp))⟩, Ga.o, Ge.o.trans' (Gc.o.mono (by simp))⟩
  ·have q1 : most < (z : Int) := by omega
   clear hq
   skip
   all_goals
    go_enter Tryz.func66, Tryz.ntmps66
    go_upto_region 2 with (go_at_call 93; refine CG.o.mono ?_; rintro e w2 ⟨⟨cs, he, ho⟩, hf, hk2⟩; obtain ⟨s3, p3, c3, q3, j3, d3, rfl, hs3⟩ := ho.gone; subst he; obtain ⟨hln, lcs, hit⟩ := items_rep ho; have Gx : Hid (z = (itemsV (some x)).length) := qI (by rw [HZ.o]; exact hln); rw [← HZ.o]; have Gy := qI hit; have Gd := qI hf; have Ge := qI hk2; clear ho hs3 hln hit; clear hf hk2)
    generalize kindV (n + 1) x = kd
    generalize numV (n + 1) x = nm
    obtain ⟨w3, Gb⟩ : ∃ w3, Hid (w3 = w2.alloc (.cells #[.int .i64 kd, .int .i64 nm, .string s3, .slice p3 z c3, .slice q3 j3 d3] 28)) := ⟨_, qI rfl⟩
    have Gc : Hid (Kept [] w2 w3) := qI (by rw [Gb.o]; exact (Kept.refl _ _).alloc _)
    have Gh : Hid (BoxAt w3 w2.heap.size kd nm s3 (.slice p3 z c3) (.slice q3 j3 d3)) := qI (by rw [Gb.o]; exact box_at _ _ _ _ _ _ _)
    have Ga := qI (Gd.o.kept0 Gc.o)
    rw [← Gb.o]
    obtain ⟨c5, f5⟩ := Ga.o.c5
    obtain ⟨b0, b1, b2, b3, b4⟩ := Gh.o
    go_wp2_with fail
    go_ret
    rw [HF.o]
    exact ⟨⟨none, 0, [], rfl, slc_nil _ _, All2.nil _, by simp [itemsV, vblk]⟩, Ga.o.put true, (Ge.o.trans' (Gc.o.mono (by simp))).trans' ((Kept.refl [g] w3).setCell (.inl (by simp)) _)⟩
end
section
variable {n : Nat} {w : World} {g : Nat} {v : VS (V n)} {bad : Bool}
end
def dig1 (z : Int) : Int := if 48 ≤ z ∧ z ≤ 57 then z - 48 else if 97 ≤ z ∧ z ≤ 102 then z - 97 + 10 else -1
theorem dig1_low (c : UInt8) : (isLow c = true → dig1 c.toNat = (hv c : Int) ∧ hv c < 16) ∧ (isLow c = false → dig1 c.toNat = -1) := by
 have h : ∀ n : Fin 256, (isLow (UInt8.ofNat n.val) = true → dig1 (UInt8.ofNat n.val).toNat = (hv (UInt8.ofNat n.val) : Int) ∧ hv (UInt8.ofNat n.val) < 16) ∧ (isLow (UInt8.ofNat n.val) = false → dig1 (UInt8.ofNat n.val).toNat = -1) := by decide +kernel
 have := h ⟨c.toNat, c.toNat_lt⟩
 simpa only [UInt8.ofNat_toNat] using this
theorem index_str {P : Program} {t : TypeId} (ht : P.underlying t = some .string) (s : ByteArray) (m : Nat) (h : m < s.data.toList.length) (W : World) : (Instr.index t (.string s) (.int .i64 m)).run P W = .ok (.int .u8 s.data.toList[m].toNat) W := by
 rw [run_index_string _ t s .i64 m ht, dif_pos ⟨by omega, by simp only [Array.length_toList] at h; have : s.data.size = s.size := rfl; omega⟩]
 rfl
theorem index_str1 {P : Program} {t : TypeId} (ht : P.underlying t = some .string) (s : ByteArray) (m : Nat) (h : m + 1 < s.data.toList.length) (W : World) : (Instr.index t (.string s) (.int .i64 ((m : Int) + 1))).run P W = .ok (.int .u8 s.data.toList[m + 1].toNat) W := index_str ht s (m + 1) h W
theorem hex_join16 (x y : Nat) (hx : x < 16) (hy : y < 16) : Value.int .u8 ((16 * (x : Int) + y) % 256) = bv (UInt8.ofNat (x * 16 + y)) := by
 unfold bv
 congr 1
 have : (UInt8.ofNat (x * 16 + y)).toNat = x * 16 + y := by simp [UInt8.toNat_ofNat']; omega
 rw [this]
 omega
theorem ref1Digit_any (z : Int) (h0 : 0 ≤ z) (h1 : z ≤ 255) (w : World) : Calls Tryz.prog 94 #[.int .u8 z] w fun e w' => e = .returned (.int .i64 (dig1 z)) ∧ w = w' := by
 by_cases c1 : 48 ≤ z ∧ z ≤ 57
 ·have HZ : Hid (dig1 z = z - 48) := qI (by unfold dig1; rw [if_pos c1])
  obtain ⟨g1, g2⟩ := c1
  go_enter Tryz.func94, Tryz.ntmps94
  go_wp2_with fail
  go_ret
  exact ⟨ret_int HZ.o.symm, rfl⟩
 by_cases c2 : 97 ≤ z ∧ z ≤ 102
 ·have HZ : Hid (dig1 z = z - 97 + 10) := qI (by unfold dig1; rw [if_neg c1, if_pos c2])
  obtain ⟨g1, g2⟩ := c2
  have g3 : ¬ z ≤ 57 := by omega
  clear c1
  go_enter Tryz.func94, Tryz.ntmps94
  go_wp2_with fail
  go_ret
  exact ⟨ret_int HZ.o.symm, rfl⟩
 have HZ : Hid (dig1 z = -1) := qI (by unfold dig1; rw [if_neg c1, if_neg c2])
 have d1 : z < 48 ∨ (57 < z ∧ z < 97) ∨ 102 < z := by omega
 clear c1 c2
 rcases d1 with g | ⟨g, g'⟩ | g
 ·have k1 : ¬ 48 ≤ z := by omega
  have k2 : ¬ 97 ≤ z := by omega
  go_enter Tryz.func94, Tryz.ntmps94
  go_wp2_with fail
  go_ret
  exact ⟨ret_int HZ.o.symm, rfl⟩
 ·have k0 : 48 ≤ z := by omega
  have k1 : ¬ z ≤ 57 := by omega
  have k2 : ¬ 97 ≤ z := by omega
  go_enter Tryz.func94, Tryz.ntmps94
  go_wp2_with fail
  go_ret
  exact ⟨ret_int HZ.o.symm, rfl⟩
 ·have k0 : 48 ≤ z := by omega
  have k1 : ¬ z ≤ 57 := by omega
  have k2 : 97 ≤ z := by omega
  have k3 : ¬ z ≤ 102 := by omega
  go_enter Tryz.func94, Tryz.ntmps94
  go_wp2_with fail
  go_ret
  exact ⟨ret_int HZ.o.symm, rfl⟩
theorem tyB1 : SliceTy Tryz.prog 82 5 1 1 (.int .u8 0) := ⟨Tryz.underlying82, by kernel_rfl, rfl, by decide⟩
def UnhexR (w w' : World) (e : Ending) : Option (List UInt8) → Prop
 | none => e = .returned (.tuple #[.slice none 0 0, .bool false])
 | some l => ∃ a c, e = .returned (.tuple #[.slice a l.length c, .bool true]) ∧ Bytes w' (.slice a l.length c) l ∧ ∀ g, vblk (.slice a l.length c) = some g → w.heap.size ≤ g
theorem refUnhex_any (s : ByteArray) (hs : s.size ≤ 140737488355328) (w : World) : Calls Tryz.prog 50 #[.string s] w fun e w' => UnhexR w w' e (unhexS s) ∧ Kept [] w w' := by
 obtain ⟨z, HZ⟩ : ∃ z, Hid (z = s.size) := ⟨_, qI rfl⟩
 have HL : Hid (s.data.toList.length = s.size) := qI (by simp)
 have HU : Hid (unhexS s = if s.size % 2 = 0 ∧ s.data.toList.all isLow = true then some (pairsH s.data.toList) else none) := qI rfl
 have HP := qI (pairsH_len s.data.toList)
 have Jd := qI (pairsH_step s.data.toList)
 have hsI : (s.size : Int) ≤ 140737488355328 := by omega
 have Gz : Hid (∀ (j : Nat) (h : j < s.data.toList.length), isLow s.data.toList[j] = false → unhexS s = none) := qI (fun j h hl => by
  rw [HU.o, if_neg]
  rintro ⟨-, ha⟩
  have := List.all_eq_true.1 ha _ (List.getElem_mem h)
  rw [hl] at this; cases this)
 have hsN := qI hs
 clear hs
 go_enter Tryz.func50, Tryz.ntmps50
 go_wp2_with fail
 go_loopw [4, 5] (fun out i wr => ∃ (m k : Nat) (a : Option Addr) (c : Nat), i = .int .i64 m ∧ Hid (m = 2 * k ∧ m ≤ s.size) ∧ out = .slice a k c ∧ wr.ownsRow w.heap.size 5 1 (.slice a k c) k (((pairsH s.data.toList).take k).map bv) ∧ Hid (∀ (j : Nat) (h : j < s.data.toList.length), j < m → isLow s.data.toList[j] = true) ∧ Kept [] w wr) (fun _ i _ => s.size - (intOf i).toNat)
 case atStart => exact ⟨0, 0, none, 0, rfl, qI ⟨rfl, Nat.zero_le _⟩, rfl, World.ownsRow_nil _ _ _ _, qI (fun j h hj => by omega), Kept.refl _ _⟩
 case round =>
  obtain ⟨m, k, a, c, rfl, HM, rfl, hrow, Gk, hkr⟩ := hrel
  have Gi := qI hrow
  have Gg := qI hkr
  clear hrow hkr
  by_cases hlt : m < s.size
  ·have hltI : (m : Int) < s.size := by omega
   by_cases hl2 : m + 1 < s.size
   rotate_left
   ·have hge : (s.size : Int) ≤ (m : Int) + 1 := by omega
    have HN : Hid (unhexS s = none) := qI (by rw [HU.o, if_neg]; rintro ⟨h1, -⟩; have := HM.o.1; omega)
    clear hl2 hlt
    go_wp2_with fail
    go_ret2
    rw [HN.o]
    exact ⟨rfl, Gg.o⟩
   have hge : (m : Int) + 1 < s.size := by omega
   have hj1 : m < s.data.toList.length := by rw [HL.o]; exact hlt
   have hj2 : m + 1 < s.data.toList.length := by rw [HL.o]; exact hl2
   have I1 := qI (index_str Tryz.underlying9 s m hj1)
   have I2 := qI (index_str1 Tryz.underlying9 s m hj2)
   have N1 := qI (Gz.o m hj1)
   have N2 := qI (Gz.o (m + 1) hj2)
   have D1 := qI (dig1_low s.data.toList[m])
   have D2 := qI (dig1_low s.data.toList[m + 1])
   have L1 : Hid (isLow s.data.toList[m] = true → isLow s.data.toList[m + 1] = true → ∀ (j : Nat) (h : j < s.data.toList.length), j < m + 2 → isLow s.data.toList[j] = true) := qI (fun g1 g2 j h hj => by
    rcases Nat.lt_or_ge j m with q | q
    ·exact Gk.o j h q
    ·obtain rfl | rfl : j = m ∨ j = m + 1 := by omega
     ·exact g1
     ·exact g2)
   have C1 := qI (ref1Digit_any (s.data.toList[m].toNat : Int) (by omega) (by have := s.data.toList[m].toNat_lt; omega))
   have C2 := qI (ref1Digit_any (s.data.toList[m + 1].toNat : Int) (by omega) (by have := s.data.toList[m + 1].toNat_lt; omega))
   have hkp : 2 * k + 1 < s.data.toList.length := by rw [← HM.o.1]; exact hj2
   obtain ⟨p1, p2⟩ := Jd.o k hkp
   have HN : Hid ((pairsH s.data.toList).take (k + 1) = (pairsH s.data.toList).take k ++ [UInt8.ofNat (hv s.data.toList[m] * 16 + hv s.data.toList[m + 1])]) := qI (by
    rw [List.take_succ_eq_append_getElem p1, p2]
    simp only [HM.o.1])
   have Ja : Hid (m + 1 < s.size) := qI hl2
   clear p1 p2 hkp
   revert I1 I2 N1 N2 D1 D2 L1 C1 C2 HN
   generalize s.data.toList[m] = xb
   generalize s.data.toList[m + 1] = yb
   intro I1 I2 N1 N2 D1 D2 L1 C1 C2 HN
   obtain ⟨px, HX⟩ : ∃ px : Int, Hid (px = xb.toNat) := ⟨_, qI rfl⟩
   obtain ⟨py, HY⟩ : ∃ py : Int, Hid (py = yb.toNat) := ⟨_, qI rfl⟩
   rw [← HX.o] at I1 C1 D1
   rw [← HY.o] at I2 C2 D2
   clear hj1 hj2 hl2 hlt
   have hix := I1.o
   have hiy := I2.o
   rcases Bool.eq_false_or_eq_true (isLow xb) with e1 | e1
   rotate_left
   ·have Gp := qI (N1.o e1)
    rw [D1.o.2 e1] at C1
    go_wp2_with (go_at_call 94; refine (C1.o _).mono ?_; rintro e w5 ⟨rfl, rfl⟩)
    go_ret2
    rw [Gp.o]
    exact ⟨rfl, Gg.o⟩
   obtain ⟨d1, x16⟩ := D1.o.1 e1
   rcases Bool.eq_false_or_eq_true (isLow yb) with e2 | e2
   rotate_left
   ·have Gp := qI (N2.o e2)
    rw [D2.o.2 e2] at C2
    rw [d1] at C1
    clear d1 x16
    generalize hv xb = hx at *
    go_wp2_with first
     | (have Je := GO1; go_at_call 94; refine (C2.o _).mono ?_; rintro e w5 ⟨rfl, rfl⟩)
     | (go_at_call 94; refine (C1.o _).mono ?_; rintro e w5 ⟨rfl, rfl⟩; have GO1 := True.intro)
    go_ret2
    rw [Gp.o]
    exact ⟨rfl, Gg.o⟩
   obtain ⟨d2, y16⟩ := D2.o.1 e2
   rw [d1] at C1
   rw [d2] at C2
   have Jf := qI (L1.o e1 e2)
   clear d1 d2 D1 D2 e1 e2 L1 N1 N2
   revert C1 C2 HN x16 y16
   generalize hv xb = hx
   generalize hv yb = hy
   intro HN C1 C2 x16 y16
   have X16 := qI x16
   have Y16 := qI y16
   clear x16 y16
   go_upto_region 7 with first
    | (have Je := GO1; go_at_call 94; refine (C2.o _).mono ?_; rintro e w5 ⟨rfl, rfl⟩)
    | (go_at_call 94; refine (C1.o _).mono ?_; rintro e w5 ⟨rfl, rfl⟩; have GO1 := True.intro)
   clear hix hiy
   obtain ⟨bb, Jb⟩ : ∃ bb, Hid (bb = UInt8.ofNat (hx * 16 + hy)) := ⟨_, qI rfl⟩
   rw [← Jb.o] at HN
   refine wp_grows_late (n := 48) 14 [Fact.is (.slice a k c),
    Fact.is (.string s),
    Fact.is (.int .i64 m),
    Fact.is (.int .u8 px),
    Fact.is (.int .i64 hx),
    Fact.is (.int .i64 (16 * hx)),
    Fact.is (.string s),
    Fact.is (.int .i64 m),
    Fact.is (.int .i64 (m + 1)),
    Fact.is (.int .u8 py),
    Fact.is (.int .i64 hy),
    Fact.is (.int .i64 (16 * hx + hy)),
    Fact.is (.int .u8 (bb.toNat : Int)),
    pairFact [bv bb] 1 1] (by kernel_rfl) rfl (by kernel_rfl) (fun x => by simp only [List.map, puts, Act.put, List.setIfInBounds_toArray, List.set_cons_zero, List.set_cons_succ]; rfl) (fun x hx => by rw [show x 15 = .slice a k c from hx 15 (by decide) (by decide)]) ?_ ?_
   ·refine ⟨fun x w2 hkw b hd => ?_, fun x w2 hkw b hd => ?_, fun x w2 hkw b hd => ?_, fun x w2 hkw b hd => ?_, fun x w2 hkw b hd => ?_, fun x w2 hkw b hd => ?_, fun x w2 hkw b hd => ?_, fun x w2 hkw b hd => ?_, fun x w2 hkw b hd => ?_, fun x w2 hkw b hd => ?_, fun x w2 hkw b hd => ?_, fun x w2 hkw b hd => ?_, fun x w2 hkw b hd => ?_, fun x w2 hkw b hd => ?_, trivial⟩
    ·go_wp2_with fail
     exact ⟨rfl, Kept.refl _ _⟩
    ·go_wp2_with fail
     exact ⟨rfl, Kept.refl _ _⟩
    ·go_wp2_with fail
     exact ⟨rfl, Kept.refl _ _⟩
    ·have d1 : x 1 = _ := hd 1 (by kernel_rfl)
     have d2 : x 2 = _ := hd 2 (by kernel_rfl)
     have hix := I1.o w2
     go_wp2_with fail
     exact ⟨rfl, Kept.refl _ _⟩
    ·have d3 : x 3 = _ := hd 3 (by kernel_rfl)
     have CX := C1.o w2
     go_wp2_with (go_at_call 94; refine CX.mono ?_; rintro e w5 ⟨rfl, rfl⟩)
     exact ⟨rfl, Kept.refl _ _⟩
    ·have d4 : x 4 = _ := hd 4 (by kernel_rfl)
     have hxI : (hx : Int) < 16 := by have := X16.o; omega
     go_wp2_with fail
     exact ⟨rfl, Kept.refl _ _⟩
    ·go_wp2_with fail
     exact ⟨rfl, Kept.refl _ _⟩
    ·go_wp2_with fail
     exact ⟨rfl, Kept.refl _ _⟩
    ·have d7 : x 7 = _ := hd 7 (by kernel_rfl)
     go_wp2_with fail
     exact ⟨rfl, Kept.refl _ _⟩
    ·have d6 : x 6 = _ := hd 6 (by kernel_rfl)
     have d8 : x 8 = _ := hd 8 (by kernel_rfl)
     have hix := I2.o w2
     go_wp2_with fail
     exact ⟨rfl, Kept.refl _ _⟩
    ·have d9 : x 9 = _ := hd 9 (by kernel_rfl)
     have CX := C2.o w2
     go_wp2_with (go_at_call 94; refine CX.mono ?_; rintro e w5 ⟨rfl, rfl⟩)
     exact ⟨rfl, Kept.refl _ _⟩
    ·have d5 : x 5 = _ := hd 5 (by kernel_rfl)
     have d10 : x 10 = _ := hd 10 (by kernel_rfl)
     have hxI : (hx : Int) < 16 := by have := X16.o; omega
     have hyI : (hy : Int) < 16 := by have := Y16.o; omega
     go_wp2_with fail
     exact ⟨rfl, Kept.refl _ _⟩
    ·have d11 : x 11 = _ := hd 11 (by kernel_rfl)
     have HJ : Hid (Value.int .u8 ((16 * (hx : Int) + hy) % 256) = bv bb) := qI (by rw [Jb.o]; exact hex_join16 hx hy X16.o Y16.o)
     go_wp2_with fail
     refine ⟨?_, Kept.refl _ _⟩
     exact HJ.o
    ·have d12 : x 12 = _ := hd 12 (by kernel_rfl)
     go_wp2_with fail
     exact ⟨⟨w2.heap.size, rfl, Nat.le_refl _, by simp, slc_one w2 _ _ _ rfl⟩, (Kept.refl _ _).alloc _⟩
   ·intro x9 w7 hkw b hd hwin
    have d0 : x9 0 = _ := hd 0 (by decide)
    obtain ⟨g9, d13, g1, g2, hsl⟩ := hd 13 (by decide)
    have Jg := qI hsl
    have Gq := qI hkw
    clear hd hwin hkw hsl g1 g2
    change wpList _ _ _ [_, _] _ _
    go_wp2_with (at_builtin; refine wpList_append_slc tyB1 (v := .slice a k c) (n := k) (row_kept Gi.o Gq.o (by simp)) Jg.o (by simp [bv, Value.oneCell']) (by simp only [maxLen]; have := hsN.o; have := HM.o; omega) (by have := hsN.o; have := HM.o; omega) (by have := Gg.o.size; have := Gq.o.size; simp; omega) rfl _ _ rfl d0 d13 ?_; intro v5 w8 hown hk5 _ hb5; obtain ⟨a5, c5, rfl, -, -⟩ := (Slc.of_row hown).form; have Gr := qI hown; have Jh := qI hk5; clear hown hk5 hb5)
    case roundEnd =>
     refine ⟨⟨m + 2, k + 1, a5, c5, by go_num, qI (by have := HM.o; have := Ja.o; omega), rfl, by rw [HN.o, List.map_append]; exact Gr.o, Jf, (Gg.o.then Gq.o).trans Jh.o (fun i hi => .inr (Gi.o.lt i (Option.mem_toList.1 hi)).1)⟩, by have := Ja.o; simp [intOf]; omega⟩
  ·have HE : Hid (unhexS s = some (pairsH s.data.toList)) := qI (by
    have h1 := HM.o
    rw [HU.o, if_pos ⟨by omega, List.all_eq_true.2 (fun c hc => by
     obtain ⟨j, hj, rfl⟩ := List.getElem_of_mem hc
     exact Gk.o j hj (by rw [HL.o] at hj; omega))⟩])
   have Jc : Hid (k = (pairsH s.data.toList).length) := qI (by have h1 := HM.o; rw [HP.o, HL.o]; omega)
   go_wp2_with fail
   go_ret2
   rw [HE.o]
   have hrow := Gi.o
   rw [Jc.o, List.take_length] at hrow
   refine ⟨⟨a, c, by rw [← Jc.o]; rfl, Slc.of_row hrow, fun g hg => (hrow.lt g (own_of_vblk hg)).1⟩, Gg.o⟩
theorem refId_any (s : ByteArray) (hs : s.size ≤ 140737488355328) (w : World) : Calls Tryz.prog 68 #[.string s] w fun e w' => e = .returned (.bool (isIdB s)) ∧ Kept [] w w' := by
 have CU := refUnhex_any s hs w
 have HI : Hid (isIdB s = match unhexS s with | none => false | some l => decide (l.length = 32)) := qI rfl
 clear hs
 rcases hu : unhexS s with _ | l
 ·rw [hu] at CU HI
  have CU := qI CU
  clear hu
  go_enter Tryz.func68, Tryz.ntmps68
  go_wp2_with (go_at_call 50; refine CU.o.mono ?_; rintro e w1 ⟨he, hk⟩; change e = _ at he; subst he; have HK := qI hk; clear hk)
  go_ret
  exact ⟨by rw [HI.o]; rfl, HK.o⟩
 ·rw [hu] at CU HI
  have CU := qI CU
  have HI : Hid (isIdB s = decide (l.length = 32)) := qI HI.o
  clear hu
  by_cases hl : l.length = 32
  ·have f1 := (int_eq (a := (l.length : Int)) (b := 32) (by omega)).1
   rw [decide_eq_true hl] at HI
   clear hl
   go_enter Tryz.func68, Tryz.ntmps68
   go_wp2_with (go_at_call 50; refine CU.o.mono ?_; rintro e w1 ⟨⟨a, c, rfl, -, -⟩, hk⟩; have HK := qI hk; clear hk)
   go_ret
   exact ⟨by rw [HI.o]; rfl, HK.o⟩
  ·have f1 := (int_ne (a := (l.length : Int)) (b := 32) (by omega)).1
   rw [decide_eq_false hl] at HI
   clear hl
   go_enter Tryz.func68, Tryz.ntmps68
   go_wp2_with (go_at_call 50; refine CU.o.mono ?_; rintro e w1 ⟨⟨a, c, rfl, -, -⟩, hk⟩; have HK := qI hk; clear hk)
   go_ret
   exact ⟨by rw [HI.o]; rfl, HK.o⟩
theorem take_any {l : List ByteArray} {k : Nat} {x : ByteArray} {j : Nat} (hj : j < k) (hl : j < l.length) (e : l[j] = x) : (l.take k).any (fun y => decide (y = x)) = true :=
 List.any_eq_true.2 ⟨l[j], List.mem_take_iff_getElem.2 ⟨j, by omega, rfl⟩, by simp [e]⟩
theorem take_any_snoc {l : List ByteArray} {x : ByteArray} {j : Nat} (hl : j < l.length) : (l.take (j + 1)).any (fun y => decide (y = x)) = ((l.take j).any (fun y => decide (y = x)) || decide (l[j] = x)) := by
 rw [List.take_succ_eq_append_getElem hl, List.any_append]
 simp
theorem refMay_any {w : World} {r : RoleS} {a : Option Addr} {c : Nat} (h : Texts w (.slice a r.keys.length c) r.keys) (hz : ∀ k, k ∈ r.keys → k.size ≤ 140737488355328) (hlen : r.keys.length ≤ 1000000000000) :
  Calls Tryz.prog 20 #[.agg #[.slice a r.keys.length c, .int .i64 r.thr]] w fun e w' => e = .returned (.bool (mayRole r)) ∧ Kept [] w w' := by
 obtain ⟨W0, Gj⟩ : ∃ W0, Hid (W0 = w.alloc (.cells #[.slice a r.keys.length c, .int .i64 r.thr] 43)) := ⟨_, qI rfl⟩
 have Gl : Hid (Kept [] w W0) := qI (by rw [Gj.o]; exact (Kept.refl _ w).alloc _)
 have Gm : Hid (W0.heap[w.heap.size]? = some (.cells #[.slice a r.keys.length c, .int .i64 r.thr] 43 (0, 0))) := qI (by rw [Gj.o]; exact block_alloc rfl)
 have H := qI (h.kept0 Gl.o)
 have HZ := qI hz
 have HM : Hid (mayRole r = (decide (r.keys.length ≤ 16) && (decide (1 ≤ r.thr) && (decide (r.thr ≤ r.keys.length) && idsGo [] r.keys)))) := qI rfl
 have c0 := cell_head (o := 0) (v := .slice a r.keys.length c) Gm.o rfl
 have c1 := cell_head (o := 1) (v := .int .i64 r.thr) Gm.o rfl
 have Ji : Hid ((r.keys.length < 1 ∨ 16 < r.keys.length ∨ r.thr < 1 ∨ (r.keys.length : Int) < r.thr) → mayRole r = false) := qI (fun q => by
  cases h : mayRole r with
  | false => rfl
  | true => have h1 := mayRole_ids h; omega)
 clear h hz hlen
 by_cases kk : 1 ≤ r.keys.length ∧ r.keys.length ≤ 16 ∧ 1 ≤ r.thr ∧ r.thr ≤ r.keys.length
 rotate_left
 ·have HF := qI (Ji.o (by omega))
  have k5 : r.keys.length < 1 ∨ (1 ≤ r.keys.length ∧ 16 < r.keys.length) ∨ (1 ≤ r.keys.length ∧ r.keys.length ≤ 16 ∧ r.thr < 1) ∨ (1 ≤ r.keys.length ∧ r.keys.length ≤ 16 ∧ 1 ≤ r.thr ∧ (r.keys.length : Int) < r.thr) := by omega
  clear kk
  obtain ⟨n, HN⟩ : ∃ n, Hid (n = r.keys.length) := ⟨_, qI rfl⟩
  rw [← HN.o] at Gj k5 c0 ⊢
  rcases k5 with k1 | ⟨k0, k1⟩ | ⟨k0, k1, k2⟩ | ⟨k0, k1, k2, k3⟩
  all_goals
   have k0I : (0 : Int) ≤ n := by omega
   go_enter Tryz.func20, Tryz.ntmps20
   go_upto_region 1 with fail
   rw [← Gj.o]
   go_wp2_with fail
   go_ret
   exact ⟨by rw [HF.o]; rfl, Gl.o⟩
 obtain ⟨k0, k1, k2, k3⟩ := kk
 have Gs : Hid (mayRole r = idsGo [] r.keys) := qI (by rw [HM.o, decide_eq_true k1, decide_eq_true k2, decide_eq_true k3]; rfl)
 obtain ⟨n, HN⟩ : ∃ n, Hid (n = r.keys.length) := ⟨_, qI rfl⟩
 rw [← HN.o] at Gj Gm H c0 k0 k1 k3 ⊢
 have k1I : (n : Int) ≤ 16 := by omega
 go_enter Tryz.func20, Tryz.ntmps20
 go_upto_region 1 with fail
 rw [← Gj.o]
 go_wp2_with fail
 clear c0 c1
 go_loopw [3] (fun i wr => ∃ k : Nat, i = .int .i64 k ∧ k ≤ n ∧ Hid (idsGo (r.keys.take k) (r.keys.drop k) = idsGo [] r.keys) ∧ Kept [] W0 wr) (fun i _ => n - (intOf i).toNat)
 case atStart => exact ⟨0, rfl, Nat.zero_le _, qI rfl, Kept.refl _ _⟩
 case round =>
  obtain ⟨k, rfl, hk, HG, hkr⟩ := hrel
  have Gg := qI hkr
  have c0 := cell_head (o := 0) (v := .slice a n c) (hkr.heap Gm.o (by simp)) rfl
  clear hkr
  by_cases hlt : k < n
  ·have hltI : (k : Int) < n := by omega
   have hka : k < r.keys.length := by rw [← HN.o]; exact hlt
   obtain ⟨g, o, rfl, q0⟩ := Texts.at (l := r.keys) (c := c) (by rw [← HN.o]; exact H.o.kept0 Gg.o) hka
   have hks : r.keys[k].size ≤ 140737488355328 := HZ.o _ (List.getElem_mem hka)
   have HD : Hid (idsGo (r.keys.take k) (r.keys.drop k) = (!((r.keys.take k).any (fun x => decide (x = r.keys[k]))) && isIdB r.keys[k] && idsGo (r.keys.take (k + 1)) (r.keys.drop (k + 1)))) := qI (by
    conv => lhs; rw [List.drop_eq_getElem_cons hka]
    rw [List.take_succ_eq_append_getElem hka]
    rfl)
   have Gt : Hid (∀ j, j < k → ∀ hj : j < r.keys.length, r.keys[j] = r.keys[k] → (r.keys.take k).any (fun x => decide (x = r.keys[k])) = true) := qI (fun j hj hl e => take_any hj hl e)
   have HQ : Hid (W0.cell? ⟨g, o + k, none⟩ = some (.string r.keys[k])) := qI (by
    obtain ⟨g', o', e, q⟩ := Texts.at (l := r.keys) (c := c) (by rw [← HN.o]; exact H.o) hka
    simp only [Option.some.injEq, Addr.mk.injEq, and_true] at e
    obtain ⟨rfl, rfl⟩ := e
    exact q)
   have Gu : Hid (∀ j (hj : j < r.keys.length), (r.keys.take (j + 1)).any (fun x => decide (x = r.keys[k])) = ((r.keys.take j).any (fun x => decide (x = r.keys[k])) || decide (r.keys[j] = r.keys[k]))) := qI (fun j hj => take_any_snoc hj)
   have CI := qI (refId_any r.keys[k] hks)
   clear hks q0
   revert CI Gu HQ Gt HD
   generalize r.keys[k] = key
   intro HD Gt HQ Gu CI
   go_wp2_with fail
   clear c0
   go_loopw [4] (fun i wr3 => ∃ j : Nat, i = .int .i64 j ∧ j ≤ k ∧ Hid ((r.keys.take j).any (fun x => decide (x = key)) = false) ∧ Kept [] W0 wr3) (fun i _ => k - (intOf i).toNat)
   case atStart => exact ⟨0, rfl, Nat.zero_le _, qI rfl, Gg.o⟩
   case round =>
    obtain ⟨j, rfl, hj, Gn, hkr3⟩ := hrel
    have Gf := qI hkr3
    have c0 := cell_head (o := 0) (v := .slice (some ⟨g, o, none⟩) n c) (hkr3.heap Gm.o (by simp)) rfl
    have q0 := hkr3.cell HQ.o (by simp)
    clear hkr3
    by_cases hjt : j < k
    ·have hjI : (j : Int) < k := by omega
     have hjn : (j : Int) < n := by omega
     have hja : j < r.keys.length := by rw [← HN.o]; omega
     obtain ⟨g2, o2, he, p0⟩ := Texts.at (l := r.keys) (c := c) (by rw [← HN.o]; exact H.o.kept0 Gf.o) hja
     simp only [Option.some.injEq, Addr.mk.injEq, and_true] at he
     obtain ⟨rfl, rfl⟩ := he
     have Gv := qI (Gt.o j hjt hja)
     have Gw := qI (Gu.o j hja)
     have E0 := ext_cell c0
     have E1 := ext_cell q0
     have E2 := ext_cell p0
     clear c0 q0 p0
     revert E2 Gv Gw
     generalize r.keys[j] = key2
     intro Gv Gw E2
     by_cases hkk : key2 = key
     ·obtain ⟨f1, f2⟩ := str_eq hkk
      have Jj := qI (Gv.o hkk)
      clear hkk
      go_wp2_with fail
      refine wp_region_ext wr (by kernel_rfl) (by kernel_rfl) (Kept.refl _ _) ?_
      repeat go_big_quiet_step (fail)
      refine wpQuiet_nil ?_
      intro w5 hk5
      go_wp2_with fail
      go_ret
      rw [Gs.o, ← HG.o, HD.o, Jj.o]
      exact ⟨by simp, (Gl.o.then Gf.o).then hk5⟩
     ·obtain ⟨f1, f2⟩ := str_ne hkk
      have Jk : Hid ((r.keys.take (j + 1)).any (fun x => decide (x = key)) = false) := qI (by rw [Gw.o, Gn.o, decide_eq_false hkk]; rfl)
      clear hkk
      go_wp2_with fail
      refine wp_region_ext wr (by kernel_rfl) (by kernel_rfl) (Kept.refl _ _) ?_
      repeat go_big_quiet_step (fail)
      refine wpQuiet_nil ?_
      intro w5 hk5
      go_wp2_with fail
      case roundEnd => exact ⟨⟨j + 1, by go_num, by omega, Jk, Gf.o.then hk5⟩, by simp [intOf]; omega⟩
    ·obtain rfl : j = k := by omega
     have CI2 := qI (CI.o wr)
     revert CI2 HD
     generalize hid2 : isIdB key = ok
     intro HD CI2
     clear hid2
     cases ok with
     | false =>
      go_wp2_with (go_at_call 68; refine CI2.o.mono ?_; rintro e w5 ⟨rfl, hk5⟩)
      go_ret
      rw [Gs.o, ← HG.o, HD.o]
      exact ⟨by simp, (Gl.o.then Gf.o).then hk5⟩
     | true =>
      go_wp2_with (go_at_call 68; refine CI2.o.mono ?_; rintro e w5 ⟨rfl, hk5⟩)
      case roundEnd =>
       refine ⟨⟨j + 1, by go_num, by omega, qI ?_, Gf.o.then hk5⟩, by simp [intOf]; omega⟩
       rw [← HG.o, HD.o, Gn.o]
       simp
  ·obtain rfl : k = n := by omega
   go_wp2_with fail
   go_ret
   have hg := HG.o
   rw [HN.o, List.drop_length] at hg
   rw [Gs.o, ← hg]
   exact ⟨rfl, Gl.o.then Gg.o⟩
end Go.Proofs.YtckbnjipecclaaaGreatDoor

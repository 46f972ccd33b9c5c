/- Parts of one proof, merged: XGC XGD XGE. -/
import Derived.Test.YtckbnjipecclaaaGreatDoorHkU
import Derived.Test.YtckbnjipecclaaaGreatDoorHkR
import Derived.Test.YtckbnjipecclaaaGreatDoorHkB
import Derived.Test.YtckbnjipecclaaaGreatDoorHkF
import Derived.Test.YtckbnjipecclaaaGreatDoorHkD
import Derived.Deep.DeepCutAuto
import Derived.Deep.CutBlock
set_option linter.all false
set_option maxHeartbeats 12800000
set_option maxRecDepth 10000
set_option linter.unusedVariables false
set_option linter.unusedSimpArgs false
set_option linter.unnecessarySimpa false
namespace Go.Proofs.YtckbnjipecclaaaGreatDoor
open Go.RowKit
theorem fint_rget {n : Nat} (v : VS (V n)) (bad : Bool) (s : ByteArray) (lo hi : Int) : fint v bad s lo hi = match rget v bad s 3 with
  | (none, _) => (0, true)
  | (some x, _) => if lo ≤ numV n x ∧ numV n x ≤ hi then (numV n x, false) else (0, true) := by
 unfold fint
 rw [fget_rget]
 rcases rget_two v bad s 3 with h | ⟨x, h⟩ <;> rw [h]
 simp only [Bool.and_eq_true, decide_eq_true_eq]
 by_cases q : lo ≤ numV n x ∧ numV n x ≤ hi
 ·rw [if_pos q, if_pos q]
 ·rw [if_neg q, if_neg q]
theorem ftext_rget {n : Nat} (v : VS (V n)) (bad : Bool) (s : ByteArray) (most : Int) : ftext v bad s most = match rget v bad s 4 with
  | (none, _) => (⟨#[]⟩, true)
  | (some x, _) => if ((strV n x).size : Int) ≤ most then (strV n x, false) else (⟨#[]⟩, true) := by
 unfold ftext
 rw [fget_rget]
 rcases rget_two v bad s 4 with h | ⟨x, h⟩ <;> rw [h]
 simp only [decide_eq_true_eq]
 by_cases q : ((strV n x).size : Int) ≤ most
 ·rw [if_pos q, if_pos q]
 ·rw [if_neg q, if_neg q]
section
variable {n : Nat} {w : World} {g : Nat} {v : VS (V n)} {bad : Bool}
theorem rint_any (h : FldR n w g v bad) (hl : v.m.length ≤ 1000000) (s : ByteArray) (lo hi : Int) :
  Calls Tryz.prog 49 #[.pointer (some ⟨g, 0, none⟩), .string s, .int .i64 lo, .int .i64 hi] w fun e w' => e = .returned (.int .i64 (fint v bad s lo hi).1) ∧ FldR n w' g v (fint v bad s lo hi).2 ∧ Kept [g] w w' := by
 have CG := qI (rget_any h hl s 3)
 have HF := qI (fint_rget v bad s lo hi)
 clear h hl
 rcases rget_two v bad s 3 with hr | ⟨x, hr⟩
 ·rw [hr] at CG HF
  simp only at CG HF
  clear hr
  go_enter Tryz.func49, Tryz.ntmps49
  go_upto_region 2 with (go_at_call 93; refine CG.o.mono ?_; rintro e w2 ⟨he, hf, hk2⟩; change e = _ at he; subst he; unfold zero5; have Ge := qI hf; have Gf := qI hk2; clear hf hk2)
  obtain ⟨w3, Gb⟩ : ∃ w3, Hid (w3 = w2.alloc (.cells #[.int .i64 0, .int .i64 0, .string ⟨#[]⟩, .slice none 0 0, .slice none 0 0] 28)) := ⟨_, qI rfl⟩
  have Gc : Hid (Kept [] w2 w3) := qI (by rw [Gb.o]; exact (Kept.refl _ _).alloc _)
  have Ga := qI (Ge.o.kept0 Gc.o)
  rw [← Gb.o]
  obtain ⟨c5, f5⟩ := Ga.o.c5
  go_wp2_with fail
  go_ret
  rw [HF.o]
  exact ⟨rfl, Ga.o.put true, (Gf.o.trans' (Gc.o.mono (by simp))).trans' ((Kept.refl [g] w3).setCell (.inl (by simp)) _)⟩
 ·rw [hr] at CG HF
  simp only at CG HF
  clear hr
  obtain ⟨z, HZ⟩ : ∃ z, Hid (z = numV n x) := ⟨_, qI rfl⟩
  rw [← HZ.o] at HF
  by_cases hq : lo ≤ z ∧ z ≤ hi
  all_goals first | rw [if_pos hq] at HF | rw [if_neg hq] at HF
  ·obtain ⟨q1, q2⟩ := hq
   go_enter Tryz.func49, Tryz.ntmps49
   go_upto_region 2 with (go_at_call 93; refine CG.o.mono ?_; rintro e w2 ⟨⟨cs, he, ho⟩, hf, hk2⟩; obtain ⟨s3, p3, c3, q3, j3, d3, rfl, hs3⟩ := ho.gone; subst he; rw [← HZ.o]; have Ge := qI hf; have Gf := qI hk2; clear ho hs3; clear hf hk2)
   generalize kindV n x = kd
   generalize lenV n x = ln
   obtain ⟨w3, Gb⟩ : ∃ w3, Hid (w3 = w2.alloc (.cells #[.int .i64 kd, .int .i64 z, .string s3, .slice p3 ln c3, .slice q3 j3 d3] 28)) := ⟨_, qI rfl⟩
   have Gc : Hid (Kept [] w2 w3) := qI (by rw [Gb.o]; exact (Kept.refl _ _).alloc _)
   have Gg : Hid (BoxAt w3 w2.heap.size kd z s3 (.slice p3 ln c3) (.slice q3 j3 d3)) := qI (by rw [Gb.o]; exact box_at _ _ _ _ _ _ _)
   have Ga := qI (Ge.o.kept0 Gc.o)
   rw [← Gb.o]
   obtain ⟨c5, f5⟩ := Ga.o.c5
   obtain ⟨b0, b1, b2, b3, b4⟩ := Gg.o
   go_wp2_with fail
   go_ret
   rw [HF.o]
   exact ⟨rfl, Ga.o, Gf.o.trans' (Gc.o.mono (by simp))⟩
  ·have hq2 : z < lo ∨ (¬ z < lo ∧ hi < z) := by omega
   clear hq
   rcases hq2 with q1 | ⟨q1, q2⟩
   all_goals
    go_enter Tryz.func49, Tryz.ntmps49
    go_upto_region 2 with (go_at_call 93; refine CG.o.mono ?_; rintro e w2 ⟨⟨cs, he, ho⟩, hf, hk2⟩; obtain ⟨s3, p3, c3, q3, j3, d3, rfl, hs3⟩ := ho.gone; subst he; rw [← HZ.o]; have Ge := qI hf; have Gf := qI hk2; clear ho hs3; clear hf hk2)
    generalize kindV n x = kd
    generalize lenV n x = ln
    obtain ⟨w3, Gb⟩ : ∃ w3, Hid (w3 = w2.alloc (.cells #[.int .i64 kd, .int .i64 z, .string s3, .slice p3 ln c3, .slice q3 j3 d3] 28)) := ⟨_, qI rfl⟩
    have Gc : Hid (Kept [] w2 w3) := qI (by rw [Gb.o]; exact (Kept.refl _ _).alloc _)
    have Gg : Hid (BoxAt w3 w2.heap.size kd z s3 (.slice p3 ln c3) (.slice q3 j3 d3)) := qI (by rw [Gb.o]; exact box_at _ _ _ _ _ _ _)
    have Ga := qI (Ge.o.kept0 Gc.o)
    rw [← Gb.o]
    obtain ⟨c5, f5⟩ := Ga.o.c5
    obtain ⟨b0, b1, b2, b3, b4⟩ := Gg.o
    go_wp2_with fail
    go_ret
    rw [HF.o]
    exact ⟨rfl, Ga.o.put true, (Gf.o.trans' (Gc.o.mono (by simp))).trans' ((Kept.refl [g] w3).setCell (.inl (by simp)) _)⟩
theorem rtext_any (h : FldR n w g v bad) (hl : v.m.length ≤ 1000000) (s : ByteArray) (most : Int) :
  Calls Tryz.prog 47 #[.pointer (some ⟨g, 0, none⟩), .string s, .int .i64 most] w fun e w' => e = .returned (.string (ftext v bad s most).1) ∧ FldR n w' g v (ftext v bad s most).2 ∧ Kept [g] w w' := by
 have CG := qI (rget_any h hl s 4)
 have HF := qI (ftext_rget v bad s most)
 clear h hl
 rcases rget_two v bad s 4 with hr | ⟨x, hr⟩
 ·rw [hr] at CG HF
  simp only at CG HF
  clear hr
  go_enter Tryz.func47, Tryz.ntmps47
  go_upto_region 2 with (go_at_call 93; refine CG.o.mono ?_; rintro e w2 ⟨he, hf, hk2⟩; change e = _ at he; subst he; unfold zero5; have Ge := qI hf; have Gf := qI hk2; clear hf hk2)
  obtain ⟨w3, Gb⟩ : ∃ w3, Hid (w3 = w2.alloc (.cells #[.int .i64 0, .int .i64 0, .string ⟨#[]⟩, .slice none 0 0, .slice none 0 0] 28)) := ⟨_, qI rfl⟩
  have Gc : Hid (Kept [] w2 w3) := qI (by rw [Gb.o]; exact (Kept.refl _ _).alloc _)
  have Ga := qI (Ge.o.kept0 Gc.o)
  rw [← Gb.o]
  obtain ⟨c5, f5⟩ := Ga.o.c5
  go_wp2_with fail
  go_ret
  rw [HF.o]
  exact ⟨rfl, Ga.o.put true, (Gf.o.trans' (Gc.o.mono (by simp))).trans' ((Kept.refl [g] w3).setCell (.inl (by simp)) _)⟩
 ·rw [hr] at CG HF
  simp only at CG HF
  clear hr
  obtain ⟨z, HZ⟩ : ∃ z, Hid (z = strV n x) := ⟨_, qI rfl⟩
  rw [← HZ.o] at HF
  by_cases hq : (z.size : Int) ≤ most
  all_goals first | rw [if_pos hq] at HF | rw [if_neg hq] at HF
  ·have q1 := hq
   go_enter Tryz.func47, Tryz.ntmps47
   go_upto_region 2 with (go_at_call 93; refine CG.o.mono ?_; rintro e w2 ⟨⟨cs, he, ho⟩, hf, hk2⟩; obtain ⟨s3, p3, c3, q3, j3, d3, rfl, hs3⟩ := ho.gone; subst he; rw [← HZ.o] at hs3; obtain rfl := hs3; have Ge := qI hf; have Gf := qI hk2; clear ho; clear hf hk2)
   generalize kindV n x = kd
   generalize numV n x = nm
   generalize lenV n x = ln
   obtain ⟨w3, Gb⟩ : ∃ w3, Hid (w3 = w2.alloc (.cells #[.int .i64 kd, .int .i64 nm, .string s3, .slice p3 ln c3, .slice q3 j3 d3] 28)) := ⟨_, qI rfl⟩
   have Gc : Hid (Kept [] w2 w3) := qI (by rw [Gb.o]; exact (Kept.refl _ _).alloc _)
   have Gg : Hid (BoxAt w3 w2.heap.size kd nm s3 (.slice p3 ln c3) (.slice q3 j3 d3)) := qI (by rw [Gb.o]; exact box_at _ _ _ _ _ _ _)
   have Ga := qI (Ge.o.kept0 Gc.o)
   rw [← Gb.o]
   obtain ⟨c5, f5⟩ := Ga.o.c5
   obtain ⟨b0, b1, b2, b3, b4⟩ := Gg.o
   go_wp2_with fail
   go_ret
   rw [HF.o]
   exact ⟨rfl, Ga.o, Gf.o.trans' (Gc.o.mono (by simp))⟩
  ·have q1 : most < (z.size : Int) := by omega
   clear hq
   skip
   all_goals
    go_enter Tryz.func47, Tryz.ntmps47
    go_upto_region 2 with (go_at_call 93; refine CG.o.mono ?_; rintro e w2 ⟨⟨cs, he, ho⟩, hf, hk2⟩; obtain ⟨s3, p3, c3, q3, j3, d3, rfl, hs3⟩ := ho.gone; subst he; rw [← HZ.o] at hs3; obtain rfl := hs3; have Ge := qI hf; have Gf := qI hk2; clear ho; clear hf hk2)
    generalize kindV n x = kd
    generalize numV n x = nm
    generalize lenV n x = ln
    obtain ⟨w3, Gb⟩ : ∃ w3, Hid (w3 = w2.alloc (.cells #[.int .i64 kd, .int .i64 nm, .string s3, .slice p3 ln c3, .slice q3 j3 d3] 28)) := ⟨_, qI rfl⟩
    have Gc : Hid (Kept [] w2 w3) := qI (by rw [Gb.o]; exact (Kept.refl _ _).alloc _)
    have Gg : Hid (BoxAt w3 w2.heap.size kd nm s3 (.slice p3 ln c3) (.slice q3 j3 d3)) := qI (by rw [Gb.o]; exact box_at _ _ _ _ _ _ _)
    have Ga := qI (Ge.o.kept0 Gc.o)
    rw [← Gb.o]
    obtain ⟨c5, f5⟩ := Ga.o.c5
    obtain ⟨b0, b1, b2, b3, b4⟩ := Gg.o
    go_wp2_with fail
    go_ret
    rw [HF.o]
    exact ⟨rfl, Ga.o.put true, (Gf.o.trans' (Gc.o.mono (by simp))).trans' ((Kept.refl [g] w3).setCell (.inl (by simp)) _)⟩
end
section
variable {n : Nat} {w : World} {g : Nat} {v : VS (V (n + 1))} {bad : Bool}
end
section
variable {n : Nat} {w : World} {g : Nat} {v : VS (V n)} {bad : Bool}
theorem rmap_any (h : FldR n w g v bad) (hl : v.m.length ≤ 1000000) (s : ByteArray) :
  Calls Tryz.prog 48 #[.pointer (some ⟨g, 0, none⟩), .string s] w fun e w' => GivenR n g w' e (fmap v bad s).1 ∧ FldR n w' g v (fmap v bad s).2 ∧ Kept [g] w w' := by
 obtain ⟨W0, Gl⟩ : ∃ W0, Hid (W0 = w.alloc (.cells #[.int .i64 0, .int .i64 0, .string ⟨#[]⟩, .slice none 0 0, .slice none 0 0] 28)) := ⟨_, qI rfl⟩
 have Gr : Hid (Kept [] w W0) := qI (by rw [Gl.o]; exact (Kept.refl _ w).alloc _)
 have Gx : Hid (W0.heap[w.heap.size]? = some (.cells #[.int .i64 0, .int .i64 0, .string ⟨#[]⟩, .slice none 0 0, .slice none 0 0] 28 (0, 0))) := qI (by rw [Gl.o]; exact block_alloc rfl)
 have HG : Hid (g < w.heap.size) := qI h.lt
 have CG := qI (rget_any (h.kept0 Gr.o) hl s 6)
 have Gs : Hid (fmap v bad s = rget v bad s 6) := qI rfl
 rw [Gs.o]
 clear h hl Gs
 have Gd : Hid (∀ (w2 : World) (k m : Int) (st : ByteArray) (a b : Value), Kept [g] W0 w2 → FldR n w2 g v (rget v bad s 6).2 → ∃ WF, Hid (WF = put5 w2 w.heap.size k m st a b) ∧ BoxAt w2 w.heap.size 0 0 ⟨#[]⟩ (.slice none 0 0) (.slice none 0 0) ∧ (∀ j, w2.frozen? ⟨w.heap.size, j, none⟩ = false) ∧ BoxAt WF w.heap.size k m st a b ∧ Hid (FldR n WF g v (rget v bad s 6).2 ∧ Kept [g] w WF ∧ Kept [w.heap.size] w2 WF)) := qI (fun w2 k m st a b hk hf => by
  have hr := hk.heap Gx.o (by have := HG.o; simp; omega)
  have hk3 := put5_kept w2 w.heap.size k m st a b
  exact ⟨_, qI rfl, box_of hr, fun j => free_head hr, box_of (put5_at hr _ _ _ _ _), qI ⟨hf.kept hk3 (by intro i hi; simp at hi; subst hi; exact HG.o), ((Gr.o.mono (by simp)).trans' hk).trans hk3 (by intro i hi; simp at hi; subst hi; exact .inr (Nat.le_refl _)), hk3⟩⟩)
 rcases rget_two v bad s 6 with hr | ⟨x, hr⟩
 ·rw [hr] at CG Gd ⊢
  simp only at CG Gd ⊢
  clear hr
  go_enter Tryz.func48, Tryz.ntmps48
  go_upto_region 1 with fail
  rw [← Gl.o]
  go_wp2_with (go_at_call 93; refine CG.o.mono ?_; rintro e w2 ⟨he, hf, hk2⟩; change e = _ at he; subst he; unfold zero5; obtain ⟨WF, Gm, ⟨r0, r1, r2, r3, r4⟩, z, ⟨y0, y1, y2, y3, y4⟩, Gi⟩ := Gd.o w2 0 0 ⟨#[]⟩ (.slice none 0 0) (.slice none 0 0) hk2 hf; clear hf hk2)
  change bodyPost _ _ _ _ _ (put5 w2 w.heap.size 0 0 ⟨#[]⟩ (.slice none 0 0) (.slice none 0 0))
  rw [← Gm.o]
  refine bodyPost_ret (v := zero5) (by simp [results, Tryz.results48, go_sem, y0, y1, y2, y3, y4, zero5]) rfl ?_
  exact ⟨rfl, Gi.o.1, Gi.o.2.1⟩
 ·rw [hr] at CG Gd ⊢
  simp only at CG Gd ⊢
  clear hr
  go_enter Tryz.func48, Tryz.ntmps48
  go_upto_region 1 with fail
  rw [← Gl.o]
  go_wp2_with (go_at_call 93; refine CG.o.mono ?_; rintro e w2 ⟨⟨cs, he, ho⟩, hf, hk2⟩; obtain ⟨k3, m3, s3, p3, i3, c3, q3, j3, e3, rfl⟩ := ho.conv; subst he; have HO := qI ho; obtain ⟨WF, Gm, ⟨r0, r1, r2, r3, r4⟩, z, ⟨y0, y1, y2, y3, y4⟩, Gi⟩ := Gd.o w2 k3 m3 s3 (.slice p3 i3 c3) (.slice q3 j3 e3) hk2 hf; clear hf hk2 ho)
  change bodyPost _ _ _ _ _ (put5 w2 w.heap.size k3 m3 s3 (.slice p3 i3 c3) (.slice q3 j3 e3))
  rw [← Gm.o]
  refine bodyPost_ret (v := .agg #[.int .i64 k3, .int .i64 m3, .string s3, .slice p3 i3 c3, .slice q3 j3 e3]) (by simp [results, Tryz.results48, go_sem, y0, y1, y2, y3, y4]) rfl ?_
  exact ⟨⟨_, rfl, HO.o.kept Gi.o.2.2 (by intro i hi; have := HG.o; simp at hi; omega)⟩, Gi.o.1, Gi.o.2.1⟩
end
def dig1 (z : Int) : Int := if 48 ≤ z ∧ z ≤ 57 then z - 48 else if 97 ≤ z ∧ z ≤ 102 then z - 97 + 10 else -1
theorem dig1_low (c : UInt8) : (isLow c = true → dig1 c.toNat = (hv c : Int) ∧ hv c < 16) ∧ (isLow c = false → dig1 c.toNat = -1) := by
 have h : ∀ n : Fin 256, (isLow (UInt8.ofNat n.val) = true → dig1 (UInt8.ofNat n.val).toNat = (hv (UInt8.ofNat n.val) : Int) ∧ hv (UInt8.ofNat n.val) < 16) ∧ (isLow (UInt8.ofNat n.val) = false → dig1 (UInt8.ofNat n.val).toNat = -1) := by decide +kernel
 have := h ⟨c.toNat, c.toNat_lt⟩
 simpa only [UInt8.ofNat_toNat] using this
theorem index_str {P : Program} {t : TypeId} (ht : P.underlying t = some .string) (s : ByteArray) (m : Nat) (h : m < s.data.toList.length) (W : World) : (Instr.index t (.string s) (.int .i64 m)).run P W = .ok (.int .u8 s.data.toList[m].toNat) W := by
 rw [run_index_string _ t s .i64 m ht, dif_pos ⟨by omega, by simp only [Array.length_toList] at h; have : s.data.size = s.size := rfl; omega⟩]
 rfl
theorem index_str1 {P : Program} {t : TypeId} (ht : P.underlying t = some .string) (s : ByteArray) (m : Nat) (h : m + 1 < s.data.toList.length) (W : World) : (Instr.index t (.string s) (.int .i64 ((m : Int) + 1))).run P W = .ok (.int .u8 s.data.toList[m + 1].toNat) W := index_str ht s (m + 1) h W
theorem hex_join16 (x y : Nat) (hx : x < 16) (hy : y < 16) : Value.int .u8 ((16 * (x : Int) + y) % 256) = bv (UInt8.ofNat (x * 16 + y)) := by
 unfold bv
 congr 1
 have : (UInt8.ofNat (x * 16 + y)).toNat = x * 16 + y := by simp [UInt8.toNat_ofNat']; omega
 rw [this]
 omega
theorem ref1Digit_any (z : Int) (h0 : 0 ≤ z) (h1 : z ≤ 255) (w : World) : Calls Tryz.prog 94 #[.int .u8 z] w fun e w' => e = .returned (.int .i64 (dig1 z)) ∧ w = w' := by
 by_cases c1 : 48 ≤ z ∧ z ≤ 57
 ·have HZ : Hid (dig1 z = z - 48) := qI (by unfold dig1; rw [if_pos c1])
  obtain ⟨g1, g2⟩ := c1
  go_enter Tryz.func94, Tryz.ntmps94
  go_wp2_with fail
  go_ret
  exact ⟨ret_int HZ.o.symm, rfl⟩
 by_cases c2 : 97 ≤ z ∧ z ≤ 102
 ·have HZ : Hid (dig1 z = z - 97 + 10) := qI (by unfold dig1; rw [if_neg c1, if_pos c2])
  obtain ⟨g1, g2⟩ := c2
  have g3 : ¬ z ≤ 57 := by omega
  clear c1
  go_enter Tryz.func94, Tryz.ntmps94
  go_wp2_with fail
  go_ret
  exact ⟨ret_int HZ.o.symm, rfl⟩
 have HZ : Hid (dig1 z = -1) := qI (by unfold dig1; rw [if_neg c1, if_neg c2])
 have d1 : z < 48 ∨ (57 < z ∧ z < 97) ∨ 102 < z := by omega
 clear c1 c2
 rcases d1 with g | ⟨g, g'⟩ | g
 ·have k1 : ¬ 48 ≤ z := by omega
  have k2 : ¬ 97 ≤ z := by omega
  go_enter Tryz.func94, Tryz.ntmps94
  go_wp2_with fail
  go_ret
  exact ⟨ret_int HZ.o.symm, rfl⟩
 ·have k0 : 48 ≤ z := by omega
  have k1 : ¬ z ≤ 57 := by omega
  have k2 : ¬ 97 ≤ z := by omega
  go_enter Tryz.func94, Tryz.ntmps94
  go_wp2_with fail
  go_ret
  exact ⟨ret_int HZ.o.symm, rfl⟩
 ·have k0 : 48 ≤ z := by omega
  have k1 : ¬ z ≤ 57 := by omega
  have k2 : 97 ≤ z := by omega
  have k3 : ¬ z ≤ 102 := by omega
  go_enter Tryz.func94, Tryz.ntmps94
  go_wp2_with fail
  go_ret
  exact ⟨ret_int HZ.o.symm, rfl⟩
theorem tyB1 : SliceTy Tryz.prog 82 5 1 1 (.int .u8 0) := ⟨Tryz.underlying82, by kernel_rfl, rfl, by decide⟩
def UnhexR (w w' : World) (e : Ending) : Option (List UInt8) → Prop
 | none => e = .returned (.tuple #[.slice none 0 0, .bool false])
 | some l => ∃ a c, e = .returned (.tuple #[.slice a l.length c, .bool true]) ∧ Bytes w' (.slice a l.length c) l ∧ ∀ g, vblk (.slice a l.length c) = some g → w.heap.size ≤ g
theorem refUnhex_any (s : ByteArray) (hs : s.size ≤ 140737488355328) (w : World) : Calls Tryz.prog 50 #[.string s] w fun e w' => UnhexR w w' e (unhexS s) ∧ Kept [] w w' := by
 obtain ⟨z, HZ⟩ : ∃ z, Hid (z = s.size) := ⟨_, qI rfl⟩
 have HL : Hid (s.data.toList.length = s.size) := qI (by simp)
 have HU : Hid (unhexS s = if s.size % 2 = 0 ∧ s.data.toList.all isLow = true then some (pairsH s.data.toList) else none) := qI rfl
 have HP := qI (pairsH_len s.data.toList)
 have Gy := qI (pairsH_step s.data.toList)
 have hsI : (s.size : Int) ≤ 140737488355328 := by omega
 have Gt : Hid (∀ (j : Nat) (h : j < s.data.toList.length), isLow s.data.toList[j] = false → unhexS s = none) := qI (fun j h hl => by
  rw [HU.o, if_neg]
  rintro ⟨-, ha⟩
  have := List.all_eq_true.1 ha _ (List.getElem_mem h)
  rw [hl] at this; cases this)
 have hsN := qI hs
 clear hs
 go_enter Tryz.func50, Tryz.ntmps50
 go_wp2_with fail
 go_loopw [4, 5] (fun out i wr => ∃ (m k : Nat) (a : Option Addr) (c : Nat), i = .int .i64 m ∧ Hid (m = 2 * k ∧ m ≤ s.size) ∧ out = .slice a k c ∧ wr.ownsRow w.heap.size 5 1 (.slice a k c) k (((pairsH s.data.toList).take k).map bv) ∧ Hid (∀ (j : Nat) (h : j < s.data.toList.length), j < m → isLow s.data.toList[j] = true) ∧ Kept [] w wr) (fun _ i _ => s.size - (intOf i).toNat)
 case atStart => exact ⟨0, 0, none, 0, rfl, qI ⟨rfl, Nat.zero_le _⟩, rfl, World.ownsRow_nil _ _ _ _, qI (fun j h hj => by omega), Kept.refl _ _⟩
 case round =>
  obtain ⟨m, k, a, c, rfl, HM, rfl, hrow, Gk, hkr⟩ := hrel
  have Gh := qI hrow
  have Gj := qI hkr
  clear hrow hkr
  by_cases hlt : m < s.size
  ·have hltI : (m : Int) < s.size := by omega
   by_cases hl2 : m + 1 < s.size
   rotate_left
   ·have hge : (s.size : Int) ≤ (m : Int) + 1 := by omega
    have HN : Hid (unhexS s = none) := qI (by rw [HU.o, if_neg]; rintro ⟨h1, -⟩; have := HM.o.1; omega)
    clear hl2 hlt
    go_wp2_with fail
    go_ret2
    rw [HN.o]
    exact ⟨rfl, Gj.o⟩
   have hge : (m : Int) + 1 < s.size := by omega
   have hj1 : m < s.data.toList.length := by rw [HL.o]; exact hlt
   have hj2 : m + 1 < s.data.toList.length := by rw [HL.o]; exact hl2
   have I1 := qI (index_str Tryz.underlying9 s m hj1)
   have I2 := qI (index_str1 Tryz.underlying9 s m hj2)
   have N1 := qI (Gt.o m hj1)
   have N2 := qI (Gt.o (m + 1) hj2)
   have D1 := qI (dig1_low s.data.toList[m])
   have D2 := qI (dig1_low s.data.toList[m + 1])
   have L1 : Hid (isLow s.data.toList[m] = true → isLow s.data.toList[m + 1] = true → ∀ (j : Nat) (h : j < s.data.toList.length), j < m + 2 → isLow s.data.toList[j] = true) := qI (fun g1 g2 j h hj => by
    rcases Nat.lt_or_ge j m with q | q
    ·exact Gk.o j h q
    ·obtain rfl | rfl : j = m ∨ j = m + 1 := by omega
     ·exact g1
     ·exact g2)
   have C1 := qI (ref1Digit_any (s.data.toList[m].toNat : Int) (by omega) (by have := s.data.toList[m].toNat_lt; omega))
   have C2 := qI (ref1Digit_any (s.data.toList[m + 1].toNat : Int) (by omega) (by have := s.data.toList[m + 1].toNat_lt; omega))
   have hkp : 2 * k + 1 < s.data.toList.length := by rw [← HM.o.1]; exact hj2
   obtain ⟨p1, p2⟩ := Gy.o k hkp
   have HN : Hid ((pairsH s.data.toList).take (k + 1) = (pairsH s.data.toList).take k ++ [UInt8.ofNat (hv s.data.toList[m] * 16 + hv s.data.toList[m + 1])]) := qI (by
    rw [List.take_succ_eq_append_getElem p1, p2]
    simp only [HM.o.1])
   have Gu : Hid (m + 1 < s.size) := qI hl2
   clear p1 p2 hkp
   revert I1 I2 N1 N2 D1 D2 L1 C1 C2 HN
   generalize s.data.toList[m] = xb
   generalize s.data.toList[m + 1] = yb
   intro I1 I2 N1 N2 D1 D2 L1 C1 C2 HN
   obtain ⟨px, HX⟩ : ∃ px : Int, Hid (px = xb.toNat) := ⟨_, qI rfl⟩
   obtain ⟨py, HY⟩ : ∃ py : Int, Hid (py = yb.toNat) := ⟨_, qI rfl⟩
   rw [← HX.o] at I1 C1 D1
   rw [← HY.o] at I2 C2 D2
   clear hj1 hj2 hl2 hlt
   have hix := I1.o
   have hiy := I2.o
   rcases Bool.eq_false_or_eq_true (isLow xb) with e1 | e1
   rotate_left
   ·have Gn := qI (N1.o e1)
    rw [D1.o.2 e1] at C1
    go_wp2_with (go_at_call 94; refine (C1.o _).mono ?_; rintro e w5 ⟨rfl, rfl⟩)
    go_ret2
    rw [Gn.o]
    exact ⟨rfl, Gj.o⟩
   obtain ⟨d1, x16⟩ := D1.o.1 e1
   rcases Bool.eq_false_or_eq_true (isLow yb) with e2 | e2
   rotate_left
   ·have Gn := qI (N2.o e2)
    rw [D2.o.2 e2] at C2
    rw [d1] at C1
    clear d1 x16
    generalize hv xb = hx at *
    go_wp2_with first
     | (have Gz := GO1; go_at_call 94; refine (C2.o _).mono ?_; rintro e w5 ⟨rfl, rfl⟩)
     | (go_at_call 94; refine (C1.o _).mono ?_; rintro e w5 ⟨rfl, rfl⟩; have GO1 := True.intro)
    go_ret2
    rw [Gn.o]
    exact ⟨rfl, Gj.o⟩
   obtain ⟨d2, y16⟩ := D2.o.1 e2
   rw [d1] at C1
   rw [d2] at C2
   have Ja := qI (L1.o e1 e2)
   clear d1 d2 D1 D2 e1 e2 L1 N1 N2
   revert C1 C2 HN x16 y16
   generalize hv xb = hx
   generalize hv yb = hy
   intro HN C1 C2 x16 y16
   have X16 := qI x16
   have Y16 := qI y16
   clear x16 y16
   go_upto_region 7 with first
    | (have Gz := GO1; go_at_call 94; refine (C2.o _).mono ?_; rintro e w5 ⟨rfl, rfl⟩)
    | (go_at_call 94; refine (C1.o _).mono ?_; rintro e w5 ⟨rfl, rfl⟩; have GO1 := True.intro)
   clear hix hiy
   obtain ⟨bb, Gv⟩ : ∃ bb, Hid (bb = UInt8.ofNat (hx * 16 + hy)) := ⟨_, qI rfl⟩
   rw [← Gv.o] at HN
   refine wp_grows_late (n := 48) 14 [Fact.is (.slice a k c),
    Fact.is (.string s),
    Fact.is (.int .i64 m),
    Fact.is (.int .u8 px),
    Fact.is (.int .i64 hx),
    Fact.is (.int .i64 (16 * hx)),
    Fact.is (.string s),
    Fact.is (.int .i64 m),
    Fact.is (.int .i64 (m + 1)),
    Fact.is (.int .u8 py),
    Fact.is (.int .i64 hy),
    Fact.is (.int .i64 (16 * hx + hy)),
    Fact.is (.int .u8 (bb.toNat : Int)),
    pairFact [bv bb] 1 1] (by kernel_rfl) rfl (by kernel_rfl) (fun x => by simp only [List.map, puts, Act.put, List.setIfInBounds_toArray, List.set_cons_zero, List.set_cons_succ]; rfl) (fun x hx => by rw [show x 15 = .slice a k c from hx 15 (by decide) (by decide)]) ?_ ?_
   ·refine ⟨fun x w2 hkw b hd => ?_, fun x w2 hkw b hd => ?_, fun x w2 hkw b hd => ?_, fun x w2 hkw b hd => ?_, fun x w2 hkw b hd => ?_, fun x w2 hkw b hd => ?_, fun x w2 hkw b hd => ?_, fun x w2 hkw b hd => ?_, fun x w2 hkw b hd => ?_, fun x w2 hkw b hd => ?_, fun x w2 hkw b hd => ?_, fun x w2 hkw b hd => ?_, fun x w2 hkw b hd => ?_, fun x w2 hkw b hd => ?_, trivial⟩
    ·go_wp2_with fail
     exact ⟨rfl, Kept.refl _ _⟩
    ·go_wp2_with fail
     exact ⟨rfl, Kept.refl _ _⟩
    ·go_wp2_with fail
     exact ⟨rfl, Kept.refl _ _⟩
    ·have d1 : x 1 = _ := hd 1 (by kernel_rfl)
     have d2 : x 2 = _ := hd 2 (by kernel_rfl)
     have hix := I1.o w2
     go_wp2_with fail
     exact ⟨rfl, Kept.refl _ _⟩
    ·have d3 : x 3 = _ := hd 3 (by kernel_rfl)
     have CX := C1.o w2
     go_wp2_with (go_at_call 94; refine CX.mono ?_; rintro e w5 ⟨rfl, rfl⟩)
     exact ⟨rfl, Kept.refl _ _⟩
    ·have d4 : x 4 = _ := hd 4 (by kernel_rfl)
     have hxI : (hx : Int) < 16 := by have := X16.o; omega
     go_wp2_with fail
     exact ⟨rfl, Kept.refl _ _⟩
    ·go_wp2_with fail
     exact ⟨rfl, Kept.refl _ _⟩
    ·go_wp2_with fail
     exact ⟨rfl, Kept.refl _ _⟩
    ·have d7 : x 7 = _ := hd 7 (by kernel_rfl)
     go_wp2_with fail
     exact ⟨rfl, Kept.refl _ _⟩
    ·have d6 : x 6 = _ := hd 6 (by kernel_rfl)
     have d8 : x 8 = _ := hd 8 (by kernel_rfl)
     have hix := I2.o w2
     go_wp2_with fail
     exact ⟨rfl, Kept.refl _ _⟩
    ·have d9 : x 9 = _ := hd 9 (by kernel_rfl)
     have CX := C2.o w2
     go_wp2_with (go_at_call 94; refine CX.mono ?_; rintro e w5 ⟨rfl, rfl⟩)
     exact ⟨rfl, Kept.refl _ _⟩
    ·have d5 : x 5 = _ := hd 5 (by kernel_rfl)
     have d10 : x 10 = _ := hd 10 (by kernel_rfl)
     have hxI : (hx : Int) < 16 := by have := X16.o; omega
     have hyI : (hy : Int) < 16 := by have := Y16.o; omega
     go_wp2_with fail
     exact ⟨rfl, Kept.refl _ _⟩
    ·have d11 : x 11 = _ := hd 11 (by kernel_rfl)
     have HJ : Hid (Value.int .u8 ((16 * (hx : Int) + hy) % 256) = bv bb) := qI (by rw [Gv.o]; exact hex_join16 hx hy X16.o Y16.o)
     go_wp2_with fail
     refine ⟨?_, Kept.refl _ _⟩
     exact HJ.o
    ·have d12 : x 12 = _ := hd 12 (by kernel_rfl)
     go_wp2_with fail
     exact ⟨⟨w2.heap.size, rfl, Nat.le_refl _, by simp, slc_one w2 _ _ _ rfl⟩, (Kept.refl _ _).alloc _⟩
   ·intro x9 w7 hkw b hd hwin
    have d0 : x9 0 = _ := hd 0 (by decide)
    obtain ⟨g9, d13, g1, g2, hsl⟩ := hd 13 (by decide)
    have Jb := qI hsl
    have Gp := qI hkw
    clear hd hwin hkw hsl g1 g2
    change wpList _ _ _ [_, _] _ _
    go_wp2_with (at_builtin; refine wpList_append_slc tyB1 (v := .slice a k c) (n := k) (row_kept Gh.o Gp.o (by simp)) Jb.o (by simp [bv, Value.oneCell']) (by simp only [maxLen]; have := hsN.o; have := HM.o; omega) (by have := hsN.o; have := HM.o; omega) (by have := Gj.o.size; have := Gp.o.size; simp; omega) rfl _ _ rfl d0 d13 ?_; intro v5 w8 hown hk5 _ hb5; obtain ⟨a5, c5, rfl, -, -⟩ := (Slc.of_row hown).form; have Gq := qI hown; have Jc := qI hk5; clear hown hk5 hb5)
    case roundEnd =>
     refine ⟨⟨m + 2, k + 1, a5, c5, by go_num, qI (by have := HM.o; have := Gu.o; omega), rfl, by rw [HN.o, List.map_append]; exact Gq.o, Ja, (Gj.o.then Gp.o).trans Jc.o (fun i hi => .inr (Gh.o.lt i (Option.mem_toList.1 hi)).1)⟩, by have := Gu.o; simp [intOf]; omega⟩
  ·have HE : Hid (unhexS s = some (pairsH s.data.toList)) := qI (by
    have h1 := HM.o
    rw [HU.o, if_pos ⟨by omega, List.all_eq_true.2 (fun c hc => by
     obtain ⟨j, hj, rfl⟩ := List.getElem_of_mem hc
     exact Gk.o j hj (by rw [HL.o] at hj; omega))⟩])
   have Gw : Hid (k = (pairsH s.data.toList).length) := qI (by have h1 := HM.o; rw [HP.o, HL.o]; omega)
   go_wp2_with fail
   go_ret2
   rw [HE.o]
   have hrow := Gh.o
   rw [Gw.o, List.take_length] at hrow
   refine ⟨⟨a, c, by rw [← Gw.o]; rfl, Slc.of_row hrow, fun g hg => (hrow.lt g (own_of_vblk hg)).1⟩, Gj.o⟩
end Go.Proofs.YtckbnjipecclaaaGreatDoor

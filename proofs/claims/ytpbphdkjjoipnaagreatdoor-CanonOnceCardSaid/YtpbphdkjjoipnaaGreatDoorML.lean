/- Parts of one proof, merged: XLi XLA. -/
import Derived.Test.YtpbphdkjjoipnaaGreatDoorMG
import Derived.Test.YtpbphdkjjoipnaaGreatDoorMK
import Derived.Test.YtpbphdkjjoipnaaGreatDoorMB
import Derived.Lib.SlBytesConst
import Derived.Test.YtpbphdkjjoipnaaGreatDoorMH
import Derived.Test.YtpbphdkjjoipnaaGreatDoorMA
set_option linter.all false
set_option linter.unusedVariables false
set_option linter.unusedSimpArgs false
set_option linter.unnecessarySimpa false
namespace Go.Proofs.YtpbphdkjjoipnaaGreatDoor
open Go.RowKit
set_option maxRecDepth 10000 in
set_option maxHeartbeats 1600000 in
theorem one_any (k : Int) (hk : k = 1 ∨ k = 2) (w : World) : Calls Tryz.prog 38 #[.int .i64 k] w fun e w' => (∃ cs : List Value, e = .returned (.agg cs.toArray) ∧ Rep 12 (fun _ => True) w' cs (oneV 9 k)) ∧ Kept [] w w' := by
  obtain ⟨W0, HW0⟩ : ∃ W0, Hid (W0 = ((w.alloc (.cells #[.int .i64 6, .int .i64 0, .string ⟨#[]⟩, .slice none 0 0, .slice (some ⟨w.heap.size + 1 + 1, 0, none⟩) 2 2] 25)).alloc (.cells #[.int .i64 3, .int .i64 k, .string ⟨#[]⟩, .slice none 0 0, .slice none 0 0] 25)).alloc (.cells #[.string ⟨#[98]⟩, .int .i64 5, .int .i64 0, .string ⟨#[]⟩, .slice (some ⟨w.heap.size + 1, 0, none⟩) 1 1, .slice none 0 0, .string ⟨#[97]⟩, .int .i64 4, .int .i64 0, .string ⟨#[120]⟩, .slice none 0 0, .slice none 0 0] 60)) := ⟨_, Lib.hid rfl⟩
  have HK0 : Hid (Kept [] w W0) := Lib.hid (by rw [HW0.out]; exact (((Kept.refl [] w).alloc _).alloc _).alloc _)
  have HB0 : Hid (W0.heap[w.heap.size]? = some (.cells #[.int .i64 6, .int .i64 0, .string ⟨#[]⟩, .slice none 0 0, .slice (some ⟨w.heap.size + 1 + 1, 0, none⟩) 2 2] 25 (0, 0))) := Lib.hid (by rw [HW0.out]; exact (((Kept.refl [] _).alloc _).alloc _).heap (block_alloc rfl) (by simp))
  have HS1 : Hid (Slc W0 5 (.slice (some ⟨w.heap.size + 1, 0, none⟩) 1 1) 1 [.int .i64 3, .int .i64 k, .string ⟨#[]⟩, .slice none 0 0, .slice none 0 0]) := Lib.hid (by
    rw [HW0.out]; exact (slc_new _ _ 5 1 _ _ (by simp) rfl (by decide)).kept0 ((Kept.refl [] _).alloc _))
  have HS2 : Hid (Slc W0 6 (.slice (some ⟨w.heap.size + 1 + 1, 0, none⟩) 2 2) 2 [.string ⟨#[98]⟩, .int .i64 5, .int .i64 0, .string ⟨#[]⟩, .slice (some ⟨w.heap.size + 1, 0, none⟩) 1 1, .slice none 0 0, .string ⟨#[97]⟩, .int .i64 4, .int .i64 0, .string ⟨#[120]⟩, .slice none 0 0, .slice none 0 0]) := Lib.hid (by
    rw [HW0.out]; exact slc_new _ _ 6 2 _ _ (by simp) rfl (by decide))
  have HWF : Hid ((Lit.int .i64 k).wf = true) := Lib.hid (wf64 (by omega) (by omega))
  clear hk
  go_enter Tryz.func38, Tryz.ntmps38
  go_wp2_with fail
  rw [← HW0.out]
  have d0 := cell_head (o := 0) (v := .int .i64 6) HB0.out rfl
  have d1 := cell_head (o := 1) (v := .int .i64 0) HB0.out rfl
  have d2 := cell_head (o := 2) (v := .string ⟨#[]⟩) HB0.out rfl
  have d3 := cell_head (o := 3) (v := .slice none 0 0) HB0.out rfl
  have d4 := cell_head (o := 4) (v := .slice (some ⟨w.heap.size + 1 + 1, 0, none⟩) 2 2) HB0.out rfl
  refine bodyPost_ret (v := .agg #[.int .i64 6, .int .i64 0, .string ⟨#[]⟩, .slice none 0 0, .slice (some ⟨w.heap.size + 1 + 1, 0, none⟩) 2 2]) (by simp [results, Tryz.results38, go_sem, d0, d1, d2, d3, d4]) rfl ⟨⟨[.int .i64 6, .int .i64 0, .string ⟨#[]⟩, .slice none 0 0, .slice (some ⟨w.heap.size + 1 + 1, 0, none⟩) 2 2], rfl, ?_⟩, HK0.out⟩
  have hleaf : Rep 10 (fun _ => True) W0 [.int .i64 3, .int .i64 k, .string ⟨#[]⟩, .slice none 0 0, .slice none 0 0] (⟨3, k, ⟨#[]⟩, [], []⟩ : VS (V 9)) := rep_leaf (n := 9) _ W0 (⟨3, k, ⟨#[]⟩, [], []⟩ : VS (V 9)) rfl rfl (wf64 (i := 3) (by decide) (by decide)) HWF.out
  have htext : Rep 11 (fun _ => True) W0 [.int .i64 4, .int .i64 0, .string ⟨#[120]⟩, .slice none 0 0, .slice none 0 0] (⟨4, 0, ⟨#[120]⟩, [], []⟩ : VS (V 10)) := rep_leaf (n := 10) _ W0 (⟨4, 0, ⟨#[120]⟩, [], []⟩ : VS (V 10)) rfl rfl (by decide) (by decide)
  have hlist : Rep 11 (fun _ => True) W0 [.int .i64 5, .int .i64 0, .string ⟨#[]⟩, .slice (some ⟨w.heap.size + 1, 0, none⟩) 1 1, .slice none 0 0] (⟨5, 0, ⟨#[]⟩, [(⟨3, k, ⟨#[]⟩, [], []⟩ : VS (V 9))], []⟩ : VS (V 10)) :=
    ⟨_, _, [[.int .i64 3, .int .i64 k, .string ⟨#[]⟩, .slice none 0 0, .slice none 0 0]], [], {
      cells := rfl
      slcl := HS1.out
      alll := All2.cons hleaf (All2.nil _)
      slcm := slc_nil _ _
      allm := All2.nil _
      inl := fun _ _ => trivial
      inm := fun _ _ => trivial
      wfk := wf64 (i := 5) (by decide) (by decide)
      wfn := wf64 (i := 0) (by decide) (by decide) }⟩
  exact ⟨_, _, [], [(⟨#[98]⟩, [.int .i64 5, .int .i64 0, .string ⟨#[]⟩, .slice (some ⟨w.heap.size + 1, 0, none⟩) 1 1, .slice none 0 0]), (⟨#[97]⟩, [.int .i64 4, .int .i64 0, .string ⟨#[120]⟩, .slice none 0 0, .slice none 0 0])], {
      cells := rfl
      slcl := slc_nil _ _
      alll := All2.nil _
      slcm := HS2.out
      allm := All2.cons ⟨rfl, hlist⟩ (All2.cons ⟨rfl, htext⟩ (All2.nil _))
      inl := fun _ _ => trivial
      inm := fun _ _ => trivial
      wfk := wf64 (i := 6) (by decide) (by decide)
      wfn := wf64 (i := 0) (by decide) (by decide) }⟩
theorem size_one : sizeV 12 (oneV 9 1) = 17 := by
  unfold sizeV
  rw [if_pos (check_oneV 1 (.inl rfl)), sort_oneV, write_oneS]
  rfl
theorem lit_bytes (w : World) (l : List UInt8) (hl : l.length ≤ 1000) (f : Nat × Nat) : Bytes (w.alloc (.cells (l.map bv).toArray 5 f)) (.slice (some ⟨w.heap.size, 0, none⟩) l.length l.length) l :=
  ⟨by simp, .inr (.inr ⟨w.heap.size, 0, l.length, rfl, Nat.le_refl _, by simp only [maxLen]; omega, ⟨fun j u h => by rw [Nat.zero_add]; exact cell_head (heap_alloc_new w _) (by simpa using h), by simp⟩⟩)⟩
theorem dec_lit1 {w : World} {g : Nat} (hg : w.heap.size = g) (ht : Tabs w) : Calls Tryz.prog 17 #[.slice (some ⟨g, 0, none⟩) 17 17] (w.alloc (.cells #[.int .u8 123, .int .u8 34, .int .u8 97, .int .u8 34, .int .u8 58, .int .u8 34, .int .u8 120, .int .u8 34, .int .u8 44, .int .u8 34, .int .u8 98, .int .u8 34, .int .u8 58, .int .u8 91, .int .u8 49, .int .u8 93, .int .u8 125] 5 (17, 18))) fun e w' => (∃ x y z b c, e = .returned (.tuple #[.agg #[.int .i64 6, .int .i64 0, .string ⟨#[]⟩, .slice x y z, .slice b 2 c], .int .i64 0])) ∧ Kept [] w w' := by
  subst hg
  have hk := (Kept.refl [] w).alloc (.cells #[.int .u8 123, .int .u8 34, .int .u8 97, .int .u8 34, .int .u8 58, .int .u8 34, .int .u8 120, .int .u8 34, .int .u8 44, .int .u8 34, .int .u8 98, .int .u8 34, .int .u8 58, .int .u8 91, .int .u8 49, .int .u8 93, .int .u8 125] 5 (17, 18))
  have hb : Bytes (w.alloc (.cells #[.int .u8 123, .int .u8 34, .int .u8 97, .int .u8 34, .int .u8 58, .int .u8 34, .int .u8 120, .int .u8 34, .int .u8 44, .int .u8 34, .int .u8 98, .int .u8 34, .int .u8 58, .int .u8 91, .int .u8 49, .int .u8 93, .int .u8 125] 5 (17, 18))) (.slice (some ⟨w.heap.size, 0, none⟩) text1.length text1.length) text1 := lit_bytes w text1 (by decide) _
  refine (decode_any (a := some ⟨w.heap.size, 0, none⟩) (c := 17) (l := text1) hb (ht.kept0 hk)).mono ?_
  rintro e w' ⟨ha, hk2⟩
  unfold DecAns at ha
  rw [dec_text1] at ha
  obtain ⟨cs, -, rfl, ho⟩ := ha
  obtain ⟨vl, vm, lcs, mcs, ho⟩ := ho.rep
  obtain ⟨x1, x2, x3, x4, -, -, rfl⟩ := ho.forms
  exact ⟨⟨_, _, _, _, _, rfl⟩, hk.then hk2⟩
theorem dec_lit2 {w : World} {g : Nat} (hg : w.heap.size = g) (ht : Tabs w) : Calls Tryz.prog 17 #[.slice (some ⟨g, 0, none⟩) 8 8] (w.alloc (.cells #[.int .u8 123, .int .u8 34, .int .u8 97, .int .u8 34, .int .u8 58, .int .u8 32, .int .u8 49, .int .u8 125] 5 (8, 9))) fun e w' => e = .returned (.tuple #[.agg #[.int .i64 0, .int .i64 0, .string ⟨#[]⟩, .slice none 0 0, .slice none 0 0], .int .i64 60]) ∧ Kept [] w w' := by
  subst hg
  have hk := (Kept.refl [] w).alloc (.cells #[.int .u8 123, .int .u8 34, .int .u8 97, .int .u8 34, .int .u8 58, .int .u8 32, .int .u8 49, .int .u8 125] 5 (8, 9))
  have hb : Bytes (w.alloc (.cells #[.int .u8 123, .int .u8 34, .int .u8 97, .int .u8 34, .int .u8 58, .int .u8 32, .int .u8 49, .int .u8 125] 5 (8, 9))) (.slice (some ⟨w.heap.size, 0, none⟩) text2.length text2.length) text2 := lit_bytes w text2 (by decide) _
  refine (decode_any (a := some ⟨w.heap.size, 0, none⟩) (c := 8) (l := text2) hb (ht.kept0 hk)).mono ?_
  rintro e w' ⟨ha, hk2⟩
  unfold DecAns at ha
  rw [dec_text2] at ha
  exact ⟨ha.2, hk.then hk2⟩
theorem dec_lit3 {w : World} {g : Nat} (hg : w.heap.size = g) (ht : Tabs w) : Calls Tryz.prog 17 #[.slice (some ⟨g, 0, none⟩) 6 6] (w.alloc (.cells #[.int .u8 123, .int .u8 34, .int .u8 97, .int .u8 34, .int .u8 58, .int .u8 49] 5 (6, 7))) fun e w' => e = .returned (.tuple #[.agg #[.int .i64 0, .int .i64 0, .string ⟨#[]⟩, .slice none 0 0, .slice none 0 0], .int .i64 50]) ∧ Kept [] w w' := by
  subst hg
  have hk := (Kept.refl [] w).alloc (.cells #[.int .u8 123, .int .u8 34, .int .u8 97, .int .u8 34, .int .u8 58, .int .u8 49] 5 (6, 7))
  have hb : Bytes (w.alloc (.cells #[.int .u8 123, .int .u8 34, .int .u8 97, .int .u8 34, .int .u8 58, .int .u8 49] 5 (6, 7))) (.slice (some ⟨w.heap.size, 0, none⟩) text3.length text3.length) text3 := lit_bytes w text3 (by decide) _
  refine (decode_any (a := some ⟨w.heap.size, 0, none⟩) (c := 6) (l := text3) hb (ht.kept0 hk)).mono ?_
  rintro e w' ⟨ha, hk2⟩
  unfold DecAns at ha
  rw [dec_text3] at ha
  exact ⟨ha.2, hk.then hk2⟩
set_option maxRecDepth 100000 in
set_option maxHeartbeats 6400000 in
theorem lives_any {w : World} (ht : Tabs w) : Calls Tryz.prog 12 #[] w fun e w' => e = .returned (.bool true) ∧ Kept [] w w' := by
  have HT := Lib.hid ht
  clear ht
  have kc := fun (w : World) (C : Array Value) (n c : Nat) => Lib.run_convert_bytes_const (P := Tryz.prog) w 28 5 C n c Tryz.underlying28 Tryz.underlying5
  have kc2 : ∀ (w : World) (o : Obj) (C : Array Value) (n c : Nat), (convert 28 28 (.slice (some ⟨w.heap.size + 1, 0, none⟩) n c)).run Tryz.prog ((w.alloc o).alloc (.cells C 5)) = .ok (.slice (some ⟨w.heap.size + 1, 0, none⟩) n c) ((w.alloc o).alloc (.cells C 5 (C.size, C.size + 1))) := fun w o C n c => by
    have h := kc (w.alloc o) C n c
    rw [show (w.alloc o).heap.size = w.heap.size + 1 by simp] at h
    exact h
  go_enter Tryz.func12, Tryz.ntmps12
  go_wp2_with fail
  refine (one_any 1 (.inl rfl) _).mono ?_
  rintro e w1 ⟨⟨cs1, rfl, hr1⟩, hk1⟩
  obtain ⟨k1, m1, s1, p1, i1, c1, q1, j1, d1, rfl⟩ := hr1.conv
  have HR1 := Lib.hid hr1
  have HK1 := Lib.hid hk1
  clear hr1 hk1
  go_wp2_with fail
  refine (encode_any HR1.out (small_oneV 1 (.inl rfl)) (by decide) (HT.out.kept0 HK1.out)).mono ?_
  rintro e w2 ⟨⟨a2, c2, rfl, hb2⟩, hk2⟩
  rw [enc_oneV] at hb2 ⊢
  have HB2 := Lib.hid hb2
  have HK2 := Lib.hid (HK1.out.then hk2)
  clear hb2 hk2
  go_wp2_with fail
  refine (dec_lit1 rfl (HT.out.kept0 HK2.out)).mono ?_
  rintro e w3 ⟨⟨x3, y3, z3, b3, c3, rfl⟩, hk3⟩
  have HK3 := Lib.hid (HK2.out.then hk3)
  have HB3 := Lib.hid (HB2.out.kept0 hk3)
  obtain ⟨W3, HW3⟩ : ∃ W3, Hid (W3 = w3.alloc (.cells #[.int .i64 6, .int .i64 0, .string ⟨#[]⟩, .slice x3 y3 z3, .slice b3 2 c3] 25)) := ⟨_, Lib.hid rfl⟩
  have HK3' : Hid (Kept [] w3 W3) := Lib.hid (by rw [HW3.out]; exact (Kept.refl [] w3).alloc _)
  have HV3 : Hid (W3.heap[w3.heap.size]? = some (.cells #[.int .i64 6, .int .i64 0, .string ⟨#[]⟩, .slice x3 y3 z3, .slice b3 2 c3] 25 (0, 0))) := Lib.hid (by rw [HW3.out]; exact block_alloc rfl)
  clear hk3
  go_wp2_with fail
  rw [← HW3.out]
  refine (dec_lit2 (w := W3) (g := w3.heap.size + 1) (by rw [HW3.out]; simp) (HT.out.kept0 (HK3.out.then HK3'.out))).mono ?_
  rintro e w4 ⟨rfl, hk4⟩
  have HK4 := Lib.hid (HK3'.out.then (hk4.alloc (.cells #[.int .i64 0, .int .i64 0, .string ⟨#[]⟩, .slice none 0 0, .slice none 0 0] 25)))
  have HV4 := Lib.hid ((hk4.alloc (.cells #[.int .i64 0, .int .i64 0, .string ⟨#[]⟩, .slice none 0 0, .slice none 0 0] 25)).heap HV3.out (by simp))
  clear hk4
  go_wp2_with fail
  refine (dec_lit3 (g := w4.heap.size + 1) (by simp) (HT.out.kept0 (HK3.out.then HK4.out))).mono ?_
  rintro e w5 ⟨rfl, hk5⟩
  have HK5 := Lib.hid (HK4.out.then (hk5.alloc (.cells #[.int .i64 0, .int .i64 0, .string ⟨#[]⟩, .slice none 0 0, .slice none 0 0] 25)))
  have HV5 := Lib.hid ((hk5.alloc (.cells #[.int .i64 0, .int .i64 0, .string ⟨#[]⟩, .slice none 0 0, .slice none 0 0] 25)).heap HV4.out (by simp))
  clear hk5
  go_wp2_with fail
  refine (one_any 1 (.inl rfl) _).mono ?_
  rintro e w6 ⟨⟨cs6, rfl, hr6⟩, hk6⟩
  obtain ⟨k6, m6, s6, p6, i6, c6, q6, j6, d6, rfl⟩ := hr6.conv
  have HR6 := Lib.hid hr6
  have HK6 := Lib.hid (HK5.out.then hk6)
  have HV6 := Lib.hid (hk6.heap HV5.out (by simp))
  clear hr6 hk6
  go_wp2_with fail
  refine (one_any 2 (.inr rfl) _).mono ?_
  rintro e w7 ⟨⟨cs7, rfl, hr7⟩, hk7⟩
  obtain ⟨k7, m7, s7, p7, i7, c7, q7, j7, d7, rfl⟩ := hr7.conv
  have HR7 := Lib.hid hr7
  have HR67 := Lib.hid (HR6.out.kept0 hk7)
  have HK7 := Lib.hid (HK6.out.then hk7)
  have HV7 := Lib.hid (hk7.heap HV6.out (by simp))
  clear hr7 hk7
  go_wp2_with fail
  refine (diff_any HR67.out HR7.out (small_oneV 1 (.inl rfl)) (small_oneV 2 (.inr rfl)) (by decide) (HT.out.kept0 (HK3.out.then HK7.out))).mono ?_
  rintro e w8 ⟨⟨p8, c8, he8, ho8⟩, hk8⟩
  rw [diff_ones] at he8 ho8
  subst he8
  have HO8 := Lib.hid (Slc.of_row ho8)
  have HK8 := Lib.hid (HK7.out.then hk8)
  have HV8 := Lib.hid (hk8.heap HV7.out (by simp))
  clear ho8 hk8
  have hcv := Bytes.toStr (HB3.out.kept0 HK8.out)
  rw [show strB text1 = ⟨#[123, 34, 97, 34, 58, 34, 120, 34, 44, 34, 98, 34, 58, 91, 49, 93, 125]⟩ from rfl] at hcv
  have v4 := cell_head (o := 4) (v := .slice b3 2 c3) HV8.out rfl
  go_wp2_with fail
  refine (one_any 1 (.inl rfl) _).mono ?_
  rintro e w9 ⟨⟨cs9, rfl, hr9⟩, hk9⟩
  obtain ⟨k9, m9, s9, p9, i9, c9, q9, j9, d9, rfl⟩ := hr9.conv
  have HR9 := Lib.hid hr9
  have HK9 := Lib.hid (HK8.out.then hk9)
  have HO9 := Lib.hid (HO8.out.kept0 hk9)
  clear hr9 hk9 hcv v4
  go_wp2_with fail
  refine (size_any HR9.out (small_oneV 1 (.inl rfl)) (by decide) (HT.out.kept0 (HK3.out.then HK9.out))).mono ?_
  rintro e w10 ⟨rfl, hk10⟩
  rw [size_one]
  have HK10 := Lib.hid ((HK3.out.then HK9.out).then hk10)
  have ho10 := HO9.out.kept0 hk10
  obtain ⟨g, o, cap, hsl, q0⟩ : ∃ g o cap, Value.slice p8 1 c8 = .slice (some ⟨g, o, none⟩) 1 cap ∧ w10.cell? ⟨g, o, none⟩ = some (.string ⟨#[47, 98, 47, 48]⟩) := by
    rcases ho10.2 with ⟨-, h0⟩ | ⟨h0, -⟩ | ⟨g, o, cap, e, -, -, hr⟩
    · simp at h0
    · simp at h0
    · exact ⟨g, o, cap, e, hr.cells 0 _ rfl⟩
  simp only [Value.slice.injEq] at hsl
  obtain ⟨rfl, -, rfl⟩ := hsl
  clear hk10 ho10
  go_wp2_with fail
  go_ret
  exact ⟨rfl, HK10.out⟩
end Go.Proofs.YtpbphdkjjoipnaaGreatDoor
namespace Go.Proofs.YtpbphdkjjoipnaaGreatDoor
open Go.RowKit
theorem incoming {n : Nat} {v : V n} {S : Nat → Prop} {w : World} {cs : List Value} (h : RepT n BB S w cs v) :
    (∀ w1, Kept [] w w1 → Calls Tryz.prog 11 #[.agg cs.toArray] w1 fun e w' => e = .returned (.bool true) ∧ Kept [] w1 w') ∨
    ((∀ w1, Kept [] w w1 → Calls Tryz.prog 11 #[.agg cs.toArray] w1 fun e w' => e = .returned (.bool false) ∧ Kept [] w1 w') ∧
      ((∃ v' : V 21, Rep 21 S w cs v' ∧ Small 21 v' ∧ checkV 21 v' = 41) ∨ ∃ v' : V 12, Rep 12 S w cs v' ∧ Small 12 v')) := by
  have hbig : ∀ {d : Nat} {u : V d}, RepT d BB S w cs u → 6000 < largeV d 0 u → ∀ w1, Kept [] w w1 → Calls Tryz.prog 11 #[.agg cs.toArray] w1 fun e w' => e = .returned (.bool true) ∧ Kept [] w1 w' := fun hu hl w1 k => by
    have h9 := refLarge_any (hu.1.kept0 k) hu.2
    rw [decide_eq_true hl] at h9
    exact h9
  have hsml : ∀ {d : Nat} {u : V d}, RepT d BB S w cs u → largeV d 0 u ≤ 6000 → ∀ w1, Kept [] w w1 → Calls Tryz.prog 11 #[.agg cs.toArray] w1 fun e w' => e = .returned (.bool false) ∧ Kept [] w1 w' := fun hu hl w1 k => by
    have h9 := refLarge_any (hu.1.kept0 k) hu.2
    rw [decide_eq_false (by omega)] at h9
    exact h9
  by_cases hd : depthV n v ≤ 21
  · obtain ⟨u, hu⟩ := RepT.fit n 21 h hd
    by_cases hl : largeV 21 0 u ≤ 6000
    · by_cases hd2 : depthV 21 u ≤ 12
      · obtain ⟨x, hx⟩ := RepT.fit 21 12 hu hd2
        by_cases hl2 : largeV 12 0 x ≤ 6000
        · exact .inr ⟨hsml hx hl2, .inr ⟨x, hx.1, small_of hl2⟩⟩
        · exact .inl (hbig hx (by omega))
      · exact .inr ⟨hsml hu hl, .inl ⟨u, hu.1, small_of hl, by unfold checkV; rw [if_pos (by omega)]⟩⟩
    · exact .inl (hbig hu (by omega))
  · refine .inl (hbig h ?_)
    rcases Nat.lt_or_ge 6000 (largeV n 0 v) with h1 | h1
    · exact h1
    · exfalso
      rcases (large_small n 0 v h1).2.2 with rfl | h2
      · exact nomatch v
      · omega
theorem enc_code {n : Nat} {v : V n} (h : checkV n v = 0) : (encV n v).2 = 0 ∨ (encV n v).2 = 3 := by
  by_cases hl : 262144 < (writeV n (sortV n v)).length
  · rw [encV_long h hl]; exact .inr rfl
  · rw [encV_fine h (by omega)]; exact .inl rfl
section
variable {S T : Nat → Prop} {w : World} {ca cb : List Value}
set_option maxRecDepth 100000 in
set_option maxHeartbeats 12800000 in
theorem apart_any {n m : Nat} {va : V n} {vb : V m} (ha : RepT n BB S w ca va) (hb : RepT m BB T w cb vb) (ht : Tabs w) :
    Calls Tryz.prog 5 #[.agg ca.toArray, .agg cb.toArray] w fun e w' => e = .returned (.bool true) ∧ Kept [] w w' := by
  obtain ⟨kd, nm, st, a, la, ea, b, lb, eb, rfl⟩ := ha.1.conv
  obtain ⟨kd', nm', st', a', la', ea', b', lb', eb', rfl⟩ := hb.1.conv
  obtain ⟨W0, HW0⟩ : ∃ W0, Hid (W0 = (w.alloc (.cells #[.int .i64 kd, .int .i64 nm, .string st, .slice a la ea, .slice b lb eb] 25)).alloc (.cells #[.int .i64 kd', .int .i64 nm', .string st', .slice a' la' ea', .slice b' lb' eb'] 25)) := ⟨_, Lib.hid rfl⟩
  have HK0 : Hid (Kept [] w W0) := Lib.hid (by rw [HW0.out]; exact ((Kept.refl [] w).alloc _).alloc _)
  have HA : Hid (BoxAt W0 w.heap.size kd nm st (.slice a la ea) (.slice b lb eb)) := Lib.hid (by rw [HW0.out]; exact (box_at _ _ _ _ _ _ _).kept0 ((Kept.refl [] _).alloc _))
  have HB : Hid (BoxAt W0 (w.heap.size + 1) kd' nm' st' (.slice a' la' ea') (.slice b' lb' eb')) := Lib.hid (by rw [HW0.out]; exact box_at' (by simp) _ _ _ _ _ _)
  have HT := Lib.hid (ht.kept0 HK0.out)
  have ia := incoming ha
  have ib := incoming hb
  have CL : Hid (∀ w1, Kept [] W0 w1 → Calls Tryz.prog 12 #[] w1 fun e w' => e = .returned (.bool true) ∧ Kept [] w1 w') := Lib.hid (fun w1 k => lives_any (HT.out.kept0 k))
  have hA0 := HA.out
  rw [HW0.out] at hA0
  obtain ⟨a0, a1, a2, a3, a4⟩ := hA0
  clear ha hb ht
  rcases ia with LA | ⟨LA, ia⟩
  · have LA := Lib.hid LA
    go_enter Tryz.func5, Tryz.ntmps5
    go_wp2_with fail
    rw [← HW0.out]
    clear a0 a1 a2 a3 a4
    refine (LA.out _ HK0.out).mono ?_
    rintro e w1 ⟨rfl, hk1⟩
    have HK1 := Lib.hid hk1
    clear hk1
    go_wp2_with fail
    refine (CL.out _ HK1.out).mono ?_
    rintro e w2 ⟨rfl, hk2⟩
    go_wp2_with fail
    go_ret
    exact ⟨rfl, (HK0.out.then HK1.out).then hk2⟩
  have LA := Lib.hid LA
  rcases ib with LB | ⟨LB, ib⟩
  · have LB := Lib.hid LB
    clear ia
    go_enter Tryz.func5, Tryz.ntmps5
    go_wp2_with fail
    rw [← HW0.out]
    clear a0 a1 a2 a3 a4
    refine (LA.out _ HK0.out).mono ?_
    rintro e w1 ⟨rfl, hk1⟩
    have HK1 := Lib.hid hk1
    obtain ⟨b0, b1, b2, b3, b4⟩ := HB.out.kept0 hk1
    clear hk1
    go_wp2_with fail
    refine (LB.out _ (HK0.out.then HK1.out)).mono ?_
    rintro e w2 ⟨rfl, hk2⟩
    have HK2 := Lib.hid (HK1.out.then hk2)
    clear hk2 b0 b1 b2 b3 b4
    go_wp2_with fail
    refine (CL.out _ HK2.out).mono ?_
    rintro e w3 ⟨rfl, hk3⟩
    go_wp2_with fail
    go_ret
    exact ⟨rfl, (HK0.out.then HK2.out).then hk3⟩
  have LB := Lib.hid LB
  have hab : (∃ (d : Nat) (u : V d), d ≤ 100 ∧ Rep d S w [.int .i64 kd, .int .i64 nm, .string st, .slice a la ea, .slice b lb eb] u ∧ Small d u ∧ checkV d u ≠ 0) ∨
      ∃ u : V 12, Rep 12 S w [.int .i64 kd, .int .i64 nm, .string st, .slice a la ea, .slice b lb eb] u ∧ Small 12 u ∧ checkV 12 u = 0 := by
    rcases ia with ⟨u, h1, h2, h3⟩ | ⟨u, h1, h2⟩
    · exact .inl ⟨21, u, by decide, h1, h2, by rw [h3]; decide⟩
    · by_cases hc : checkV 12 u = 0
      · exact .inr ⟨u, h1, h2, hc⟩
      · exact .inl ⟨12, u, by decide, h1, h2, hc⟩
  have hbb : (∃ (d : Nat) (u : V d), d ≤ 100 ∧ Rep d T w [.int .i64 kd', .int .i64 nm', .string st', .slice a' la' ea', .slice b' lb' eb'] u ∧ Small d u ∧ checkV d u ≠ 0) ∨
      ∃ u : V 12, Rep 12 T w [.int .i64 kd', .int .i64 nm', .string st', .slice a' la' ea', .slice b' lb' eb'] u ∧ Small 12 u ∧ checkV 12 u = 0 := by
    rcases ib with ⟨u, h1, h2, h3⟩ | ⟨u, h1, h2⟩
    · exact .inl ⟨21, u, by decide, h1, h2, by rw [h3]; decide⟩
    · by_cases hc : checkV 12 u = 0
      · exact .inr ⟨u, h1, h2, hc⟩
      · exact .inl ⟨12, u, by decide, h1, h2, hc⟩
  clear ia ib
  go_enter Tryz.func5, Tryz.ntmps5
  go_wp2_with fail
  rw [← HW0.out]
  clear a0 a1 a2 a3 a4
  refine (LA.out _ HK0.out).mono ?_
  rintro e w1 ⟨rfl, hk1⟩
  have HK1 := Lib.hid hk1
  obtain ⟨b0, b1, b2, b3, b4⟩ := HB.out.kept0 hk1
  clear hk1
  go_wp2_with fail
  refine (LB.out _ (HK0.out.then HK1.out)).mono ?_
  rintro e w2 ⟨rfl, hk2⟩
  have HK2 := Lib.hid (HK1.out.then hk2)
  clear hk2 b0 b1 b2 b3 b4
  obtain ⟨a0, a1, a2, a3, a4⟩ := HA.out.kept0 HK2.out
  go_wp2_with fail
  clear a0 a1 a2 a3 a4
  rcases hab with ⟨d, u, hd, h1, h2, h3⟩ | ⟨ua, hra, hsa, hca⟩
  · refine (refCheck_any (h1.kept0 (HK0.out.then HK2.out)) h2 hd).mono ?_
    rintro e w3 ⟨rfl, hk3⟩
    have HK3 := Lib.hid (HK2.out.then hk3)
    obtain ⟨f1, f2⟩ := int_ne h3
    clear hk3 h3
    go_wp2_with fail
    refine (CL.out _ HK3.out).mono ?_
    rintro e w4 ⟨rfl, hk4⟩
    go_wp2_with fail
    go_ret
    exact ⟨rfl, (HK0.out.then HK3.out).then hk4⟩
  refine (refCheck_any (hra.kept0 (HK0.out.then HK2.out)) hsa (by decide)).mono ?_
  rintro e w3 ⟨rfl, hk3⟩
  have HK3 := Lib.hid (HK2.out.then hk3)
  rw [hca]
  have HRA := Lib.hid hra
  have HSA := Lib.hid hsa
  have HCA := Lib.hid hca
  clear hk3 hra hsa hca
  obtain ⟨b0, b1, b2, b3, b4⟩ := HB.out.kept0 HK3.out
  go_wp2_with fail
  clear b0 b1 b2 b3 b4
  rcases hbb with ⟨d, u, hd, h1, h2, h3⟩ | ⟨ub, hrb, hsb, hcb⟩
  · refine (refCheck_any (h1.kept0 (HK0.out.then HK3.out)) h2 hd).mono ?_
    rintro e w4 ⟨rfl, hk4⟩
    have HK4 := Lib.hid (HK3.out.then hk4)
    obtain ⟨f1, f2⟩ := int_ne h3
    clear hk4 h3
    go_wp2_with fail
    refine (CL.out _ HK4.out).mono ?_
    rintro e w5 ⟨rfl, hk5⟩
    go_wp2_with fail
    go_ret
    exact ⟨rfl, (HK0.out.then HK4.out).then hk5⟩
  refine (refCheck_any (hrb.kept0 (HK0.out.then HK3.out)) hsb (by decide)).mono ?_
  rintro e w4 ⟨rfl, hk4⟩
  have HK4 := Lib.hid (HK3.out.then hk4)
  rw [hcb]
  have HRB := Lib.hid hrb
  have HSB := Lib.hid hsb
  have HCB := Lib.hid hcb
  clear hk4 hrb hsb hcb
  obtain ⟨a0, a1, a2, a3, a4⟩ := HA.out.kept0 HK4.out
  go_wp2_with fail
  clear a0 a1 a2 a3 a4
  refine (encode_any (HRA.out.kept0 (HK0.out.then HK4.out)) HSA.out (by decide) (HT.out.kept0 HK4.out)).mono ?_
  rintro e w5 ⟨⟨p5, c5, rfl, hb5⟩, hk5⟩
  have HK5 := Lib.hid (HK4.out.then hk5)
  have HB5 := Lib.hid hb5
  clear hk5 hb5
  obtain ⟨b0, b1, b2, b3, b4⟩ := HB.out.kept0 HK5.out
  go_wp2_with fail
  clear b0 b1 b2 b3 b4
  refine (encode_any (HRB.out.kept0 (HK0.out.then HK5.out)) HSB.out (by decide) (HT.out.kept0 HK5.out)).mono ?_
  rintro e w6 ⟨⟨p6, c6, rfl, hb6⟩, hk6⟩
  have HK6 := Lib.hid (HK5.out.then hk6)
  have HB6 := Lib.hid hb6
  have HB5' := Lib.hid (HB5.out.kept0 hk6)
  clear hk6 hb6 HB5
  have hc1 := enc_code HCA.out
  have hc2 := enc_code HCB.out
  go_wp2_with fail
  refine (CL.out _ HK6.out).mono ?_
  rintro e w7 ⟨rfl, hk7⟩
  have HK7 := Lib.hid (HK6.out.then hk7)
  have HB5 := Lib.hid (HB5'.out.kept0 hk7)
  have HB7 := Lib.hid (HB6.out.kept0 hk7)
  clear hk7
  obtain ⟨X, E, hX⟩ : ∃ X E, encV 12 ua = (X, E) := ⟨_, _, rfl⟩
  obtain ⟨Y, F, hY⟩ : ∃ Y F, encV 12 ub = (Y, F) := ⟨_, _, rfl⟩
  rw [hX] at HB5 hc1 ⊢
  rw [hY] at HB7 hc2 ⊢
  have HX := Lib.hid hX
  have HY := Lib.hid hY
  clear hX hY
  simp only at hc1 hc2 ⊢
  rcases hc1 with rfl | rfl
  rotate_left
  · go_wp2_with fail
    go_ret
    exact ⟨rfl, HK0.out.then HK7.out⟩
  rcases hc2 with rfl | rfl
  rotate_left
  · go_wp2_with fail
    go_ret
    exact ⟨rfl, HK0.out.then HK7.out⟩
  have CS : Hid (∀ z : Ext w7, _) := Lib.hid (fun z : Ext w7 => refSame_any (HRA.out.kept0 ((HK0.out.then HK7.out).then z.k)) (HRB.out.kept0 ((HK0.out.then HK7.out).then z.k)) HSA.out HSB.out (by decide))
  have hst : (strB X = strB Y) ↔ sameV 12 ua ub = true := by
    rw [same_c HCA.out HCB.out, eqV_iff]
    exact ⟨fun e => (enc_apart HX.out HY.out).1 (strB_inj e), fun e => by rw [(enc_apart HX.out HY.out).2 e]⟩
  have hst2 := str_test hst
  have k1 : ∀ z : Ext w7, (convert 28 9 (.slice p5 X.length c5)).run Tryz.prog z.w = .ok (.string (strB X)) z.w := fun z => Bytes.toStr (HB5.out.kept0 z.k)
  have k2 : ∀ z : Ext w7, (convert 28 9 (.slice p6 Y.length c6)).run Tryz.prog z.w = .ok (.string (strB Y)) z.w := fun z => Bytes.toStr (HB7.out.kept0 z.k)
  clear hst
  revert hst2 CS
  generalize sameV 12 ua ub = r
  intro CS hst2
  obtain ⟨a0, a1, a2, a3, a4⟩ := HA.out.kept0 HK7.out
  obtain ⟨b0, b1, b2, b3, b4⟩ := HB.out.kept0 HK7.out
  have e0 := ext_cell a0
  have e1 := ext_cell a1
  have e2 := ext_cell a2
  have e3 := ext_cell a3
  have e4 := ext_cell a4
  have g0 := ext_cell b0
  have g1 := ext_cell b1
  have g2 := ext_cell b2
  have g3 := ext_cell b3
  have g4 := ext_cell b4
  clear a0 a1 a2 a3 a4 b0 b1 b2 b3 b4
  revert CS k1 k2 hst2
  generalize strB X = sX
  generalize strB Y = sY
  intro k1 k2 CS hst2
  cases r <;> (
    go_wp2_with fail
    refine wp_region_ext w7 (by kernel_rfl) (by kernel_rfl) (Kept.refl _ _) ?_
    repeat go_big_quiet_step ((go_at_call 21; exact ext_of (CS.out _)))
    refine wpQuiet_nil ?_
    intro w8 hk8
    clear e0 e1 e2 e3 e4 g0 g1 g2 g3 g4 k1 k2 hst2
    go_wp2_with fail
    go_ret
    exact ⟨rfl, (HK0.out.then HK7.out).then hk8⟩)
end
end Go.Proofs.YtpbphdkjjoipnaaGreatDoor

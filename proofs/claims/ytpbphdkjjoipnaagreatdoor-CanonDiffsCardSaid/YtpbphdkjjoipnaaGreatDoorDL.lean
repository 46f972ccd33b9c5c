/- Parts of one proof, merged: XLi XLA. -/
import Derived.Test.YtpbphdkjjoipnaaGreatDoorDG
import Derived.Test.YtpbphdkjjoipnaaGreatDoorDK
import Derived.Test.YtpbphdkjjoipnaaGreatDoorDB
import Derived.Lib.SlBytesConst
import Derived.Test.YtpbphdkjjoipnaaGreatDoorDH
import Derived.Test.YtpbphdkjjoipnaaGreatDoorDA
set_option linter.all false
set_option linter.unusedVariables false
set_option linter.unusedSimpArgs false
set_option linter.unnecessarySimpa false
namespace Go.Proofs.YtpbphdkjjoipnaaGreatDoor
open Go.RowKit
set_option maxRecDepth 10000 in
set_option maxHeartbeats 1600000 in
theorem one_any (k : Int) (hk : k = 1 ∨ k = 2) (w : World) : Calls Tryz.prog 38 #[.int .i64 k] w fun e w' => (∃ cs : List Value, e = .returned (.agg cs.toArray) ∧ Rep 12 (fun _ => True) w' cs (oneV 9 k)) ∧ Kept [] w w' := by
  obtain ⟨W0, HW0⟩ : ∃ W0, Hid (W0 = ((w.alloc (.cells #[.int .i64 6, .int .i64 0, .string ⟨#[]⟩, .slice none 0 0, .slice (some ⟨w.heap.size + 1 + 1, 0, none⟩) 2 2] 25)).alloc (.cells #[.int .i64 3, .int .i64 k, .string ⟨#[]⟩, .slice none 0 0, .slice none 0 0] 25)).alloc (.cells #[.string ⟨#[98]⟩, .int .i64 5, .int .i64 0, .string ⟨#[]⟩, .slice (some ⟨w.heap.size + 1, 0, none⟩) 1 1, .slice none 0 0, .string ⟨#[97]⟩, .int .i64 4, .int .i64 0, .string ⟨#[120]⟩, .slice none 0 0, .slice none 0 0] 60)) := ⟨_, Lib.hid rfl⟩
  have HK0 : Hid (Kept [] w W0) := Lib.hid (by rw [HW0.out]; exact (((Kept.refl [] w).alloc _).alloc _).alloc _)
  have HB0 : Hid (W0.heap[w.heap.size]? = some (.cells #[.int .i64 6, .int .i64 0, .string ⟨#[]⟩, .slice none 0 0, .slice (some ⟨w.heap.size + 1 + 1, 0, none⟩) 2 2] 25 (0, 0))) := Lib.hid (by rw [HW0.out]; exact (((Kept.refl [] _).alloc _).alloc _).heap (block_alloc rfl) (by simp))
  have HS1 : Hid (Slc W0 5 (.slice (some ⟨w.heap.size + 1, 0, none⟩) 1 1) 1 [.int .i64 3, .int .i64 k, .string ⟨#[]⟩, .slice none 0 0, .slice none 0 0]) := Lib.hid (by
    rw [HW0.out]; exact (slc_new _ _ 5 1 _ _ (by simp) rfl (by decide)).kept0 ((Kept.refl [] _).alloc _))
  have HS2 : Hid (Slc W0 6 (.slice (some ⟨w.heap.size + 1 + 1, 0, none⟩) 2 2) 2 [.string ⟨#[98]⟩, .int .i64 5, .int .i64 0, .string ⟨#[]⟩, .slice (some ⟨w.heap.size + 1, 0, none⟩) 1 1, .slice none 0 0, .string ⟨#[97]⟩, .int .i64 4, .int .i64 0, .string ⟨#[120]⟩, .slice none 0 0, .slice none 0 0]) := Lib.hid (by
    rw [HW0.out]; exact slc_new _ _ 6 2 _ _ (by simp) rfl (by decide))
  have HWF : Hid ((Lit.int .i64 k).wf = true) := Lib.hid (wf64 (by omega) (by omega))
  clear hk
  go_enter Tryz.func38, Tryz.ntmps38
  go_wp2_with fail
  rw [← HW0.out]
  have d0 := cell_head (o := 0) (v := .int .i64 6) HB0.out rfl
  have d1 := cell_head (o := 1) (v := .int .i64 0) HB0.out rfl
  have d2 := cell_head (o := 2) (v := .string ⟨#[]⟩) HB0.out rfl
  have d3 := cell_head (o := 3) (v := .slice none 0 0) HB0.out rfl
  have d4 := cell_head (o := 4) (v := .slice (some ⟨w.heap.size + 1 + 1, 0, none⟩) 2 2) HB0.out rfl
  refine bodyPost_ret (v := .agg #[.int .i64 6, .int .i64 0, .string ⟨#[]⟩, .slice none 0 0, .slice (some ⟨w.heap.size + 1 + 1, 0, none⟩) 2 2]) (by simp [results, Tryz.results38, go_sem, d0, d1, d2, d3, d4]) rfl ⟨⟨[.int .i64 6, .int .i64 0, .string ⟨#[]⟩, .slice none 0 0, .slice (some ⟨w.heap.size + 1 + 1, 0, none⟩) 2 2], rfl, ?_⟩, HK0.out⟩
  have hleaf : Rep 10 (fun _ => True) W0 [.int .i64 3, .int .i64 k, .string ⟨#[]⟩, .slice none 0 0, .slice none 0 0] (⟨3, k, ⟨#[]⟩, [], []⟩ : VS (V 9)) := rep_leaf (n := 9) _ W0 (⟨3, k, ⟨#[]⟩, [], []⟩ : VS (V 9)) rfl rfl (wf64 (i := 3) (by decide) (by decide)) HWF.out
  have htext : Rep 11 (fun _ => True) W0 [.int .i64 4, .int .i64 0, .string ⟨#[120]⟩, .slice none 0 0, .slice none 0 0] (⟨4, 0, ⟨#[120]⟩, [], []⟩ : VS (V 10)) := rep_leaf (n := 10) _ W0 (⟨4, 0, ⟨#[120]⟩, [], []⟩ : VS (V 10)) rfl rfl (by decide) (by decide)
  have hlist : Rep 11 (fun _ => True) W0 [.int .i64 5, .int .i64 0, .string ⟨#[]⟩, .slice (some ⟨w.heap.size + 1, 0, none⟩) 1 1, .slice none 0 0] (⟨5, 0, ⟨#[]⟩, [(⟨3, k, ⟨#[]⟩, [], []⟩ : VS (V 9))], []⟩ : VS (V 10)) :=
    ⟨_, _, [[.int .i64 3, .int .i64 k, .string ⟨#[]⟩, .slice none 0 0, .slice none 0 0]], [], {
      cells := rfl
      slcl := HS1.out
      alll := All2.cons hleaf (All2.nil _)
      slcm := slc_nil _ _
      allm := All2.nil _
      inl := fun _ _ => trivial
      inm := fun _ _ => trivial
      wfk := wf64 (i := 5) (by decide) (by decide)
      wfn := wf64 (i := 0) (by decide) (by decide) }⟩
  exact ⟨_, _, [], [(⟨#[98]⟩, [.int .i64 5, .int .i64 0, .string ⟨#[]⟩, .slice (some ⟨w.heap.size + 1, 0, none⟩) 1 1, .slice none 0 0]), (⟨#[97]⟩, [.int .i64 4, .int .i64 0, .string ⟨#[120]⟩, .slice none 0 0, .slice none 0 0])], {
      cells := rfl
      slcl := slc_nil _ _
      alll := All2.nil _
      slcm := HS2.out
      allm := All2.cons ⟨rfl, hlist⟩ (All2.cons ⟨rfl, htext⟩ (All2.nil _))
      inl := fun _ _ => trivial
      inm := fun _ _ => trivial
      wfk := wf64 (i := 6) (by decide) (by decide)
      wfn := wf64 (i := 0) (by decide) (by decide) }⟩
theorem size_one : sizeV 12 (oneV 9 1) = 17 := by
  unfold sizeV
  rw [if_pos (check_oneV 1 (.inl rfl)), sort_oneV, write_oneS]
  rfl
theorem lit_bytes (w : World) (l : List UInt8) (hl : l.length ≤ 1000) (f : Nat × Nat) : Bytes (w.alloc (.cells (l.map bv).toArray 5 f)) (.slice (some ⟨w.heap.size, 0, none⟩) l.length l.length) l :=
  ⟨by simp, .inr (.inr ⟨w.heap.size, 0, l.length, rfl, Nat.le_refl _, by simp only [maxLen]; omega, ⟨fun j u h => by rw [Nat.zero_add]; exact cell_head (heap_alloc_new w _) (by simpa using h), by simp⟩⟩)⟩
theorem dec_lit1 {w : World} {g : Nat} (hg : w.heap.size = g) (ht : Tabs w) : Calls Tryz.prog 17 #[.slice (some ⟨g, 0, none⟩) 17 17] (w.alloc (.cells #[.int .u8 123, .int .u8 34, .int .u8 97, .int .u8 34, .int .u8 58, .int .u8 34, .int .u8 120, .int .u8 34, .int .u8 44, .int .u8 34, .int .u8 98, .int .u8 34, .int .u8 58, .int .u8 91, .int .u8 49, .int .u8 93, .int .u8 125] 5 (17, 18))) fun e w' => (∃ x y z b c, e = .returned (.tuple #[.agg #[.int .i64 6, .int .i64 0, .string ⟨#[]⟩, .slice x y z, .slice b 2 c], .int .i64 0])) ∧ Kept [] w w' := by
  subst hg
  have hk := (Kept.refl [] w).alloc (.cells #[.int .u8 123, .int .u8 34, .int .u8 97, .int .u8 34, .int .u8 58, .int .u8 34, .int .u8 120, .int .u8 34, .int .u8 44, .int .u8 34, .int .u8 98, .int .u8 34, .int .u8 58, .int .u8 91, .int .u8 49, .int .u8 93, .int .u8 125] 5 (17, 18))
  have hb : Bytes (w.alloc (.cells #[.int .u8 123, .int .u8 34, .int .u8 97, .int .u8 34, .int .u8 58, .int .u8 34, .int .u8 120, .int .u8 34, .int .u8 44, .int .u8 34, .int .u8 98, .int .u8 34, .int .u8 58, .int .u8 91, .int .u8 49, .int .u8 93, .int .u8 125] 5 (17, 18))) (.slice (some ⟨w.heap.size, 0, none⟩) text1.length text1.length) text1 := lit_bytes w text1 (by decide) _
  refine (decode_any (a := some ⟨w.heap.size, 0, none⟩) (c := 17) (l := text1) hb (ht.kept0 hk)).mono ?_
  rintro e w' ⟨ha, hk2⟩
  unfold DecAns at ha
  rw [dec_text1] at ha
  obtain ⟨cs, -, rfl, ho⟩ := ha
  obtain ⟨vl, vm, lcs, mcs, ho⟩ := ho.rep
  obtain ⟨x1, x2, x3, x4, -, -, rfl⟩ := ho.forms
  exact ⟨⟨_, _, _, _, _, rfl⟩, hk.then hk2⟩
theorem dec_lit2 {w : World} {g : Nat} (hg : w.heap.size = g) (ht : Tabs w) : Calls Tryz.prog 17 #[.slice (some ⟨g, 0, none⟩) 8 8] (w.alloc (.cells #[.int .u8 123, .int .u8 34, .int .u8 97, .int .u8 34, .int .u8 58, .int .u8 32, .int .u8 49, .int .u8 125] 5 (8, 9))) fun e w' => e = .returned (.tuple #[.agg #[.int .i64 0, .int .i64 0, .string ⟨#[]⟩, .slice none 0 0, .slice none 0 0], .int .i64 60]) ∧ Kept [] w w' := by
  subst hg
  have hk := (Kept.refl [] w).alloc (.cells #[.int .u8 123, .int .u8 34, .int .u8 97, .int .u8 34, .int .u8 58, .int .u8 32, .int .u8 49, .int .u8 125] 5 (8, 9))
  have hb : Bytes (w.alloc (.cells #[.int .u8 123, .int .u8 34, .int .u8 97, .int .u8 34, .int .u8 58, .int .u8 32, .int .u8 49, .int .u8 125] 5 (8, 9))) (.slice (some ⟨w.heap.size, 0, none⟩) text2.length text2.length) text2 := lit_bytes w text2 (by decide) _
  refine (decode_any (a := some ⟨w.heap.size, 0, none⟩) (c := 8) (l := text2) hb (ht.kept0 hk)).mono ?_
  rintro e w' ⟨ha, hk2⟩
  unfold DecAns at ha
  rw [dec_text2] at ha
  exact ⟨ha.2, hk.then hk2⟩
theorem dec_lit3 {w : World} {g : Nat} (hg : w.heap.size = g) (ht : Tabs w) : Calls Tryz.prog 17 #[.slice (some ⟨g, 0, none⟩) 6 6] (w.alloc (.cells #[.int .u8 123, .int .u8 34, .int .u8 97, .int .u8 34, .int .u8 58, .int .u8 49] 5 (6, 7))) fun e w' => e = .returned (.tuple #[.agg #[.int .i64 0, .int .i64 0, .string ⟨#[]⟩, .slice none 0 0, .slice none 0 0], .int .i64 50]) ∧ Kept [] w w' := by
  subst hg
  have hk := (Kept.refl [] w).alloc (.cells #[.int .u8 123, .int .u8 34, .int .u8 97, .int .u8 34, .int .u8 58, .int .u8 49] 5 (6, 7))
  have hb : Bytes (w.alloc (.cells #[.int .u8 123, .int .u8 34, .int .u8 97, .int .u8 34, .int .u8 58, .int .u8 49] 5 (6, 7))) (.slice (some ⟨w.heap.size, 0, none⟩) text3.length text3.length) text3 := lit_bytes w text3 (by decide) _
  refine (decode_any (a := some ⟨w.heap.size, 0, none⟩) (c := 6) (l := text3) hb (ht.kept0 hk)).mono ?_
  rintro e w' ⟨ha, hk2⟩
  unfold DecAns at ha
  rw [dec_text3] at ha
  exact ⟨ha.2, hk.then hk2⟩
set_option maxRecDepth 100000 in
set_option maxHeartbeats 6400000 in
theorem lives_any {w : World} (ht : Tabs w) : Calls Tryz.prog 12 #[] w fun e w' => e = .returned (.bool true) ∧ Kept [] w w' := by
  have HT := Lib.hid ht
  clear ht
  have kc := fun (w : World) (C : Array Value) (n c : Nat) => Lib.run_convert_bytes_const (P := Tryz.prog) w 28 5 C n c Tryz.underlying28 Tryz.underlying5
  have kc2 : ∀ (w : World) (o : Obj) (C : Array Value) (n c : Nat), (convert 28 28 (.slice (some ⟨w.heap.size + 1, 0, none⟩) n c)).run Tryz.prog ((w.alloc o).alloc (.cells C 5)) = .ok (.slice (some ⟨w.heap.size + 1, 0, none⟩) n c) ((w.alloc o).alloc (.cells C 5 (C.size, C.size + 1))) := fun w o C n c => by
    have h := kc (w.alloc o) C n c
    rw [show (w.alloc o).heap.size = w.heap.size + 1 by simp] at h
    exact h
  go_enter Tryz.func12, Tryz.ntmps12
  go_wp2_with fail
  refine (one_any 1 (.inl rfl) _).mono ?_
  rintro e w1 ⟨⟨cs1, rfl, hr1⟩, hk1⟩
  obtain ⟨k1, m1, s1, p1, i1, c1, q1, j1, d1, rfl⟩ := hr1.conv
  have HR1 := Lib.hid hr1
  have HK1 := Lib.hid hk1
  clear hr1 hk1
  go_wp2_with fail
  refine (encode_any HR1.out (small_oneV 1 (.inl rfl)) (by decide) (HT.out.kept0 HK1.out)).mono ?_
  rintro e w2 ⟨⟨a2, c2, rfl, hb2⟩, hk2⟩
  rw [enc_oneV] at hb2 ⊢
  have HB2 := Lib.hid hb2
  have HK2 := Lib.hid (HK1.out.then hk2)
  clear hb2 hk2
  go_wp2_with fail
  refine (dec_lit1 rfl (HT.out.kept0 HK2.out)).mono ?_
  rintro e w3 ⟨⟨x3, y3, z3, b3, c3, rfl⟩, hk3⟩
  have HK3 := Lib.hid (HK2.out.then hk3)
  have HB3 := Lib.hid (HB2.out.kept0 hk3)
  obtain ⟨W3, HW3⟩ : ∃ W3, Hid (W3 = w3.alloc (.cells #[.int .i64 6, .int .i64 0, .string ⟨#[]⟩, .slice x3 y3 z3, .slice b3 2 c3] 25)) := ⟨_, Lib.hid rfl⟩
  have HK3' : Hid (Kept [] w3 W3) := Lib.hid (by rw [HW3.out]; exact (Kept.refl [] w3).alloc _)
  have HV3 : Hid (W3.heap[w3.heap.size]? = some (.cells #[.int .i64 6, .int .i64 0, .string ⟨#[]⟩, .slice x3 y3 z3, .slice b3 2 c3] 25 (0, 0))) := Lib.hid (by rw [HW3.out]; exact block_alloc rfl)
  clear hk3
  go_wp2_with fail
  rw [← HW3.out]
  refine (dec_lit2 (w := W3) (g := w3.heap.size + 1) (by rw [HW3.out]; simp) (HT.out.kept0 (HK3.out.then HK3'.out))).mono ?_
  rintro e w4 ⟨rfl, hk4⟩
  have HK4 := Lib.hid (HK3'.out.then (hk4.alloc (.cells #[.int .i64 0, .int .i64 0, .string ⟨#[]⟩, .slice none 0 0, .slice none 0 0] 25)))
  have HV4 := Lib.hid ((hk4.alloc (.cells #[.int .i64 0, .int .i64 0, .string ⟨#[]⟩, .slice none 0 0, .slice none 0 0] 25)).heap HV3.out (by simp))
  clear hk4
  go_wp2_with fail
  refine (dec_lit3 (g := w4.heap.size + 1) (by simp) (HT.out.kept0 (HK3.out.then HK4.out))).mono ?_
  rintro e w5 ⟨rfl, hk5⟩
  have HK5 := Lib.hid (HK4.out.then (hk5.alloc (.cells #[.int .i64 0, .int .i64 0, .string ⟨#[]⟩, .slice none 0 0, .slice none 0 0] 25)))
  have HV5 := Lib.hid ((hk5.alloc (.cells #[.int .i64 0, .int .i64 0, .string ⟨#[]⟩, .slice none 0 0, .slice none 0 0] 25)).heap HV4.out (by simp))
  clear hk5
  go_wp2_with fail
  refine (one_any 1 (.inl rfl) _).mono ?_
  rintro e w6 ⟨⟨cs6, rfl, hr6⟩, hk6⟩
  obtain ⟨k6, m6, s6, p6, i6, c6, q6, j6, d6, rfl⟩ := hr6.conv
  have HR6 := Lib.hid hr6
  have HK6 := Lib.hid (HK5.out.then hk6)
  have HV6 := Lib.hid (hk6.heap HV5.out (by simp))
  clear hr6 hk6
  go_wp2_with fail
  refine (one_any 2 (.inr rfl) _).mono ?_
  rintro e w7 ⟨⟨cs7, rfl, hr7⟩, hk7⟩
  obtain ⟨k7, m7, s7, p7, i7, c7, q7, j7, d7, rfl⟩ := hr7.conv
  have HR7 := Lib.hid hr7
  have HR67 := Lib.hid (HR6.out.kept0 hk7)
  have HK7 := Lib.hid (HK6.out.then hk7)
  have HV7 := Lib.hid (hk7.heap HV6.out (by simp))
  clear hr7 hk7
  go_wp2_with fail
  refine (diff_any HR67.out HR7.out (small_oneV 1 (.inl rfl)) (small_oneV 2 (.inr rfl)) (by decide) (HT.out.kept0 (HK3.out.then HK7.out))).mono ?_
  rintro e w8 ⟨⟨p8, c8, he8, ho8⟩, hk8⟩
  rw [diff_ones] at he8 ho8
  subst he8
  have HO8 := Lib.hid (Slc.of_row ho8)
  have HK8 := Lib.hid (HK7.out.then hk8)
  have HV8 := Lib.hid (hk8.heap HV7.out (by simp))
  clear ho8 hk8
  have hcv := Bytes.toStr (HB3.out.kept0 HK8.out)
  rw [show strB text1 = ⟨#[123, 34, 97, 34, 58, 34, 120, 34, 44, 34, 98, 34, 58, 91, 49, 93, 125]⟩ from rfl] at hcv
  have v4 := cell_head (o := 4) (v := .slice b3 2 c3) HV8.out rfl
  go_wp2_with fail
  refine (one_any 1 (.inl rfl) _).mono ?_
  rintro e w9 ⟨⟨cs9, rfl, hr9⟩, hk9⟩
  obtain ⟨k9, m9, s9, p9, i9, c9, q9, j9, d9, rfl⟩ := hr9.conv
  have HR9 := Lib.hid hr9
  have HK9 := Lib.hid (HK8.out.then hk9)
  have HO9 := Lib.hid (HO8.out.kept0 hk9)
  clear hr9 hk9 hcv v4
  go_wp2_with fail
  refine (size_any HR9.out (small_oneV 1 (.inl rfl)) (by decide) (HT.out.kept0 (HK3.out.then HK9.out))).mono ?_
  rintro e w10 ⟨rfl, hk10⟩
  rw [size_one]
  have HK10 := Lib.hid ((HK3.out.then HK9.out).then hk10)
  have ho10 := HO9.out.kept0 hk10
  obtain ⟨g, o, cap, hsl, q0⟩ : ∃ g o cap, Value.slice p8 1 c8 = .slice (some ⟨g, o, none⟩) 1 cap ∧ w10.cell? ⟨g, o, none⟩ = some (.string ⟨#[47, 98, 47, 48]⟩) := by
    rcases ho10.2 with ⟨-, h0⟩ | ⟨h0, -⟩ | ⟨g, o, cap, e, -, -, hr⟩
    · simp at h0
    · simp at h0
    · exact ⟨g, o, cap, e, hr.cells 0 _ rfl⟩
  simp only [Value.slice.injEq] at hsl
  obtain ⟨rfl, -, rfl⟩ := hsl
  clear hk10 ho10
  go_wp2_with fail
  go_ret
  exact ⟨rfl, HK10.out⟩
end Go.Proofs.YtpbphdkjjoipnaaGreatDoor
namespace Go.Proofs.YtpbphdkjjoipnaaGreatDoor
open Go.RowKit
section
variable {S T : Nat → Prop} {w : World} {ca cb : List Value}
end
end Go.Proofs.YtpbphdkjjoipnaaGreatDoor

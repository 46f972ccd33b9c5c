/- Parts of one proof, merged: XLi. -/
import Derived.Test.YtpbphdkjjoipnaaGreatDoorHG
import Derived.Test.YtpbphdkjjoipnaaGreatDoorHK
import Derived.Test.YtpbphdkjjoipnaaGreatDoorHB
import Derived.Lib.SlBytesConst
set_option linter.all false
set_option maxHeartbeats 12800000
set_option maxRecDepth 10000
set_option linter.unusedVariables false
set_option linter.unusedSimpArgs false
set_option linter.unnecessarySimpa false
namespace Go.Proofs.YtpbphdkjjoipnaaGreatDoor
open Go.Proofs.Tryz
open Go.RowKit
theorem QB (k : Int) (hk : k = 1 ∨ k = 2) (w : World) : Calls Tryz.prog 38 #[.int .i64 k] w fun e w' => (∃ cs : List Value, e = .returned (.agg cs.toArray) ∧ Rep 12 (fun _ => True) w' cs (jT 9 k)) ∧ zb [] w w' := by
 obtain ⟨W0, Ga⟩ : ∃ W0, Hid (W0 = ((w.alloc (.cells #[.int .i64 6, .int .i64 0, .string ⟨#[]⟩, .slice none 0 0, .slice (some ⟨w.heap.size + 1 + 1, 0, none⟩) 2 2] 25)).alloc (.cells #[.int .i64 3, .int .i64 k, .string ⟨#[]⟩, .slice none 0 0, .slice none 0 0] 25)).alloc (.cells #[.string ⟨#[98]⟩, .int .i64 5, .int .i64 0, .string ⟨#[]⟩, .slice (some ⟨w.heap.size + 1, 0, none⟩) 1 1, .slice none 0 0, .string ⟨#[97]⟩, .int .i64 4, .int .i64 0, .string ⟨#[120]⟩, .slice none 0 0, .slice none 0 0] 60)) := ⟨_, qI rfl⟩
 have Gn : Hid (zb [] w W0) := qI (by rw [Ga.o]; exact (((zb.refl [] w).alloc _).alloc _).alloc _)
 have Gb : Hid (W0.heap[w.heap.size]? = some (.cells #[.int .i64 6, .int .i64 0, .string ⟨#[]⟩, .slice none 0 0, .slice (some ⟨w.heap.size + 1 + 1, 0, none⟩) 2 2] 25 (0, 0))) := qI (by rw [Ga.o]; exact (((zb.refl [] _).alloc _).alloc _).heap (zn rfl) (by simp))
 have Gp : Hid (Slc W0 5 (.slice (some ⟨w.heap.size + 1, 0, none⟩) 1 1) 1 [.int .i64 3, .int .i64 k, .string ⟨#[]⟩, .slice none 0 0, .slice none 0 0]) := qI (by
  rw [Ga.o]; exact (yL _ _ 5 1 _ _ (by simp) rfl (by decide)).kept0 ((zb.refl [] _).alloc _))
 have Gq : Hid (Slc W0 6 (.slice (some ⟨w.heap.size + 1 + 1, 0, none⟩) 2 2) 2 [.string ⟨#[98]⟩, .int .i64 5, .int .i64 0, .string ⟨#[]⟩, .slice (some ⟨w.heap.size + 1, 0, none⟩) 1 1, .slice none 0 0, .string ⟨#[97]⟩, .int .i64 4, .int .i64 0, .string ⟨#[120]⟩, .slice none 0 0, .slice none 0 0]) := qI (by
  rw [Ga.o]; exact yL _ _ 6 2 _ _ (by simp) rfl (by decide))
 have Gr : Hid ((Lit.int .i64 k).wf = true) := qI (wf64 (by omega) (by omega))
 clear hk
 go_enter func38, ntmps38
 go_wp2_with fail
 rw [← Ga.o]
 have d0 := za (o := 0) (v := .int .i64 6) Gb.o rfl
 have d1 := za (o := 1) (v := .int .i64 0) Gb.o rfl
 have d2 := za (o := 2) (v := .string ⟨#[]⟩) Gb.o rfl
 have d3 := za (o := 3) (v := .slice none 0 0) Gb.o rfl
 have d4 := za (o := 4) (v := .slice (some ⟨w.heap.size + 1 + 1, 0, none⟩) 2 2) Gb.o rfl
 refine bodyPost_ret (v := .agg #[.int .i64 6, .int .i64 0, .string ⟨#[]⟩, .slice none 0 0, .slice (some ⟨w.heap.size + 1 + 1, 0, none⟩) 2 2]) (by simp [results, results38, go_sem, d0, d1, d2, d3, d4]) rfl ⟨⟨[.int .i64 6, .int .i64 0, .string ⟨#[]⟩, .slice none 0 0, .slice (some ⟨w.heap.size + 1 + 1, 0, none⟩) 2 2], rfl, ?_⟩, Gn.o⟩
 have hleaf : Rep 10 (fun _ => True) W0 [.int .i64 3, .int .i64 k, .string ⟨#[]⟩, .slice none 0 0, .slice none 0 0] (⟨3, k, ⟨#[]⟩, [], []⟩ : VS (V 9)) := QG (n := 9) _ W0 (⟨3, k, ⟨#[]⟩, [], []⟩ : VS (V 9)) rfl rfl (wf64 (i := 3) (by decide) (by decide)) Gr.o
 have htext : Rep 11 (fun _ => True) W0 [.int .i64 4, .int .i64 0, .string ⟨#[120]⟩, .slice none 0 0, .slice none 0 0] (⟨4, 0, ⟨#[120]⟩, [], []⟩ : VS (V 10)) := QG (n := 10) _ W0 (⟨4, 0, ⟨#[120]⟩, [], []⟩ : VS (V 10)) rfl rfl (by decide) (by decide)
 have hlist : Rep 11 (fun _ => True) W0 [.int .i64 5, .int .i64 0, .string ⟨#[]⟩, .slice (some ⟨w.heap.size + 1, 0, none⟩) 1 1, .slice none 0 0] (⟨5, 0, ⟨#[]⟩, [(⟨3, k, ⟨#[]⟩, [], []⟩ : VS (V 9))], []⟩ : VS (V 10)) :=
  ⟨_, _, [[.int .i64 3, .int .i64 k, .string ⟨#[]⟩, .slice none 0 0, .slice none 0 0]], [], {
   cells := rfl
   slcl := Gp.o
   alll := yc.cons hleaf (yc.nil _)
   slcm := jt _ _
   allm := yc.nil _
   inl := fun _ _ => trivial
   inm := fun _ _ => trivial
   wfk := wf64 (i := 5) (by decide) (by decide)
   wfn := wf64 (i := 0) (by decide) (by decide) }⟩
 exact ⟨_, _, [], [(⟨#[98]⟩, [.int .i64 5, .int .i64 0, .string ⟨#[]⟩, .slice (some ⟨w.heap.size + 1, 0, none⟩) 1 1, .slice none 0 0]), (⟨#[97]⟩, [.int .i64 4, .int .i64 0, .string ⟨#[120]⟩, .slice none 0 0, .slice none 0 0])], {
   cells := rfl
   slcl := jt _ _
   alll := yc.nil _
   slcm := Gq.o
   allm := yc.cons ⟨rfl, hlist⟩ (yc.cons ⟨rfl, htext⟩ (yc.nil _))
   inl := fun _ _ => trivial
   inm := fun _ _ => trivial
   wfk := wf64 (i := 6) (by decide) (by decide)
   wfn := wf64 (i := 0) (by decide) (by decide) }⟩
theorem size_one : sizeV 12 (jT 9 1) = 17 := by
 unfold sizeV
 rw [if_pos (vu 1 (.inl rfl)), kK, Zw]
 rfl
theorem YU (w : World) (l : List UInt8) (hl : l.length ≤ 1000) (f : Nat × Nat) : xt (w.alloc (.cells (l.map bv).toArray 5 f)) (.slice (some ⟨w.heap.size, 0, none⟩) l.length l.length) l :=
 ⟨by simp, .inr (.inr ⟨w.heap.size, 0, l.length, rfl, Nat.le_refl _, by simp only [maxLen]; omega, ⟨fun j u h => by rw [Nat.zero_add]; exact za (heap_alloc_new w _) (by simpa using h), by simp⟩⟩)⟩
theorem dec_lit1 {w : World} {g : Nat} (hg : w.heap.size = g) (ht : yK w) : Calls Tryz.prog 17 #[.slice (some ⟨g, 0, none⟩) 17 17] (w.alloc (.cells #[.int .u8 123, .int .u8 34, .int .u8 97, .int .u8 34, .int .u8 58, .int .u8 34, .int .u8 120, .int .u8 34, .int .u8 44, .int .u8 34, .int .u8 98, .int .u8 34, .int .u8 58, .int .u8 91, .int .u8 49, .int .u8 93, .int .u8 125] 5 (17, 18))) fun e w' => (∃ x y z b c, e = .returned (.tuple #[.agg #[.int .i64 6, .int .i64 0, .string ⟨#[]⟩, .slice x y z, .slice b 2 c], .int .i64 0])) ∧ zb [] w w' := by
 subst hg
 have hk := (zb.refl [] w).alloc (.cells #[.int .u8 123, .int .u8 34, .int .u8 97, .int .u8 34, .int .u8 58, .int .u8 34, .int .u8 120, .int .u8 34, .int .u8 44, .int .u8 34, .int .u8 98, .int .u8 34, .int .u8 58, .int .u8 91, .int .u8 49, .int .u8 93, .int .u8 125] 5 (17, 18))
 have hb : xt (w.alloc (.cells #[.int .u8 123, .int .u8 34, .int .u8 97, .int .u8 34, .int .u8 58, .int .u8 34, .int .u8 120, .int .u8 34, .int .u8 44, .int .u8 34, .int .u8 98, .int .u8 34, .int .u8 58, .int .u8 91, .int .u8 49, .int .u8 93, .int .u8 125] 5 (17, 18))) (.slice (some ⟨w.heap.size, 0, none⟩) YD.length YD.length) YD := YU w YD (by decide) _
 refine (Zq (a := some ⟨w.heap.size, 0, none⟩) (c := 17) (l := YD) hb (ht.kept0 hk)).mono ?_
 rintro e w' ⟨ha, hk2⟩
 unfold bn at ha
 rw [dec_text1] at ha
 obtain ⟨cs, -, rfl, ho⟩ := ha
 obtain ⟨vl, vm, lcs, mcs, ho⟩ := ho.rep
 obtain ⟨x1, x2, x3, x4, -, -, rfl⟩ := ho.forms
 exact ⟨⟨_, _, _, _, _, rfl⟩, hk.then hk2⟩
theorem dec_lit2 {w : World} {g : Nat} (hg : w.heap.size = g) (ht : yK w) : Calls Tryz.prog 17 #[.slice (some ⟨g, 0, none⟩) 8 8] (w.alloc (.cells #[.int .u8 123, .int .u8 34, .int .u8 97, .int .u8 34, .int .u8 58, .int .u8 32, .int .u8 49, .int .u8 125] 5 (8, 9))) fun e w' => e = .returned (.tuple #[.agg #[.int .i64 0, .int .i64 0, .string ⟨#[]⟩, .slice none 0 0, .slice none 0 0], .int .i64 60]) ∧ zb [] w w' := by
 subst hg
 have hk := (zb.refl [] w).alloc (.cells #[.int .u8 123, .int .u8 34, .int .u8 97, .int .u8 34, .int .u8 58, .int .u8 32, .int .u8 49, .int .u8 125] 5 (8, 9))
 have hb : xt (w.alloc (.cells #[.int .u8 123, .int .u8 34, .int .u8 97, .int .u8 34, .int .u8 58, .int .u8 32, .int .u8 49, .int .u8 125] 5 (8, 9))) (.slice (some ⟨w.heap.size, 0, none⟩) Kr.length Kr.length) Kr := YU w Kr (by decide) _
 refine (Zq (a := some ⟨w.heap.size, 0, none⟩) (c := 8) (l := Kr) hb (ht.kept0 hk)).mono ?_
 rintro e w' ⟨ha, hk2⟩
 unfold bn at ha
 rw [dec_text2] at ha
 exact ⟨ha.2, hk.then hk2⟩
theorem dec_lit3 {w : World} {g : Nat} (hg : w.heap.size = g) (ht : yK w) : Calls Tryz.prog 17 #[.slice (some ⟨g, 0, none⟩) 6 6] (w.alloc (.cells #[.int .u8 123, .int .u8 34, .int .u8 97, .int .u8 34, .int .u8 58, .int .u8 49] 5 (6, 7))) fun e w' => e = .returned (.tuple #[.agg #[.int .i64 0, .int .i64 0, .string ⟨#[]⟩, .slice none 0 0, .slice none 0 0], .int .i64 50]) ∧ zb [] w w' := by
 subst hg
 have hk := (zb.refl [] w).alloc (.cells #[.int .u8 123, .int .u8 34, .int .u8 97, .int .u8 34, .int .u8 58, .int .u8 49] 5 (6, 7))
 have hb : xt (w.alloc (.cells #[.int .u8 123, .int .u8 34, .int .u8 97, .int .u8 34, .int .u8 58, .int .u8 49] 5 (6, 7))) (.slice (some ⟨w.heap.size, 0, none⟩) KK.length KK.length) KK := YU w KK (by decide) _
 refine (Zq (a := some ⟨w.heap.size, 0, none⟩) (c := 6) (l := KK) hb (ht.kept0 hk)).mono ?_
 rintro e w' ⟨ha, hk2⟩
 unfold bn at ha
 rw [dec_text3] at ha
 exact ⟨ha.2, hk.then hk2⟩
set_option maxRecDepth 100000 in
theorem lives_any {w : World} (ht : yK w) : Calls Tryz.prog 12 #[] w fun e w' => e = .returned (.bool true) ∧ zb [] w w' := by
 have HT := qI ht
 clear ht
 have kc := fun (w : World) (C : Array Value) (n c : Nat) => Lib.run_convert_bytes_const (P := Tryz.prog) w 28 5 C n c underlying28 underlying5
 have kc2 : ∀ (w : World) (o : Obj) (C : Array Value) (n c : Nat), (convert 28 28 (.slice (some ⟨w.heap.size + 1, 0, none⟩) n c)).run Tryz.prog ((w.alloc o).alloc (.cells C 5)) = .ok (.slice (some ⟨w.heap.size + 1, 0, none⟩) n c) ((w.alloc o).alloc (.cells C 5 (C.size, C.size + 1))) := fun w o C n c => by
  have h := kc (w.alloc o) C n c
  rw [show (w.alloc o).heap.size = w.heap.size + 1 by simp] at h
  exact h
 go_enter func12, ntmps12
 go_wp2_with fail
 refine (QB 1 (.inl rfl) _).mono ?_
 rintro e w1 ⟨⟨cs1, rfl, hr1⟩, hk1⟩
 obtain ⟨k1, m1, s1, p1, i1, c1, q1, j1, d1, rfl⟩ := hr1.conv
 have Gs := qI hr1
 have Gh := qI hk1
 clear hr1 hk1
 go_wp2_with fail
 refine (QP Gs.o (vy 1 (.inl rfl)) (by decide) (HT.o.kept0 Gh.o)).mono ?_
 rintro e w2 ⟨⟨a2, c2, rfl, hb2⟩, hk2⟩
 rw [enc_oneV] at hb2 ⊢
 have Gt := qI hb2
 have Gi := qI (Gh.o.then hk2)
 clear hb2 hk2
 go_wp2_with fail
 refine (dec_lit1 rfl (HT.o.kept0 Gi.o)).mono ?_
 rintro e w3 ⟨⟨x3, y3, z3, b3, c3, rfl⟩, hk3⟩
 have Gc := qI (Gi.o.then hk3)
 have Gu := qI (Gt.o.kept0 hk3)
 obtain ⟨W3, Ge⟩ : ∃ W3, Hid (W3 = w3.alloc (.cells #[.int .i64 6, .int .i64 0, .string ⟨#[]⟩, .slice x3 y3 z3, .slice b3 2 c3] 25)) := ⟨_, qI rfl⟩
 have Gd : Hid (zb [] w3 W3) := qI (by rw [Ge.o]; exact (zb.refl [] w3).alloc _)
 have Gv : Hid (W3.heap[w3.heap.size]? = some (.cells #[.int .i64 6, .int .i64 0, .string ⟨#[]⟩, .slice x3 y3 z3, .slice b3 2 c3] 25 (0, 0))) := qI (by rw [Ge.o]; exact zn rfl)
 clear hk3
 go_wp2_with fail
 rw [← Ge.o]
 refine (dec_lit2 (w := W3) (g := w3.heap.size + 1) (by rw [Ge.o]; simp) (HT.o.kept0 (Gc.o.then Gd.o))).mono ?_
 rintro e w4 ⟨rfl, hk4⟩
 have Gj := qI (Gd.o.then (hk4.alloc (.cells #[.int .i64 0, .int .i64 0, .string ⟨#[]⟩, .slice none 0 0, .slice none 0 0] 25)))
 have Gw := qI ((hk4.alloc (.cells #[.int .i64 0, .int .i64 0, .string ⟨#[]⟩, .slice none 0 0, .slice none 0 0] 25)).heap Gv.o (by simp))
 clear hk4
 go_wp2_with fail
 refine (dec_lit3 (g := w4.heap.size + 1) (by simp) (HT.o.kept0 (Gc.o.then Gj.o))).mono ?_
 rintro e w5 ⟨rfl, hk5⟩
 have Gx := qI (Gj.o.then (hk5.alloc (.cells #[.int .i64 0, .int .i64 0, .string ⟨#[]⟩, .slice none 0 0, .slice none 0 0] 25)))
 have Gy := qI ((hk5.alloc (.cells #[.int .i64 0, .int .i64 0, .string ⟨#[]⟩, .slice none 0 0, .slice none 0 0] 25)).heap Gw.o (by simp))
 clear hk5
 go_wp2_with fail
 refine (QB 1 (.inl rfl) _).mono ?_
 rintro e w6 ⟨⟨cs6, rfl, hr6⟩, hk6⟩
 obtain ⟨k6, m6, s6, p6, i6, c6, q6, j6, d6, rfl⟩ := hr6.conv
 have Gz := qI hr6
 have Ja := qI (Gx.o.then hk6)
 have Jb := qI (hk6.heap Gy.o (by simp))
 clear hr6 hk6
 go_wp2_with fail
 refine (QB 2 (.inr rfl) _).mono ?_
 rintro e w7 ⟨⟨cs7, rfl, hr7⟩, hk7⟩
 obtain ⟨k7, m7, s7, p7, i7, c7, q7, j7, d7, rfl⟩ := hr7.conv
 have Jc := qI hr7
 have Gf := qI (Gz.o.kept0 hk7)
 have Gk := qI (Ja.o.then hk7)
 have Jd := qI (hk7.heap Jb.o (by simp))
 clear hr7 hk7
 go_wp2_with fail
 refine (diff_any Gf.o Jc.o (vy 1 (.inl rfl)) (vy 2 (.inr rfl)) (by decide) (HT.o.kept0 (Gc.o.then Gk.o))).mono ?_
 rintro e w8 ⟨⟨p8, c8, he8, ho8⟩, hk8⟩
 rw [diff_ones] at he8 ho8
 subst he8
 have Je := qI (Slc.of_row ho8)
 have Gl := qI (Gk.o.then hk8)
 have Jf := qI (hk8.heap Jd.o (by simp))
 clear ho8 hk8
 have hcv := xt.toStr (Gu.o.kept0 Gl.o)
 rw [show zg YD = ⟨#[123, 34, 97, 34, 58, 34, 120, 34, 44, 34, 98, 34, 58, 91, 49, 93, 125]⟩ from rfl] at hcv
 have v4 := za (o := 4) (v := .slice b3 2 c3) Jf.o rfl
 go_wp2_with fail
 refine (QB 1 (.inl rfl) _).mono ?_
 rintro e w9 ⟨⟨cs9, rfl, hr9⟩, hk9⟩
 obtain ⟨k9, m9, s9, p9, i9, c9, q9, j9, d9, rfl⟩ := hr9.conv
 have Jg := qI hr9
 have Gm := qI (Gl.o.then hk9)
 have Jh := qI (Je.o.kept0 hk9)
 clear hr9 hk9 hcv v4
 go_wp2_with fail
 refine (size_any Jg.o (vy 1 (.inl rfl)) (by decide) (HT.o.kept0 (Gc.o.then Gm.o))).mono ?_
 rintro e w10 ⟨rfl, hk10⟩
 rw [size_one]
 have Gg := qI ((Gc.o.then Gm.o).then hk10)
 have ho10 := Jh.o.kept0 hk10
 obtain ⟨g, o, cap, hsl, q0⟩ : ∃ g o cap, Value.slice p8 1 c8 = .slice (some ⟨g, o, none⟩) 1 cap ∧ w10.cell? ⟨g, o, none⟩ = some (.string ⟨#[47, 98, 47, 48]⟩) := by
  rcases ho10.2 with ⟨-, h0⟩ | ⟨h0, -⟩ | ⟨g, o, cap, e, -, -, hr⟩
  ·simp at h0
  ·simp at h0
  ·exact ⟨g, o, cap, e, hr.cells 0 _ rfl⟩
 simp only [Value.slice.injEq] at hsl
 obtain ⟨rfl, -, rfl⟩ := hsl
 clear hk10 ho10
 go_wp2_with fail
 go_ret
 exact ⟨rfl, Gg.o⟩
end Go.Proofs.YtpbphdkjjoipnaaGreatDoor

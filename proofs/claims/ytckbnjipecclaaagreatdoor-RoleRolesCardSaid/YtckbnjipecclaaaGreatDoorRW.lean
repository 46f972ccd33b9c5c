/- Parts of one proof, merged: XIU XIX XIY XIZ. -/
import Derived.Test.YtckbnjipecclaaaGreatDoorRV
set_option linter.all false
set_option maxHeartbeats 12800000
set_option maxRecDepth 10000
set_option linter.unusedVariables false
set_option linter.unusedSimpArgs false
set_option linter.unnecessarySimpa false
namespace Go.Proofs.YtckbnjipecclaaaGreatDoor
open Go.RowKit
def dateA (a b c d e f : Int) : Array Value := #[.int .i64 a, .int .i64 b, .int .i64 c, .int .i64 d, .int .i64 e, .int .i64 f]
def put6 (w : World) (g : Nat) (a b c d e f : Int) : World := (((((w.setCell ⟨g, 0, none⟩ (.int .i64 a)).setCell ⟨g, 1, none⟩ (.int .i64 b)).setCell ⟨g, 2, none⟩ (.int .i64 c)).setCell ⟨g, 3, none⟩ (.int .i64 d)).setCell ⟨g, 4, none⟩ (.int .i64 e)).setCell ⟨g, 5, none⟩ (.int .i64 f)
theorem put6_kept (w : World) (g : Nat) (a b c d e f : Int) : Kept [g] w (put6 w g a b c d e f) := by
 unfold put6
 exact ((((((Kept.refl [g] w).setCell (.inl (by simp)) _).setCell (.inl (by simp)) _).setCell (.inl (by simp)) _).setCell (.inl (by simp)) _).setCell (.inl (by simp)) _).setCell (.inl (by simp)) _
def DateAt (w : World) (g : Nat) (a b c d e f : Int) : Prop := w.heap[g]? = some (.cells (dateA a b c d e f) 150 (0, 0))
theorem put6_at {w : World} {g : Nat} {a b c d e f : Int} (h : DateAt w g 0 0 0 0 0 0) : DateAt (put6 w g a b c d e f) g a b c d e f := by
 unfold put6
 have h1 := block_setCell (i := 0) (v := .int .i64 a) (d := dateA a 0 0 0 0 0) h rfl
 have h2 := block_setCell (i := 1) (v := .int .i64 b) (d := dateA a b 0 0 0 0) h1 rfl
 have h3 := block_setCell (i := 2) (v := .int .i64 c) (d := dateA a b c 0 0 0) h2 rfl
 have h4 := block_setCell (i := 3) (v := .int .i64 d) (d := dateA a b c d 0 0) h3 rfl
 have h5 := block_setCell (i := 4) (v := .int .i64 e) (d := dateA a b c d e 0) h4 rfl
 exact block_setCell (i := 5) (v := .int .i64 f) (d := dateA a b c d e f) h5 rfl
theorem DateAt.kept0 {w w' : World} {g : Nat} {a b c d e f : Int} (h : DateAt w g a b c d e f) (hk : Kept [] w w') : DateAt w' g a b c d e f := hk.heap h (by simp)
theorem civil_day (w : World) : Calls Tryz.prog 116 #[.int .i64 86400] w fun e w' => e = .returned (.tuple #[.agg (dateA 1970 1 2 0 0 0), .int .i64 0]) ∧ Kept [] w w' := by
 have CM := qI may_day
 have CA := qI ahead_70
 have CY := qI yearOf_day
 have CD := qI days_jan
 obtain ⟨W0, Gc⟩ : ∃ W0, Hid (W0 = w.alloc (.cells (dateA 0 0 0 0 0 0) 150)) := ⟨_, qI rfl⟩
 have Gf : Hid (Kept [] w W0) := qI (by rw [Gc.o]; exact (Kept.refl _ w).alloc _)
 have HA : Hid (DateAt W0 w.heap.size 0 0 0 0 0 0) := qI (by rw [Gc.o]; exact block_alloc rfl)
 have y0 := cell_head (o := 0) (v := .int .i64 0) HA.o rfl
 have y1 := cell_head (o := 1) (v := .int .i64 0) HA.o rfl
 have y2 := cell_head (o := 2) (v := .int .i64 0) HA.o rfl
 have y3 := cell_head (o := 3) (v := .int .i64 0) HA.o rfl
 have y4 := cell_head (o := 4) (v := .int .i64 0) HA.o rfl
 have y5 := cell_head (o := 5) (v := .int .i64 0) HA.o rfl
 have z : ∀ j, W0.frozen? ⟨w.heap.size, j, none⟩ = false := fun j => free_head HA.o
 go_enter Tryz.func116, Tryz.ntmps116
 go_upto_region 1 with fail
 change Code.wp _ _ _ _ (w.alloc (.cells (dateA 0 0 0 0 0 0) 150))
 rw [← Gc.o]
 go_upto_region 5 with first
  | (go_at_call 155; refine (CM.o _).mono ?_; rintro e w' ⟨rfl, rfl⟩)
  | (go_at_call 151; refine (CA.o _).mono ?_; rintro e w' ⟨rfl, rfl⟩)
  | (go_at_call 156; refine (CY.o _).mono ?_; rintro e w' ⟨rfl, rfl⟩)
 go_loopw [5, 6] (fun d m wr => d = .int .i64 1 ∧ m = .int .i64 1 ∧ wr = w') (fun _ _ _ => 0)
 case atStart => exact ⟨rfl, rfl, rfl⟩
 case round =>
  obtain ⟨rfl, rfl, rfl⟩ := hrel
  go_wp2_with (go_at_call 150; refine (CD.o _).mono ?_; rintro e w' ⟨rfl, rfl⟩)
  change bodyPost _ _ _ _ _ (put6 w' w.heap.size 1970 1 2 0 0 0)
  have Gg := put6_kept w' w.heap.size 1970 1 2 0 0 0
  have Gb := put6_at (a := 1970) (b := 1) (c := 2) (d := 0) (e := 0) (f := 0) HA.o
  revert Gg Gb
  generalize put6 w' w.heap.size 1970 1 2 0 0 0 = WF
  intro Gg Gb
  have v0 := cell_head (o := 0) (v := .int .i64 1970) Gb rfl
  have v1 := cell_head (o := 1) (v := .int .i64 1) Gb rfl
  have v2 := cell_head (o := 2) (v := .int .i64 2) Gb rfl
  have v3 := cell_head (o := 3) (v := .int .i64 0) Gb rfl
  have v4 := cell_head (o := 4) (v := .int .i64 0) Gb rfl
  have v5 := cell_head (o := 5) (v := .int .i64 0) Gb rfl
  refine bodyPost_ret (v := .tuple #[.agg (dateA 1970 1 2 0 0 0), .int .i64 0]) (by simp [results, Tryz.results116, go_sem, v0, v1, v2, v3, v4, v5, dateA]) rfl ?_
  exact ⟨rfl, Gf.o.trans Gg (by intro i hi; simp at hi; subst hi; exact .inr (Nat.le_refl _))⟩
theorem digits_1970 (w : World) : Calls Tryz.prog 113 #[.string ⟨#[49, 57, 55, 48]⟩] w fun e w' => e = .returned (.int .i64 1970) ∧ Kept [] w w' := by
 obtain ⟨a, n, c, w1, hrun, hn, hb, hk⟩ := str_bytes w ⟨#[49, 57, 55, 48]⟩ (by decide)
 obtain rfl : n = 4 := hn.trans (by decide)
 obtain ⟨g, o, rfl, h2⟩ : ∃ g o, a = some ⟨g, o, none⟩ ∧ Row w1 g o ((⟨#[49, 57, 55, 48]⟩ : ByteArray).data.toList.map bv) := by
  rcases hb.2 with ⟨h1, -⟩ | ⟨h1, -⟩ | ⟨g', o', cap, h1, -, -, h2⟩
  ·simp at h1
  ·simp at h1
  ·simp only [Value.slice.injEq] at h1
   exact ⟨g', o', h1.1, h2⟩
 have q0 : w1.cell? ⟨g, o, none⟩ = some (.int .u8 49) := h2.cells 0 _ rfl
 have q1 : w1.cell? ⟨g, o + 1, none⟩ = some (.int .u8 57) := h2.cells 1 _ rfl
 have q2 : w1.cell? ⟨g, o + 2, none⟩ = some (.int .u8 55) := h2.cells 2 _ rfl
 have q3 : w1.cell? ⟨g, o + 3, none⟩ = some (.int .u8 48) := h2.cells 3 _ rfl
 have HK := qI hk
 clear hk hn hb h2
 go_enter Tryz.func113, Tryz.ntmps113
 go_wp2_with fail
 go_loopw [3, 5, 9] (fun acc _ i wr => ((i = .int .i64 0 ∧ acc = .int .i64 0) ∨ (i = .int .i64 1 ∧ acc = .int .i64 1) ∨ (i = .int .i64 2 ∧ acc = .int .i64 19) ∨ (i = .int .i64 3 ∧ acc = .int .i64 197) ∨ (i = .int .i64 4 ∧ acc = .int .i64 1970)) ∧ wr = w1) (fun _ _ i _ => 4 - (intOf i).toNat)
 case atStart => exact ⟨.inl ⟨rfl, rfl⟩, rfl⟩
 case round =>
  obtain ⟨hrel, rfl⟩ := hrel
  rcases hrel with ⟨rfl, rfl⟩ | ⟨rfl, rfl⟩ | ⟨rfl, rfl⟩ | ⟨rfl, rfl⟩ | ⟨rfl, rfl⟩
  ·go_wp2_with fail
   case roundEnd => exact ⟨⟨.inr (.inl ⟨rfl, rfl⟩), trivial⟩, by decide⟩
  ·go_wp2_with fail
   case roundEnd => exact ⟨⟨.inr (.inr (.inl ⟨rfl, rfl⟩)), trivial⟩, by decide⟩
  ·go_wp2_with fail
   case roundEnd => exact ⟨⟨.inr (.inr (.inr (.inl ⟨rfl, rfl⟩))), trivial⟩, by decide⟩
  ·go_wp2_with fail
   case roundEnd => exact ⟨⟨.inr (.inr (.inr (.inr ⟨rfl, rfl⟩))), trivial⟩, by decide⟩
  ·go_wp2_with fail
   go_ret
   exact ⟨rfl, HK.o⟩
theorem digits_01 (w : World) : Calls Tryz.prog 113 #[.string ⟨#[48, 49]⟩] w fun e w' => e = .returned (.int .i64 1) ∧ Kept [] w w' := by
 obtain ⟨a, n, c, w1, hrun, hn, hb, hk⟩ := str_bytes w ⟨#[48, 49]⟩ (by decide)
 obtain rfl : n = 2 := hn.trans (by decide)
 obtain ⟨g, o, rfl, h2⟩ : ∃ g o, a = some ⟨g, o, none⟩ ∧ Row w1 g o ((⟨#[48, 49]⟩ : ByteArray).data.toList.map bv) := by
  rcases hb.2 with ⟨h1, -⟩ | ⟨h1, -⟩ | ⟨g', o', cap, h1, -, -, h2⟩
  ·simp at h1
  ·simp at h1
  ·simp only [Value.slice.injEq] at h1
   exact ⟨g', o', h1.1, h2⟩
 have q0 : w1.cell? ⟨g, o, none⟩ = some (.int .u8 48) := h2.cells 0 _ rfl
 have q1 : w1.cell? ⟨g, o + 1, none⟩ = some (.int .u8 49) := h2.cells 1 _ rfl
 have HK := qI hk
 clear hk hn hb h2
 go_enter Tryz.func113, Tryz.ntmps113
 go_wp2_with fail
 go_loopw [3, 5, 9] (fun acc _ i wr => ((i = .int .i64 0 ∧ acc = .int .i64 0) ∨ (i = .int .i64 1 ∧ acc = .int .i64 0) ∨ (i = .int .i64 2 ∧ acc = .int .i64 1)) ∧ wr = w1) (fun _ _ i _ => 2 - (intOf i).toNat)
 case atStart => exact ⟨.inl ⟨rfl, rfl⟩, rfl⟩
 case round =>
  obtain ⟨hrel, rfl⟩ := hrel
  rcases hrel with ⟨rfl, rfl⟩ | ⟨rfl, rfl⟩ | ⟨rfl, rfl⟩
  ·go_wp2_with fail
   case roundEnd => exact ⟨⟨.inr (.inl ⟨rfl, rfl⟩), trivial⟩, by decide⟩
  ·go_wp2_with fail
   case roundEnd => exact ⟨⟨.inr (.inr ⟨rfl, rfl⟩), trivial⟩, by decide⟩
  ·go_wp2_with fail
   go_ret
   exact ⟨rfl, HK.o⟩
theorem digits_02 (w : World) : Calls Tryz.prog 113 #[.string ⟨#[48, 50]⟩] w fun e w' => e = .returned (.int .i64 2) ∧ Kept [] w w' := by
 obtain ⟨a, n, c, w1, hrun, hn, hb, hk⟩ := str_bytes w ⟨#[48, 50]⟩ (by decide)
 obtain rfl : n = 2 := hn.trans (by decide)
 obtain ⟨g, o, rfl, h2⟩ : ∃ g o, a = some ⟨g, o, none⟩ ∧ Row w1 g o ((⟨#[48, 50]⟩ : ByteArray).data.toList.map bv) := by
  rcases hb.2 with ⟨h1, -⟩ | ⟨h1, -⟩ | ⟨g', o', cap, h1, -, -, h2⟩
  ·simp at h1
  ·simp at h1
  ·simp only [Value.slice.injEq] at h1
   exact ⟨g', o', h1.1, h2⟩
 have q0 : w1.cell? ⟨g, o, none⟩ = some (.int .u8 48) := h2.cells 0 _ rfl
 have q1 : w1.cell? ⟨g, o + 1, none⟩ = some (.int .u8 50) := h2.cells 1 _ rfl
 have HK := qI hk
 clear hk hn hb h2
 go_enter Tryz.func113, Tryz.ntmps113
 go_wp2_with fail
 go_loopw [3, 5, 9] (fun acc _ i wr => ((i = .int .i64 0 ∧ acc = .int .i64 0) ∨ (i = .int .i64 1 ∧ acc = .int .i64 0) ∨ (i = .int .i64 2 ∧ acc = .int .i64 2)) ∧ wr = w1) (fun _ _ i _ => 2 - (intOf i).toNat)
 case atStart => exact ⟨.inl ⟨rfl, rfl⟩, rfl⟩
 case round =>
  obtain ⟨hrel, rfl⟩ := hrel
  rcases hrel with ⟨rfl, rfl⟩ | ⟨rfl, rfl⟩ | ⟨rfl, rfl⟩
  ·go_wp2_with fail
   case roundEnd => exact ⟨⟨.inr (.inl ⟨rfl, rfl⟩), trivial⟩, by decide⟩
  ·go_wp2_with fail
   case roundEnd => exact ⟨⟨.inr (.inr ⟨rfl, rfl⟩), trivial⟩, by decide⟩
  ·go_wp2_with fail
   go_ret
   exact ⟨rfl, HK.o⟩
theorem digits_00 (w : World) : Calls Tryz.prog 113 #[.string ⟨#[48, 48]⟩] w fun e w' => e = .returned (.int .i64 0) ∧ Kept [] w w' := by
 obtain ⟨a, n, c, w1, hrun, hn, hb, hk⟩ := str_bytes w ⟨#[48, 48]⟩ (by decide)
 obtain rfl : n = 2 := hn.trans (by decide)
 obtain ⟨g, o, rfl, h2⟩ : ∃ g o, a = some ⟨g, o, none⟩ ∧ Row w1 g o ((⟨#[48, 48]⟩ : ByteArray).data.toList.map bv) := by
  rcases hb.2 with ⟨h1, -⟩ | ⟨h1, -⟩ | ⟨g', o', cap, h1, -, -, h2⟩
  ·simp at h1
  ·simp at h1
  ·simp only [Value.slice.injEq] at h1
   exact ⟨g', o', h1.1, h2⟩
 have q0 : w1.cell? ⟨g, o, none⟩ = some (.int .u8 48) := h2.cells 0 _ rfl
 have q1 : w1.cell? ⟨g, o + 1, none⟩ = some (.int .u8 48) := h2.cells 1 _ rfl
 have HK := qI hk
 clear hk hn hb h2
 go_enter Tryz.func113, Tryz.ntmps113
 go_wp2_with fail
 go_loopw [3, 5, 9] (fun acc _ i wr => ((i = .int .i64 0 ∧ acc = .int .i64 0) ∨ (i = .int .i64 1 ∧ acc = .int .i64 0) ∨ (i = .int .i64 2 ∧ acc = .int .i64 0)) ∧ wr = w1) (fun _ _ i _ => 2 - (intOf i).toNat)
 case atStart => exact ⟨.inl ⟨rfl, rfl⟩, rfl⟩
 case round =>
  obtain ⟨hrel, rfl⟩ := hrel
  rcases hrel with ⟨rfl, rfl⟩ | ⟨rfl, rfl⟩ | ⟨rfl, rfl⟩
  ·go_wp2_with fail
   case roundEnd => exact ⟨⟨.inr (.inl ⟨rfl, rfl⟩), trivial⟩, by decide⟩
  ·go_wp2_with fail
   case roundEnd => exact ⟨⟨.inr (.inr ⟨rfl, rfl⟩), trivial⟩, by decide⟩
  ·go_wp2_with fail
   go_ret
   exact ⟨rfl, HK.o⟩
theorem time_day (w : World) : Calls Tryz.prog 112 #[.agg (dateA 1970 1 2 0 0 0)] w fun e w' => e = .returned (.tuple #[.int .i64 86400, .int .i64 0]) ∧ Kept [] w w' := by
 obtain ⟨W0, Gc⟩ : ∃ W0, Hid (W0 = w.alloc (.cells (dateA 1970 1 2 0 0 0) 150)) := ⟨_, qI rfl⟩
 have Gf : Hid (Kept [] w W0) := qI (by rw [Gc.o]; exact (Kept.refl _ w).alloc _)
 have HD : Hid (DateAt W0 w.heap.size 1970 1 2 0 0 0) := qI (by rw [Gc.o]; exact block_alloc rfl)
 go_enter Tryz.func112, Tryz.ntmps112
 go_upto_region 1 with fail
 change Code.wp _ _ _ _ (w.alloc (.cells (dateA 1970 1 2 0 0 0) 150))
 rw [← Gc.o]
 generalize hrb : w.heap.size = rb at HD
 refine wp_grows (n := 73) 32 [Fact.is (.pointer (some ⟨rb, 0, none⟩)),
  Fact.is (.int .i64 1970),
  Fact.is (.bool true),
  Fact.is (.bool false),
  Fact.is (.bool false),
  Fact.is (.pointer (some ⟨rb, 2, none⟩)),
  Fact.is (.int .i64 2),
  Fact.is (.pointer (some ⟨rb, 0, none⟩)),
  Fact.is (.int .i64 1970),
  Fact.is (.pointer (some ⟨rb, 1, none⟩)),
  Fact.is (.int .i64 1),
  Fact.is (.int .i64 31),
  Fact.is (.bool true),
  Fact.is (.bool false),
  Fact.is (.bool false),
  Fact.is (.bool false),
  Fact.is (.pointer (some ⟨rb, 3, none⟩)),
  Fact.is (.int .i64 0),
  Fact.is (.bool true),
  Fact.is (.bool false),
  Fact.is (.bool false),
  Fact.is (.bool false),
  Fact.is (.pointer (some ⟨rb, 4, none⟩)),
  Fact.is (.int .i64 0),
  Fact.is (.bool true),
  Fact.is (.bool false),
  Fact.is (.bool false),
  Fact.is (.bool false),
  Fact.is (.pointer (some ⟨rb, 5, none⟩)),
  Fact.is (.int .i64 0),
  Fact.is (.bool true),
  Fact.is (.bool false)] (by kernel_rfl) rfl (by kernel_rfl) (fun x => by simp only [List.map, puts, Act.put, List.setIfInBounds_toArray, List.set_cons_zero, List.set_cons_succ]; rfl) ?_ ?_
 ·refine ⟨fun x w2 hkw b hd => ?_, fun x w2 hkw b hd => ?_, fun x w2 hkw b hd => ?_, fun x w2 hkw b hd => ?_, fun x w2 hkw b hd => ?_, fun x w2 hkw b hd => ?_, fun x w2 hkw b hd => ?_, fun x w2 hkw b hd => ?_, fun x w2 hkw b hd => ?_, fun x w2 hkw b hd => ?_, fun x w2 hkw b hd => ?_, fun x w2 hkw b hd => ?_, fun x w2 hkw b hd => ?_, fun x w2 hkw b hd => ?_, fun x w2 hkw b hd => ?_, fun x w2 hkw b hd => ?_, fun x w2 hkw b hd => ?_, fun x w2 hkw b hd => ?_, fun x w2 hkw b hd => ?_, fun x w2 hkw b hd => ?_, fun x w2 hkw b hd => ?_, fun x w2 hkw b hd => ?_, fun x w2 hkw b hd => ?_, fun x w2 hkw b hd => ?_, fun x w2 hkw b hd => ?_, fun x w2 hkw b hd => ?_, fun x w2 hkw b hd => ?_, fun x w2 hkw b hd => ?_, fun x w2 hkw b hd => ?_, fun x w2 hkw b hd => ?_, fun x w2 hkw b hd => ?_, fun x w2 hkw b hd => ?_, trivial⟩
  ·go_wp2_with fail
   exact ⟨rfl, Kept.refl _ _⟩
  ·have y0 := cell_head (o := 0) (v := .int .i64 1970) (HD.o.kept0 hkw) rfl
   have d0 : x 0 = _ := hd 0 (by kernel_rfl)
   go_wp2_with fail
   exact ⟨rfl, Kept.refl _ _⟩
  ·have d1 : x 1 = _ := hd 1 (by kernel_rfl)
   have CX := within_yes (a := 1970) (b := 1970) (c := 9999) (by decide) (by decide) w2
   go_wp2_with (go_at_call 149; refine CX.mono ?_; rintro e w5 ⟨rfl, rfl⟩)
   exact ⟨rfl, Kept.refl _ _⟩
  ·have d2 : x 2 = _ := hd 2 (by kernel_rfl)
   go_wp2_with fail
   exact ⟨rfl, Kept.refl _ _⟩
  ·have d3 : x 3 = _ := hd 3 (by kernel_rfl)
   go_wp2_with fail
   exact ⟨rfl, Kept.refl _ _⟩
  ·have d4 : x 4 = _ := hd 4 (by kernel_rfl)
   go_wp2_with fail
   exact ⟨rfl, Kept.refl _ _⟩
  ·have y0 := cell_head (o := 2) (v := .int .i64 2) (HD.o.kept0 hkw) rfl
   have d5 : x 5 = _ := hd 5 (by kernel_rfl)
   have d4 : x 4 = _ := hd 4 (by kernel_rfl)
   go_wp2_with fail
   exact ⟨rfl, Kept.refl _ _⟩
  ·have d4 : x 4 = _ := hd 4 (by kernel_rfl)
   go_wp2_with fail
   exact ⟨rfl, Kept.refl _ _⟩
  ·have y0 := cell_head (o := 0) (v := .int .i64 1970) (HD.o.kept0 hkw) rfl
   have d7 : x 7 = _ := hd 7 (by kernel_rfl)
   have d4 : x 4 = _ := hd 4 (by kernel_rfl)
   go_wp2_with fail
   exact ⟨rfl, Kept.refl _ _⟩
  ·have d4 : x 4 = _ := hd 4 (by kernel_rfl)
   go_wp2_with fail
   exact ⟨rfl, Kept.refl _ _⟩
  ·have y0 := cell_head (o := 1) (v := .int .i64 1) (HD.o.kept0 hkw) rfl
   have d9 : x 9 = _ := hd 9 (by kernel_rfl)
   have d4 : x 4 = _ := hd 4 (by kernel_rfl)
   go_wp2_with fail
   exact ⟨rfl, Kept.refl _ _⟩
  ·have d8 : x 8 = _ := hd 8 (by kernel_rfl)
   have d10 : x 10 = _ := hd 10 (by kernel_rfl)
   have d4 : x 4 = _ := hd 4 (by kernel_rfl)
   have CX := days_jan w2
   go_wp2_with (go_at_call 150; refine CX.mono ?_; rintro e w5 ⟨rfl, rfl⟩)
   exact ⟨rfl, Kept.refl _ _⟩
  ·have d6 : x 6 = _ := hd 6 (by kernel_rfl)
   have d11 : x 11 = _ := hd 11 (by kernel_rfl)
   have d4 : x 4 = _ := hd 4 (by kernel_rfl)
   have CX := within_yes (a := 2) (b := 1) (c := 31) (by decide) (by decide) w2
   go_wp2_with (go_at_call 149; refine CX.mono ?_; rintro e w5 ⟨rfl, rfl⟩)
   exact ⟨rfl, Kept.refl _ _⟩
  ·have d12 : x 12 = _ := hd 12 (by kernel_rfl)
   have d4 : x 4 = _ := hd 4 (by kernel_rfl)
   go_wp2_with fail
   exact ⟨rfl, Kept.refl _ _⟩
  ·have d4 : x 4 = _ := hd 4 (by kernel_rfl)
   have d13 : x 13 = _ := hd 13 (by kernel_rfl)
   go_wp2_with fail
   exact ⟨rfl, Kept.refl _ _⟩
  ·have d14 : x 14 = _ := hd 14 (by kernel_rfl)
   go_wp2_with fail
   exact ⟨rfl, Kept.refl _ _⟩
  ·have d15 : x 15 = _ := hd 15 (by kernel_rfl)
   go_wp2_with fail
   exact ⟨rfl, Kept.refl _ _⟩
  ·have y0 := cell_head (o := 3) (v := .int .i64 0) (HD.o.kept0 hkw) rfl
   have d16 : x 16 = _ := hd 16 (by kernel_rfl)
   have d15 : x 15 = _ := hd 15 (by kernel_rfl)
   go_wp2_with fail
   exact ⟨rfl, Kept.refl _ _⟩
  ·have d17 : x 17 = _ := hd 17 (by kernel_rfl)
   have d15 : x 15 = _ := hd 15 (by kernel_rfl)
   have CX := within_yes (a := 0) (b := 0) (c := 23) (by decide) (by decide) w2
   go_wp2_with (go_at_call 149; refine CX.mono ?_; rintro e w5 ⟨rfl, rfl⟩)
   exact ⟨rfl, Kept.refl _ _⟩
  ·have d18 : x 18 = _ := hd 18 (by kernel_rfl)
   have d15 : x 15 = _ := hd 15 (by kernel_rfl)
   go_wp2_with fail
   exact ⟨rfl, Kept.refl _ _⟩
  ·have d15 : x 15 = _ := hd 15 (by kernel_rfl)
   have d19 : x 19 = _ := hd 19 (by kernel_rfl)
   go_wp2_with fail
   exact ⟨rfl, Kept.refl _ _⟩
  ·have d20 : x 20 = _ := hd 20 (by kernel_rfl)
   go_wp2_with fail
   exact ⟨rfl, Kept.refl _ _⟩
  ·have d21 : x 21 = _ := hd 21 (by kernel_rfl)
   go_wp2_with fail
   exact ⟨rfl, Kept.refl _ _⟩
  ·have y0 := cell_head (o := 4) (v := .int .i64 0) (HD.o.kept0 hkw) rfl
   have d22 : x 22 = _ := hd 22 (by kernel_rfl)
   have d21 : x 21 = _ := hd 21 (by kernel_rfl)
   go_wp2_with fail
   exact ⟨rfl, Kept.refl _ _⟩
  ·have d23 : x 23 = _ := hd 23 (by kernel_rfl)
   have d21 : x 21 = _ := hd 21 (by kernel_rfl)
   have CX := within_yes (a := 0) (b := 0) (c := 59) (by decide) (by decide) w2
   go_wp2_with (go_at_call 149; refine CX.mono ?_; rintro e w5 ⟨rfl, rfl⟩)
   exact ⟨rfl, Kept.refl _ _⟩
  ·have d24 : x 24 = _ := hd 24 (by kernel_rfl)
   have d21 : x 21 = _ := hd 21 (by kernel_rfl)
   go_wp2_with fail
   exact ⟨rfl, Kept.refl _ _⟩
  ·have d21 : x 21 = _ := hd 21 (by kernel_rfl)
   have d25 : x 25 = _ := hd 25 (by kernel_rfl)
   go_wp2_with fail
   exact ⟨rfl, Kept.refl _ _⟩
  ·have d26 : x 26 = _ := hd 26 (by kernel_rfl)
   go_wp2_with fail
   exact ⟨rfl, Kept.refl _ _⟩
  ·have d27 : x 27 = _ := hd 27 (by kernel_rfl)
   go_wp2_with fail
   exact ⟨rfl, Kept.refl _ _⟩
  ·have y0 := cell_head (o := 5) (v := .int .i64 0) (HD.o.kept0 hkw) rfl
   have d28 : x 28 = _ := hd 28 (by kernel_rfl)
   have d27 : x 27 = _ := hd 27 (by kernel_rfl)
   go_wp2_with fail
   exact ⟨rfl, Kept.refl _ _⟩
  ·have d29 : x 29 = _ := hd 29 (by kernel_rfl)
   have d27 : x 27 = _ := hd 27 (by kernel_rfl)
   have CX := within_yes (a := 0) (b := 0) (c := 59) (by decide) (by decide) w2
   go_wp2_with (go_at_call 149; refine CX.mono ?_; rintro e w5 ⟨rfl, rfl⟩)
   exact ⟨rfl, Kept.refl _ _⟩
  ·have d30 : x 30 = _ := hd 30 (by kernel_rfl)
   have d27 : x 27 = _ := hd 27 (by kernel_rfl)
   go_wp2_with fail
   exact ⟨rfl, Kept.refl _ _⟩
 ·intro x w7 hkw b hd hwin
  have d27 : x 27 = _ := hd 27 (by decide)
  have d31 : x 31 = _ := hd 31 (by decide)
  have Gd := qI hkw
  have Gk := qI (HD.o.kept0 hkw)
  clear hd hwin hkw
  change wpList _ _ _ [_] _ _
  go_upto_region 3 with fail
  clear HD
  have HD := Gk
  refine wp_grows (n := 73) 9 [Fact.is (.pointer (some ⟨rb, 0, none⟩)),
   Fact.is (.int .i64 1970),
   Fact.is (.int .i64 719162),
   Fact.is (.int .i64 719162),
   Fact.is (.int .i64 0),
   Fact.is (.pointer (some ⟨rb, 2, none⟩)),
   Fact.is (.int .i64 2),
   Fact.is (.int .i64 2),
   Fact.is (.int .i64 1)] (by kernel_rfl) rfl (by kernel_rfl) (fun x => by simp only [List.map, puts, Act.put, List.setIfInBounds_toArray, List.set_cons_zero, List.set_cons_succ]; rfl) ?_ ?_
  ·refine ⟨fun x w2 hkw b hd => ?_, fun x w2 hkw b hd => ?_, fun x w2 hkw b hd => ?_, fun x w2 hkw b hd => ?_, fun x w2 hkw b hd => ?_, fun x w2 hkw b hd => ?_, fun x w2 hkw b hd => ?_, fun x w2 hkw b hd => ?_, fun x w2 hkw b hd => ?_, trivial⟩
   ·go_wp2_with fail
    exact ⟨rfl, Kept.refl _ _⟩
   ·have y0 := cell_head (o := 0) (v := .int .i64 1970) (HD.o.kept0 hkw) rfl
    have d0 : x 0 = _ := hd 0 (by kernel_rfl)
    go_wp2_with fail
    exact ⟨rfl, Kept.refl _ _⟩
   ·have d1 : x 1 = _ := hd 1 (by kernel_rfl)
    have CX := ahead_70 w2
    go_wp2_with (go_at_call 151; refine CX.mono ?_; rintro e w5 ⟨rfl, rfl⟩)
    exact ⟨rfl, Kept.refl _ _⟩
   ·have CX := ahead_70 w2
    go_wp2_with (go_at_call 151; refine CX.mono ?_; rintro e w5 ⟨rfl, rfl⟩)
    exact ⟨rfl, Kept.refl _ _⟩
   ·have d2 : x 2 = _ := hd 2 (by kernel_rfl)
    have d3 : x 3 = _ := hd 3 (by kernel_rfl)
    go_wp2_with fail
    exact ⟨rfl, Kept.refl _ _⟩
   ·go_wp2_with fail
    exact ⟨rfl, Kept.refl _ _⟩
   ·have y0 := cell_head (o := 2) (v := .int .i64 2) (HD.o.kept0 hkw) rfl
    have d5 : x 5 = _ := hd 5 (by kernel_rfl)
    go_wp2_with fail
    exact ⟨rfl, Kept.refl _ _⟩
   ·have d4 : x 4 = _ := hd 4 (by kernel_rfl)
    have d6 : x 6 = _ := hd 6 (by kernel_rfl)
    go_wp2_with fail
    exact ⟨rfl, Kept.refl _ _⟩
   ·have d7 : x 7 = _ := hd 7 (by kernel_rfl)
    go_wp2_with fail
    exact ⟨rfl, Kept.refl _ _⟩
  ·intro x w8 hkw b hd hwin
   have d8 : x 8 = _ := hd 8 (by decide)
   have Gl := qI (Gd.o.then hkw)
   have Ge := HD.o.kept0 hkw
   have y0 := cell_head (o := 0) (v := .int .i64 1970) Ge rfl
   have y1 := cell_head (o := 1) (v := .int .i64 1) Ge rfl
   have y2 := cell_head (o := 2) (v := .int .i64 2) Ge rfl
   have y3 := cell_head (o := 3) (v := .int .i64 0) Ge rfl
   have y4 := cell_head (o := 4) (v := .int .i64 0) Ge rfl
   have y5 := cell_head (o := 5) (v := .int .i64 0) Ge rfl
   clear hd hwin hkw Ge
   change wpList _ _ _ [_] _ _
   go_upto_region 5 with fail
   go_loopw [4, 5] (fun n m wr => n = .int .i64 1 ∧ m = .int .i64 1 ∧ wr = w8) (fun _ _ _ => 0)
   case atStart => exact ⟨d8, rfl, rfl⟩
   case round =>
    obtain ⟨rfl, rfl, rfl⟩ := hrel
    go_wp2_with fail
    go_ret2
    exact ⟨rfl, Gf.o.then Gl.o⟩
theorem dateIx : ∀ (k : Nat), k < 20 → ∃ b : Int, (∀ W, (Instr.index 9 (.string ⟨#[48, 48, 48, 48, 45, 48, 48, 45, 48, 48, 84, 48, 48, 58, 48, 48, 58, 48, 48, 90]⟩) (.int .i64 k)).run Tryz.prog W = .ok (.int .u8 b) W) ∧ (b ≠ 48 → ∀ W, (Instr.index 9 (.string ⟨#[49, 57, 55, 48, 45, 48, 49, 45, 48, 50, 84, 48, 48, 58, 48, 48, 58, 48, 48, 90]⟩) (.int .i64 k)).run Tryz.prog W = .ok (.int .u8 b) W)
 | 0, _ => ⟨48, fun W => by kernel_rfl, fun h => absurd rfl h⟩
 | 1, _ => ⟨48, fun W => by kernel_rfl, fun h => absurd rfl h⟩
 | 2, _ => ⟨48, fun W => by kernel_rfl, fun h => absurd rfl h⟩
 | 3, _ => ⟨48, fun W => by kernel_rfl, fun h => absurd rfl h⟩
 | 4, _ => ⟨45, fun W => by kernel_rfl, fun h => fun W => by kernel_rfl⟩
 | 5, _ => ⟨48, fun W => by kernel_rfl, fun h => absurd rfl h⟩
 | 6, _ => ⟨48, fun W => by kernel_rfl, fun h => absurd rfl h⟩
 | 7, _ => ⟨45, fun W => by kernel_rfl, fun h => fun W => by kernel_rfl⟩
 | 8, _ => ⟨48, fun W => by kernel_rfl, fun h => absurd rfl h⟩
 | 9, _ => ⟨48, fun W => by kernel_rfl, fun h => absurd rfl h⟩
 | 10, _ => ⟨84, fun W => by kernel_rfl, fun h => fun W => by kernel_rfl⟩
 | 11, _ => ⟨48, fun W => by kernel_rfl, fun h => absurd rfl h⟩
 | 12, _ => ⟨48, fun W => by kernel_rfl, fun h => absurd rfl h⟩
 | 13, _ => ⟨58, fun W => by kernel_rfl, fun h => fun W => by kernel_rfl⟩
 | 14, _ => ⟨48, fun W => by kernel_rfl, fun h => absurd rfl h⟩
 | 15, _ => ⟨48, fun W => by kernel_rfl, fun h => absurd rfl h⟩
 | 16, _ => ⟨58, fun W => by kernel_rfl, fun h => fun W => by kernel_rfl⟩
 | 17, _ => ⟨48, fun W => by kernel_rfl, fun h => absurd rfl h⟩
 | 18, _ => ⟨48, fun W => by kernel_rfl, fun h => absurd rfl h⟩
 | 19, _ => ⟨90, fun W => by kernel_rfl, fun h => fun W => by kernel_rfl⟩
 | k + 20, h => absurd h (by omega)
theorem parse_day (w : World) : Calls Tryz.prog 79 #[.string ⟨#[49, 57, 55, 48, 45, 48, 49, 45, 48, 50, 84, 48, 48, 58, 48, 48, 58, 48, 48, 90]⟩] w fun e w' => e = .returned (.tuple #[.int .i64 86400, .int .i64 0]) ∧ Kept [] w w' := by
 go_enter Tryz.func79, Tryz.ntmps79
 go_upto_region 4 with fail
 go_loopw [4, 8] (fun _ i wr => (∃ k : Nat, k ≤ 20 ∧ i = .int .i64 k) ∧ Kept [] w wr) (fun _ i _ => 20 - (intOf i).toNat)
 case atStart => exact ⟨⟨0, by decide, rfl⟩, Kept.refl _ _⟩
 case round =>
  obtain ⟨⟨k, hk, rfl⟩, hkr⟩ := hrel
  have HK := qI hkr
  clear hkr
  by_cases hlt : k < 20
  ·obtain ⟨b, hi1, hi2⟩ := dateIx k hlt
   have Gh := qI hi1
   have Gi := qI hi2
   clear hi1 hi2
   have hltI : (k : Int) < 20 := by omega
   by_cases hb : b = 48
   ·subst hb
    go_upto_region 6 with fail
    refine wp_grows (n := 45) 10 [Fact.is (.int .i64 k),
     Fact.is (.int .u8 48),
     Fact.is (.bool false),
     Fact.is (.bool false),
     Fact.is (undef),
     Fact.is (undef),
     Fact.is (undef),
     Fact.is (undef),
     Fact.is (undef),
     Fact.is (undef)] (by kernel_rfl) rfl (by kernel_rfl) (fun x => by simp only [List.map, puts, Act.put, List.setIfInBounds_toArray, List.set_cons_zero, List.set_cons_succ]; rfl) ?_ ?_
    ·refine ⟨fun x w2 hkw b hd => ?_, fun x w2 hkw b hd => ?_, fun x w2 hkw b hd => ?_, fun x w2 hkw b hd => ?_, fun x w2 hkw b hd => ?_, fun x w2 hkw b hd => ?_, fun x w2 hkw b hd => ?_, fun x w2 hkw b hd => ?_, fun x w2 hkw b hd => ?_, fun x w2 hkw b hd => ?_, trivial⟩
     ·go_wp2_with fail
      exact ⟨rfl, Kept.refl _ _⟩
     ·have hi1 := Gh.o w2
      have d0 : x 0 = _ := hd 0 (by kernel_rfl)
      go_wp2_with fail
      exact ⟨rfl, Kept.refl _ _⟩
     ·have d1 : x 1 = _ := hd 1 (by kernel_rfl)
      go_wp2_with fail
      exact ⟨rfl, Kept.refl _ _⟩
     ·have d2 : x 2 = _ := hd 2 (by kernel_rfl)
      go_wp2_with fail
      exact ⟨rfl, Kept.refl _ _⟩
     ·have d3 : x 3 = _ := hd 3 (by kernel_rfl)
      go_wp2_with fail
      exact ⟨rfl, Kept.refl _ _⟩
     ·have d3 : x 3 = _ := hd 3 (by kernel_rfl)
      go_wp2_with fail
      exact ⟨rfl, Kept.refl _ _⟩
     ·have d3 : x 3 = _ := hd 3 (by kernel_rfl)
      go_wp2_with fail
      exact ⟨rfl, Kept.refl _ _⟩
     ·have d3 : x 3 = _ := hd 3 (by kernel_rfl)
      go_wp2_with fail
      exact ⟨rfl, Kept.refl _ _⟩
     ·have d3 : x 3 = _ := hd 3 (by kernel_rfl)
      go_wp2_with fail
      exact ⟨rfl, Kept.refl _ _⟩
     ·have d3 : x 3 = _ := hd 3 (by kernel_rfl)
      go_wp2_with fail
      exact ⟨rfl, Kept.refl _ _⟩
    ·intro x w7 hkw b9 hd hwin
     have d3 : x 3 = _ := hd 3 (by decide)
     have d9 : x 9 = _ := hd 9 (by decide)
     have Gd := qI hkw
     clear hd hwin hkw
     change wpList _ _ _ [_] _ _
     go_wp2_with fail
     case roundEnd => exact ⟨⟨⟨k + 1, by omega, by go_num⟩, HK.o.then Gd.o⟩, by simp [intOf]; omega⟩
   ·have Gi := qI (Gi.o hb)
    have f1 := (int_ne hb).2
    have f3 : (b != b) = false := by simp
    clear hb
    go_upto_region 6 with fail
    refine wp_grows (n := 45) 10 [Fact.is (.int .i64 k),
     Fact.is (.int .u8 b),
     Fact.is (.bool true),
     Fact.is (.bool true),
     Fact.is (.string ⟨#[49, 57, 55, 48, 45, 48, 49, 45, 48, 50, 84, 48, 48, 58, 48, 48, 58, 48, 48, 90]⟩),
     Fact.is (.int .i64 k),
     Fact.is (.int .u8 b),
     Fact.is (.int .i64 k),
     Fact.is (.int .u8 b),
     Fact.is (.bool false)] (by kernel_rfl) rfl (by kernel_rfl) (fun x => by simp only [List.map, puts, Act.put, List.setIfInBounds_toArray, List.set_cons_zero, List.set_cons_succ]; rfl) ?_ ?_
    ·refine ⟨fun x w2 hkw b hd => ?_, fun x w2 hkw b hd => ?_, fun x w2 hkw b hd => ?_, fun x w2 hkw b hd => ?_, fun x w2 hkw b hd => ?_, fun x w2 hkw b hd => ?_, fun x w2 hkw b hd => ?_, fun x w2 hkw b hd => ?_, fun x w2 hkw b hd => ?_, fun x w2 hkw b hd => ?_, trivial⟩
     ·go_wp2_with fail
      exact ⟨rfl, Kept.refl _ _⟩
     ·have hi1 := Gh.o w2
      have d0 : x 0 = _ := hd 0 (by kernel_rfl)
      go_wp2_with fail
      exact ⟨rfl, Kept.refl _ _⟩
     ·have d1 : x 1 = _ := hd 1 (by kernel_rfl)
      go_wp2_with fail
      exact ⟨rfl, Kept.refl _ _⟩
     ·have d2 : x 2 = _ := hd 2 (by kernel_rfl)
      go_wp2_with fail
      exact ⟨rfl, Kept.refl _ _⟩
     ·have d3 : x 3 = _ := hd 3 (by kernel_rfl)
      go_wp2_with fail
      exact ⟨rfl, Kept.refl _ _⟩
     ·have d3 : x 3 = _ := hd 3 (by kernel_rfl)
      go_wp2_with fail
      exact ⟨rfl, Kept.refl _ _⟩
     ·have hi2 := Gi.o w2
      have d3 : x 3 = _ := hd 3 (by kernel_rfl)
      have d4 : x 4 = _ := hd 4 (by kernel_rfl)
      have d5 : x 5 = _ := hd 5 (by kernel_rfl)
      go_wp2_with fail
      exact ⟨rfl, Kept.refl _ _⟩
     ·have d3 : x 3 = _ := hd 3 (by kernel_rfl)
      go_wp2_with fail
      exact ⟨rfl, Kept.refl _ _⟩
     ·have hi1 := Gh.o w2
      have d3 : x 3 = _ := hd 3 (by kernel_rfl)
      have d7 : x 7 = _ := hd 7 (by kernel_rfl)
      go_wp2_with fail
      exact ⟨rfl, Kept.refl _ _⟩
     ·have d3 : x 3 = _ := hd 3 (by kernel_rfl)
      have d6 : x 6 = _ := hd 6 (by kernel_rfl)
      have d8 : x 8 = _ := hd 8 (by kernel_rfl)
      go_wp2_with fail
      exact ⟨rfl, Kept.refl _ _⟩
    ·intro x w7 hkw b9 hd hwin
     have d3 : x 3 = _ := hd 3 (by decide)
     have d9 : x 9 = _ := hd 9 (by decide)
     have Gd := qI hkw
     clear hd hwin hkw
     change wpList _ _ _ [_] _ _
     go_wp2_with fail
     case roundEnd => exact ⟨⟨⟨k + 1, by omega, by go_num⟩, HK.o.then Gd.o⟩, by simp [intOf]; omega⟩
  ·obtain rfl : k = 20 := by omega
   go_upto_region 9 with fail
   refine wp_grows (n := 45) 22 [Fact.is (.string ⟨#[49, 57, 55, 48, 45, 48, 49, 45, 48, 50, 84, 48, 48, 58, 48, 48, 58, 48, 48, 90]⟩),
    Fact.is (.string ⟨#[49, 57, 55, 48]⟩),
    Fact.is (.int .i64 1970),
    Fact.is (.string ⟨#[49, 57, 55, 48, 45, 48, 49, 45, 48, 50, 84, 48, 48, 58, 48, 48, 58, 48, 48, 90]⟩),
    Fact.is (.string ⟨#[48, 49]⟩),
    Fact.is (.int .i64 1),
    Fact.is (.string ⟨#[49, 57, 55, 48, 45, 48, 49, 45, 48, 50, 84, 48, 48, 58, 48, 48, 58, 48, 48, 90]⟩),
    Fact.is (.string ⟨#[48, 50]⟩),
    Fact.is (.int .i64 2),
    Fact.is (.string ⟨#[49, 57, 55, 48, 45, 48, 49, 45, 48, 50, 84, 48, 48, 58, 48, 48, 58, 48, 48, 90]⟩),
    Fact.is (.string ⟨#[48, 48]⟩),
    Fact.is (.int .i64 0),
    Fact.is (.string ⟨#[49, 57, 55, 48, 45, 48, 49, 45, 48, 50, 84, 48, 48, 58, 48, 48, 58, 48, 48, 90]⟩),
    Fact.is (.string ⟨#[48, 48]⟩),
    Fact.is (.int .i64 0),
    Fact.is (.string ⟨#[49, 57, 55, 48, 45, 48, 49, 45, 48, 50, 84, 48, 48, 58, 48, 48, 58, 48, 48, 90]⟩),
    Fact.is (.string ⟨#[48, 48]⟩),
    Fact.is (.int .i64 0),
    Fact.is (.agg (dateA 1970 1 2 0 0 0)),
    Fact.is (.tuple #[.int .i64 86400, .int .i64 0]),
    Fact.is (.int .i64 86400),
    Fact.is (.int .i64 0)] (by kernel_rfl) rfl (by kernel_rfl) (fun x => by simp only [List.map, puts, Act.put, List.setIfInBounds_toArray, List.set_cons_zero, List.set_cons_succ]; rfl) ?_ ?_
   ·refine ⟨fun x w2 hkw b hd => ?_, fun x w2 hkw b hd => ?_, fun x w2 hkw b hd => ?_, fun x w2 hkw b hd => ?_, fun x w2 hkw b hd => ?_, fun x w2 hkw b hd => ?_, fun x w2 hkw b hd => ?_, fun x w2 hkw b hd => ?_, fun x w2 hkw b hd => ?_, fun x w2 hkw b hd => ?_, fun x w2 hkw b hd => ?_, fun x w2 hkw b hd => ?_, fun x w2 hkw b hd => ?_, fun x w2 hkw b hd => ?_, fun x w2 hkw b hd => ?_, fun x w2 hkw b hd => ?_, fun x w2 hkw b hd => ?_, fun x w2 hkw b hd => ?_, fun x w2 hkw b hd => ?_, fun x w2 hkw b hd => ?_, fun x w2 hkw b hd => ?_, fun x w2 hkw b hd => ?_, trivial⟩
    ·go_wp2_with fail
     exact ⟨rfl, Kept.refl _ _⟩
    ·have d0 : x 0 = _ := hd 0 (by kernel_rfl)
     go_wp2_with fail
     exact ⟨by first | rfl | (show Value.string _ = Value.string ⟨#[49, 57, 55, 48]⟩; exact congrArg Value.string (by decide +kernel)), Kept.refl _ _⟩
    ·have d1 : x 1 = _ := hd 1 (by kernel_rfl)
     have CX := digits_1970 w2
     go_wp2_with (go_at_call 113; refine CX.mono ?_; rintro e w5 ⟨rfl, hk5⟩; have Ga := qI hk5; clear hk5)
     exact ⟨rfl, Ga.o⟩
    ·go_wp2_with fail
     exact ⟨rfl, Kept.refl _ _⟩
    ·have d3 : x 3 = _ := hd 3 (by kernel_rfl)
     go_wp2_with fail
     exact ⟨by first | rfl | (show Value.string _ = Value.string ⟨#[48, 49]⟩; exact congrArg Value.string (by decide +kernel)), Kept.refl _ _⟩
    ·have d4 : x 4 = _ := hd 4 (by kernel_rfl)
     have CX := digits_01 w2
     go_wp2_with (go_at_call 113; refine CX.mono ?_; rintro e w5 ⟨rfl, hk5⟩; have Ga := qI hk5; clear hk5)
     exact ⟨rfl, Ga.o⟩
    ·go_wp2_with fail
     exact ⟨rfl, Kept.refl _ _⟩
    ·have d6 : x 6 = _ := hd 6 (by kernel_rfl)
     go_wp2_with fail
     exact ⟨by first | rfl | (show Value.string _ = Value.string ⟨#[48, 50]⟩; exact congrArg Value.string (by decide +kernel)), Kept.refl _ _⟩
    ·have d7 : x 7 = _ := hd 7 (by kernel_rfl)
     have CX := digits_02 w2
     go_wp2_with (go_at_call 113; refine CX.mono ?_; rintro e w5 ⟨rfl, hk5⟩; have Ga := qI hk5; clear hk5)
     exact ⟨rfl, Ga.o⟩
    ·go_wp2_with fail
     exact ⟨rfl, Kept.refl _ _⟩
    ·have d9 : x 9 = _ := hd 9 (by kernel_rfl)
     go_wp2_with fail
     exact ⟨by first | rfl | (show Value.string _ = Value.string ⟨#[48, 48]⟩; exact congrArg Value.string (by decide +kernel)), Kept.refl _ _⟩
    ·have d10 : x 10 = _ := hd 10 (by kernel_rfl)
     have CX := digits_00 w2
     go_wp2_with (go_at_call 113; refine CX.mono ?_; rintro e w5 ⟨rfl, hk5⟩; have Ga := qI hk5; clear hk5)
     exact ⟨rfl, Ga.o⟩
    ·go_wp2_with fail
     exact ⟨rfl, Kept.refl _ _⟩
    ·have d12 : x 12 = _ := hd 12 (by kernel_rfl)
     go_wp2_with fail
     exact ⟨by first | rfl | (show Value.string _ = Value.string ⟨#[48, 48]⟩; exact congrArg Value.string (by decide +kernel)), Kept.refl _ _⟩
    ·have d13 : x 13 = _ := hd 13 (by kernel_rfl)
     have CX := digits_00 w2
     go_wp2_with (go_at_call 113; refine CX.mono ?_; rintro e w5 ⟨rfl, hk5⟩; have Ga := qI hk5; clear hk5)
     exact ⟨rfl, Ga.o⟩
    ·go_wp2_with fail
     exact ⟨rfl, Kept.refl _ _⟩
    ·have d15 : x 15 = _ := hd 15 (by kernel_rfl)
     go_wp2_with fail
     exact ⟨by first | rfl | (show Value.string _ = Value.string ⟨#[48, 48]⟩; exact congrArg Value.string (by decide +kernel)), Kept.refl _ _⟩
    ·have d16 : x 16 = _ := hd 16 (by kernel_rfl)
     have CX := digits_00 w2
     go_wp2_with (go_at_call 113; refine CX.mono ?_; rintro e w5 ⟨rfl, hk5⟩; have Ga := qI hk5; clear hk5)
     exact ⟨rfl, Ga.o⟩
    ·have d2 : x 2 = _ := hd 2 (by kernel_rfl)
     have d5 : x 5 = _ := hd 5 (by kernel_rfl)
     have d8 : x 8 = _ := hd 8 (by kernel_rfl)
     have d11 : x 11 = _ := hd 11 (by kernel_rfl)
     have d14 : x 14 = _ := hd 14 (by kernel_rfl)
     have d17 : x 17 = _ := hd 17 (by kernel_rfl)
     go_wp2_with fail
     exact ⟨rfl, Kept.refl _ _⟩
    ·have d18 : x 18 = _ := hd 18 (by kernel_rfl)
     have CX := time_day w2
     go_wp2_with (go_at_call 112; refine CX.mono ?_; rintro e w5 ⟨rfl, hk5⟩; have Ga := qI hk5; clear hk5)
     exact ⟨rfl, Ga.o⟩
    ·have d19 : x 19 = _ := hd 19 (by kernel_rfl)
     go_wp2_with fail
     exact ⟨rfl, Kept.refl _ _⟩
    ·have d19 : x 19 = _ := hd 19 (by kernel_rfl)
     go_wp2_with fail
     exact ⟨rfl, Kept.refl _ _⟩
   ·intro x w7 hkw b9 hd hwin
    have d20 : x 20 = _ := hd 20 (by decide)
    have d21 : x 21 = _ := hd 21 (by decide)
    have Gd := qI hkw
    clear hd hwin hkw
    change wpList _ _ _ [_, _] _ _
    go_wp2_with fail
    go_ret2
    rw [d20, d21]
    exact ⟨rfl, HK.o.then Gd.o⟩
def MaxW (w : World) : Prop := ∃ m, w.cell? ⟨Tryz.shSplit_ren.g 1, 0, none⟩ = some (.int .i64 m)
theorem MaxW.kept0 {w w' : World} (h : MaxW w) (k : Kept [] w w') : MaxW w' := by
 obtain ⟨m, hm⟩ := h
 exact ⟨m, k.cell hm (by simp)⟩
theorem split_one {w : World} (hm : MaxW w) : Calls Tryz.prog 114 #[.string ⟨#[49, 46, 48, 46, 48]⟩, .string ⟨#[46]⟩] w fun e w' => e = .returned (.slice (some ⟨w.heap.size, 0, none⟩) 3 3) ∧ w' = w.alloc (.cells #[.string ⟨#[49]⟩, .string ⟨#[48]⟩, .string ⟨#[48]⟩] 9) := by
 obtain ⟨m, hm⟩ := hm
 have h := Any.strings_Split { Tryz.shSplit with } (Tryz.shSplit).i9 ⟨#[49, 46, 48, 46, 48]⟩ ⟨#[46]⟩ m w (by decide) hm (Nat.le_refl 1)
 rw [show Lib.splitB ⟨#[46]⟩ 0 (Lib.countB ⟨#[49, 46, 48, 46, 48]⟩ ⟨#[46]⟩) ⟨#[49, 46, 48, 46, 48]⟩ = [⟨#[49]⟩, ⟨#[48]⟩, ⟨#[48]⟩] by decide +kernel, show Lib.countB ⟨#[49, 46, 48, 46, 48]⟩ ⟨#[46]⟩ = 2 by decide +kernel] at h
 exact h
theorem plain_zero (w : World) : Calls Tryz.prog 154 #[.string ⟨#[48]⟩] w fun e w' => e = .returned (.bool true) ∧ w = w' := by
 go_enter Tryz.func154, Tryz.ntmps154
 go_upto_region 2 with fail
 go_loopw [3, 6] (fun _ i wr => (i = .int .i64 0 ∨ i = .int .i64 1) ∧ wr = w) (fun _ i _ => 1 - (intOf i).toNat)
 case atStart => exact ⟨.inl rfl, rfl⟩
 case round =>
  obtain ⟨rfl | rfl, rfl⟩ := hrel
  ·go_wp2_with fail
   case roundEnd => exact ⟨⟨.inr rfl, trivial⟩, by decide⟩
  ·go_wp2_with fail
   go_ret
   exact ⟨rfl, rfl⟩
theorem number_zero (w : World) : Calls Tryz.prog 115 #[.string ⟨#[48]⟩] w fun e w' => e = .returned (.bool true) ∧ w = w' := by
 have CP := qI (plain_zero w)
 have CH : Hid (∀ s : ByteArray, s = ⟨#[]⟩ → Calls Tryz.prog 153 #[.string s, .string ⟨#[48]⟩] w fun e w' => e = .returned (.bool false) ∧ w = w') := qI (by
  rintro s rfl
  have h := libHasPrefix ⟨#[]⟩ ⟨#[48]⟩ w
  rw [show List.isPrefixOf (⟨#[48]⟩ : ByteArray).data.toList (⟨#[]⟩ : ByteArray).data.toList = false by decide +kernel] at h
  exact h)
 go_enter Tryz.func115, Tryz.ntmps115
 go_wp2_with first
  | (go_at_call 154; refine CP.o.mono ?_; rintro e w' ⟨rfl, rfl⟩)
  | (go_at_call 153; refine (CH.o _ (by decide +kernel)).mono ?_; rintro e w' ⟨rfl, rfl⟩)
 go_ret
 exact ⟨rfl, rfl⟩
theorem understood_one {w : World} (hm : MaxW w) : Calls Tryz.prog 80 #[.string ⟨#[49, 46, 48, 46, 48]⟩] w fun e w' => e = .returned (.bool true) ∧ Kept [] w w' := by
 obtain ⟨W1, Gj⟩ : ∃ W1, Hid (W1 = w.alloc (.cells #[.string ⟨#[49]⟩, .string ⟨#[48]⟩, .string ⟨#[48]⟩] 9)) := ⟨_, qI rfl⟩
 have Gm : Hid (Kept [] w W1) := qI (by rw [Gj.o]; exact (Kept.refl _ w).alloc _)
 have CS := split_one hm
 rw [← Gj.o] at CS
 have CS := qI CS
 have HB : Hid (W1.heap[w.heap.size]? = some (.cells #[.string ⟨#[49]⟩, .string ⟨#[48]⟩, .string ⟨#[48]⟩] 9 (0, 0))) := qI (by rw [Gj.o]; exact block_alloc rfl)
 have CN := qI (number_zero W1)
 have y0 := cell_head (o := 0) (v := .string ⟨#[49]⟩) HB.o rfl
 have y1 := cell_head (o := 1) (v := .string ⟨#[48]⟩) HB.o rfl
 have y2 := cell_head (o := 2) (v := .string ⟨#[48]⟩) HB.o rfl
 go_enter Tryz.func80, Tryz.ntmps80
 go_wp2_with first
  | (go_at_call 114; refine CS.o.mono ?_; rintro e w' ⟨rfl, h⟩; subst h)
  | (go_at_call 115; refine CN.o.mono ?_; rintro e w' ⟨rfl, h⟩; subst h)
 go_ret
 exact ⟨rfl, Gm.o⟩
end Go.Proofs.YtckbnjipecclaaaGreatDoor

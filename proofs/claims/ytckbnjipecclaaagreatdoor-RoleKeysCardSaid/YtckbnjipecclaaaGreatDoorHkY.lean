/- Parts of one proof, merged: XIX XIY XIZ XIV. -/
import Derived.Test.YtckbnjipecclaaaGreatDoorHkX
set_option linter.all false
set_option maxHeartbeats 12800000
set_option maxRecDepth 10000
set_option linter.unusedVariables false
set_option linter.unusedSimpArgs false
set_option linter.unnecessarySimpa false
namespace Go.Proofs.YtckbnjipecclaaaGreatDoor
open Go.RowKit
theorem digits_1970 (w : World) : Calls Tryz.prog 113 #[.string ⟨#[49, 57, 55, 48]⟩] w fun e w' => e = .returned (.int .i64 1970) ∧ Kept [] w w' := by
 obtain ⟨a, n, c, w1, hrun, hn, hb, hk⟩ := str_bytes w ⟨#[49, 57, 55, 48]⟩ (by decide)
 obtain rfl : n = 4 := hn.trans (by decide)
 obtain ⟨g, o, rfl, h2⟩ : ∃ g o, a = some ⟨g, o, none⟩ ∧ Row w1 g o ((⟨#[49, 57, 55, 48]⟩ : ByteArray).data.toList.map bv) := by
  rcases hb.2 with ⟨h1, -⟩ | ⟨h1, -⟩ | ⟨g', o', cap, h1, -, -, h2⟩
  ·simp at h1
  ·simp at h1
  ·simp only [Value.slice.injEq] at h1
   exact ⟨g', o', h1.1, h2⟩
 have q0 : w1.cell? ⟨g, o, none⟩ = some (.int .u8 49) := h2.cells 0 _ rfl
 have q1 : w1.cell? ⟨g, o + 1, none⟩ = some (.int .u8 57) := h2.cells 1 _ rfl
 have q2 : w1.cell? ⟨g, o + 2, none⟩ = some (.int .u8 55) := h2.cells 2 _ rfl
 have q3 : w1.cell? ⟨g, o + 3, none⟩ = some (.int .u8 48) := h2.cells 3 _ rfl
 have HK := qI hk
 clear hk hn hb h2
 go_enter Tryz.func113, Tryz.ntmps113
 go_wp2_with fail
 go_loopw [3, 5, 9] (fun acc _ i wr => ((i = .int .i64 0 ∧ acc = .int .i64 0) ∨ (i = .int .i64 1 ∧ acc = .int .i64 1) ∨ (i = .int .i64 2 ∧ acc = .int .i64 19) ∨ (i = .int .i64 3 ∧ acc = .int .i64 197) ∨ (i = .int .i64 4 ∧ acc = .int .i64 1970)) ∧ wr = w1) (fun _ _ i _ => 4 - (intOf i).toNat)
 case atStart => exact ⟨.inl ⟨rfl, rfl⟩, rfl⟩
 case round =>
  obtain ⟨hrel, rfl⟩ := hrel
  rcases hrel with ⟨rfl, rfl⟩ | ⟨rfl, rfl⟩ | ⟨rfl, rfl⟩ | ⟨rfl, rfl⟩ | ⟨rfl, rfl⟩
  ·go_wp2_with fail
   case roundEnd => exact ⟨⟨.inr (.inl ⟨rfl, rfl⟩), trivial⟩, by decide⟩
  ·go_wp2_with fail
   case roundEnd => exact ⟨⟨.inr (.inr (.inl ⟨rfl, rfl⟩)), trivial⟩, by decide⟩
  ·go_wp2_with fail
   case roundEnd => exact ⟨⟨.inr (.inr (.inr (.inl ⟨rfl, rfl⟩))), trivial⟩, by decide⟩
  ·go_wp2_with fail
   case roundEnd => exact ⟨⟨.inr (.inr (.inr (.inr ⟨rfl, rfl⟩))), trivial⟩, by decide⟩
  ·go_wp2_with fail
   go_ret
   exact ⟨rfl, HK.o⟩
theorem digits_01 (w : World) : Calls Tryz.prog 113 #[.string ⟨#[48, 49]⟩] w fun e w' => e = .returned (.int .i64 1) ∧ Kept [] w w' := by
 obtain ⟨a, n, c, w1, hrun, hn, hb, hk⟩ := str_bytes w ⟨#[48, 49]⟩ (by decide)
 obtain rfl : n = 2 := hn.trans (by decide)
 obtain ⟨g, o, rfl, h2⟩ : ∃ g o, a = some ⟨g, o, none⟩ ∧ Row w1 g o ((⟨#[48, 49]⟩ : ByteArray).data.toList.map bv) := by
  rcases hb.2 with ⟨h1, -⟩ | ⟨h1, -⟩ | ⟨g', o', cap, h1, -, -, h2⟩
  ·simp at h1
  ·simp at h1
  ·simp only [Value.slice.injEq] at h1
   exact ⟨g', o', h1.1, h2⟩
 have q0 : w1.cell? ⟨g, o, none⟩ = some (.int .u8 48) := h2.cells 0 _ rfl
 have q1 : w1.cell? ⟨g, o + 1, none⟩ = some (.int .u8 49) := h2.cells 1 _ rfl
 have HK := qI hk
 clear hk hn hb h2
 go_enter Tryz.func113, Tryz.ntmps113
 go_wp2_with fail
 go_loopw [3, 5, 9] (fun acc _ i wr => ((i = .int .i64 0 ∧ acc = .int .i64 0) ∨ (i = .int .i64 1 ∧ acc = .int .i64 0) ∨ (i = .int .i64 2 ∧ acc = .int .i64 1)) ∧ wr = w1) (fun _ _ i _ => 2 - (intOf i).toNat)
 case atStart => exact ⟨.inl ⟨rfl, rfl⟩, rfl⟩
 case round =>
  obtain ⟨hrel, rfl⟩ := hrel
  rcases hrel with ⟨rfl, rfl⟩ | ⟨rfl, rfl⟩ | ⟨rfl, rfl⟩
  ·go_wp2_with fail
   case roundEnd => exact ⟨⟨.inr (.inl ⟨rfl, rfl⟩), trivial⟩, by decide⟩
  ·go_wp2_with fail
   case roundEnd => exact ⟨⟨.inr (.inr ⟨rfl, rfl⟩), trivial⟩, by decide⟩
  ·go_wp2_with fail
   go_ret
   exact ⟨rfl, HK.o⟩
theorem digits_02 (w : World) : Calls Tryz.prog 113 #[.string ⟨#[48, 50]⟩] w fun e w' => e = .returned (.int .i64 2) ∧ Kept [] w w' := by
 obtain ⟨a, n, c, w1, hrun, hn, hb, hk⟩ := str_bytes w ⟨#[48, 50]⟩ (by decide)
 obtain rfl : n = 2 := hn.trans (by decide)
 obtain ⟨g, o, rfl, h2⟩ : ∃ g o, a = some ⟨g, o, none⟩ ∧ Row w1 g o ((⟨#[48, 50]⟩ : ByteArray).data.toList.map bv) := by
  rcases hb.2 with ⟨h1, -⟩ | ⟨h1, -⟩ | ⟨g', o', cap, h1, -, -, h2⟩
  ·simp at h1
  ·simp at h1
  ·simp only [Value.slice.injEq] at h1
   exact ⟨g', o', h1.1, h2⟩
 have q0 : w1.cell? ⟨g, o, none⟩ = some (.int .u8 48) := h2.cells 0 _ rfl
 have q1 : w1.cell? ⟨g, o + 1, none⟩ = some (.int .u8 50) := h2.cells 1 _ rfl
 have HK := qI hk
 clear hk hn hb h2
 go_enter Tryz.func113, Tryz.ntmps113
 go_wp2_with fail
 go_loopw [3, 5, 9] (fun acc _ i wr => ((i = .int .i64 0 ∧ acc = .int .i64 0) ∨ (i = .int .i64 1 ∧ acc = .int .i64 0) ∨ (i = .int .i64 2 ∧ acc = .int .i64 2)) ∧ wr = w1) (fun _ _ i _ => 2 - (intOf i).toNat)
 case atStart => exact ⟨.inl ⟨rfl, rfl⟩, rfl⟩
 case round =>
  obtain ⟨hrel, rfl⟩ := hrel
  rcases hrel with ⟨rfl, rfl⟩ | ⟨rfl, rfl⟩ | ⟨rfl, rfl⟩
  ·go_wp2_with fail
   case roundEnd => exact ⟨⟨.inr (.inl ⟨rfl, rfl⟩), trivial⟩, by decide⟩
  ·go_wp2_with fail
   case roundEnd => exact ⟨⟨.inr (.inr ⟨rfl, rfl⟩), trivial⟩, by decide⟩
  ·go_wp2_with fail
   go_ret
   exact ⟨rfl, HK.o⟩
theorem digits_00 (w : World) : Calls Tryz.prog 113 #[.string ⟨#[48, 48]⟩] w fun e w' => e = .returned (.int .i64 0) ∧ Kept [] w w' := by
 obtain ⟨a, n, c, w1, hrun, hn, hb, hk⟩ := str_bytes w ⟨#[48, 48]⟩ (by decide)
 obtain rfl : n = 2 := hn.trans (by decide)
 obtain ⟨g, o, rfl, h2⟩ : ∃ g o, a = some ⟨g, o, none⟩ ∧ Row w1 g o ((⟨#[48, 48]⟩ : ByteArray).data.toList.map bv) := by
  rcases hb.2 with ⟨h1, -⟩ | ⟨h1, -⟩ | ⟨g', o', cap, h1, -, -, h2⟩
  ·simp at h1
  ·simp at h1
  ·simp only [Value.slice.injEq] at h1
   exact ⟨g', o', h1.1, h2⟩
 have q0 : w1.cell? ⟨g, o, none⟩ = some (.int .u8 48) := h2.cells 0 _ rfl
 have q1 : w1.cell? ⟨g, o + 1, none⟩ = some (.int .u8 48) := h2.cells 1 _ rfl
 have HK := qI hk
 clear hk hn hb h2
 go_enter Tryz.func113, Tryz.ntmps113
 go_wp2_with fail
 go_loopw [3, 5, 9] (fun acc _ i wr => ((i = .int .i64 0 ∧ acc = .int .i64 0) ∨ (i = .int .i64 1 ∧ acc = .int .i64 0) ∨ (i = .int .i64 2 ∧ acc = .int .i64 0)) ∧ wr = w1) (fun _ _ i _ => 2 - (intOf i).toNat)
 case atStart => exact ⟨.inl ⟨rfl, rfl⟩, rfl⟩
 case round =>
  obtain ⟨hrel, rfl⟩ := hrel
  rcases hrel with ⟨rfl, rfl⟩ | ⟨rfl, rfl⟩ | ⟨rfl, rfl⟩
  ·go_wp2_with fail
   case roundEnd => exact ⟨⟨.inr (.inl ⟨rfl, rfl⟩), trivial⟩, by decide⟩
  ·go_wp2_with fail
   case roundEnd => exact ⟨⟨.inr (.inr ⟨rfl, rfl⟩), trivial⟩, by decide⟩
  ·go_wp2_with fail
   go_ret
   exact ⟨rfl, HK.o⟩
theorem time_day (w : World) : Calls Tryz.prog 112 #[.agg (dateA 1970 1 2 0 0 0)] w fun e w' => e = .returned (.tuple #[.int .i64 86400, .int .i64 0]) ∧ Kept [] w w' := by
 obtain ⟨W0, Ge⟩ : ∃ W0, Hid (W0 = w.alloc (.cells (dateA 1970 1 2 0 0 0) 150)) := ⟨_, qI rfl⟩
 have Gk : Hid (Kept [] w W0) := qI (by rw [Ge.o]; exact (Kept.refl _ w).alloc _)
 have HD : Hid (DateAt W0 w.heap.size 1970 1 2 0 0 0) := qI (by rw [Ge.o]; exact block_alloc rfl)
 go_enter Tryz.func112, Tryz.ntmps112
 go_upto_region 1 with fail
 change Code.wp _ _ _ _ (w.alloc (.cells (dateA 1970 1 2 0 0 0) 150))
 rw [← Ge.o]
 generalize hrb : w.heap.size = rb at HD
 refine wp_grows (n := 73) 32 [Fact.is (.pointer (some ⟨rb, 0, none⟩)),
  Fact.is (.int .i64 1970),
  Fact.is (.bool true),
  Fact.is (.bool false),
  Fact.is (.bool false),
  Fact.is (.pointer (some ⟨rb, 2, none⟩)),
  Fact.is (.int .i64 2),
  Fact.is (.pointer (some ⟨rb, 0, none⟩)),
  Fact.is (.int .i64 1970),
  Fact.is (.pointer (some ⟨rb, 1, none⟩)),
  Fact.is (.int .i64 1),
  Fact.is (.int .i64 31),
  Fact.is (.bool true),
  Fact.is (.bool false),
  Fact.is (.bool false),
  Fact.is (.bool false),
  Fact.is (.pointer (some ⟨rb, 3, none⟩)),
  Fact.is (.int .i64 0),
  Fact.is (.bool true),
  Fact.is (.bool false),
  Fact.is (.bool false),
  Fact.is (.bool false),
  Fact.is (.pointer (some ⟨rb, 4, none⟩)),
  Fact.is (.int .i64 0),
  Fact.is (.bool true),
  Fact.is (.bool false),
  Fact.is (.bool false),
  Fact.is (.bool false),
  Fact.is (.pointer (some ⟨rb, 5, none⟩)),
  Fact.is (.int .i64 0),
  Fact.is (.bool true),
  Fact.is (.bool false)] (by kernel_rfl) rfl (by kernel_rfl) (fun x => by simp only [List.map, puts, Act.put, List.setIfInBounds_toArray, List.set_cons_zero, List.set_cons_succ]; rfl) ?_ ?_
 ·refine ⟨fun x w2 hkw b hd => ?_, fun x w2 hkw b hd => ?_, fun x w2 hkw b hd => ?_, fun x w2 hkw b hd => ?_, fun x w2 hkw b hd => ?_, fun x w2 hkw b hd => ?_, fun x w2 hkw b hd => ?_, fun x w2 hkw b hd => ?_, fun x w2 hkw b hd => ?_, fun x w2 hkw b hd => ?_, fun x w2 hkw b hd => ?_, fun x w2 hkw b hd => ?_, fun x w2 hkw b hd => ?_, fun x w2 hkw b hd => ?_, fun x w2 hkw b hd => ?_, fun x w2 hkw b hd => ?_, fun x w2 hkw b hd => ?_, fun x w2 hkw b hd => ?_, fun x w2 hkw b hd => ?_, fun x w2 hkw b hd => ?_, fun x w2 hkw b hd => ?_, fun x w2 hkw b hd => ?_, fun x w2 hkw b hd => ?_, fun x w2 hkw b hd => ?_, fun x w2 hkw b hd => ?_, fun x w2 hkw b hd => ?_, fun x w2 hkw b hd => ?_, fun x w2 hkw b hd => ?_, fun x w2 hkw b hd => ?_, fun x w2 hkw b hd => ?_, fun x w2 hkw b hd => ?_, fun x w2 hkw b hd => ?_, trivial⟩
  ·go_wp2_with fail
   exact ⟨rfl, Kept.refl _ _⟩
  ·have y0 := cell_head (o := 0) (v := .int .i64 1970) (HD.o.kept0 hkw) rfl
   have d0 : x 0 = _ := hd 0 (by kernel_rfl)
   go_wp2_with fail
   exact ⟨rfl, Kept.refl _ _⟩
  ·have d1 : x 1 = _ := hd 1 (by kernel_rfl)
   have CX := within_yes (a := 1970) (b := 1970) (c := 9999) (by decide) (by decide) w2
   go_wp2_with (go_at_call 149; refine CX.mono ?_; rintro e w5 ⟨rfl, rfl⟩)
   exact ⟨rfl, Kept.refl _ _⟩
  ·have d2 : x 2 = _ := hd 2 (by kernel_rfl)
   go_wp2_with fail
   exact ⟨rfl, Kept.refl _ _⟩
  ·have d3 : x 3 = _ := hd 3 (by kernel_rfl)
   go_wp2_with fail
   exact ⟨rfl, Kept.refl _ _⟩
  ·have d4 : x 4 = _ := hd 4 (by kernel_rfl)
   go_wp2_with fail
   exact ⟨rfl, Kept.refl _ _⟩
  ·have y0 := cell_head (o := 2) (v := .int .i64 2) (HD.o.kept0 hkw) rfl
   have d5 : x 5 = _ := hd 5 (by kernel_rfl)
   have d4 : x 4 = _ := hd 4 (by kernel_rfl)
   go_wp2_with fail
   exact ⟨rfl, Kept.refl _ _⟩
  ·have d4 : x 4 = _ := hd 4 (by kernel_rfl)
   go_wp2_with fail
   exact ⟨rfl, Kept.refl _ _⟩
  ·have y0 := cell_head (o := 0) (v := .int .i64 1970) (HD.o.kept0 hkw) rfl
   have d7 : x 7 = _ := hd 7 (by kernel_rfl)
   have d4 : x 4 = _ := hd 4 (by kernel_rfl)
   go_wp2_with fail
   exact ⟨rfl, Kept.refl _ _⟩
  ·have d4 : x 4 = _ := hd 4 (by kernel_rfl)
   go_wp2_with fail
   exact ⟨rfl, Kept.refl _ _⟩
  ·have y0 := cell_head (o := 1) (v := .int .i64 1) (HD.o.kept0 hkw) rfl
   have d9 : x 9 = _ := hd 9 (by kernel_rfl)
   have d4 : x 4 = _ := hd 4 (by kernel_rfl)
   go_wp2_with fail
   exact ⟨rfl, Kept.refl _ _⟩
  ·have d8 : x 8 = _ := hd 8 (by kernel_rfl)
   have d10 : x 10 = _ := hd 10 (by kernel_rfl)
   have d4 : x 4 = _ := hd 4 (by kernel_rfl)
   have CX := days_jan w2
   go_wp2_with (go_at_call 150; refine CX.mono ?_; rintro e w5 ⟨rfl, rfl⟩)
   exact ⟨rfl, Kept.refl _ _⟩
  ·have d6 : x 6 = _ := hd 6 (by kernel_rfl)
   have d11 : x 11 = _ := hd 11 (by kernel_rfl)
   have d4 : x 4 = _ := hd 4 (by kernel_rfl)
   have CX := within_yes (a := 2) (b := 1) (c := 31) (by decide) (by decide) w2
   go_wp2_with (go_at_call 149; refine CX.mono ?_; rintro e w5 ⟨rfl, rfl⟩)
   exact ⟨rfl, Kept.refl _ _⟩
  ·have d12 : x 12 = _ := hd 12 (by kernel_rfl)
   have d4 : x 4 = _ := hd 4 (by kernel_rfl)
   go_wp2_with fail
   exact ⟨rfl, Kept.refl _ _⟩
  ·have d4 : x 4 = _ := hd 4 (by kernel_rfl)
   have d13 : x 13 = _ := hd 13 (by kernel_rfl)
   go_wp2_with fail
   exact ⟨rfl, Kept.refl _ _⟩
  ·have d14 : x 14 = _ := hd 14 (by kernel_rfl)
   go_wp2_with fail
   exact ⟨rfl, Kept.refl _ _⟩
  ·have d15 : x 15 = _ := hd 15 (by kernel_rfl)
   go_wp2_with fail
   exact ⟨rfl, Kept.refl _ _⟩
  ·have y0 := cell_head (o := 3) (v := .int .i64 0) (HD.o.kept0 hkw) rfl
   have d16 : x 16 = _ := hd 16 (by kernel_rfl)
   have d15 : x 15 = _ := hd 15 (by kernel_rfl)
   go_wp2_with fail
   exact ⟨rfl, Kept.refl _ _⟩
  ·have d17 : x 17 = _ := hd 17 (by kernel_rfl)
   have d15 : x 15 = _ := hd 15 (by kernel_rfl)
   have CX := within_yes (a := 0) (b := 0) (c := 23) (by decide) (by decide) w2
   go_wp2_with (go_at_call 149; refine CX.mono ?_; rintro e w5 ⟨rfl, rfl⟩)
   exact ⟨rfl, Kept.refl _ _⟩
  ·have d18 : x 18 = _ := hd 18 (by kernel_rfl)
   have d15 : x 15 = _ := hd 15 (by kernel_rfl)
   go_wp2_with fail
   exact ⟨rfl, Kept.refl _ _⟩
  ·have d15 : x 15 = _ := hd 15 (by kernel_rfl)
   have d19 : x 19 = _ := hd 19 (by kernel_rfl)
   go_wp2_with fail
   exact ⟨rfl, Kept.refl _ _⟩
  ·have d20 : x 20 = _ := hd 20 (by kernel_rfl)
   go_wp2_with fail
   exact ⟨rfl, Kept.refl _ _⟩
  ·have d21 : x 21 = _ := hd 21 (by kernel_rfl)
   go_wp2_with fail
   exact ⟨rfl, Kept.refl _ _⟩
  ·have y0 := cell_head (o := 4) (v := .int .i64 0) (HD.o.kept0 hkw) rfl
   have d22 : x 22 = _ := hd 22 (by kernel_rfl)
   have d21 : x 21 = _ := hd 21 (by kernel_rfl)
   go_wp2_with fail
   exact ⟨rfl, Kept.refl _ _⟩
  ·have d23 : x 23 = _ := hd 23 (by kernel_rfl)
   have d21 : x 21 = _ := hd 21 (by kernel_rfl)
   have CX := within_yes (a := 0) (b := 0) (c := 59) (by decide) (by decide) w2
   go_wp2_with (go_at_call 149; refine CX.mono ?_; rintro e w5 ⟨rfl, rfl⟩)
   exact ⟨rfl, Kept.refl _ _⟩
  ·have d24 : x 24 = _ := hd 24 (by kernel_rfl)
   have d21 : x 21 = _ := hd 21 (by kernel_rfl)
   go_wp2_with fail
   exact ⟨rfl, Kept.refl _ _⟩
  ·have d21 : x 21 = _ := hd 21 (by kernel_rfl)
   have d25 : x 25 = _ := hd 25 (by kernel_rfl)
   go_wp2_with fail
   exact ⟨rfl, Kept.refl _ _⟩
  ·have d26 : x 26 = _ := hd 26 (by kernel_rfl)
   go_wp2_with fail
   exact ⟨rfl, Kept.refl _ _⟩
  ·have d27 : x 27 = _ := hd 27 (by kernel_rfl)
   go_wp2_with fail
   exact ⟨rfl, Kept.refl _ _⟩
  ·have y0 := cell_head (o := 5) (v := .int .i64 0) (HD.o.kept0 hkw) rfl
   have d28 : x 28 = _ := hd 28 (by kernel_rfl)
   have d27 : x 27 = _ := hd 27 (by kernel_rfl)
   go_wp2_with fail
   exact ⟨rfl, Kept.refl _ _⟩
  ·have d29 : x 29 = _ := hd 29 (by kernel_rfl)
   have d27 : x 27 = _ := hd 27 (by kernel_rfl)
   have CX := within_yes (a := 0) (b := 0) (c := 59) (by decide) (by decide) w2
   go_wp2_with (go_at_call 149; refine CX.mono ?_; rintro e w5 ⟨rfl, rfl⟩)
   exact ⟨rfl, Kept.refl _ _⟩
  ·have d30 : x 30 = _ := hd 30 (by kernel_rfl)
   have d27 : x 27 = _ := hd 27 (by kernel_rfl)
   go_wp2_with fail
   exact ⟨rfl, Kept.refl _ _⟩
 ·intro x w7 hkw b hd hwin
  have d27 : x 27 = _ := hd 27 (by decide)
  have d31 : x 31 = _ := hd 31 (by decide)
  have Gc := qI hkw
  have Gl := qI (HD.o.kept0 hkw)
  clear hd hwin hkw
  change wpList _ _ _ [_] _ _
  go_upto_region 3 with fail
  clear HD
  have HD := Gl
  refine wp_grows (n := 73) 9 [Fact.is (.pointer (some ⟨rb, 0, none⟩)),
   Fact.is (.int .i64 1970),
   Fact.is (.int .i64 719162),
   Fact.is (.int .i64 719162),
   Fact.is (.int .i64 0),
   Fact.is (.pointer (some ⟨rb, 2, none⟩)),
   Fact.is (.int .i64 2),
   Fact.is (.int .i64 2),
   Fact.is (.int .i64 1)] (by kernel_rfl) rfl (by kernel_rfl) (fun x => by simp only [List.map, puts, Act.put, List.setIfInBounds_toArray, List.set_cons_zero, List.set_cons_succ]; rfl) ?_ ?_
  ·refine ⟨fun x w2 hkw b hd => ?_, fun x w2 hkw b hd => ?_, fun x w2 hkw b hd => ?_, fun x w2 hkw b hd => ?_, fun x w2 hkw b hd => ?_, fun x w2 hkw b hd => ?_, fun x w2 hkw b hd => ?_, fun x w2 hkw b hd => ?_, fun x w2 hkw b hd => ?_, trivial⟩
   ·go_wp2_with fail
    exact ⟨rfl, Kept.refl _ _⟩
   ·have y0 := cell_head (o := 0) (v := .int .i64 1970) (HD.o.kept0 hkw) rfl
    have d0 : x 0 = _ := hd 0 (by kernel_rfl)
    go_wp2_with fail
    exact ⟨rfl, Kept.refl _ _⟩
   ·have d1 : x 1 = _ := hd 1 (by kernel_rfl)
    have CX := ahead_70 w2
    go_wp2_with (go_at_call 151; refine CX.mono ?_; rintro e w5 ⟨rfl, rfl⟩)
    exact ⟨rfl, Kept.refl _ _⟩
   ·have CX := ahead_70 w2
    go_wp2_with (go_at_call 151; refine CX.mono ?_; rintro e w5 ⟨rfl, rfl⟩)
    exact ⟨rfl, Kept.refl _ _⟩
   ·have d2 : x 2 = _ := hd 2 (by kernel_rfl)
    have d3 : x 3 = _ := hd 3 (by kernel_rfl)
    go_wp2_with fail
    exact ⟨rfl, Kept.refl _ _⟩
   ·go_wp2_with fail
    exact ⟨rfl, Kept.refl _ _⟩
   ·have y0 := cell_head (o := 2) (v := .int .i64 2) (HD.o.kept0 hkw) rfl
    have d5 : x 5 = _ := hd 5 (by kernel_rfl)
    go_wp2_with fail
    exact ⟨rfl, Kept.refl _ _⟩
   ·have d4 : x 4 = _ := hd 4 (by kernel_rfl)
    have d6 : x 6 = _ := hd 6 (by kernel_rfl)
    go_wp2_with fail
    exact ⟨rfl, Kept.refl _ _⟩
   ·have d7 : x 7 = _ := hd 7 (by kernel_rfl)
    go_wp2_with fail
    exact ⟨rfl, Kept.refl _ _⟩
  ·intro x w8 hkw b hd hwin
   have d8 : x 8 = _ := hd 8 (by decide)
   have Gm := qI (Gc.o.then hkw)
   have Gd := HD.o.kept0 hkw
   have y0 := cell_head (o := 0) (v := .int .i64 1970) Gd rfl
   have y1 := cell_head (o := 1) (v := .int .i64 1) Gd rfl
   have y2 := cell_head (o := 2) (v := .int .i64 2) Gd rfl
   have y3 := cell_head (o := 3) (v := .int .i64 0) Gd rfl
   have y4 := cell_head (o := 4) (v := .int .i64 0) Gd rfl
   have y5 := cell_head (o := 5) (v := .int .i64 0) Gd rfl
   clear hd hwin hkw Gd
   change wpList _ _ _ [_] _ _
   go_upto_region 5 with fail
   go_loopw [4, 5] (fun n m wr => n = .int .i64 1 ∧ m = .int .i64 1 ∧ wr = w8) (fun _ _ _ => 0)
   case atStart => exact ⟨d8, rfl, rfl⟩
   case round =>
    obtain ⟨rfl, rfl, rfl⟩ := hrel
    go_wp2_with fail
    go_ret2
    exact ⟨rfl, Gk.o.then Gm.o⟩
theorem dateIx : ∀ (k : Nat), k < 20 → ∃ b : Int, (∀ W, (Instr.index 9 (.string ⟨#[48, 48, 48, 48, 45, 48, 48, 45, 48, 48, 84, 48, 48, 58, 48, 48, 58, 48, 48, 90]⟩) (.int .i64 k)).run Tryz.prog W = .ok (.int .u8 b) W) ∧ (b ≠ 48 → ∀ W, (Instr.index 9 (.string ⟨#[49, 57, 55, 48, 45, 48, 49, 45, 48, 50, 84, 48, 48, 58, 48, 48, 58, 48, 48, 90]⟩) (.int .i64 k)).run Tryz.prog W = .ok (.int .u8 b) W)
 | 0, _ => ⟨48, fun W => by kernel_rfl, fun h => absurd rfl h⟩
 | 1, _ => ⟨48, fun W => by kernel_rfl, fun h => absurd rfl h⟩
 | 2, _ => ⟨48, fun W => by kernel_rfl, fun h => absurd rfl h⟩
 | 3, _ => ⟨48, fun W => by kernel_rfl, fun h => absurd rfl h⟩
 | 4, _ => ⟨45, fun W => by kernel_rfl, fun h => fun W => by kernel_rfl⟩
 | 5, _ => ⟨48, fun W => by kernel_rfl, fun h => absurd rfl h⟩
 | 6, _ => ⟨48, fun W => by kernel_rfl, fun h => absurd rfl h⟩
 | 7, _ => ⟨45, fun W => by kernel_rfl, fun h => fun W => by kernel_rfl⟩
 | 8, _ => ⟨48, fun W => by kernel_rfl, fun h => absurd rfl h⟩
 | 9, _ => ⟨48, fun W => by kernel_rfl, fun h => absurd rfl h⟩
 | 10, _ => ⟨84, fun W => by kernel_rfl, fun h => fun W => by kernel_rfl⟩
 | 11, _ => ⟨48, fun W => by kernel_rfl, fun h => absurd rfl h⟩
 | 12, _ => ⟨48, fun W => by kernel_rfl, fun h => absurd rfl h⟩
 | 13, _ => ⟨58, fun W => by kernel_rfl, fun h => fun W => by kernel_rfl⟩
 | 14, _ => ⟨48, fun W => by kernel_rfl, fun h => absurd rfl h⟩
 | 15, _ => ⟨48, fun W => by kernel_rfl, fun h => absurd rfl h⟩
 | 16, _ => ⟨58, fun W => by kernel_rfl, fun h => fun W => by kernel_rfl⟩
 | 17, _ => ⟨48, fun W => by kernel_rfl, fun h => absurd rfl h⟩
 | 18, _ => ⟨48, fun W => by kernel_rfl, fun h => absurd rfl h⟩
 | 19, _ => ⟨90, fun W => by kernel_rfl, fun h => fun W => by kernel_rfl⟩
 | k + 20, h => absurd h (by omega)
theorem parse_day (w : World) : Calls Tryz.prog 79 #[.string ⟨#[49, 57, 55, 48, 45, 48, 49, 45, 48, 50, 84, 48, 48, 58, 48, 48, 58, 48, 48, 90]⟩] w fun e w' => e = .returned (.tuple #[.int .i64 86400, .int .i64 0]) ∧ Kept [] w w' := by
 go_enter Tryz.func79, Tryz.ntmps79
 go_upto_region 4 with fail
 go_loopw [4, 8] (fun _ i wr => (∃ k : Nat, k ≤ 20 ∧ i = .int .i64 k) ∧ Kept [] w wr) (fun _ i _ => 20 - (intOf i).toNat)
 case atStart => exact ⟨⟨0, by decide, rfl⟩, Kept.refl _ _⟩
 case round =>
  obtain ⟨⟨k, hk, rfl⟩, hkr⟩ := hrel
  have HK := qI hkr
  clear hkr
  by_cases hlt : k < 20
  ·obtain ⟨b, hi1, hi2⟩ := dateIx k hlt
   have Gf := qI hi1
   have Gg := qI hi2
   clear hi1 hi2
   have hltI : (k : Int) < 20 := by omega
   by_cases hb : b = 48
   ·subst hb
    go_upto_region 6 with fail
    refine wp_grows (n := 45) 10 [Fact.is (.int .i64 k),
     Fact.is (.int .u8 48),
     Fact.is (.bool false),
     Fact.is (.bool false),
     Fact.is (undef),
     Fact.is (undef),
     Fact.is (undef),
     Fact.is (undef),
     Fact.is (undef),
     Fact.is (undef)] (by kernel_rfl) rfl (by kernel_rfl) (fun x => by simp only [List.map, puts, Act.put, List.setIfInBounds_toArray, List.set_cons_zero, List.set_cons_succ]; rfl) ?_ ?_
    ·refine ⟨fun x w2 hkw b hd => ?_, fun x w2 hkw b hd => ?_, fun x w2 hkw b hd => ?_, fun x w2 hkw b hd => ?_, fun x w2 hkw b hd => ?_, fun x w2 hkw b hd => ?_, fun x w2 hkw b hd => ?_, fun x w2 hkw b hd => ?_, fun x w2 hkw b hd => ?_, fun x w2 hkw b hd => ?_, trivial⟩
     ·go_wp2_with fail
      exact ⟨rfl, Kept.refl _ _⟩
     ·have hi1 := Gf.o w2
      have d0 : x 0 = _ := hd 0 (by kernel_rfl)
      go_wp2_with fail
      exact ⟨rfl, Kept.refl _ _⟩
     ·have d1 : x 1 = _ := hd 1 (by kernel_rfl)
      go_wp2_with fail
      exact ⟨rfl, Kept.refl _ _⟩
     ·have d2 : x 2 = _ := hd 2 (by kernel_rfl)
      go_wp2_with fail
      exact ⟨rfl, Kept.refl _ _⟩
     ·have d3 : x 3 = _ := hd 3 (by kernel_rfl)
      go_wp2_with fail
      exact ⟨rfl, Kept.refl _ _⟩
     ·have d3 : x 3 = _ := hd 3 (by kernel_rfl)
      go_wp2_with fail
      exact ⟨rfl, Kept.refl _ _⟩
     ·have d3 : x 3 = _ := hd 3 (by kernel_rfl)
      go_wp2_with fail
      exact ⟨rfl, Kept.refl _ _⟩
     ·have d3 : x 3 = _ := hd 3 (by kernel_rfl)
      go_wp2_with fail
      exact ⟨rfl, Kept.refl _ _⟩
     ·have d3 : x 3 = _ := hd 3 (by kernel_rfl)
      go_wp2_with fail
      exact ⟨rfl, Kept.refl _ _⟩
     ·have d3 : x 3 = _ := hd 3 (by kernel_rfl)
      go_wp2_with fail
      exact ⟨rfl, Kept.refl _ _⟩
    ·intro x w7 hkw b9 hd hwin
     have d3 : x 3 = _ := hd 3 (by decide)
     have d9 : x 9 = _ := hd 9 (by decide)
     have Gc := qI hkw
     clear hd hwin hkw
     change wpList _ _ _ [_] _ _
     go_wp2_with fail
     case roundEnd => exact ⟨⟨⟨k + 1, by omega, by go_num⟩, HK.o.then Gc.o⟩, by simp [intOf]; omega⟩
   ·have Gg := qI (Gg.o hb)
    have f1 := (int_ne hb).2
    have f3 : (b != b) = false := by simp
    clear hb
    go_upto_region 6 with fail
    refine wp_grows (n := 45) 10 [Fact.is (.int .i64 k),
     Fact.is (.int .u8 b),
     Fact.is (.bool true),
     Fact.is (.bool true),
     Fact.is (.string ⟨#[49, 57, 55, 48, 45, 48, 49, 45, 48, 50, 84, 48, 48, 58, 48, 48, 58, 48, 48, 90]⟩),
     Fact.is (.int .i64 k),
     Fact.is (.int .u8 b),
     Fact.is (.int .i64 k),
     Fact.is (.int .u8 b),
     Fact.is (.bool false)] (by kernel_rfl) rfl (by kernel_rfl) (fun x => by simp only [List.map, puts, Act.put, List.setIfInBounds_toArray, List.set_cons_zero, List.set_cons_succ]; rfl) ?_ ?_
    ·refine ⟨fun x w2 hkw b hd => ?_, fun x w2 hkw b hd => ?_, fun x w2 hkw b hd => ?_, fun x w2 hkw b hd => ?_, fun x w2 hkw b hd => ?_, fun x w2 hkw b hd => ?_, fun x w2 hkw b hd => ?_, fun x w2 hkw b hd => ?_, fun x w2 hkw b hd => ?_, fun x w2 hkw b hd => ?_, trivial⟩
     ·go_wp2_with fail
      exact ⟨rfl, Kept.refl _ _⟩
     ·have hi1 := Gf.o w2
      have d0 : x 0 = _ := hd 0 (by kernel_rfl)
      go_wp2_with fail
      exact ⟨rfl, Kept.refl _ _⟩
     ·have d1 : x 1 = _ := hd 1 (by kernel_rfl)
      go_wp2_with fail
      exact ⟨rfl, Kept.refl _ _⟩
     ·have d2 : x 2 = _ := hd 2 (by kernel_rfl)
      go_wp2_with fail
      exact ⟨rfl, Kept.refl _ _⟩
     ·have d3 : x 3 = _ := hd 3 (by kernel_rfl)
      go_wp2_with fail
      exact ⟨rfl, Kept.refl _ _⟩
     ·have d3 : x 3 = _ := hd 3 (by kernel_rfl)
      go_wp2_with fail
      exact ⟨rfl, Kept.refl _ _⟩
     ·have hi2 := Gg.o w2
      have d3 : x 3 = _ := hd 3 (by kernel_rfl)
      have d4 : x 4 = _ := hd 4 (by kernel_rfl)
      have d5 : x 5 = _ := hd 5 (by kernel_rfl)
      go_wp2_with fail
      exact ⟨rfl, Kept.refl _ _⟩
     ·have d3 : x 3 = _ := hd 3 (by kernel_rfl)
      go_wp2_with fail
      exact ⟨rfl, Kept.refl _ _⟩
     ·have hi1 := Gf.o w2
      have d3 : x 3 = _ := hd 3 (by kernel_rfl)
      have d7 : x 7 = _ := hd 7 (by kernel_rfl)
      go_wp2_with fail
      exact ⟨rfl, Kept.refl _ _⟩
     ·have d3 : x 3 = _ := hd 3 (by kernel_rfl)
      have d6 : x 6 = _ := hd 6 (by kernel_rfl)
      have d8 : x 8 = _ := hd 8 (by kernel_rfl)
      go_wp2_with fail
      exact ⟨rfl, Kept.refl _ _⟩
    ·intro x w7 hkw b9 hd hwin
     have d3 : x 3 = _ := hd 3 (by decide)
     have d9 : x 9 = _ := hd 9 (by decide)
     have Gc := qI hkw
     clear hd hwin hkw
     change wpList _ _ _ [_] _ _
     go_wp2_with fail
     case roundEnd => exact ⟨⟨⟨k + 1, by omega, by go_num⟩, HK.o.then Gc.o⟩, by simp [intOf]; omega⟩
  ·obtain rfl : k = 20 := by omega
   go_upto_region 9 with fail
   refine wp_grows (n := 45) 22 [Fact.is (.string ⟨#[49, 57, 55, 48, 45, 48, 49, 45, 48, 50, 84, 48, 48, 58, 48, 48, 58, 48, 48, 90]⟩),
    Fact.is (.string ⟨#[49, 57, 55, 48]⟩),
    Fact.is (.int .i64 1970),
    Fact.is (.string ⟨#[49, 57, 55, 48, 45, 48, 49, 45, 48, 50, 84, 48, 48, 58, 48, 48, 58, 48, 48, 90]⟩),
    Fact.is (.string ⟨#[48, 49]⟩),
    Fact.is (.int .i64 1),
    Fact.is (.string ⟨#[49, 57, 55, 48, 45, 48, 49, 45, 48, 50, 84, 48, 48, 58, 48, 48, 58, 48, 48, 90]⟩),
    Fact.is (.string ⟨#[48, 50]⟩),
    Fact.is (.int .i64 2),
    Fact.is (.string ⟨#[49, 57, 55, 48, 45, 48, 49, 45, 48, 50, 84, 48, 48, 58, 48, 48, 58, 48, 48, 90]⟩),
    Fact.is (.string ⟨#[48, 48]⟩),
    Fact.is (.int .i64 0),
    Fact.is (.string ⟨#[49, 57, 55, 48, 45, 48, 49, 45, 48, 50, 84, 48, 48, 58, 48, 48, 58, 48, 48, 90]⟩),
    Fact.is (.string ⟨#[48, 48]⟩),
    Fact.is (.int .i64 0),
    Fact.is (.string ⟨#[49, 57, 55, 48, 45, 48, 49, 45, 48, 50, 84, 48, 48, 58, 48, 48, 58, 48, 48, 90]⟩),
    Fact.is (.string ⟨#[48, 48]⟩),
    Fact.is (.int .i64 0),
    Fact.is (.agg (dateA 1970 1 2 0 0 0)),
    Fact.is (.tuple #[.int .i64 86400, .int .i64 0]),
    Fact.is (.int .i64 86400),
    Fact.is (.int .i64 0)] (by kernel_rfl) rfl (by kernel_rfl) (fun x => by simp only [List.map, puts, Act.put, List.setIfInBounds_toArray, List.set_cons_zero, List.set_cons_succ]; rfl) ?_ ?_
   ·refine ⟨fun x w2 hkw b hd => ?_, fun x w2 hkw b hd => ?_, fun x w2 hkw b hd => ?_, fun x w2 hkw b hd => ?_, fun x w2 hkw b hd => ?_, fun x w2 hkw b hd => ?_, fun x w2 hkw b hd => ?_, fun x w2 hkw b hd => ?_, fun x w2 hkw b hd => ?_, fun x w2 hkw b hd => ?_, fun x w2 hkw b hd => ?_, fun x w2 hkw b hd => ?_, fun x w2 hkw b hd => ?_, fun x w2 hkw b hd => ?_, fun x w2 hkw b hd => ?_, fun x w2 hkw b hd => ?_, fun x w2 hkw b hd => ?_, fun x w2 hkw b hd => ?_, fun x w2 hkw b hd => ?_, fun x w2 hkw b hd => ?_, fun x w2 hkw b hd => ?_, fun x w2 hkw b hd => ?_, trivial⟩
    ·go_wp2_with fail
     exact ⟨rfl, Kept.refl _ _⟩
    ·have d0 : x 0 = _ := hd 0 (by kernel_rfl)
     go_wp2_with fail
     exact ⟨by first | rfl | (show Value.string _ = Value.string ⟨#[49, 57, 55, 48]⟩; exact congrArg Value.string (by decide +kernel)), Kept.refl _ _⟩
    ·have d1 : x 1 = _ := hd 1 (by kernel_rfl)
     have CX := digits_1970 w2
     go_wp2_with (go_at_call 113; refine CX.mono ?_; rintro e w5 ⟨rfl, hk5⟩; have Ga := qI hk5; clear hk5)
     exact ⟨rfl, Ga.o⟩
    ·go_wp2_with fail
     exact ⟨rfl, Kept.refl _ _⟩
    ·have d3 : x 3 = _ := hd 3 (by kernel_rfl)
     go_wp2_with fail
     exact ⟨by first | rfl | (show Value.string _ = Value.string ⟨#[48, 49]⟩; exact congrArg Value.string (by decide +kernel)), Kept.refl _ _⟩
    ·have d4 : x 4 = _ := hd 4 (by kernel_rfl)
     have CX := digits_01 w2
     go_wp2_with (go_at_call 113; refine CX.mono ?_; rintro e w5 ⟨rfl, hk5⟩; have Ga := qI hk5; clear hk5)
     exact ⟨rfl, Ga.o⟩
    ·go_wp2_with fail
     exact ⟨rfl, Kept.refl _ _⟩
    ·have d6 : x 6 = _ := hd 6 (by kernel_rfl)
     go_wp2_with fail
     exact ⟨by first | rfl | (show Value.string _ = Value.string ⟨#[48, 50]⟩; exact congrArg Value.string (by decide +kernel)), Kept.refl _ _⟩
    ·have d7 : x 7 = _ := hd 7 (by kernel_rfl)
     have CX := digits_02 w2
     go_wp2_with (go_at_call 113; refine CX.mono ?_; rintro e w5 ⟨rfl, hk5⟩; have Ga := qI hk5; clear hk5)
     exact ⟨rfl, Ga.o⟩
    ·go_wp2_with fail
     exact ⟨rfl, Kept.refl _ _⟩
    ·have d9 : x 9 = _ := hd 9 (by kernel_rfl)
     go_wp2_with fail
     exact ⟨by first | rfl | (show Value.string _ = Value.string ⟨#[48, 48]⟩; exact congrArg Value.string (by decide +kernel)), Kept.refl _ _⟩
    ·have d10 : x 10 = _ := hd 10 (by kernel_rfl)
     have CX := digits_00 w2
     go_wp2_with (go_at_call 113; refine CX.mono ?_; rintro e w5 ⟨rfl, hk5⟩; have Ga := qI hk5; clear hk5)
     exact ⟨rfl, Ga.o⟩
    ·go_wp2_with fail
     exact ⟨rfl, Kept.refl _ _⟩
    ·have d12 : x 12 = _ := hd 12 (by kernel_rfl)
     go_wp2_with fail
     exact ⟨by first | rfl | (show Value.string _ = Value.string ⟨#[48, 48]⟩; exact congrArg Value.string (by decide +kernel)), Kept.refl _ _⟩
    ·have d13 : x 13 = _ := hd 13 (by kernel_rfl)
     have CX := digits_00 w2
     go_wp2_with (go_at_call 113; refine CX.mono ?_; rintro e w5 ⟨rfl, hk5⟩; have Ga := qI hk5; clear hk5)
     exact ⟨rfl, Ga.o⟩
    ·go_wp2_with fail
     exact ⟨rfl, Kept.refl _ _⟩
    ·have d15 : x 15 = _ := hd 15 (by kernel_rfl)
     go_wp2_with fail
     exact ⟨by first | rfl | (show Value.string _ = Value.string ⟨#[48, 48]⟩; exact congrArg Value.string (by decide +kernel)), Kept.refl _ _⟩
    ·have d16 : x 16 = _ := hd 16 (by kernel_rfl)
     have CX := digits_00 w2
     go_wp2_with (go_at_call 113; refine CX.mono ?_; rintro e w5 ⟨rfl, hk5⟩; have Ga := qI hk5; clear hk5)
     exact ⟨rfl, Ga.o⟩
    ·have d2 : x 2 = _ := hd 2 (by kernel_rfl)
     have d5 : x 5 = _ := hd 5 (by kernel_rfl)
     have d8 : x 8 = _ := hd 8 (by kernel_rfl)
     have d11 : x 11 = _ := hd 11 (by kernel_rfl)
     have d14 : x 14 = _ := hd 14 (by kernel_rfl)
     have d17 : x 17 = _ := hd 17 (by kernel_rfl)
     go_wp2_with fail
     exact ⟨rfl, Kept.refl _ _⟩
    ·have d18 : x 18 = _ := hd 18 (by kernel_rfl)
     have CX := time_day w2
     go_wp2_with (go_at_call 112; refine CX.mono ?_; rintro e w5 ⟨rfl, hk5⟩; have Ga := qI hk5; clear hk5)
     exact ⟨rfl, Ga.o⟩
    ·have d19 : x 19 = _ := hd 19 (by kernel_rfl)
     go_wp2_with fail
     exact ⟨rfl, Kept.refl _ _⟩
    ·have d19 : x 19 = _ := hd 19 (by kernel_rfl)
     go_wp2_with fail
     exact ⟨rfl, Kept.refl _ _⟩
   ·intro x w7 hkw b9 hd hwin
    have d20 : x 20 = _ := hd 20 (by decide)
    have d21 : x 21 = _ := hd 21 (by decide)
    have Gc := qI hkw
    clear hd hwin hkw
    change wpList _ _ _ [_, _] _ _
    go_wp2_with fail
    go_ret2
    rw [d20, d21]
    exact ⟨rfl, HK.o.then Gc.o⟩
def MaxW (w : World) : Prop := ∃ m, w.cell? ⟨Tryz.shSplit_ren.g 1, 0, none⟩ = some (.int .i64 m)
theorem MaxW.kept0 {w w' : World} (h : MaxW w) (k : Kept [] w w') : MaxW w' := by
 obtain ⟨m, hm⟩ := h
 exact ⟨m, k.cell hm (by simp)⟩
theorem split_one {w : World} (hm : MaxW w) : Calls Tryz.prog 114 #[.string ⟨#[49, 46, 48, 46, 48]⟩, .string ⟨#[46]⟩] w fun e w' => e = .returned (.slice (some ⟨w.heap.size, 0, none⟩) 3 3) ∧ w' = w.alloc (.cells #[.string ⟨#[49]⟩, .string ⟨#[48]⟩, .string ⟨#[48]⟩] 9) := by
 obtain ⟨m, hm⟩ := hm
 have h := Any.strings_Split { Tryz.shSplit with } (Tryz.shSplit).i9 ⟨#[49, 46, 48, 46, 48]⟩ ⟨#[46]⟩ m w (by decide) hm (Nat.le_refl 1)
 rw [show Lib.splitB ⟨#[46]⟩ 0 (Lib.countB ⟨#[49, 46, 48, 46, 48]⟩ ⟨#[46]⟩) ⟨#[49, 46, 48, 46, 48]⟩ = [⟨#[49]⟩, ⟨#[48]⟩, ⟨#[48]⟩] by decide +kernel, show Lib.countB ⟨#[49, 46, 48, 46, 48]⟩ ⟨#[46]⟩ = 2 by decide +kernel] at h
 exact h
theorem plain_zero (w : World) : Calls Tryz.prog 154 #[.string ⟨#[48]⟩] w fun e w' => e = .returned (.bool true) ∧ w = w' := by
 go_enter Tryz.func154, Tryz.ntmps154
 go_upto_region 2 with fail
 go_loopw [3, 6] (fun _ i wr => (i = .int .i64 0 ∨ i = .int .i64 1) ∧ wr = w) (fun _ i _ => 1 - (intOf i).toNat)
 case atStart => exact ⟨.inl rfl, rfl⟩
 case round =>
  obtain ⟨rfl | rfl, rfl⟩ := hrel
  ·go_wp2_with fail
   case roundEnd => exact ⟨⟨.inr rfl, trivial⟩, by decide⟩
  ·go_wp2_with fail
   go_ret
   exact ⟨rfl, rfl⟩
theorem number_zero (w : World) : Calls Tryz.prog 115 #[.string ⟨#[48]⟩] w fun e w' => e = .returned (.bool true) ∧ w = w' := by
 have CP := qI (plain_zero w)
 have CH : Hid (∀ s : ByteArray, s = ⟨#[]⟩ → Calls Tryz.prog 153 #[.string s, .string ⟨#[48]⟩] w fun e w' => e = .returned (.bool false) ∧ w = w') := qI (by
  rintro s rfl
  have h := libHasPrefix ⟨#[]⟩ ⟨#[48]⟩ w
  rw [show List.isPrefixOf (⟨#[48]⟩ : ByteArray).data.toList (⟨#[]⟩ : ByteArray).data.toList = false by decide +kernel] at h
  exact h)
 go_enter Tryz.func115, Tryz.ntmps115
 go_wp2_with first
  | (go_at_call 154; refine CP.o.mono ?_; rintro e w' ⟨rfl, rfl⟩)
  | (go_at_call 153; refine (CH.o _ (by decide +kernel)).mono ?_; rintro e w' ⟨rfl, rfl⟩)
 go_ret
 exact ⟨rfl, rfl⟩
theorem understood_one {w : World} (hm : MaxW w) : Calls Tryz.prog 80 #[.string ⟨#[49, 46, 48, 46, 48]⟩] w fun e w' => e = .returned (.bool true) ∧ Kept [] w w' := by
 obtain ⟨W1, Gh⟩ : ∃ W1, Hid (W1 = w.alloc (.cells #[.string ⟨#[49]⟩, .string ⟨#[48]⟩, .string ⟨#[48]⟩] 9)) := ⟨_, qI rfl⟩
 have Gb : Hid (Kept [] w W1) := qI (by rw [Gh.o]; exact (Kept.refl _ w).alloc _)
 have CS := split_one hm
 rw [← Gh.o] at CS
 have CS := qI CS
 have HB : Hid (W1.heap[w.heap.size]? = some (.cells #[.string ⟨#[49]⟩, .string ⟨#[48]⟩, .string ⟨#[48]⟩] 9 (0, 0))) := qI (by rw [Gh.o]; exact block_alloc rfl)
 have CN := qI (number_zero W1)
 have y0 := cell_head (o := 0) (v := .string ⟨#[49]⟩) HB.o rfl
 have y1 := cell_head (o := 1) (v := .string ⟨#[48]⟩) HB.o rfl
 have y2 := cell_head (o := 2) (v := .string ⟨#[48]⟩) HB.o rfl
 go_enter Tryz.func80, Tryz.ntmps80
 go_wp2_with first
  | (go_at_call 114; refine CS.o.mono ?_; rintro e w' ⟨rfl, h⟩; subst h)
  | (go_at_call 115; refine CN.o.mono ?_; rintro e w' ⟨rfl, h⟩; subst h)
 go_ret
 exact ⟨rfl, Gb.o⟩
theorem pad_1970 {w : World} (ht : Tabs w) : Calls Tryz.prog 117 #[.int .i64 1970, .int .i64 4] w fun e w' => e = .returned (.string ⟨#[49, 57, 55, 48]⟩) ∧ Kept [] w w' := by
 have CI : Hid (Calls Tryz.prog 157 #[.int .i64 1970] w fun e w' => e = .returned (.string ⟨#[49, 57, 55, 48]⟩) ∧ Kept [] w w') := qI (by
  have h1 := libItoa ht 1970 (by decide) (by decide)
  rw [show strB (Lib.itoa 1970) = ⟨#[49, 57, 55, 48]⟩ by decide +kernel] at h1
  exact h1)
 have CR : Hid (∀ w1, Calls Tryz.prog 158 #[.string ⟨#[48]⟩, .int .i64 0] w1 fun e w' => e = .returned (.string ⟨#[]⟩) ∧ w' = w1) := qI (fun w1 => Any.strings_Repeat_zero Tryz.shRepeat ⟨#[48]⟩ w1)
 go_enter Tryz.func117, Tryz.ntmps117
 go_wp2_with first
  | (go_at_call 157; refine CI.o.mono ?_; rintro e w1 ⟨rfl, hk1⟩; have Gb := qI hk1; clear hk1)
  | (go_at_call 158; refine (CR.o _).mono ?_; rintro e w2 ⟨rfl, rfl⟩)
 go_ret
 exact ⟨congrArg (fun s => Ending.returned (.string s)) (show (⟨#[]⟩ : ByteArray) ++ ⟨#[49, 57, 55, 48]⟩ = ⟨#[49, 57, 55, 48]⟩ by decide +kernel), Gb.o⟩
theorem pad_0 {w : World} (ht : Tabs w) : Calls Tryz.prog 117 #[.int .i64 0, .int .i64 2] w fun e w' => e = .returned (.string ⟨#[48, 48]⟩) ∧ Kept [] w w' := by
 have CI : Hid (Calls Tryz.prog 157 #[.int .i64 0] w fun e w' => e = .returned (.string ⟨#[48]⟩) ∧ Kept [] w w') := qI (by
  have h1 := libItoa ht 0 (by decide) (by decide)
  rw [show strB (Lib.itoa 0) = ⟨#[48]⟩ by decide +kernel] at h1
  exact h1)
 have CR : Hid (∀ w1, Calls Tryz.prog 158 #[.string ⟨#[48]⟩, .int .i64 1] w1 fun e w' => e = .returned (.string ⟨#[48]⟩) ∧ w' = w1) := qI (fun w1 => Any.strings_Repeat_one Tryz.shRepeat ⟨#[48]⟩ w1)
 go_enter Tryz.func117, Tryz.ntmps117
 go_wp2_with first
  | (go_at_call 157; refine CI.o.mono ?_; rintro e w1 ⟨rfl, hk1⟩; have Gb := qI hk1; clear hk1)
  | (go_at_call 158; refine (CR.o _).mono ?_; rintro e w2 ⟨rfl, rfl⟩)
 go_ret
 exact ⟨congrArg (fun s => Ending.returned (.string s)) (show (⟨#[48]⟩ : ByteArray) ++ ⟨#[48]⟩ = ⟨#[48, 48]⟩ by decide +kernel), Gb.o⟩
theorem pad_1 {w : World} (ht : Tabs w) : Calls Tryz.prog 117 #[.int .i64 1, .int .i64 2] w fun e w' => e = .returned (.string ⟨#[48, 49]⟩) ∧ Kept [] w w' := by
 have CI : Hid (Calls Tryz.prog 157 #[.int .i64 1] w fun e w' => e = .returned (.string ⟨#[49]⟩) ∧ Kept [] w w') := qI (by
  have h1 := libItoa ht 1 (by decide) (by decide)
  rw [show strB (Lib.itoa 1) = ⟨#[49]⟩ by decide +kernel] at h1
  exact h1)
 have CR : Hid (∀ w1, Calls Tryz.prog 158 #[.string ⟨#[48]⟩, .int .i64 1] w1 fun e w' => e = .returned (.string ⟨#[48]⟩) ∧ w' = w1) := qI (fun w1 => Any.strings_Repeat_one Tryz.shRepeat ⟨#[48]⟩ w1)
 go_enter Tryz.func117, Tryz.ntmps117
 go_wp2_with first
  | (go_at_call 157; refine CI.o.mono ?_; rintro e w1 ⟨rfl, hk1⟩; have Gb := qI hk1; clear hk1)
  | (go_at_call 158; refine (CR.o _).mono ?_; rintro e w2 ⟨rfl, rfl⟩)
 go_ret
 exact ⟨congrArg (fun s => Ending.returned (.string s)) (show (⟨#[48]⟩ : ByteArray) ++ ⟨#[49]⟩ = ⟨#[48, 49]⟩ by decide +kernel), Gb.o⟩
theorem pad_2 {w : World} (ht : Tabs w) : Calls Tryz.prog 117 #[.int .i64 2, .int .i64 2] w fun e w' => e = .returned (.string ⟨#[48, 50]⟩) ∧ Kept [] w w' := by
 have CI : Hid (Calls Tryz.prog 157 #[.int .i64 2] w fun e w' => e = .returned (.string ⟨#[50]⟩) ∧ Kept [] w w') := qI (by
  have h1 := libItoa ht 2 (by decide) (by decide)
  rw [show strB (Lib.itoa 2) = ⟨#[50]⟩ by decide +kernel] at h1
  exact h1)
 have CR : Hid (∀ w1, Calls Tryz.prog 158 #[.string ⟨#[48]⟩, .int .i64 1] w1 fun e w' => e = .returned (.string ⟨#[48]⟩) ∧ w' = w1) := qI (fun w1 => Any.strings_Repeat_one Tryz.shRepeat ⟨#[48]⟩ w1)
 go_enter Tryz.func117, Tryz.ntmps117
 go_wp2_with first
  | (go_at_call 157; refine CI.o.mono ?_; rintro e w1 ⟨rfl, hk1⟩; have Gb := qI hk1; clear hk1)
  | (go_at_call 158; refine (CR.o _).mono ?_; rintro e w2 ⟨rfl, rfl⟩)
 go_ret
 exact ⟨congrArg (fun s => Ending.returned (.string s)) (show (⟨#[48]⟩ : ByteArray) ++ ⟨#[50]⟩ = ⟨#[48, 50]⟩ by decide +kernel), Gb.o⟩
theorem infoD : (Tryz.prog.info? 150).map (·.size) = some 6 := by kernel_rfl
theorem DateAt.there {w : World} {g : Nat} {a b c d e f : Int} (h : DateAt w g a b c d e f) : w.there g 0 6 := fun j hj => by
 rw [Nat.zero_add]
 have hj' : j < (dateA a b c d e f).size := hj
 refine ⟨?_, free_head h⟩
 rw [cell_head (v := (dateA a b c d e f)[j]) h (by simp [hj'])]
 rfl
theorem dateA_one (a b c d e f : Int) : ∀ v ∈ (dateA a b c d e f).toList, v.oneCell' = true := by
 intro v hv
 simp only [dateA, List.mem_cons, List.not_mem_nil, or_false] at hv
 rcases hv with rfl | rfl | rfl | rfl | rfl | rfl <;> rfl
theorem wpList_store6 {ops : Array Oper} {rest : List Oper} {op : Oper} {a : Act} {w : World} {Q : Exit → Act → World → Prop} (hgd : op.guard = none) (x y : Operand) (ho : op.op = .store 150 x y) {g : Nat} {y1 y2 y3 y4 y5 y6 : Int} (h0 : DateAt w g 0 0 0 0 0 0)
  (hx : a.eval x = .pointer (some ⟨g, 0, none⟩)) (hy : a.eval y = .agg (dateA y1 y2 y3 y4 y5 y6)) (h : ∀ w', DateAt w' g y1 y2 y3 y4 y5 y6 → Kept [g] w w' → wpList Tryz.prog ops Q rest (a.put op.dst undef) w') : wpList Tryz.prog ops Q (op :: rest) a w :=
 wpList_store_mid hgd 150 x y ho g 0 (dateA y1 y2 y3 y4 y5 y6) hx hy h0.there infoD (all_oneCell_toArray (dateA_one y1 y2 y3 y4 y5 y6)) (h _ (put6_at h0) (setCells_kept _ _ _ _))
theorem text_day {w : World} (ht : Tabs w) : Calls Tryz.prog 81 #[.int .i64 86400] w fun e w' => e = .returned (.tuple #[.string ⟨#[49, 57, 55, 48, 45, 48, 49, 45, 48, 50, 84, 48, 48, 58, 48, 48, 58, 48, 48, 90]⟩, .int .i64 0]) ∧ Kept [] w w' := by
 have CC := qI (civil_day w)
 have Gn := qI ht
 clear ht
 go_enter Tryz.func81, Tryz.ntmps81
 go_upto_region 4 with first
  | (go_at_call 116; refine CC.o.mono ?_; rintro e w1 ⟨rfl, hk1⟩; have Gb := qI hk1; clear hk1)
  | (refine wpList_store6 (by rfl) (.tmp 4) (.tmp 9) (by rfl) (g := w1.heap.size) (block_alloc rfl) (by rfl) (by rfl) ?_; intro w2 h2 hk2; have HD := qI h2; have Gj : Hid (Kept [] w1 w2) := qI (((Kept.refl [] w1).alloc _).trans hk2 (by intro i hi; simp at hi; subst hi; exact .inr (Nat.le_refl _))); clear h2 hk2; simp only [Act.put])
 have HT := qI (Gn.o.kept0 (Gb.o.then Gj.o))
 generalize hrb : w1.heap.size = rb at HD
 refine wp_grows (n := 43) 28 [Fact.is (.pointer (some ⟨rb, 0, none⟩)),
  Fact.is (.int .i64 1970),
  Fact.is (.string ⟨#[49, 57, 55, 48]⟩),
  Fact.is (.string ⟨#[49, 57, 55, 48, 45]⟩),
  Fact.is (.pointer (some ⟨rb, 1, none⟩)),
  Fact.is (.int .i64 1),
  Fact.is (.string ⟨#[48, 49]⟩),
  Fact.is (.string ⟨#[49, 57, 55, 48, 45, 48, 49]⟩),
  Fact.is (.string ⟨#[49, 57, 55, 48, 45, 48, 49, 45]⟩),
  Fact.is (.pointer (some ⟨rb, 2, none⟩)),
  Fact.is (.int .i64 2),
  Fact.is (.string ⟨#[48, 50]⟩),
  Fact.is (.string ⟨#[49, 57, 55, 48, 45, 48, 49, 45, 48, 50]⟩),
  Fact.is (.string ⟨#[49, 57, 55, 48, 45, 48, 49, 45, 48, 50, 84]⟩),
  Fact.is (.pointer (some ⟨rb, 3, none⟩)),
  Fact.is (.int .i64 0),
  Fact.is (.string ⟨#[48, 48]⟩),
  Fact.is (.string ⟨#[49, 57, 55, 48, 45, 48, 49, 45, 48, 50, 84, 48, 48]⟩),
  Fact.is (.string ⟨#[49, 57, 55, 48, 45, 48, 49, 45, 48, 50, 84, 48, 48, 58]⟩),
  Fact.is (.pointer (some ⟨rb, 4, none⟩)),
  Fact.is (.int .i64 0),
  Fact.is (.string ⟨#[48, 48]⟩),
  Fact.is (.string ⟨#[49, 57, 55, 48, 45, 48, 49, 45, 48, 50, 84, 48, 48, 58, 48, 48]⟩),
  Fact.is (.string ⟨#[49, 57, 55, 48, 45, 48, 49, 45, 48, 50, 84, 48, 48, 58, 48, 48, 58]⟩),
  Fact.is (.pointer (some ⟨rb, 5, none⟩)),
  Fact.is (.int .i64 0),
  Fact.is (.string ⟨#[48, 48]⟩),
  Fact.is (.string ⟨#[49, 57, 55, 48, 45, 48, 49, 45, 48, 50, 84, 48, 48, 58, 48, 48, 58, 48, 48]⟩)] (by kernel_rfl) rfl (by kernel_rfl) (fun x => by simp only [List.map, puts, Act.put, List.setIfInBounds_toArray, List.set_cons_zero, List.set_cons_succ]; rfl) ?_ ?_
 ·refine ⟨fun x w2 hkw b hd => ?_, fun x w2 hkw b hd => ?_, fun x w2 hkw b hd => ?_, fun x w2 hkw b hd => ?_, fun x w2 hkw b hd => ?_, fun x w2 hkw b hd => ?_, fun x w2 hkw b hd => ?_, fun x w2 hkw b hd => ?_, fun x w2 hkw b hd => ?_, fun x w2 hkw b hd => ?_, fun x w2 hkw b hd => ?_, fun x w2 hkw b hd => ?_, fun x w2 hkw b hd => ?_, fun x w2 hkw b hd => ?_, fun x w2 hkw b hd => ?_, fun x w2 hkw b hd => ?_, fun x w2 hkw b hd => ?_, fun x w2 hkw b hd => ?_, fun x w2 hkw b hd => ?_, fun x w2 hkw b hd => ?_, fun x w2 hkw b hd => ?_, fun x w2 hkw b hd => ?_, fun x w2 hkw b hd => ?_, fun x w2 hkw b hd => ?_, fun x w2 hkw b hd => ?_, fun x w2 hkw b hd => ?_, fun x w2 hkw b hd => ?_, fun x w2 hkw b hd => ?_, trivial⟩
  ·go_wp2_with fail
   exact ⟨rfl, Kept.refl _ _⟩
  ·have y0 := cell_head (o := 0) (v := .int .i64 1970) (HD.o.kept0 hkw) rfl
   have d0 : x 0 = _ := hd 0 (by kernel_rfl)
   go_wp2_with fail
   exact ⟨rfl, Kept.refl _ _⟩
  ·have d1 : x 1 = _ := hd 1 (by kernel_rfl)
   have CX := pad_1970 (HT.o.kept0 hkw)
   go_wp2_with (go_at_call 117; refine CX.mono ?_; rintro e w5 ⟨rfl, hk5⟩; have Ga := qI hk5; clear hk5)
   exact ⟨rfl, Ga.o⟩
  ·have d2 : x 2 = _ := hd 2 (by kernel_rfl)
   go_wp2_with fail
   exact ⟨congrArg Value.string (show (⟨#[49, 57, 55, 48]⟩ : ByteArray) ++ ⟨#[45]⟩ = ⟨#[49, 57, 55, 48, 45]⟩ by decide +kernel), Kept.refl _ _⟩
  ·go_wp2_with fail
   exact ⟨rfl, Kept.refl _ _⟩
  ·have y0 := cell_head (o := 1) (v := .int .i64 1) (HD.o.kept0 hkw) rfl
   have d4 : x 4 = _ := hd 4 (by kernel_rfl)
   go_wp2_with fail
   exact ⟨rfl, Kept.refl _ _⟩
  ·have d5 : x 5 = _ := hd 5 (by kernel_rfl)
   have CX := pad_1 (HT.o.kept0 hkw)
   go_wp2_with (go_at_call 117; refine CX.mono ?_; rintro e w5 ⟨rfl, hk5⟩; have Ga := qI hk5; clear hk5)
   exact ⟨rfl, Ga.o⟩
  ·have d3 : x 3 = _ := hd 3 (by kernel_rfl)
   have d6 : x 6 = _ := hd 6 (by kernel_rfl)
   go_wp2_with fail
   exact ⟨congrArg Value.string (show (⟨#[49, 57, 55, 48, 45]⟩ : ByteArray) ++ ⟨#[48, 49]⟩ = ⟨#[49, 57, 55, 48, 45, 48, 49]⟩ by decide +kernel), Kept.refl _ _⟩
  ·have d7 : x 7 = _ := hd 7 (by kernel_rfl)
   go_wp2_with fail
   exact ⟨congrArg Value.string (show (⟨#[49, 57, 55, 48, 45, 48, 49]⟩ : ByteArray) ++ ⟨#[45]⟩ = ⟨#[49, 57, 55, 48, 45, 48, 49, 45]⟩ by decide +kernel), Kept.refl _ _⟩
  ·go_wp2_with fail
   exact ⟨rfl, Kept.refl _ _⟩
  ·have y0 := cell_head (o := 2) (v := .int .i64 2) (HD.o.kept0 hkw) rfl
   have d9 : x 9 = _ := hd 9 (by kernel_rfl)
   go_wp2_with fail
   exact ⟨rfl, Kept.refl _ _⟩
  ·have d10 : x 10 = _ := hd 10 (by kernel_rfl)
   have CX := pad_2 (HT.o.kept0 hkw)
   go_wp2_with (go_at_call 117; refine CX.mono ?_; rintro e w5 ⟨rfl, hk5⟩; have Ga := qI hk5; clear hk5)
   exact ⟨rfl, Ga.o⟩
  ·have d8 : x 8 = _ := hd 8 (by kernel_rfl)
   have d11 : x 11 = _ := hd 11 (by kernel_rfl)
   go_wp2_with fail
   exact ⟨congrArg Value.string (show (⟨#[49, 57, 55, 48, 45, 48, 49, 45]⟩ : ByteArray) ++ ⟨#[48, 50]⟩ = ⟨#[49, 57, 55, 48, 45, 48, 49, 45, 48, 50]⟩ by decide +kernel), Kept.refl _ _⟩
  ·have d12 : x 12 = _ := hd 12 (by kernel_rfl)
   go_wp2_with fail
   exact ⟨congrArg Value.string (show (⟨#[49, 57, 55, 48, 45, 48, 49, 45, 48, 50]⟩ : ByteArray) ++ ⟨#[84]⟩ = ⟨#[49, 57, 55, 48, 45, 48, 49, 45, 48, 50, 84]⟩ by decide +kernel), Kept.refl _ _⟩
  ·go_wp2_with fail
   exact ⟨rfl, Kept.refl _ _⟩
  ·have y0 := cell_head (o := 3) (v := .int .i64 0) (HD.o.kept0 hkw) rfl
   have d14 : x 14 = _ := hd 14 (by kernel_rfl)
   go_wp2_with fail
   exact ⟨rfl, Kept.refl _ _⟩
  ·have d15 : x 15 = _ := hd 15 (by kernel_rfl)
   have CX := pad_0 (HT.o.kept0 hkw)
   go_wp2_with (go_at_call 117; refine CX.mono ?_; rintro e w5 ⟨rfl, hk5⟩; have Ga := qI hk5; clear hk5)
   exact ⟨rfl, Ga.o⟩
  ·have d13 : x 13 = _ := hd 13 (by kernel_rfl)
   have d16 : x 16 = _ := hd 16 (by kernel_rfl)
   go_wp2_with fail
   exact ⟨congrArg Value.string (show (⟨#[49, 57, 55, 48, 45, 48, 49, 45, 48, 50, 84]⟩ : ByteArray) ++ ⟨#[48, 48]⟩ = ⟨#[49, 57, 55, 48, 45, 48, 49, 45, 48, 50, 84, 48, 48]⟩ by decide +kernel), Kept.refl _ _⟩
  ·have d17 : x 17 = _ := hd 17 (by kernel_rfl)
   go_wp2_with fail
   exact ⟨congrArg Value.string (show (⟨#[49, 57, 55, 48, 45, 48, 49, 45, 48, 50, 84, 48, 48]⟩ : ByteArray) ++ ⟨#[58]⟩ = ⟨#[49, 57, 55, 48, 45, 48, 49, 45, 48, 50, 84, 48, 48, 58]⟩ by decide +kernel), Kept.refl _ _⟩
  ·go_wp2_with fail
   exact ⟨rfl, Kept.refl _ _⟩
  ·have y0 := cell_head (o := 4) (v := .int .i64 0) (HD.o.kept0 hkw) rfl
   have d19 : x 19 = _ := hd 19 (by kernel_rfl)
   go_wp2_with fail
   exact ⟨rfl, Kept.refl _ _⟩
  ·have d20 : x 20 = _ := hd 20 (by kernel_rfl)
   have CX := pad_0 (HT.o.kept0 hkw)
   go_wp2_with (go_at_call 117; refine CX.mono ?_; rintro e w5 ⟨rfl, hk5⟩; have Ga := qI hk5; clear hk5)
   exact ⟨rfl, Ga.o⟩
  ·have d18 : x 18 = _ := hd 18 (by kernel_rfl)
   have d21 : x 21 = _ := hd 21 (by kernel_rfl)
   go_wp2_with fail
   exact ⟨congrArg Value.string (show (⟨#[49, 57, 55, 48, 45, 48, 49, 45, 48, 50, 84, 48, 48, 58]⟩ : ByteArray) ++ ⟨#[48, 48]⟩ = ⟨#[49, 57, 55, 48, 45, 48, 49, 45, 48, 50, 84, 48, 48, 58, 48, 48]⟩ by decide +kernel), Kept.refl _ _⟩
  ·have d22 : x 22 = _ := hd 22 (by kernel_rfl)
   go_wp2_with fail
   exact ⟨congrArg Value.string (show (⟨#[49, 57, 55, 48, 45, 48, 49, 45, 48, 50, 84, 48, 48, 58, 48, 48]⟩ : ByteArray) ++ ⟨#[58]⟩ = ⟨#[49, 57, 55, 48, 45, 48, 49, 45, 48, 50, 84, 48, 48, 58, 48, 48, 58]⟩ by decide +kernel), Kept.refl _ _⟩
  ·go_wp2_with fail
   exact ⟨rfl, Kept.refl _ _⟩
  ·have y0 := cell_head (o := 5) (v := .int .i64 0) (HD.o.kept0 hkw) rfl
   have d24 : x 24 = _ := hd 24 (by kernel_rfl)
   go_wp2_with fail
   exact ⟨rfl, Kept.refl _ _⟩
  ·have d25 : x 25 = _ := hd 25 (by kernel_rfl)
   have CX := pad_0 (HT.o.kept0 hkw)
   go_wp2_with (go_at_call 117; refine CX.mono ?_; rintro e w5 ⟨rfl, hk5⟩; have Ga := qI hk5; clear hk5)
   exact ⟨rfl, Ga.o⟩
  ·have d23 : x 23 = _ := hd 23 (by kernel_rfl)
   have d26 : x 26 = _ := hd 26 (by kernel_rfl)
   go_wp2_with fail
   exact ⟨congrArg Value.string (show (⟨#[49, 57, 55, 48, 45, 48, 49, 45, 48, 50, 84, 48, 48, 58, 48, 48, 58]⟩ : ByteArray) ++ ⟨#[48, 48]⟩ = ⟨#[49, 57, 55, 48, 45, 48, 49, 45, 48, 50, 84, 48, 48, 58, 48, 48, 58, 48, 48]⟩ by decide +kernel), Kept.refl _ _⟩
 ·intro x w7 hkw b hd hwin
  have d27 : x 27 = _ := hd 27 (by decide)
  have Gi := qI hkw
  clear hd hwin hkw
  change wpList _ _ _ [_, _, _] _ _
  go_wp2_with fail
  go_ret2
  exact ⟨congrArg (fun s => Ending.returned (.tuple #[.string s, .int .i64 0])) (show (⟨#[49, 57, 55, 48, 45, 48, 49, 45, 48, 50, 84, 48, 48, 58, 48, 48, 58, 48, 48]⟩ : ByteArray) ++ ⟨#[90]⟩ = ⟨#[49, 57, 55, 48, 45, 48, 49, 45, 48, 50, 84, 48, 48, 58, 48, 48, 58, 48, 48, 90]⟩ by decide +kernel), (Gb.o.then Gj.o).then Gi.o⟩
end Go.Proofs.YtckbnjipecclaaaGreatDoor

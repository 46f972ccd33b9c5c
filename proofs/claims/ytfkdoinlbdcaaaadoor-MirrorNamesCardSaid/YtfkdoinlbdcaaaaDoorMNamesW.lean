/- Names of files of any versions, and of any targets. -/
import Derived.Test.YtfkdoinlbdcaaaaDoorMNames
import Derived.Lib.SmallJoins
namespace Go.Proofs.YtfkdoinlbdcaaaaDoor
open Go.RowKit

theorem gTab : Tryd.prog.globalNamed "internal/strconv.uint64pow10" = some 0 := by kernel_rfl
def Tab (w : World) : Prop := Lib.TabIs Tryd.prog w "internal/strconv.uint64pow10" .u64 Lib.pow10Tab
theorem tab_kept {w w' : World} (h : Tab w) (k : Kept [] w w') : Tab w' := Go.Joins.tab_stays gTab h (k.below (Nat.le_refl _) (by simp)) (Nat.le_refl _)
theorem kept_grow {w : World} (n : Nat) (os : Array Obj) : Kept [] w (Sort.grow (w.drewN n) os) :=
  ⟨rfl, rfl, rfl, by simp [Sort.grow], fun k hk _ => by
    show (w.heap ++ os)[k]? = w.heap[k]?
    rw [Array.getElem?_append_left hk]⟩
theorem itoa_any (n : Int) (h0 : -9223372036854775808 ≤ n) (h1 : n ≤ 9223372036854775807) (w : World) (ht : Tab w) : Calls Tryd.prog 34 #[.int .i64 n] w fun e w' => e = .returned (.string ⟨(Lib.itoa n).toArray⟩) ∧ Kept [] w w' :=
  (Any.strconv_Itoa Tryd.laysItoa n h0 h1 w ht).mono fun e w' ⟨h1, k, os, h2⟩ => ⟨h1, by rw [h2]; exact kept_grow k os⟩
def nameOf (c : Bool) (n : Int) (s : ByteArray) : ByteArray := if c then (⟨(Lib.itoa n).toArray⟩ ++ ⟨#[46]⟩) ++ s else s
theorem fileName_all (c : Bool) (n : Int) (h0 : -9223372036854775808 ≤ n) (h1 : n ≤ 9223372036854775807) (s : ByteArray) (hs : s.size ≤ 281474976710656) (w : World) (ht : Tab w) :
    Calls Tryd.prog 15 #[.int .i64 n, .string s, .bool c] w fun e w' => e = .returned (.string (nameOf c n s)) ∧ Kept [] w w' := by
  cases c
  · exact (fileName_plain _ s w).mono fun e w' ⟨h1, h2⟩ => ⟨h1, by rw [← h2]; exact Kept.refl _ _⟩
  · exact fileName_any (itoa_any n h0 h1 w ht) (itoa_size n h0 h1) s hs
theorem refFileName_all (c : Bool) (n : Int) (h0 : -9223372036854775808 ≤ n) (h1 : n ≤ 9223372036854775807) (s : ByteArray) (hs : s.size ≤ 281474976710656) (w : World) :
    Calls Tryd.prog 16 #[.int .i64 n, .string s, .bool c] w fun e w' => e = .returned (.string (nameOf c n s)) ∧ w = w' := by
  cases c
  · exact refFileName_plain _ s w
  · exact refFileName_any n h0 h1 s hs w

set_option maxRecDepth 10000 in
set_option maxHeartbeats 3200000 in
theorem names_any (n : Int) (h0 : -9223372036854775808 ≤ n) (h1 : n ≤ 9223372036854775807) (s p h : ByteArray) (len : Int) (c : Bool) (hs : s.size ≤ 281474976710656) (hp : p.size ≤ 281474976710656) (hh : h.size ≤ 281474976710656) (w : World) (ht : Tab w) :
    Calls Tryd.prog 4 #[.int .i64 n, .string s, .agg #[.string p, .int .i64 len, .string h], .bool c] w fun e w' => e = .returned (.bool true) ∧ Kept [] w w' := by
  go_enter Tryd.func4, Tryd.ntmps4
  go_wp2_with fail
  have HK0 : Hid (Kept [] w (w.alloc (.cells #[.string p, .int .i64 len, .string h] 37)).drew) := Lib.hid ((Kept.refl [] w).alloc _).drew
  have hSS : (fun w' : World => w'.cell? ⟨w.heap.size, 0, none⟩ = some (.string p) ∧ w'.cell? ⟨w.heap.size, 1, none⟩ = some (.int .i64 len) ∧ w'.cell? ⟨w.heap.size, 2, none⟩ = some (.string h)) (w.alloc (.cells #[.string p, .int .i64 len, .string h] 37)).drew := by
    have hb := heap_alloc_new w (.cells #[.string p, .int .i64 len, .string h] 37)
    exact ⟨cell_head hb rfl, cell_head hb rfl, cell_head hb rfl⟩
  refine wp_region_last' (n := 29) (fun w' : World => w'.cell? ⟨w.heap.size, 0, none⟩ = some (.string p) ∧ w'.cell? ⟨w.heap.size, 1, none⟩ = some (.int .i64 len) ∧ w'.cell? ⟨w.heap.size, 2, none⟩ = some (.string h)) 29 (by kernel_rfl) (by kernel_rfl) ?_
  change wpAnyT _ _ _ _ _ _ _ _ _ (w.alloc (.cells #[.string p, .int .i64 len, .string h] 37)).drew
  have HT0 := Lib.hid (tab_kept ht HK0.out)
  revert HK0 hSS HT0
  generalize (w.alloc (.cells #[.string p, .int .i64 len, .string h] 37)).drew = w0
  intro HK0 hSS HT0
  have HS0 := Lib.hid hSS
  refine wpAnyT_start ?_
  intro O R hO hR
  have hQp : ∀ c a (d : Nat) v w, R (.panic c) (a.put (some d) v) w → R (.panic c) a w := by subst hR; exact fun _ _ _ _ _ h => h
  refine wpAnyT_one' (i := 0) hO rfl (by kernel_rfl) (by kernel_rfl) (fun K hK => ?_)
  go_simp
  refine (lives_any w0).mono ?_
  rintro e w1 ⟨rfl, hk⟩
  have HK1 := Lib.hid (HK0.out.then hk)
  have HS1 : Hid ((fun w' : World => w'.cell? ⟨w.heap.size, 0, none⟩ = some (.string p) ∧ w'.cell? ⟨w.heap.size, 1, none⟩ = some (.int .i64 len) ∧ w'.cell? ⟨w.heap.size, 2, none⟩ = some (.string h)) w1) := Lib.hid ⟨hk.cell HS0.out.1 (by simp), hk.cell HS0.out.2.1 (by simp), hk.cell HS0.out.2.2 (by simp)⟩
  have HT1 := Lib.hid (tab_kept HT0.out hk)
  clear hk
  refine hK _ _ (.inr HS1.out) ?_
  clear hK K
  try simp only [Act.put, List.setIfInBounds_toArray, List.set_cons_zero, List.set_cons_succ]
  clear hSS
  have hSS := HS1.out
  refine wpAnyT_take' (i := 1) (v := ?_) hO rfl rfl (by kernel_rfl) (by kernel_rfl) (by kernel_rfl) (by kernel_rfl) hQp (Or.inl ⟨by kernel_rfl, fun w hSw => ?_⟩) hSS ?_
  rotate_left
  · obtain ⟨s0, s1, s2⟩ := hSw; go_simp; try with_reducible rfl
  try simp only [Act.put, List.setIfInBounds_toArray, List.set_cons_zero, List.set_cons_succ]
  refine wpAnyT_take' (i := 2) (v := ?_) hO rfl rfl (by kernel_rfl) (by kernel_rfl) (by kernel_rfl) (by kernel_rfl) hQp (Or.inl ⟨by kernel_rfl, fun w hSw => ?_⟩) hSS ?_
  rotate_left
  · obtain ⟨s0, s1, s2⟩ := hSw; go_simp; try with_reducible rfl
  try simp only [Act.put, List.setIfInBounds_toArray, List.set_cons_zero, List.set_cons_succ]
  refine wpAnyT_take' (i := 4) (v := ?_) hO rfl rfl (by kernel_rfl) (by kernel_rfl) (by kernel_rfl) (by kernel_rfl) hQp (Or.inl ⟨by kernel_rfl, fun w hSw => ?_⟩) hSS ?_
  rotate_left
  · obtain ⟨s0, s1, s2⟩ := hSw; go_simp; try with_reducible rfl
  try simp only [Act.put, List.setIfInBounds_toArray, List.set_cons_zero, List.set_cons_succ]
  refine wpAnyT_one' (i := 3) hO rfl (by kernel_rfl) (by kernel_rfl) (fun K hK => ?_)
  go_simp
  refine (rootName_any (itoa_any n h0 h1 w1 HT1.out) (itoa_size n h0 h1)).mono ?_
  rintro e w2 ⟨rfl, hk⟩
  have HK2 := Lib.hid (HK1.out.then hk)
  have HS2 : Hid ((fun w' : World => w'.cell? ⟨w.heap.size, 0, none⟩ = some (.string p) ∧ w'.cell? ⟨w.heap.size, 1, none⟩ = some (.int .i64 len) ∧ w'.cell? ⟨w.heap.size, 2, none⟩ = some (.string h)) w2) := Lib.hid ⟨hk.cell HS1.out.1 (by simp), hk.cell HS1.out.2.1 (by simp), hk.cell HS1.out.2.2 (by simp)⟩
  have HT2 := Lib.hid (tab_kept HT1.out hk)
  clear hk
  refine hK _ _ (.inr HS2.out) ?_
  clear hK K
  try simp only [Act.put, List.setIfInBounds_toArray, List.set_cons_zero, List.set_cons_succ]
  clear hSS
  have hSS := HS2.out
  refine wpAnyT_one' (i := 5) hO rfl (by kernel_rfl) (by kernel_rfl) (fun K hK => ?_)
  go_simp
  refine (refRootName_any n h0 h1 w2).mono ?_
  rintro e w' ⟨rfl, rfl⟩
  generalize (((⟨(Lib.itoa n).toArray⟩ : ByteArray) ++ ⟨#[46]⟩) ++ tRoot) = t1
  refine hK _ _ (.inr hSS) ?_
  clear hK K
  try simp only [Act.put, List.setIfInBounds_toArray, List.set_cons_zero, List.set_cons_succ]
  refine wpAnyT_take' (i := 6) (v := ?_) hO rfl rfl (by kernel_rfl) (by kernel_rfl) (by kernel_rfl) (by kernel_rfl) hQp (Or.inl ⟨by kernel_rfl, fun w hSw => ?_⟩) hSS ?_
  rotate_left
  · obtain ⟨s0, s1, s2⟩ := hSw; go_simp; try with_reducible rfl
  try simp only [Act.put, List.setIfInBounds_toArray, List.set_cons_zero, List.set_cons_succ]
  refine wpAnyT_take' (i := 7) (v := ?_) hO rfl rfl (by kernel_rfl) (by kernel_rfl) (by kernel_rfl) (by kernel_rfl) hQp (Or.inl ⟨by kernel_rfl, fun w hSw => ?_⟩) hSS ?_
  rotate_left
  · obtain ⟨s0, s1, s2⟩ := hSw; go_simp; try with_reducible rfl
  try simp only [Act.put, List.setIfInBounds_toArray, List.set_cons_zero, List.set_cons_succ]
  refine wpAnyT_take' (i := 8) (v := ?_) hO rfl rfl (by kernel_rfl) (by kernel_rfl) (by kernel_rfl) (by kernel_rfl) hQp (Or.inl ⟨by kernel_rfl, fun w hSw => ?_⟩) hSS ?_
  rotate_left
  · obtain ⟨s0, s1, s2⟩ := hSw; go_simp; try with_reducible rfl
  try simp only [Act.put, List.setIfInBounds_toArray, List.set_cons_zero, List.set_cons_succ]
  refine wpAnyT_take' (i := 9) (v := ?_) hO rfl rfl (by kernel_rfl) (by kernel_rfl) (by kernel_rfl) (by kernel_rfl) hQp (Or.inl ⟨by kernel_rfl, fun w hSw => ?_⟩) hSS ?_
  rotate_left
  · obtain ⟨s0, s1, s2⟩ := hSw; go_simp; try with_reducible rfl
  try simp only [Act.put, List.setIfInBounds_toArray, List.set_cons_zero, List.set_cons_succ]
  refine wpAnyT_take' (i := 10) (v := ?_) hO rfl rfl (by kernel_rfl) (by kernel_rfl) (by kernel_rfl) (by kernel_rfl) hQp (Or.inl ⟨by kernel_rfl, fun w hSw => ?_⟩) hSS ?_
  rotate_left
  · obtain ⟨s0, s1, s2⟩ := hSw; go_simp; try with_reducible rfl
  try simp only [Act.put, List.setIfInBounds_toArray, List.set_cons_zero, List.set_cons_succ]
  refine wpAnyT_take' (i := 11) (v := ?_) hO rfl rfl (by kernel_rfl) (by kernel_rfl) (by kernel_rfl) (by kernel_rfl) hQp (Or.inl ⟨by kernel_rfl, fun w hSw => ?_⟩) hSS ?_
  rotate_left
  · obtain ⟨s0, s1, s2⟩ := hSw; go_simp; try with_reducible rfl
  try simp only [Act.put, List.setIfInBounds_toArray, List.set_cons_zero, List.set_cons_succ]
  refine wpAnyT_take' (i := 13) (v := ?_) hO rfl rfl (by kernel_rfl) (by kernel_rfl) (by kernel_rfl) (by kernel_rfl) hQp (Or.inl ⟨by kernel_rfl, fun w hSw => ?_⟩) hSS ?_
  rotate_left
  · obtain ⟨s0, s1, s2⟩ := hSw; go_simp; try with_reducible rfl
  try simp only [Act.put, List.setIfInBounds_toArray, List.set_cons_zero, List.set_cons_succ]
  refine wpAnyT_take' (i := 14) (v := ?_) hO rfl rfl (by kernel_rfl) (by kernel_rfl) (by kernel_rfl) (by kernel_rfl) hQp (Or.inl ⟨by kernel_rfl, fun w hSw => ?_⟩) hSS ?_
  rotate_left
  · obtain ⟨s0, s1, s2⟩ := hSw; go_simp; try with_reducible rfl
  try simp only [Act.put, List.setIfInBounds_toArray, List.set_cons_zero, List.set_cons_succ]
  refine wpAnyT_take' (i := 15) (v := ?_) hO rfl rfl (by kernel_rfl) (by kernel_rfl) (by kernel_rfl) (by kernel_rfl) hQp (Or.inl ⟨by kernel_rfl, fun w hSw => ?_⟩) hSS ?_
  rotate_left
  · obtain ⟨s0, s1, s2⟩ := hSw; go_simp; try with_reducible rfl
  try simp only [Act.put, List.setIfInBounds_toArray, List.set_cons_zero, List.set_cons_succ]
  refine wpAnyT_one' (i := 12) hO rfl (by kernel_rfl) (by kernel_rfl) (fun K hK => ?_)
  go_simp
  refine (fileName_all c n h0 h1 s hs w2 HT2.out).mono ?_
  rintro e w3 ⟨rfl, hk⟩
  have HK3 := Lib.hid (HK2.out.then hk)
  have HS3 : Hid ((fun w' : World => w'.cell? ⟨w.heap.size, 0, none⟩ = some (.string p) ∧ w'.cell? ⟨w.heap.size, 1, none⟩ = some (.int .i64 len) ∧ w'.cell? ⟨w.heap.size, 2, none⟩ = some (.string h)) w3) := Lib.hid ⟨hk.cell HS2.out.1 (by simp), hk.cell HS2.out.2.1 (by simp), hk.cell HS2.out.2.2 (by simp)⟩
  have HT3 := Lib.hid (tab_kept HT2.out hk)
  clear hk
  refine hK _ _ (.inr HS3.out) ?_
  clear hK K
  try simp only [Act.put, List.setIfInBounds_toArray, List.set_cons_zero, List.set_cons_succ]
  clear hSS
  have hSS := HS3.out
  refine wpAnyT_one' (i := 16) hO rfl (by kernel_rfl) (by kernel_rfl) (fun K hK => ?_)
  go_simp
  refine (refFileName_all c n h0 h1 s hs w3).mono ?_
  rintro e w' ⟨rfl, rfl⟩
  generalize nameOf c n s = t2
  refine hK _ _ (.inr hSS) ?_
  clear hK K
  try simp only [Act.put, List.setIfInBounds_toArray, List.set_cons_zero, List.set_cons_succ]
  refine wpAnyT_take' (i := 17) (v := ?_) hO rfl rfl (by kernel_rfl) (by kernel_rfl) (by kernel_rfl) (by kernel_rfl) hQp (Or.inl ⟨by kernel_rfl, fun w hSw => ?_⟩) hSS ?_
  rotate_left
  · obtain ⟨s0, s1, s2⟩ := hSw; go_simp; try with_reducible rfl
  try simp only [Act.put, List.setIfInBounds_toArray, List.set_cons_zero, List.set_cons_succ]
  refine wpAnyT_take' (i := 18) (v := ?_) hO rfl rfl (by kernel_rfl) (by kernel_rfl) (by kernel_rfl) (by kernel_rfl) hQp (Or.inl ⟨by kernel_rfl, fun w hSw => ?_⟩) hSS ?_
  rotate_left
  · obtain ⟨s0, s1, s2⟩ := hSw; go_simp; try with_reducible rfl
  try simp only [Act.put, List.setIfInBounds_toArray, List.set_cons_zero, List.set_cons_succ]
  refine wpAnyT_take' (i := 19) (v := ?_) hO rfl rfl (by kernel_rfl) (by kernel_rfl) (by kernel_rfl) (by kernel_rfl) hQp (Or.inl ⟨by kernel_rfl, fun w hSw => ?_⟩) hSS ?_
  rotate_left
  · obtain ⟨s0, s1, s2⟩ := hSw; go_simp; try with_reducible rfl
  try simp only [Act.put, List.setIfInBounds_toArray, List.set_cons_zero, List.set_cons_succ]
  refine wpAnyT_take' (i := 20) (v := ?_) hO rfl rfl (by kernel_rfl) (by kernel_rfl) (by kernel_rfl) (by kernel_rfl) hQp (Or.inl ⟨by kernel_rfl, fun w hSw => ?_⟩) hSS ?_
  rotate_left
  · obtain ⟨s0, s1, s2⟩ := hSw; go_simp; try with_reducible rfl
  try simp only [Act.put, List.setIfInBounds_toArray, List.set_cons_zero, List.set_cons_succ]
  refine wpAnyT_take' (i := 21) (v := ?_) hO rfl rfl (by kernel_rfl) (by kernel_rfl) (by kernel_rfl) (by kernel_rfl) hQp (Or.inl ⟨by kernel_rfl, fun w hSw => ?_⟩) hSS ?_
  rotate_left
  · obtain ⟨s0, s1, s2⟩ := hSw; go_simp; try with_reducible rfl
  try simp only [Act.put, List.setIfInBounds_toArray, List.set_cons_zero, List.set_cons_succ]
  refine wpAnyT_take' (i := 23) (v := ?_) hO rfl rfl (by kernel_rfl) (by kernel_rfl) (by kernel_rfl) (by kernel_rfl) hQp (Or.inl ⟨by kernel_rfl, fun w hSw => ?_⟩) hSS ?_
  rotate_left
  · obtain ⟨s0, s1, s2⟩ := hSw; go_simp; try with_reducible rfl
  try simp only [Act.put, List.setIfInBounds_toArray, List.set_cons_zero, List.set_cons_succ]
  refine wpAnyT_take' (i := 24) (v := ?_) hO rfl rfl (by kernel_rfl) (by kernel_rfl) (by kernel_rfl) (by kernel_rfl) hQp (Or.inl ⟨by kernel_rfl, fun w hSw => ?_⟩) hSS ?_
  rotate_left
  · obtain ⟨s0, s1, s2⟩ := hSw; go_simp; try with_reducible rfl
  try simp only [Act.put, List.setIfInBounds_toArray, List.set_cons_zero, List.set_cons_succ]
  refine wpAnyT_one' (i := 22) hO rfl (by kernel_rfl) (by kernel_rfl) (fun K hK => ?_)
  go_simp
  refine (targetName_any c p h len hp hh w3).mono ?_
  rintro e w4 ⟨rfl, hk⟩
  have HK4 := Lib.hid (HK3.out.then hk)
  have HS4 : Hid ((fun w' : World => w'.cell? ⟨w.heap.size, 0, none⟩ = some (.string p) ∧ w'.cell? ⟨w.heap.size, 1, none⟩ = some (.int .i64 len) ∧ w'.cell? ⟨w.heap.size, 2, none⟩ = some (.string h)) w4) := Lib.hid ⟨hk.cell HS3.out.1 (by simp), hk.cell HS3.out.2.1 (by simp), hk.cell HS3.out.2.2 (by simp)⟩
  have HT4 := Lib.hid (tab_kept HT3.out hk)
  clear hk
  refine hK _ _ (.inr HS4.out) ?_
  clear hK K
  try simp only [Act.put, List.setIfInBounds_toArray, List.set_cons_zero, List.set_cons_succ]
  clear hSS
  have hSS := HS4.out
  refine wpAnyT_one' (i := 25) hO rfl (by kernel_rfl) (by kernel_rfl) (fun K hK => ?_)
  go_simp
  refine (refTargetName_any c p h len hp hh w4).mono ?_
  rintro e w5 ⟨rfl, hk⟩
  generalize targetOf c p h = t3
  have HK5 := Lib.hid (HK4.out.then hk)
  have HS5 : Hid ((fun w' : World => w'.cell? ⟨w.heap.size, 0, none⟩ = some (.string p) ∧ w'.cell? ⟨w.heap.size, 1, none⟩ = some (.int .i64 len) ∧ w'.cell? ⟨w.heap.size, 2, none⟩ = some (.string h)) w5) := Lib.hid ⟨hk.cell HS4.out.1 (by simp), hk.cell HS4.out.2.1 (by simp), hk.cell HS4.out.2.2 (by simp)⟩
  have HT5 := Lib.hid (tab_kept HT4.out hk)
  clear hk
  refine hK _ _ (.inr HS5.out) ?_
  clear hK K
  try simp only [Act.put, List.setIfInBounds_toArray, List.set_cons_zero, List.set_cons_succ]
  clear hSS
  have hSS := HS5.out
  refine wpAnyT_take' (i := 26) (v := ?_) hO rfl rfl (by kernel_rfl) (by kernel_rfl) (by kernel_rfl) (by kernel_rfl) hQp (Or.inl ⟨by kernel_rfl, fun w hSw => ?_⟩) hSS ?_
  rotate_left
  · obtain ⟨s0, s1, s2⟩ := hSw; go_simp; try with_reducible rfl
  try simp only [Act.put, List.setIfInBounds_toArray, List.set_cons_zero, List.set_cons_succ]
  refine wpAnyT_take' (i := 27) (v := ?_) hO rfl rfl (by kernel_rfl) (by kernel_rfl) (by kernel_rfl) (by kernel_rfl) hQp (Or.inl ⟨by kernel_rfl, fun w hSw => ?_⟩) hSS ?_
  rotate_left
  · obtain ⟨s0, s1, s2⟩ := hSw; go_simp; try with_reducible rfl
  try simp only [Act.put, List.setIfInBounds_toArray, List.set_cons_zero, List.set_cons_succ]
  refine wpAnyT_take' (i := 28) (v := ?_) hO rfl rfl (by kernel_rfl) (by kernel_rfl) (by kernel_rfl) (by kernel_rfl) hQp (Or.inl ⟨by kernel_rfl, fun w hSw => ?_⟩) hSS ?_
  rotate_left
  · obtain ⟨s0, s1, s2⟩ := hSw; go_simp; try with_reducible rfl
  try simp only [Act.put, List.setIfInBounds_toArray, List.set_cons_zero, List.set_cons_succ]
  refine wpAnyT_done' hO (by kernel_rfl) ?_ _
  subst hR
  go_wp2_with fail
  go_ret
  exact ⟨rfl, HK5.out⟩
end Go.Proofs.YtfkdoinlbdcaaaaDoor

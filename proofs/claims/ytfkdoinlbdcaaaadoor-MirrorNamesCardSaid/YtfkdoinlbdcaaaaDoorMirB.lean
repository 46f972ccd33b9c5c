/- The mirror: note, Asked, Drop. -/
import Derived.Test.YtfkdoinlbdcaaaaDoorMir
namespace Go.Proofs.YtfkdoinlbdcaaaaDoor
open Go.RowKit
open Go.Maps (Keyed)

set_option maxRecDepth 10000 in
set_option maxHeartbeats 1600000 in
theorem note_any {w : World} {b : Nat} {F : List Nat} {d : PMir} (h : MirRep w b F d) (s : ByteArray) (n : Int) (hs : s.size ≤ maxLen) (hl : d.asked.length < 256) :
    Calls Tryd.prog 31 #[.pointer (some ⟨b, 0, none⟩), .string s, .int .i64 n] w fun e w' => e = .returned (.tuple #[]) ∧ ∃ F', MirRep w' b F' (d.note s n) ∧ Kept F w w' ∧ (∀ k, k ∈ F' → k ∈ F ∨ w.heap.size ≤ k) := by
  have hn := Lib.hid (isName_any s)
  have H0 := Lib.hid h
  unfold PMir.note
  cases hk : nameOk s
  · rw [hk] at hn
    rw [if_neg (by simp)]
    clear h hk
    go_enter Tryd.func31, Tryd.ntmps31
    go_wp2_with (go_at_call 29; refine (hn.out _ hs).mono ?_; rintro e w' ⟨rfl, rfl⟩)
    refine bodyPost_ret (results_none rfl _ _ _) rfl ?_
    exact ⟨rfl, F, H0.out, Kept.refl _ _, fun k hk => .inl hk⟩
  · rw [hk] at hn
    rw [if_pos rfl]
    clear hk
    obtain ⟨mb, aa, ac, M, rfl, h⟩ := h
    have c1 := h.c1
    have H := Lib.hid h
    have hA := (Kept.refl [] w).alloc (.cells #[.string s, .int .i64 n] 34)
    have hsrc := Lib.hid (slc_new w [.string s, .int .i64 n] 2 1 34 w.heap.size rfl rfl (by decide))
    have hownA := Lib.hid (row_kept h.row hA (by simp))
    have hhA := Lib.hid (hA.heap h.head (by simp))
    have hnot : Hid (b ∉ (Value.ownBlock (.slice aa d.asked.length ac)).toList) := Lib.hid (fun hx => ne_kind h.kb (h.ka (Option.mem_toList.1 hx)) (by decide) rfl)
    have HA := Lib.hid hA
    clear h hA
    go_enter Tryd.func31, Tryd.ntmps31
    go_wp2_with (first
      | (go_at_call 29; refine (hn.out _ hs).mono ?_; rintro e w' ⟨rfl, rfl⟩)
      | (at_builtin; refine wpList_append_pos tyDues hownA.out hsrc.out (by simp [Value.oneCell']) (by decide) (by simp only [maxLen]; omega) (by omega) (by simp) (by rfl) (.tmp 13) (.tmp 17) (by rfl) (by rfl) (by rfl) ?_; intro g cap w1 hown1 hk1 hg1; have hb1 := hk1.heap hhA.out hnot.out; have q1 : w1.cell? ⟨b, 1, none⟩ = some (.slice aa d.asked.length ac) := cell_head hb1 rfl; have f1 := free_head (o := 1) hb1; have HB1 := Lib.hid hb1; clear hb1))
    have hlen : (d.asked ++ [(s, n)]).length = d.asked.length + 1 := by simp
    have hcells : askCells d.asked ++ [.string s, .int .i64 n] = askCells (d.asked ++ [(s, n)]) := by rw [askCells_app]; rfl
    rw [hcells, ← hlen] at hown1
    have hM0 := (H.out.kept0 HA.out).setAsked hk1 (l := d.asked ++ [(s, n)]) (by rw [hlen]; omega) hown1
    have hkk := ((Kept.refl [b] w1).setCell (p := ⟨b, 1, none⟩) (.inl (by simp)) (.slice (some ⟨g, 0, none⟩) (d.asked ++ [(s, n)]).length cap)).drew
    have HM := Lib.hid (hM0.kept0 (Kept.refl [] _).drew)
    have HF : Hid (∀ k, k ∈ b :: mb :: (Value.ownBlock (.slice (some ⟨g, 0, none⟩) (d.asked ++ [(s, n)]).length cap)).toList → k ∈ b :: mb :: (Value.ownBlock (.slice aa d.asked.length ac)).toList ∨ w.heap.size ≤ k) := Lib.hid (by
      intro k hk
      simp only [Value.ownBlock, List.mem_cons, Option.mem_toList, Option.some.injEq] at hk
      rcases hk with rfl | rfl | rfl
      · exact .inl (by simp)
      · exact .inl (by simp)
      · rcases hg1 with e | e
        · exact .inl (by simp [e])
        · exact .inr (by rw [e]; simp))
    have HKK : Hid (Kept (b :: mb :: (Value.ownBlock (.slice aa d.asked.length ac)).toList) w (w1.setCell ⟨b, 1, none⟩ (.slice (some ⟨g, 0, none⟩) (d.asked ++ [(s, n)]).length cap)).drew) := Lib.hid (((HA.out.mono (by simp)).trans' (hk1.mono (by intro k hk; simp [hk]))).trans' (hkk.mono (by simp)))
    clear hM0 hkk hown1 hk1 hg1 HB1 q1 f1 hcells
    rw [hlen] at HM HF HKK
    have hfr := HM.out.fr 1
    have hc1 := HM.out.c1
    change World.cell? _ _ = some (.slice _ (d.asked ++ [(s, n)]).length _) at hc1
    rw [hlen] at hc1
    have hSS : (fun w' : World => w'.cell? ⟨b, 1, none⟩ = some (.slice (some ⟨g, 0, none⟩) (d.asked.length + 1) cap)) (w1.setCell ⟨b, 1, none⟩ (.slice (some ⟨g, 0, none⟩) (d.asked.length + 1) cap)).drew := hc1
    refine wp_region_last' (n := 16) (fun w' : World => w'.cell? ⟨b, 1, none⟩ = some (.slice (some ⟨g, 0, none⟩) (d.asked.length + 1) cap)) 15 (by kernel_rfl) (by kernel_rfl) ?_
    change wpAnyT _ _ _ _ _ _ _ _ _ (w1.setCell ⟨b, 1, none⟩ (.slice (some ⟨g, 0, none⟩) (d.asked.length + 1) cap)).drew
    revert HM HF HKK hfr hSS hc1
    generalize (w1.setCell ⟨b, 1, none⟩ (.slice (some ⟨g, 0, none⟩) (d.asked.length + 1) cap)).drew = W
    intro HM HF HKK hfr hc1 hSS
    refine wpAnyT_start ?_
    intro O R hO hR
    have hQp : ∀ c a (d : Nat) v w, R (.panic c) (a.put (some d) v) w → R (.panic c) a w := by subst hR; exact fun _ _ _ _ _ h => h
    have hwrap : IntKind.i64.wrap ((d.asked.length : Int) + 1 - 256) = (d.asked.length : Int) + 1 - 256 := by rw [IntKind.wrap_i64]; omega
    have hmax : (if ((d.asked.length : Int) + 1 - 256) < 0 then (0 : Int) else (d.asked.length : Int) + 1 - 256) = 0 := by split <;> omega
    have hz : (0 : Int) ≤ (d.asked.length : Int) + 1 := by omega
    refine wpAnyT_take' (i := 0) (v := ?_) hO rfl rfl (by kernel_rfl) (by kernel_rfl) (by kernel_rfl) (by kernel_rfl) hQp (Or.inl ⟨by kernel_rfl, fun w hSw => ?_⟩) hSS ?_
    rotate_left
    · have s0 := hSw; go_simp; try with_reducible rfl
    try simp only [Act.put, List.setIfInBounds_toArray, List.set_cons_zero, List.set_cons_succ]
    refine wpAnyT_take' (i := 1) (v := ?_) hO rfl rfl (by kernel_rfl) (by kernel_rfl) (by kernel_rfl) (by kernel_rfl) hQp (Or.inl ⟨by kernel_rfl, fun w hSw => ?_⟩) hSS ?_
    rotate_left
    · have s0 := hSw; go_simp; try with_reducible rfl
    try simp only [Act.put, List.setIfInBounds_toArray, List.set_cons_zero, List.set_cons_succ]
    refine wpAnyT_take' (i := 2) (v := ?_) hO rfl rfl (by kernel_rfl) (by kernel_rfl) (by kernel_rfl) (by kernel_rfl) hQp (Or.inl ⟨by kernel_rfl, fun w hSw => ?_⟩) hSS ?_
    rotate_left
    · have s0 := hSw; go_simp; try with_reducible rfl
    try simp only [Act.put, List.setIfInBounds_toArray, List.set_cons_zero, List.set_cons_succ]
    refine wpAnyT_take' (i := 3) (v := ?_) hO rfl rfl (by kernel_rfl) (by kernel_rfl) (by kernel_rfl) (by kernel_rfl) hQp (Or.inl ⟨by kernel_rfl, fun w hSw => ?_⟩) hSS ?_
    rotate_left
    · have s0 := hSw; go_simp; try with_reducible rfl
    try simp only [Act.put, List.setIfInBounds_toArray, List.set_cons_zero, List.set_cons_succ]
    refine wpAnyT_take' (i := 4) (v := ?_) hO rfl rfl (by kernel_rfl) (by kernel_rfl) (by kernel_rfl) (by kernel_rfl) hQp (Or.inl ⟨by kernel_rfl, fun w hSw => ?_⟩) hSS ?_
    rotate_left
    · have s0 := hSw; go_simp; try with_reducible rfl
    try simp only [Act.put, List.setIfInBounds_toArray, List.set_cons_zero, List.set_cons_succ]
    refine wpAnyT_take' (i := 5) (v := ?_) hO rfl rfl (by kernel_rfl) (by kernel_rfl) (by kernel_rfl) (by kernel_rfl) hQp (Or.inl ⟨by kernel_rfl, fun w hSw => ?_⟩) hSS ?_
    rotate_left
    · have s0 := hSw; go_simp; try with_reducible rfl
    try simp only [Act.put, List.setIfInBounds_toArray, List.set_cons_zero, List.set_cons_succ]
    refine wpAnyT_take' (i := 6) (v := ?_) hO rfl rfl (by kernel_rfl) (by kernel_rfl) (by kernel_rfl) (by kernel_rfl) hQp (Or.inl ⟨by kernel_rfl, fun w hSw => ?_⟩) hSS ?_
    rotate_left
    · have s0 := hSw; go_simp; try with_reducible rfl
    try simp only [Act.put, List.setIfInBounds_toArray, List.set_cons_zero, List.set_cons_succ]
    refine wpAnyT_take' (i := 7) (v := ?_) hO rfl rfl (by kernel_rfl) (by kernel_rfl) (by kernel_rfl) (by kernel_rfl) hQp (Or.inl ⟨by kernel_rfl, fun w hSw => ?_⟩) hSS ?_
    rotate_left
    · have s0 := hSw; go_simp; try with_reducible rfl
    try simp only [Act.put, List.setIfInBounds_toArray, List.set_cons_zero, List.set_cons_succ]
    refine wpAnyT_take' (i := 8) (v := ?_) hO rfl rfl (by kernel_rfl) (by kernel_rfl) (by kernel_rfl) (by kernel_rfl) hQp (Or.inl ⟨by kernel_rfl, fun w hSw => ?_⟩) hSS ?_
    rotate_left
    · have s0 := hSw; go_simp; try with_reducible rfl
    try simp only [Act.put, List.setIfInBounds_toArray, List.set_cons_zero, List.set_cons_succ]
    refine wpAnyT_take' (i := 9) (v := ?_) hO rfl rfl (by kernel_rfl) (by kernel_rfl) (by kernel_rfl) (by kernel_rfl) hQp (Or.inl ⟨by kernel_rfl, fun w hSw => ?_⟩) hSS ?_
    rotate_left
    · have s0 := hSw; go_simp; try with_reducible rfl
    try simp only [Act.put, List.setIfInBounds_toArray, List.set_cons_zero, List.set_cons_succ]
    refine wpAnyT_take' (i := 10) (v := ?_) hO rfl rfl (by kernel_rfl) (by kernel_rfl) (by kernel_rfl) (by kernel_rfl) hQp (Or.inl ⟨by kernel_rfl, fun w hSw => ?_⟩) hSS ?_
    rotate_left
    · have s0 := hSw; go_simp; try with_reducible rfl
    try simp only [Act.put, List.setIfInBounds_toArray, List.set_cons_zero, List.set_cons_succ]
    refine wpAnyT_take' (i := 11) (v := ?_) hO rfl rfl (by kernel_rfl) (by kernel_rfl) (by kernel_rfl) (by kernel_rfl) hQp (Or.inl ⟨by kernel_rfl, fun w hSw => ?_⟩) hSS ?_
    rotate_left
    · have s0 := hSw; go_simp; try with_reducible rfl
    try simp only [Act.put, List.setIfInBounds_toArray, List.set_cons_zero, List.set_cons_succ]
    refine wpAnyT_take' (i := 12) (v := ?_) hO rfl rfl (by kernel_rfl) (by kernel_rfl) (by kernel_rfl) (by kernel_rfl) hQp (Or.inl ⟨by kernel_rfl, fun w hSw => ?_⟩) hSS ?_
    rotate_left
    · have s0 := hSw; go_simp; try with_reducible rfl
    try simp only [Act.put, List.setIfInBounds_toArray, List.set_cons_zero, List.set_cons_succ]
    refine wpAnyT_one' (i := 13) hO rfl (by kernel_rfl) (by kernel_rfl) (fun K hK => ?_)
    go_simp
    refine hK _ _ (.inr hSS) ?_
    clear hK K
    try simp only [Act.put, List.setIfInBounds_toArray, List.set_cons_zero, List.set_cons_succ]
    refine wpAnyT_take' (i := 14) (v := ?_) hO rfl rfl (by kernel_rfl) (by kernel_rfl) (by kernel_rfl) (by kernel_rfl) hQp (Or.inl ⟨by kernel_rfl, fun w hSw => ?_⟩) hSS ?_
    rotate_left
    · have s0 := hSw; go_simp; try with_reducible rfl
    try simp only [Act.put, List.setIfInBounds_toArray, List.set_cons_zero, List.set_cons_succ]
    refine wpAnyT_one' (i := 15) hO rfl (by kernel_rfl) (by kernel_rfl) (fun K hK => ?_)
    go_simp
    refine hK _ _ (.inl rfl) ?_
    clear hK K
    try simp only [Act.put, List.setIfInBounds_toArray, List.set_cons_zero, List.set_cons_succ]
    refine wpAnyT_done' hO (by kernel_rfl) ?_ _
    subst hR
    refine bodyPost_end (results_none rfl _ _ _) rfl ?_
    have hd0 : (d.asked ++ [(s, n)]).drop (d.asked.length + 1 - 256) = d.asked ++ [(s, n)] := by rw [show d.asked.length + 1 - 256 = 0 by omega]; rfl
    rw [hd0]
    have hM := HM.out
    have hr := hM.row
    have hM2 := hM.setAsked (Kept.refl _ W) (l := d.asked ++ [(s, n)]) hM.few hr
    have hF2 := HF.out
    rw [← hlen] at hF2 ⊢
    refine ⟨rfl, _, ⟨mb, some ⟨g, 0, none⟩, cap, M, rfl, hM2⟩, ?_, hF2⟩
    exact HKK.out.trans' ((Kept.refl _ W).setCell (.inl (by simp)) _)
end Go.Proofs.YtfkdoinlbdcaaaaDoor

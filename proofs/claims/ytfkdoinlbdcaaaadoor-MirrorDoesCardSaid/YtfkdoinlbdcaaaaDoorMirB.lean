/- The mirror: note, Asked, Drop. -/
import Derived.Test.YtfkdoinlbdcaaaaDoorMir
import Derived.Lib.AppendZeros
namespace Go.Proofs.YtfkdoinlbdcaaaaDoor
open Go.RowKit
open Go.Maps (Keyed)

theorem askCells_drop (l : List (ByteArray × Int)) (k : Nat) : (askCells l).drop (k * 2) = askCells (l.drop k) := by
  induction k generalizing l with
  | zero => simp
  | succ k ih =>
    cases l with
    | nil => simp [askCells]
    | cons x r =>
      have e : askCells (x :: r) = .string x.1 :: .int .i64 x.2 :: askCells r := rfl
      rw [e, show (k + 1) * 2 = k * 2 + 1 + 1 by omega]
      simpa using ih r
theorem note_few (d : PMir) (s : ByteArray) (n : Int) (hl : d.asked.length ≤ 256) : (d.note s n).asked.length ≤ 256 := by
  unfold PMir.note
  split
  · simp only [List.length_drop, List.length_append, List.length_singleton]; omega
  · exact hl

set_option maxRecDepth 10000 in
set_option maxHeartbeats 1600000 in
theorem note_any {w : World} {b : Nat} {F : List Nat} {d : PMir} (h : MirRep w b F d) (s : ByteArray) (n : Int) (hs : s.size ≤ maxLen) (hl : d.asked.length ≤ 256) :
    Calls Tryd.prog 31 #[.pointer (some ⟨b, 0, none⟩), .string s, .int .i64 n] w fun e w' => e = .returned (.tuple #[]) ∧ ∃ F', MirRep w' b F' (d.note s n) ∧ Kept F w w' ∧ (∀ k, k ∈ F' → k ∈ F ∨ w.heap.size ≤ k) := by
  have hn := Lib.hid (isName_any s)
  have H0 := Lib.hid h
  unfold PMir.note
  cases hk : nameOk s
  · rw [hk] at hn
    rw [if_neg (by simp)]
    clear h hk
    go_enter Tryd.func31, Tryd.ntmps31
    go_wp2_with (go_at_call 29; refine (hn.out _ hs).mono ?_; rintro e w' ⟨rfl, rfl⟩)
    refine bodyPost_ret (results_none rfl _ _ _) rfl ?_
    exact ⟨rfl, F, H0.out, Kept.refl _ _, fun k hk => .inl hk⟩
  · rw [hk] at hn
    rw [if_pos rfl]
    clear hk
    obtain ⟨mb, aa, ac, M, rfl, h⟩ := h
    have c1 := h.c1
    have H := Lib.hid h
    have hA := (Kept.refl [] w).alloc (.cells #[.string s, .int .i64 n] 34)
    have hsrc := slc_new w [.string s, .int .i64 n] 2 1 34 w.heap.size rfl rfl (by decide)
    obtain ⟨g, o, cap, w1, hrun, hT, hk1, hg1⟩ := (h.row.kept hA (by simp)).append tyDues 31 hsrc (by simp [Value.oneCell']) (by decide) (by simp only [maxLen]; omega) (by omega)
    have hnot : b ∉ (tb (.slice aa d.asked.length ac)).toList := fun hx => ne_kind h.kb (h.ka (Option.mem_toList.1 hx)) (by decide) rfl
    have hb1 := hk1.heap (hA.heap h.head (by simp)) hnot
    have q1 : w1.cell? ⟨b, 1, none⟩ = some (.slice aa d.asked.length ac) := cell_head hb1 rfl
    have f1 := free_head (o := 1) hb1
    have HRUN := Lib.hid hrun
    have hlen : (d.asked ++ [(s, n)]).length = d.asked.length + 1 := by simp
    have hcells : askCells d.asked ++ [.string s, .int .i64 n] = askCells (d.asked ++ [(s, n)]) := by rw [askCells_app]; rfl
    rw [hcells, ← hlen] at hT
    have hM0 := (h.kept0 hA).setAsked hk1 (l := d.asked ++ [(s, n)]) (by rw [hlen]; omega) hT
    have hkk := ((Kept.refl [b] w1).setCell (p := ⟨b, 1, none⟩) (.inl (by simp)) (.slice (some ⟨g, o, none⟩) (d.asked ++ [(s, n)]).length cap)).drew
    have HM := Lib.hid (hM0.kept0 (Kept.refl [] _).drew)
    have HF : Hid (∀ o n c, ∀ k, k ∈ b :: mb :: (tb (.slice (some ⟨g, o, none⟩) n c)).toList → k ∈ b :: mb :: (tb (.slice aa d.asked.length ac)).toList ∨ w.heap.size ≤ k) := Lib.hid (by
      intro o n c k hk
      simp only [tb, List.mem_cons, Option.mem_toList, Option.some.injEq] at hk
      rcases hk with rfl | rfl | rfl
      · exact .inl (by simp)
      · exact .inl (by simp)
      · rcases hg1 with e | e
        · exact .inl (by simp [e])
        · exact .inr (by rw [e]; simp))
    have HKK : Hid (Kept (b :: mb :: (tb (.slice aa d.asked.length ac)).toList) w (w1.setCell ⟨b, 1, none⟩ (.slice (some ⟨g, o, none⟩) (d.asked ++ [(s, n)]).length cap)).drew) := Lib.hid (((hA.mono (by simp)).trans' (hk1.mono (by intro k hk; simp [hk]))).trans' (hkk.mono (by simp)))
    have hcap : d.asked.length + 1 ≤ cap := by
      rcases hT.2 with ⟨h2, _⟩ | ⟨g', o', cap', cur, hv, -, h3, -⟩
      · cases h2
      · simp only [Value.slice.injEq] at hv
        obtain ⟨-, -, rfl⟩ := hv
        rw [hlen] at h3
        exact h3
    clear h hA hrun hT hk1 hg1 hb1 hnot hsrc hM0 hkk hcells
    rw [hlen] at HM HKK
    go_enter Tryd.func31, Tryd.ntmps31
    go_wp2_with (first
      | (go_at_call 29; refine (hn.out _ hs).mono ?_; rintro e w' ⟨rfl, rfl⟩)
      | (at_builtin; refine Lib.wpList_append_run _ rfl (.tmp 13) (.tmp 17) _ _ rfl _ _ rfl rfl _ _ HRUN.out ?_))
    clear q1 f1
    have hfr := HM.out.fr 1
    have hc1 := HM.out.c1
    change World.cell? _ _ = some (.slice _ (d.asked ++ [(s, n)]).length _) at hc1
    rw [hlen] at hc1
    have hSS : (fun w' : World => w'.cell? ⟨b, 1, none⟩ = some (.slice (some ⟨g, o, none⟩) (d.asked.length + 1) cap)) (w1.setCell ⟨b, 1, none⟩ (.slice (some ⟨g, o, none⟩) (d.asked.length + 1) cap)).drew := hc1
    refine wp_region_last' (n := 16) (fun w' : World => w'.cell? ⟨b, 1, none⟩ = some (.slice (some ⟨g, o, none⟩) (d.asked.length + 1) cap)) 15 (by kernel_rfl) (by kernel_rfl) ?_
    change wpAnyT _ _ _ _ _ _ _ _ _ (w1.setCell ⟨b, 1, none⟩ (.slice (some ⟨g, o, none⟩) (d.asked.length + 1) cap)).drew
    revert HM HKK hfr hSS hc1
    generalize (w1.setCell ⟨b, 1, none⟩ (.slice (some ⟨g, o, none⟩) (d.asked.length + 1) cap)).drew = W
    intro HM HKK hfr hc1 hSS
    by_cases hfew : d.asked.length < 256
    · have hwrap : IntKind.i64.wrap ((d.asked.length : Int) + 1 - 256) = (d.asked.length : Int) + 1 - 256 := by rw [IntKind.wrap_i64]; omega
      have hmax : (if ((d.asked.length : Int) + 1 - 256) < 0 then (0 : Int) else (d.asked.length : Int) + 1 - 256) = 0 := by split <;> omega
      have hz : (0 : Int) ≤ (d.asked.length : Int) + 1 := by omega
      refine wpAnyT_start ?_
      intro O R hO hR
      have hQp : ∀ c a (d : Nat) v w, R (.panic c) (a.put (some d) v) w → R (.panic c) a w := by subst hR; exact fun _ _ _ _ _ h => h
      refine wpAnyT_take' (i := 0) (v := ?_) hO rfl rfl (by kernel_rfl) (by kernel_rfl) (by kernel_rfl) (by kernel_rfl) hQp (Or.inl ⟨by kernel_rfl, fun w hSw => ?_⟩) hSS ?_
      rotate_left
      · have s0 := hSw; go_simp; try with_reducible rfl
      try simp only [Act.put, List.setIfInBounds_toArray, List.set_cons_zero, List.set_cons_succ]
      refine wpAnyT_take' (i := 1) (v := ?_) hO rfl rfl (by kernel_rfl) (by kernel_rfl) (by kernel_rfl) (by kernel_rfl) hQp (Or.inl ⟨by kernel_rfl, fun w hSw => ?_⟩) hSS ?_
      rotate_left
      · have s0 := hSw; go_simp; try with_reducible rfl
      try simp only [Act.put, List.setIfInBounds_toArray, List.set_cons_zero, List.set_cons_succ]
      refine wpAnyT_take' (i := 2) (v := ?_) hO rfl rfl (by kernel_rfl) (by kernel_rfl) (by kernel_rfl) (by kernel_rfl) hQp (Or.inl ⟨by kernel_rfl, fun w hSw => ?_⟩) hSS ?_
      rotate_left
      · have s0 := hSw; go_simp; try with_reducible rfl
      try simp only [Act.put, List.setIfInBounds_toArray, List.set_cons_zero, List.set_cons_succ]
      refine wpAnyT_take' (i := 3) (v := ?_) hO rfl rfl (by kernel_rfl) (by kernel_rfl) (by kernel_rfl) (by kernel_rfl) hQp (Or.inl ⟨by kernel_rfl, fun w hSw => ?_⟩) hSS ?_
      rotate_left
      · have s0 := hSw; go_simp; try with_reducible rfl
      try simp only [Act.put, List.setIfInBounds_toArray, List.set_cons_zero, List.set_cons_succ]
      refine wpAnyT_take' (i := 4) (v := ?_) hO rfl rfl (by kernel_rfl) (by kernel_rfl) (by kernel_rfl) (by kernel_rfl) hQp (Or.inl ⟨by kernel_rfl, fun w hSw => ?_⟩) hSS ?_
      rotate_left
      · have s0 := hSw; go_simp; try with_reducible rfl
      try simp only [Act.put, List.setIfInBounds_toArray, List.set_cons_zero, List.set_cons_succ]
      refine wpAnyT_take' (i := 5) (v := ?_) hO rfl rfl (by kernel_rfl) (by kernel_rfl) (by kernel_rfl) (by kernel_rfl) hQp (Or.inl ⟨by kernel_rfl, fun w hSw => ?_⟩) hSS ?_
      rotate_left
      · have s0 := hSw; go_simp; try with_reducible rfl
      try simp only [Act.put, List.setIfInBounds_toArray, List.set_cons_zero, List.set_cons_succ]
      refine wpAnyT_take' (i := 6) (v := ?_) hO rfl rfl (by kernel_rfl) (by kernel_rfl) (by kernel_rfl) (by kernel_rfl) hQp (Or.inl ⟨by kernel_rfl, fun w hSw => ?_⟩) hSS ?_
      rotate_left
      · have s0 := hSw; go_simp; try with_reducible rfl
      try simp only [Act.put, List.setIfInBounds_toArray, List.set_cons_zero, List.set_cons_succ]
      refine wpAnyT_take' (i := 7) (v := ?_) hO rfl rfl (by kernel_rfl) (by kernel_rfl) (by kernel_rfl) (by kernel_rfl) hQp (Or.inl ⟨by kernel_rfl, fun w hSw => ?_⟩) hSS ?_
      rotate_left
      · have s0 := hSw; go_simp; try with_reducible rfl
      try simp only [Act.put, List.setIfInBounds_toArray, List.set_cons_zero, List.set_cons_succ]
      refine wpAnyT_take' (i := 8) (v := ?_) hO rfl rfl (by kernel_rfl) (by kernel_rfl) (by kernel_rfl) (by kernel_rfl) hQp (Or.inl ⟨by kernel_rfl, fun w hSw => ?_⟩) hSS ?_
      rotate_left
      · have s0 := hSw; go_simp; try with_reducible rfl
      try simp only [Act.put, List.setIfInBounds_toArray, List.set_cons_zero, List.set_cons_succ]
      refine wpAnyT_take' (i := 9) (v := ?_) hO rfl rfl (by kernel_rfl) (by kernel_rfl) (by kernel_rfl) (by kernel_rfl) hQp (Or.inl ⟨by kernel_rfl, fun w hSw => ?_⟩) hSS ?_
      rotate_left
      · have s0 := hSw; go_simp; try with_reducible rfl
      try simp only [Act.put, List.setIfInBounds_toArray, List.set_cons_zero, List.set_cons_succ]
      refine wpAnyT_take' (i := 10) (v := ?_) hO rfl rfl (by kernel_rfl) (by kernel_rfl) (by kernel_rfl) (by kernel_rfl) hQp (Or.inl ⟨by kernel_rfl, fun w hSw => ?_⟩) hSS ?_
      rotate_left
      · have s0 := hSw; go_simp; try with_reducible rfl
      try simp only [Act.put, List.setIfInBounds_toArray, List.set_cons_zero, List.set_cons_succ]
      refine wpAnyT_take' (i := 11) (v := ?_) hO rfl rfl (by kernel_rfl) (by kernel_rfl) (by kernel_rfl) (by kernel_rfl) hQp (Or.inl ⟨by kernel_rfl, fun w hSw => ?_⟩) hSS ?_
      rotate_left
      · have s0 := hSw; go_simp; try with_reducible rfl
      try simp only [Act.put, List.setIfInBounds_toArray, List.set_cons_zero, List.set_cons_succ]
      refine wpAnyT_take' (i := 12) (v := ?_) hO rfl rfl (by kernel_rfl) (by kernel_rfl) (by kernel_rfl) (by kernel_rfl) hQp (Or.inl ⟨by kernel_rfl, fun w hSw => ?_⟩) hSS ?_
      rotate_left
      · have s0 := hSw; go_simp; try with_reducible rfl
      try simp only [Act.put, List.setIfInBounds_toArray, List.set_cons_zero, List.set_cons_succ]
      refine wpAnyT_one' (i := 13) hO rfl (by kernel_rfl) (by kernel_rfl) (fun K hK => ?_)
      go_simp
      refine hK _ _ (.inr hSS) ?_
      clear hK K
      try simp only [Act.put, List.setIfInBounds_toArray, List.set_cons_zero, List.set_cons_succ]
      refine wpAnyT_take' (i := 14) (v := ?_) hO rfl rfl (by kernel_rfl) (by kernel_rfl) (by kernel_rfl) (by kernel_rfl) hQp (Or.inl ⟨by kernel_rfl, fun w hSw => ?_⟩) hSS ?_
      rotate_left
      · have s0 := hSw; go_simp; try with_reducible rfl
      try simp only [Act.put, List.setIfInBounds_toArray, List.set_cons_zero, List.set_cons_succ]
      refine wpAnyT_one' (i := 15) hO rfl (by kernel_rfl) (by kernel_rfl) (fun K hK => ?_)
      go_simp
      refine hK _ _ (.inl rfl) ?_
      clear hK K
      try simp only [Act.put, List.setIfInBounds_toArray, List.set_cons_zero, List.set_cons_succ]
      refine wpAnyT_done' hO (by kernel_rfl) ?_ _
      subst hR
      refine bodyPost_end (results_none rfl _ _ _) rfl ?_
      have hd0 : (d.asked ++ [(s, n)]).drop (d.asked.length + 1 - 256) = d.asked ++ [(s, n)] := by rw [show d.asked.length + 1 - 256 = 0 by omega]; rfl
      rw [hd0]
      have hM := HM.out
      have hM2 := hM.setAsked (Kept.refl _ W) (l := d.asked ++ [(s, n)]) hM.few hM.row
      rw [← hlen]
      refine ⟨rfl, _, ⟨mb, some ⟨g, o, none⟩, cap, M, rfl, hM2⟩, ?_, HF.out _ _ _⟩
      exact HKK.out.trans' ((Kept.refl _ W).setCell (.inl (by simp)) _)
    · have h256 : d.asked.length = 256 := by omega
      have hcap1 : ¬ cap = 1 := by omega
      have hwrap : IntKind.i64.wrap ((d.asked.length : Int) + 1 - 256) = (d.asked.length : Int) + 1 - 256 := by rw [IntKind.wrap_i64]; omega
      have hmax : (if ((d.asked.length : Int) + 1 - 256) < 0 then (0 : Int) else (d.asked.length : Int) + 1 - 256) = 1 := by split <;> omega
      have hz : (1 : Int) ≤ (d.asked.length : Int) + 1 := by omega
      have h256' := Lib.hid h256
      clear h256
      refine wpAnyT_start ?_
      intro O R hO hR
      have hQp : ∀ c a (d : Nat) v w, R (.panic c) (a.put (some d) v) w → R (.panic c) a w := by subst hR; exact fun _ _ _ _ _ h => h
      refine wpAnyT_take' (i := 0) (v := ?_) hO rfl rfl (by kernel_rfl) (by kernel_rfl) (by kernel_rfl) (by kernel_rfl) hQp (Or.inl ⟨by kernel_rfl, fun w hSw => ?_⟩) hSS ?_
      rotate_left
      · have s0 := hSw; go_simp; try with_reducible rfl
      try simp only [Act.put, List.setIfInBounds_toArray, List.set_cons_zero, List.set_cons_succ]
      refine wpAnyT_take' (i := 1) (v := ?_) hO rfl rfl (by kernel_rfl) (by kernel_rfl) (by kernel_rfl) (by kernel_rfl) hQp (Or.inl ⟨by kernel_rfl, fun w hSw => ?_⟩) hSS ?_
      rotate_left
      · have s0 := hSw; go_simp; try with_reducible rfl
      try simp only [Act.put, List.setIfInBounds_toArray, List.set_cons_zero, List.set_cons_succ]
      refine wpAnyT_take' (i := 2) (v := ?_) hO rfl rfl (by kernel_rfl) (by kernel_rfl) (by kernel_rfl) (by kernel_rfl) hQp (Or.inl ⟨by kernel_rfl, fun w hSw => ?_⟩) hSS ?_
      rotate_left
      · have s0 := hSw; go_simp; try with_reducible rfl
      try simp only [Act.put, List.setIfInBounds_toArray, List.set_cons_zero, List.set_cons_succ]
      refine wpAnyT_take' (i := 3) (v := ?_) hO rfl rfl (by kernel_rfl) (by kernel_rfl) (by kernel_rfl) (by kernel_rfl) hQp (Or.inl ⟨by kernel_rfl, fun w hSw => ?_⟩) hSS ?_
      rotate_left
      · have s0 := hSw; go_simp; try with_reducible rfl
      try simp only [Act.put, List.setIfInBounds_toArray, List.set_cons_zero, List.set_cons_succ]
      refine wpAnyT_take' (i := 4) (v := ?_) hO rfl rfl (by kernel_rfl) (by kernel_rfl) (by kernel_rfl) (by kernel_rfl) hQp (Or.inl ⟨by kernel_rfl, fun w hSw => ?_⟩) hSS ?_
      rotate_left
      · have s0 := hSw; go_simp; try with_reducible rfl
      try simp only [Act.put, List.setIfInBounds_toArray, List.set_cons_zero, List.set_cons_succ]
      refine wpAnyT_take' (i := 5) (v := ?_) hO rfl rfl (by kernel_rfl) (by kernel_rfl) (by kernel_rfl) (by kernel_rfl) hQp (Or.inl ⟨by kernel_rfl, fun w hSw => ?_⟩) hSS ?_
      rotate_left
      · have s0 := hSw; go_simp; try with_reducible rfl
      try simp only [Act.put, List.setIfInBounds_toArray, List.set_cons_zero, List.set_cons_succ]
      refine wpAnyT_take' (i := 6) (v := ?_) hO rfl rfl (by kernel_rfl) (by kernel_rfl) (by kernel_rfl) (by kernel_rfl) hQp (Or.inl ⟨by kernel_rfl, fun w hSw => ?_⟩) hSS ?_
      rotate_left
      · have s0 := hSw; go_simp; try with_reducible rfl
      try simp only [Act.put, List.setIfInBounds_toArray, List.set_cons_zero, List.set_cons_succ]
      refine wpAnyT_take' (i := 7) (v := ?_) hO rfl rfl (by kernel_rfl) (by kernel_rfl) (by kernel_rfl) (by kernel_rfl) hQp (Or.inl ⟨by kernel_rfl, fun w hSw => ?_⟩) hSS ?_
      rotate_left
      · have s0 := hSw; go_simp; try with_reducible rfl
      try simp only [Act.put, List.setIfInBounds_toArray, List.set_cons_zero, List.set_cons_succ]
      refine wpAnyT_take' (i := 8) (v := ?_) hO rfl rfl (by kernel_rfl) (by kernel_rfl) (by kernel_rfl) (by kernel_rfl) hQp (Or.inl ⟨by kernel_rfl, fun w hSw => ?_⟩) hSS ?_
      rotate_left
      · have s0 := hSw; go_simp; try with_reducible rfl
      try simp only [Act.put, List.setIfInBounds_toArray, List.set_cons_zero, List.set_cons_succ]
      refine wpAnyT_take' (i := 9) (v := ?_) hO rfl rfl (by kernel_rfl) (by kernel_rfl) (by kernel_rfl) (by kernel_rfl) hQp (Or.inl ⟨by kernel_rfl, fun w hSw => ?_⟩) hSS ?_
      rotate_left
      · have s0 := hSw; go_simp; try with_reducible rfl
      try simp only [Act.put, List.setIfInBounds_toArray, List.set_cons_zero, List.set_cons_succ]
      refine wpAnyT_take' (i := 10) (v := ?_) hO rfl rfl (by kernel_rfl) (by kernel_rfl) (by kernel_rfl) (by kernel_rfl) hQp (Or.inl ⟨by kernel_rfl, fun w hSw => ?_⟩) hSS ?_
      rotate_left
      · have s0 := hSw; go_simp; try with_reducible rfl
      try simp only [Act.put, List.setIfInBounds_toArray, List.set_cons_zero, List.set_cons_succ]
      refine wpAnyT_take' (i := 11) (v := ?_) hO rfl rfl (by kernel_rfl) (by kernel_rfl) (by kernel_rfl) (by kernel_rfl) hQp (Or.inl ⟨by kernel_rfl, fun w hSw => ?_⟩) hSS ?_
      rotate_left
      · have s0 := hSw; go_simp; try with_reducible rfl
      try simp only [Act.put, List.setIfInBounds_toArray, List.set_cons_zero, List.set_cons_succ]
      refine wpAnyT_take' (i := 12) (v := ?_) hO rfl rfl (by kernel_rfl) (by kernel_rfl) (by kernel_rfl) (by kernel_rfl) hQp (Or.inl ⟨by kernel_rfl, fun w hSw => ?_⟩) hSS ?_
      rotate_left
      · have s0 := hSw; go_simp; try with_reducible rfl
      try simp only [Act.put, List.setIfInBounds_toArray, List.set_cons_zero, List.set_cons_succ]
      refine wpAnyT_one' (i := 13) hO rfl (by kernel_rfl) (by kernel_rfl) (fun K hK => ?_)
      go_simp
      refine hK _ _ (.inr hSS) ?_
      clear hK K
      try simp only [Act.put, List.setIfInBounds_toArray, List.set_cons_zero, List.set_cons_succ]
      refine wpAnyT_take' (i := 14) (v := ?_) hO rfl rfl (by kernel_rfl) (by kernel_rfl) (by kernel_rfl) (by kernel_rfl) hQp (Or.inl ⟨by kernel_rfl, fun w hSw => ?_⟩) hSS ?_
      rotate_left
      · have s0 := hSw; go_simp; try with_reducible rfl
      try simp only [Act.put, List.setIfInBounds_toArray, List.set_cons_zero, List.set_cons_succ]
      refine wpAnyT_one' (i := 15) hO rfl (by kernel_rfl) (by kernel_rfl) (fun K hK => ?_)
      go_simp
      refine hK _ _ (.inl rfl) ?_
      clear hK K
      try simp only [Act.put, List.setIfInBounds_toArray, List.set_cons_zero, List.set_cons_succ]
      refine wpAnyT_done' hO (by kernel_rfl) ?_ _
      subst hR
      refine bodyPost_end (results_none rfl _ _ _) rfl ?_
      have hd1 : (d.asked ++ [(s, n)]).drop (d.asked.length + 1 - 256) = (d.asked ++ [(s, n)]).drop 1 := by rw [show d.asked.length + 1 - 256 = 1 by have := h256'.out; omega]
      rw [hd1]
      have hM := HM.out
      have hr := hM.row.drop 1 (by simp)
      rw [askCells_drop] at hr
      have hll : ((d.asked ++ [(s, n)]).drop 1).length = d.asked.length := by simp
      have hl2 : (d.asked ++ [(s, n)]).length - 1 = d.asked.length := by simp
      change Tail W _ 2 (.slice (some ⟨g, o + 2, none⟩) ((d.asked ++ [(s, n)]).length - 1) (cap - 1)) ((d.asked ++ [(s, n)]).length - 1) _ at hr
      rw [hl2, ← hll] at hr
      have hM2 := hM.setAsked (Kept.refl _ W) (l := (d.asked ++ [(s, n)]).drop 1) (by rw [hll]; have := h256'.out; omega) hr
      rw [hll] at hM2
      refine ⟨rfl, _, ⟨mb, some ⟨g, o + 2, none⟩, cap - 1, M, rfl, hM2⟩, ?_, HF.out _ _ _⟩
      exact HKK.out.trans' ((Kept.refl _ W).setCell (.inl (by simp)) _)
end Go.Proofs.YtfkdoinlbdcaaaaDoor

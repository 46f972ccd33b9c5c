/- The document's mirror: note, Put. -/
import Derived.Test.YtfkdoinlbdcaaaaDoorMRefD
namespace Go.Proofs.YtfkdoinlbdcaaaaDoor
open Go.RowKit

def NotePost (w : World) (b : Nat) (F : List Nat) (d : PMir) (w' : World) : Prop := ∃ F', RMirRep w' b F' d ∧ Kept F w w' ∧ (∀ k, k ∈ F' → k ∈ F ∨ w.heap.size ≤ k)
theorem drop_few (l : List (ByteArray × Int)) (e : ByteArray × Int) (h : l.length ≤ 255) : (l ++ [e]).drop (l.length + 1 - 256) = l ++ [e] := by rw [show l.length + 1 - 256 = 0 by omega]; rfl

set_option maxRecDepth 10000 in
set_option maxHeartbeats 1600000 in
theorem rnote_any {w : World} {b : Nat} {F : List Nat} {d : PMir} (h : RMirRep w b F d) (s : ByteArray) (n : Int) (hs : s.size ≤ maxLen) (hl : d.asked.length ≤ 256) :
    Calls Tryd.prog 46 #[.pointer (some ⟨b, 0, none⟩), .string s, .int .i64 n] w fun e w' => e = .returned (.tuple #[]) ∧ NotePost w b F (d.note s n) w' := by
  have H0 := Lib.hid h
  have hsI : (s.size : Int) ≤ 9223372036854775807 := by simp only [maxLen] at hs; omega
  unfold PMir.note
  cases hk : nameOk s
  · have hk' : ¬(0 < s.size ∧ s.size ≤ 256) := by simpa [nameOk] using hk
    rw [if_neg (by simp)]
    clear h hk
    have hpost : NotePost w b F d w := ⟨F, H0.out, Kept.refl _ _, fun k hk => .inl hk⟩
    have HPO := Lib.hid hpost
    clear hpost
    by_cases h1 : (s.size : Int) < 1
    · clear hk' hs
      go_enter Tryd.func46, Tryd.ntmps46
      go_wp2
      refine bodyPost_ret (results_none rfl _ _ _) rfl ?_
      exact ⟨rfl, HPO.out⟩
    · have h2 : (256 : Int) < s.size := by omega
      clear hk' hs
      go_enter Tryd.func46, Tryd.ntmps46
      go_wp2
      refine bodyPost_ret (results_none rfl _ _ _) rfl ?_
      exact ⟨rfl, HPO.out⟩
  · have hk' : 0 < s.size ∧ s.size ≤ 256 := by simpa [nameOk] using hk
    rw [if_pos rfl]
    obtain ⟨k1, k2⟩ := hk'
    have h1 : ¬(s.size : Int) < 1 := by omega
    have h2 : ¬(256 : Int) < s.size := by omega
    clear hk hs k1 k2
    obtain ⟨la, lc, aa, ac, rs, rows, fs, rfl, h⟩ := h
    have c1 := h.c1
    have H := Lib.hid h
    have hA := (Kept.refl [] w).alloc (.cells #[.string s, .int .i64 n] 34)
    have hsrc := slc_new w [.string s, .int .i64 n] 2 1 34 w.heap.size rfl rfl (by decide)
    obtain ⟨g, o, cap, w1, hrun, hT, hk1, hg1⟩ := (h.row.kept hA (by simp)).append tyDues 31 hsrc (by simp [Value.oneCell']) (by decide) (by simp only [maxLen]; omega) (by omega)
    have hnot : b ∉ (tb (.slice aa d.asked.length ac)).toList := fun hx => ne_kind h.kb (h.ka (Option.mem_toList.1 hx)) (by decide) rfl
    have hb1 := hk1.heap (hA.heap h.head (by simp)) hnot
    have q1 : w1.cell? ⟨b, 1, none⟩ = some (.slice aa d.asked.length ac) := cell_head hb1 rfl
    have f1 := free_head (o := 1) hb1
    have HRUN := Lib.hid hrun
    have hlen : (d.asked ++ [(s, n)]).length = d.asked.length + 1 := by simp
    have hcells : askCells d.asked ++ [.string s, .int .i64 n] = askCells (d.asked ++ [(s, n)]) := by rw [askCells_app]; rfl
    rw [hcells, ← hlen] at hT
    have hM0 := (h.kept0 hA).setAsked hk1 (l := d.asked ++ [(s, n)]) (by rw [hlen]; omega) hT
    have hkk : Kept [b] w1 (w1.setCell ⟨b, 1, none⟩ (.slice (some ⟨g, o, none⟩) (d.asked ++ [(s, n)]).length cap)) := (Kept.refl [b] w1).setCell (p := ⟨b, 1, none⟩) (.inl (by simp)) (.slice (some ⟨g, o, none⟩) (d.asked ++ [(s, n)]).length cap)
    have HM := Lib.hid hM0
    have HF : Hid (∀ o n c, ∀ k, k ∈ b :: ((vblk (.slice la rows.length lc)).toList ++ (tb (.slice (some ⟨g, o, none⟩) n c)).toList) → k ∈ b :: ((vblk (.slice la rows.length lc)).toList ++ (tb (.slice aa d.asked.length ac)).toList) ∨ w.heap.size ≤ k) := Lib.hid (by
      intro o n c k hk
      simp only [tb, List.mem_cons, List.mem_append, Option.mem_toList, Option.some.injEq] at hk
      rcases hk with rfl | hk | rfl
      · exact .inl (by simp)
      · exact .inl (by simp [hk])
      · rcases hg1 with e | e
        · exact .inl (by simp [e])
        · exact .inr (by rw [e]; simp))
    have HKK : Hid (Kept (b :: ((vblk (.slice la rows.length lc)).toList ++ (tb (.slice aa d.asked.length ac)).toList)) w (w1.setCell ⟨b, 1, none⟩ (.slice (some ⟨g, o, none⟩) (d.asked ++ [(s, n)]).length cap))) := Lib.hid (((hA.mono (by simp)).trans' (hk1.mono (by intro k hk; simp at hk; simp [hk]))).trans' (hkk.mono (by simp)))
    have hcap : d.asked.length + 1 ≤ cap := by
      rcases hT.2 with ⟨h2, _⟩ | ⟨g', o', cap', cur, hv, -, h3, -⟩
      · cases h2
      · simp only [Value.slice.injEq] at hv
        obtain ⟨-, -, rfl⟩ := hv
        rw [hlen] at h3
        exact h3
    clear h hA hrun hT hk1 hg1 hb1 hnot hsrc hM0 hkk hcells
    rw [hlen] at HM HKK
    obtain ⟨D, hD⟩ : ∃ D, D = (d.asked ++ [(s, n)]).drop (d.asked.length + 1 - 256) := ⟨_, rfl⟩
    rw [← hD]
    have HD := Lib.hid hD
    clear hD
    by_cases hfew : d.asked.length < 256
    · have h256 : ¬(256 : Int) < d.asked.length + 1 := by omega
      clear hcap
      go_enter Tryd.func46, Tryd.ntmps46
      go_wp2_with (at_builtin; refine Lib.wpList_append_run _ rfl (.tmp 18) (.tmp 22) _ _ rfl _ _ rfl rfl _ _ HRUN.out ?_)
      refine bodyPost_end (results_none rfl _ _ _) rfl ?_
      have hd0 := drop_few d.asked (s, n) (by omega)
      rw [HD.out, hd0]
      have hM := HM.out
      rw [← hlen] at hM
      exact ⟨rfl, _, ⟨la, lc, some ⟨g, o, none⟩, cap, rs, rows, fs, rfl, by rw [← hlen]; exact hM⟩, HKK.out, HF.out _ _ _⟩
    · have h256 : d.asked.length = 256 := by omega
      have hcap1 : ¬ cap = 1 := by omega
      have h256I : (256 : Int) < d.asked.length + 1 := by omega
      have h256' := Lib.hid h256
      have hfr := HM.out.fr 1
      have hc1 := HM.out.c1
      change World.cell? _ _ = some (.slice _ (d.asked ++ [(s, n)]).length _) at hc1
      rw [hlen] at hc1
      clear h256
      go_enter Tryd.func46, Tryd.ntmps46
      go_wp2_with (at_builtin; refine Lib.wpList_append_run _ rfl (.tmp 18) (.tmp 22) _ _ rfl _ _ rfl rfl _ _ HRUN.out ?_)
      all_goals
        refine bodyPost_end (results_none rfl _ _ _) rfl ?_
        have hd1 : D = (d.asked ++ [(s, n)]).drop 1 := by rw [HD.out, show d.asked.length + 1 - 256 = 1 by have := h256'.out; omega]
        rw [hd1]
        clear hfr hc1
        revert HM HKK
        generalize w1.setCell ⟨b, 1, none⟩ (.slice (some ⟨g, o, none⟩) (d.asked.length + 1) cap) = W
        intro HM HKK
        have hM := HM.out
        have hr := hM.row.drop 1 (by simp)
        rw [askCells_drop] at hr
        have hll : ((d.asked ++ [(s, n)]).drop 1).length = d.asked.length := by simp
        have hl2 : (d.asked ++ [(s, n)]).length - 1 = d.asked.length := by simp
        change Tail _ _ 2 (.slice (some ⟨g, o + 2, none⟩) ((d.asked ++ [(s, n)]).length - 1) (cap - 1)) ((d.asked ++ [(s, n)]).length - 1) _ at hr
        rw [hl2, ← hll] at hr
        have hM2 := hM.setAsked (Kept.refl _ _) (l := (d.asked ++ [(s, n)]).drop 1) (by rw [hll]; have := h256'.out; omega) hr
        rw [hll] at hM2
        refine ⟨rfl, _, ⟨la, lc, some ⟨g, o + 2, none⟩, cap - 1, rs, rows, fs, rfl, hM2⟩, ?_, HF.out _ _ _⟩
        exact HKK.out.trans' ((Kept.refl _ _).setCell (.inl (by simp)) _)
end Go.Proofs.YtfkdoinlbdcaaaaDoor

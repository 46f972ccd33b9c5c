/- The document's Drop and Put on files in a slice. -/
import Derived.Test.YtfkdoinlbdcaaaaDoorMRef
namespace Go.Proofs.YtfkdoinlbdcaaaaDoor
open Go.RowKit

def dropR (s : ByteArray) (l : List Row2) : List Row2 := l.filter (fun r => decide (r.1 ≠ s))
theorem dropR_len (s : ByteArray) (l : List Row2) : (dropR s l).length ≤ l.length := List.length_filter_le _ _
theorem dropR_snoc (s : ByteArray) (l : List Row2) (r : Row2) : dropR s (l ++ [r]) = if r.1 = s then dropR s l else dropR s l ++ [r] := by
  unfold dropR
  rw [List.filter_append]
  by_cases h : r.1 = s <;> simp [h]

set_option maxRecDepth 10000 in
set_option maxHeartbeats 1600000 in
theorem refDrop2_any {w : World} {v : Value} {l : List Row2} (h : Slc w 2 v l.length (fileCells l)) (hs : Sl l) (s : ByteArray) (hl : l.length ≤ 100000) :
    Calls Tryd.prog 45 #[v, .string s] w fun e w' => ∃ v', e = .returned v' ∧ w'.ownsRow w.heap.size 58 2 v' (dropR s l).length (fileCells (dropR s l)) ∧ Kept [] w w' := by
  obtain ⟨a, c, rfl, -, -⟩ := h.form
  have H := Lib.hid h
  have HS := Lib.hid hs
  have hlI : (l.length : Int) ≤ 100000 := by omega
  have HL := Lib.hid hl
  clear h hs hl
  go_enter Tryd.func45, Tryd.ntmps45
  go_wp2
  go_loopw [5, 6] (fun ov i wr => ∃ (k n : Nat), i = .int .i64 k ∧ k ≤ l.length ∧ n = (dropR s (l.take k)).length ∧ wr.ownsRow w.heap.size 58 2 ov n (fileCells (dropR s (l.take k))) ∧ Kept [] w wr) (fun _ i _ => l.length - (intOf i).toNat)
  case atStart => exact ⟨0, 0, rfl, Nat.zero_le _, by simp [dropR], by simpa [dropR, fileCells] using World.ownsRow_nil _ _ _ _, Kept.refl _ _⟩
  case round =>
    obtain ⟨k, n, rfl, hk, hn, hown, hkr⟩ := hrel
    have HN := Lib.hid hn
    have HO := Lib.hid hown
    have HK := Lib.hid hkr
    have hnk : n ≤ k := by rw [hn]; exact Nat.le_trans (dropR_len _ _) (List.length_take_le _ _)
    clear hn hown hkr
    by_cases hlt : k < l.length
    · have hltI : (k : Int) < l.length := by omega
      obtain ⟨g, o, rfl, q0, q1⟩ := files_at H.out HK.out k hlt
      have HT : Hid (l.take (k + 1) = l.take k ++ [l[k]]) := Lib.hid (List.take_succ_eq_append_getElem hlt)
      obtain ⟨ba, bn, bc, hbd⟩ := HS.out l[k] (List.getElem_mem _)
      have hb := str_beq l[k].1 s
      revert q0 q1 HT hb hbd
      generalize l[k] = r
      obtain ⟨nm, bd⟩ := r
      intro q0 q1 HT hbd hb
      simp only at q0 q1 hb hbd
      subst hbd
      have HD := Lib.hid (dropR_snoc s (l.take k) (nm, .slice ba bn bc))
      by_cases he : nm = s
      · rw [decide_eq_true he] at hb
        have HE := Lib.hid he
        clear he
        go_wp2_with fail
        case roundEnd =>
          refine ⟨⟨k + 1, n, by go_num, by omega, ?_, ?_, HK.out⟩, by simp [intOf]; omega⟩
          · rw [HT.out, HD.out, if_pos HE.out]; exact HN.out
          · rw [HT.out, HD.out, if_pos HE.out]; exact HO.out
      · rw [decide_eq_false he] at hb
        have HE := Lib.hid he
        clear he
        have hA := (Kept.refl [] wr).alloc (.cells #[.string nm, .slice ba bn bc] 58)
        have hsrc := Lib.hid (slc_new wr [.string nm, .slice ba bn bc] 2 1 58 wr.heap.size rfl rfl (by decide))
        have hown2 := Lib.hid (row_kept HO.out hA (by simp))
        have hsz := HK.out.size
        have HA := Lib.hid hA
        have hll := HL.out
        clear hA
        go_wp2_with (at_builtin; refine wpList_append_slc tyFiles hown2.out hsrc.out (by simp [Value.oneCell']) (by simp only [maxLen]; omega) (by omega) (by simp; omega) rfl _ _ rfl rfl rfl ?_; intro v' w1 hown1 hk1 _ hb1; have HO1 := Lib.hid hown1; have HK1 : Hid (Kept [] w w1) := Lib.hid ((HK.out.trans' HA.out).trans hk1 (fun i hi => .inr (by simp only [Option.mem_toList] at hi; exact (HO.out.lt i hi).1))); clear hown1 hk1 hb1)
        case roundEnd =>
          refine ⟨⟨k + 1, n + 1, by go_num, by omega, ?_, ?_, HK1.out⟩, by simp [intOf]; omega⟩
          · rw [HT.out, HD.out, if_neg HE.out, List.length_append, ← HN.out]; rfl
          · rw [HT.out, HD.out, if_neg HE.out, fileCells_app]; exact HO1.out
    · obtain rfl : k = l.length := by omega
      have HT : Hid (l.take l.length = l) := Lib.hid List.take_length
      go_wp2_with fail
      go_ret
      rw [HT.out] at HN HO
      exact ⟨_, rfl, by rw [← HN.out]; exact HO.out, HK.out⟩
end Go.Proofs.YtfkdoinlbdcaaaaDoor

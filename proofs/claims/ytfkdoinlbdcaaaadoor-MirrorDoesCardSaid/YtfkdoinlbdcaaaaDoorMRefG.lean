/- The document's mirror: Drop, Fetch. -/
import Derived.Test.YtfkdoinlbdcaaaaDoorMRefF
namespace Go.Proofs.YtfkdoinlbdcaaaaDoor
open Go.RowKit

theorem drop_both {Q : Value → List UInt8 → Prop} (s : ByteArray) : ∀ (rows : List Row2) (fs : List PF), All2 (fun r f => r.1 = f.1 ∧ Q r.2 f.2) rows fs → All2 (fun r f => r.1 = f.1 ∧ Q r.2 f.2) (dropR s rows) (fs.filter (fun r => decide (r.1 ≠ s)))
  | [], fs, h => by
    have : fs = [] := List.eq_nil_of_length_eq_zero h.1.symm
    subst this
    exact All2.nil _
  | r :: rows, [], h => by have := h.1; simp at this
  | r :: rows, f :: fs, h => by
    have h1 := h.2 0 r f rfl rfl
    have ht : All2 (fun r f => r.1 = f.1 ∧ Q r.2 f.2) rows fs := by simpa using h.drop 1
    have ih := drop_both s rows fs ht
    unfold dropR at *
    by_cases e : r.1 = s
    · have e2 : f.1 = s := by rw [← h1.1]; exact e
      rw [List.filter_cons, if_neg (by simpa using e), List.filter_cons, if_neg (by simpa using e2)]
      exact ih
    · have e2 : f.1 ≠ s := by rw [← h1.1]; exact e
      rw [List.filter_cons, if_pos (by simpa using e), List.filter_cons, if_pos (by simpa using e2)]
      exact ih.cons h1

set_option maxRecDepth 10000 in
set_option maxHeartbeats 1600000 in
theorem rdrop_any {w : World} {b : Nat} {F : List Nat} {d : PMir} (h : RMirRep w b F d) (s : ByteArray) :
    Calls Tryd.prog 36 #[.pointer (some ⟨b, 0, none⟩), .string s] w fun e w' => e = .returned (.int .i64 (d.drop s).1) ∧ NotePost w b F (d.drop s).2 w' := by
  have H0 := Lib.hid h
  obtain ⟨la, lc, aa, ac, rs, rows, fs, rfl, h⟩ := h
  have c0 := h.c0
  have hr := h.len
  have hcn := h.cnt
  have hget := Lib.hid (refGet_any h.files s (by omega))
  have hdrp := Lib.hid (refDrop2_any h.files h.sl s (by omega))
  have HPO : Hid (NotePost w b (b :: ((vblk (.slice la rows.length lc)).toList ++ (tb (.slice aa d.asked.length ac)).toList)) d w) := Lib.hid ⟨_, H0.out, Kept.refl _ _, fun k hk => .inl hk⟩
  unfold PMir.drop
  rcases h.get s with ⟨hn, hg⟩ | ⟨l, a1, c1, hn, hg, -, -⟩
  · rw [if_pos hn]
    rw [hg] at hget
    simp only at hget
    clear h hn hg hdrp hr hcn
    go_enter Tryd.func36, Tryd.ntmps36
    go_wp2_with (go_at_call 43; refine hget.out.mono ?_; rintro e w' ⟨rfl, rfl⟩)
    go_ret
    exact ⟨rfl, HPO.out⟩
  · rw [if_neg (by rw [hn]; simp)]
    rw [hg] at hget
    simp only at hget
    have hne : Hid (d.file s.data.toList ≠ none) := Lib.hid (by rw [hn]; simp)
    have H := Lib.hid h
    clear h hn hg HPO H0 hr hcn
    go_enter Tryd.func36, Tryd.ntmps36
    go_wp2_with (first
      | (go_at_call 43; refine hget.out.mono ?_; rintro e w' ⟨rfl, rfl⟩)
      | (go_at_call 45; refine hdrp.out.mono ?_; rintro e w1 ⟨v2, rfl, hown, hk1⟩; obtain ⟨a2, cc2, rfl, -, -⟩ := (Slc.of_row hown).form; have hfr : w1.frozen? ⟨b, 0, none⟩ = false := (H.out.kept0 hk1).fr 0; have c0' : w1.cell? ⟨b, 0, none⟩ = some (.slice la rows.length lc) := hk1.cell c0 (by simp); have HOWN := Lib.hid hown; have HK1 := Lib.hid hk1; clear hown hk1))
    go_ret
    refine ⟨rfl, ?_⟩
    have ha := H.out.agree.dropped s hne.out
    have hb := drop_both s _ _ (H.out.kept0 HK1.out).bodies
    have hM := H.out.setFiles HK1.out (Slc.of_row HOWN.out) (fun g hg => row_kind HOWN.out (own_of_vblk hg)) hb ha (fun f hf => H.out.small f (List.mem_filter.1 hf).1) (Nat.le_trans (List.length_filter_le _ _) H.out.cnt) rfl rfl
    refine ⟨_, ⟨a2, cc2, aa, ac, rs, dropR s rows, _, rfl, hM⟩, (HK1.out.mono (by simp)).trans' ((Kept.refl _ w1).setCell (.inl (by simp)) _), ?_⟩
    intro k hk
    simp only [List.mem_cons, List.mem_append, Option.mem_toList] at hk
    rcases hk with rfl | hk | hk
    · exact .inl (by simp)
    · exact .inr (HOWN.out.lt k (own_of_vblk hk)).1
    · exact .inl (by
        have : tb (.slice aa d.asked.length ac) = some k := hk
        simp [this])

def RFetchPost (w : World) (b : Nat) (F : List Nat) (r : (List UInt8 × Int) × PMir) (e : Ending) (w' : World) : Prop :=
  ∃ v, e = .returned (.tuple #[v, .int .i64 r.1.2]) ∧ Data w' v r.1.1 ∧ NotePost w b F r.2 w'

set_option maxRecDepth 10000 in
set_option maxHeartbeats 3200000 in
theorem rfetch_any {w : World} {b : Nat} {F : List Nat} {d : PMir} (h : RMirRep w b F d) (s : ByteArray) (hs : s.size ≤ maxLen) (n : Int) (hn : n ≤ 9223372036854775806) (hl : d.asked.length ≤ 256) :
    Calls Tryd.prog 37 #[.pointer (some ⟨b, 0, none⟩), .string s, .int .i64 n] w (RFetchPost w b F (d.fetch s n)) := by
  have hnote := Lib.hid (fun n => rnote_any h s n hs hl)
  have hkinds := Lib.hid h.kinds
  obtain ⟨la, lc, aa, ac, rs, rows, fs, rfl, h⟩ := h
  have c0 := h.c0
  have c2 := h.c2
  have hr := h.len
  have hcn := h.cnt
  have hget := Lib.hid (refGet_any h.files s (by omega))
  have hslow := h.slow
  unfold PMir.fetch
  rcases h.get s with ⟨hf, hg⟩ | ⟨l, a0, cc0, hf, hg, hd0, hbig⟩
  · rw [hf]
    rw [hg] at hget
    simp only at hget
    clear h hf hg hr hcn
    go_enter Tryd.func37, Tryd.ntmps37
    go_wp2_with (first
      | (go_at_call 43; refine hget.out.mono ?_; rintro e w' ⟨rfl, rfl⟩)
      | (go_at_call 46; refine (hnote.out _).mono ?_; rintro e w1 ⟨rfl, hnp⟩; have HNP := Lib.hid hnp; clear hnp))
    go_ret2
    exact ⟨_, rfl, ⟨slc_nil _ _, by simp [vblk]⟩, HNP.out⟩
  · rw [hf]
    rw [hg] at hget
    simp only at hget
    have hvar : ∃ (ap : Option Addr) (ln cp : Nat) (lp : List UInt8), d.part l = lp ∧ lp.length = ln ∧ ln ≤ 1048576 ∧ Data w (.slice ap ln cp) lp ∧
        ((rs < 0 ∧ ap = a0 ∧ ln = l.length ∧ cp = cc0) ∨ (¬rs < 0 ∧ ¬rs < (l.length : Int) ∧ ap = a0 ∧ ln = l.length ∧ cp = cc0) ∨
          (¬rs < 0 ∧ rs < (l.length : Int) ∧ (∀ W, (Instr.slice 28 (.slice a0 l.length cc0) none (some (.int .i64 rs)) none).run Tryd.prog W = .ok (.slice ap ln cp) W))) := by
      by_cases hs0 : rs < 0
      · exact ⟨a0, l.length, cc0, l, by unfold PMir.part; rw [if_neg (by omega)], rfl, hbig, hd0, .inl ⟨hs0, rfl, rfl, rfl⟩⟩
      · have hds : d.slow = rs := by omega
        obtain ⟨sl, hsl⟩ := Int.eq_ofNat_of_zero_le (Int.not_lt.1 hs0)
        by_cases hc : rs < (l.length : Int)
        · have hle : sl ≤ l.length := by omega
          obtain ⟨ap, cp, h1, h2, h5⟩ := Bytes.upto tyBytes hd0.1 sl hle
          refine ⟨ap, sl, cp, l.take sl, ?_, by rw [List.length_take]; omega, by omega, ⟨h2, fun g hg => hd0.2 g (h5 g hg)⟩, .inr (.inr ⟨hs0, hc, by rw [hsl]; exact h1⟩)⟩
          unfold PMir.part
          rw [if_pos (by omega), show min d.slow.toNat l.length = sl by omega]
        · refine ⟨a0, l.length, cc0, l, ?_, rfl, hbig, hd0, .inr (.inl ⟨hs0, hc, rfl, rfl, rfl⟩)⟩
          unfold PMir.part
          rw [if_pos (by omega), show min d.slow.toNat l.length = l.length by omega, List.take_length]
    obtain ⟨ap, ln, cp, lp, hpart, hlen, hln, hbp, hvar⟩ := hvar
    simp only [hpart, hlen]
    have HBP := Lib.hid hbp
    have hlnI : (ln : Int) ≤ 1048576 := by omega
    have hl0I : (l.length : Int) ≤ 1048576 := by omega
    obtain ⟨hsl1, hsl2⟩ := hslow
    clear h hf hg hd0 hbig hpart hbp hln hsl1 hlen hr hcn
    have hmm : (n < 0 ∧ max n 0 = 0) ∨ (¬n < 0 ∧ max n 0 = n) := by omega
    rcases hmm with ⟨hn0, hmx⟩ | ⟨hn0, hmx⟩
    · rw [hmx]
      clear hmx
      by_cases hgt : (0 : Int) < ln
      all_goals
        first | rw [if_pos hgt] | rw [if_neg hgt]
        rcases hvar with ⟨hs0, rfl, rfl, rfl⟩ | ⟨hs0, hs1, rfl, rfl, rfl⟩ | ⟨hs0, hs1, hsl⟩
        all_goals
          go_enter Tryd.func37, Tryd.ntmps37
          go_wp2_with (first
            | (go_at_call 43; refine hget.out.mono ?_; rintro e w' ⟨rfl, rfl⟩)
            | (go_at_call 46; refine (hnote.out _).mono ?_; rintro e w1 ⟨rfl, hnp⟩; have HNP := Lib.hid hnp; clear hnp))
          go_ret2
          obtain ⟨F', q1, q2, q3⟩ := HNP.out
          first
            | exact ⟨_, rfl, ⟨slc_nil _ _, by simp [vblk]⟩, HNP.out⟩
            | exact ⟨_, rfl, HBP.out.kept q2 hkinds.out, HNP.out⟩
    · rw [hmx]
      clear hmx
      by_cases hgt : n < (ln : Int)
      all_goals
        first | rw [if_pos hgt] | rw [if_neg hgt]
        rcases hvar with ⟨hs0, rfl, rfl, rfl⟩ | ⟨hs0, hs1, rfl, rfl, rfl⟩ | ⟨hs0, hs1, hsl⟩
        all_goals
          go_enter Tryd.func37, Tryd.ntmps37
          go_wp2_with (first
            | (go_at_call 43; refine hget.out.mono ?_; rintro e w' ⟨rfl, rfl⟩)
            | (go_at_call 46; refine (hnote.out _).mono ?_; rintro e w1 ⟨rfl, hnp⟩; have HNP := Lib.hid hnp; clear hnp))
          go_ret2
          obtain ⟨F', q1, q2, q3⟩ := HNP.out
          first
            | exact ⟨_, rfl, ⟨slc_nil _ _, by simp [vblk]⟩, HNP.out⟩
            | exact ⟨_, rfl, HBP.out.kept q2 hkinds.out, HNP.out⟩
end Go.Proofs.YtfkdoinlbdcaaaaDoor

/- The reader of bytes: Bytes. -/
import Derived.Test.YtfkdoinlbdcaaaaOct
namespace Go.Proofs.Ytfkdoinlbdcaaaa
open Go.RowKit

set_option maxRecDepth 10000 in
set_option maxHeartbeats 800000 in
theorem rbytes_no {w : World} {r : Nat} {l : List UInt8} {bad : Bool} (h : RdAt w r l bad) (n : Nat) (hn : n ≤ 1000000) (hb : l.length < n ∨ bad = true) :
    Calls Try.prog 69 #[.pointer (some ⟨r, 0, none⟩), .int .i64 n] w fun e w' => e = .returned (.slice none 0 0) ∧ RdAt w' r [] true ∧ Kept [r] w w' := by
  have hl := Lib.hid (left_any h)
  have hbad := Lib.hid (isBad_any h)
  have hs := Lib.hid (spoil_any h)
  clear h
  by_cases hc : l.length < n
  · have hcI : (l.length : Int) < n := by omega
    clear hb hc
    generalize l.length = m at *
    go_enter Try.func69, Try.ntmps69
    go_wp2_with (first
      | (go_at_call 67; refine hl.out.mono ?_; rintro e w' ⟨rfl, rfl⟩)
      | (go_at_call 68; refine hs.out.mono ?_; rintro e w1 ⟨rfl, h1, h2⟩))
    go_ret
    exact ⟨rfl, h1, h2⟩
  · have hcI : ¬(l.length : Int) < n := by omega
    obtain rfl : bad = true := by rcases hb with h | h; exact absurd h hc; exact h
    clear hb hc
    generalize l.length = m at *
    go_enter Try.func69, Try.ntmps69
    go_wp2_with (first
      | (go_at_call 67; refine hl.out.mono ?_; rintro e w' ⟨rfl, rfl⟩)
      | (go_at_call 70; refine hbad.out.mono ?_; rintro e w' ⟨rfl, rfl⟩)
      | (go_at_call 68; refine hs.out.mono ?_; rintro e w1 ⟨rfl, h1, h2⟩))
    go_ret
    exact ⟨rfl, h1, h2⟩
set_option maxRecDepth 10000 in
set_option maxHeartbeats 800000 in
theorem rbytes_yes {w : World} {r : Nat} {l : List UInt8} (h : RdAt w r l false) (n : Nat) (hn : n ≤ l.length) :
    Calls Try.prog 69 #[.pointer (some ⟨r, 0, none⟩), .int .i64 n] w fun e w' => (∃ v, e = .returned v ∧ NewBytes w w' v (l.take n)) ∧ RdAt w' r (l.drop n) false ∧ Kept [r] w w' := by
  have hl := Lib.hid (left_any h)
  have hbad := Lib.hid (isBad_any h)
  have hfew := h.few
  have H := Lib.hid h
  obtain ⟨a, c, h1, hd⟩ := h.rep
  obtain ⟨a1, c1, hr1, hb1, -⟩ := Bytes.upto tyBytes hd.1 n hn
  obtain ⟨a2, c2, hr2, hb2, hv2⟩ := Bytes.from tyBytes hd.1 n hn
  have q0 : w.cell? ⟨r, 0, none⟩ = some (.slice a l.length c) := cell_head h1 rfl
  have H1 := Lib.hid h1
  have hlt : (l.take n).length = n := by rw [List.length_take]; omega
  have hld : (l.drop n).length = l.length - n := by rw [List.length_drop]
  have HD2 : Hid (Data w (.slice a2 (l.length - n) c2) (l.drop n)) := Lib.hid ⟨hb2, fun g hg => hd.2 g (hv2 g hg)⟩
  have hc := Lib.hid (clone_any (.slice a1 n c1) (l.take n) w hb1 (by simp only [lim]; omega))
  have hnI : ¬(l.length : Int) < n := by omega
  have HLD := Lib.hid hld
  clear h h1 hd hb1 hb2 hv2 hlt hld
  go_enter Try.func69, Try.ntmps69
  go_wp2_with (first
    | (go_at_call 67; refine hl.out.mono ?_; rintro e w' ⟨rfl, rfl⟩)
    | (go_at_call 70; refine hbad.out.mono ?_; rintro e w' ⟨rfl, rfl⟩)
    | (go_at_call 35; refine hc.out.mono ?_; rintro e w1 ⟨v1, rfl, hv1, hk1⟩; have HV := Lib.hid hv1; have HK := Lib.hid hk1; have q1 := hk1.cell q0 (by simp); have hh := hk1.heap H1.out (by simp); have f1 := free_head (o := 0) hh; have HH := Lib.hid hh; clear hv1 hk1 hh))
  go_ret
  have k2 : Kept [r] w1 (w1.setCell ⟨r, 0, none⟩ (.slice a2 (l.length - n) c2)) := (Kept.refl [r] w1).setCell (.inl (by simp)) _
  have hR1 := H.out.kept HK.out (by simp) (by simp)
  refine ⟨⟨v1, rfl, ?_⟩, ?_, (HK.out.mono (by simp)).trans' k2⟩
  · have hX : ∀ g, vblk v1 = some g → g ∉ [r] := by
      intro g hg hx
      have h3 := (HV.out.2 g hg).1
      have h4 := H.out.lt
      simp at hx
      omega
    refine ⟨HV.out.1.kept k2 hX, fun g hg => ⟨(HV.out.2 g hg).1, ?_⟩⟩
    rw [k2.kind (HV.out.1.lt hg) (hX g hg)]
    exact (HV.out.2 g hg).2
  · refine hR1.put k2 (a := a2) (c := c2) (l' := l.drop n) (bad' := false) ?_ ?_ (by rw [HLD.out]; omega) (by simp)
    · rw [setCell_heap HH.out, HLD.out]
      rfl
    · rw [HLD.out]
      exact HD2.out.kept HK.out (by simp)
end Go.Proofs.Ytfkdoinlbdcaaaa

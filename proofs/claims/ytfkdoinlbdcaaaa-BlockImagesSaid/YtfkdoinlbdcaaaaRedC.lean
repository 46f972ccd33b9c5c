/- The document's reader: Bytes, where they stand. -/
import Derived.Test.YtfkdoinlbdcaaaaRedB
namespace Go.Proofs.Ytfkdoinlbdcaaaa
open Go.RowKit

set_option maxRecDepth 10000 in
set_option maxHeartbeats 1600000 in
theorem r1bytes_yes {w : World} {B r : Nat} {l : List UInt8} {bad : Bool} (h : R1At w B r l bad) (h4 : 64 ≤ l.length) :
    Calls Try.prog 52 #[.pointer (some ⟨r, 0, none⟩), .int .i64 64] w fun e w' => (∃ v, e = .returned v ∧ NewBytes w w' v (l.take 64)) ∧ R1At w' B r (l.drop 64) false ∧ Kept [r] w w' := by
  obtain rfl : bad = false := by
    cases bad
    · rfl
    · have := h.spoilt rfl
      subst this
      simp at h4
  have hfew := h.few
  have H := Lib.hid h
  obtain ⟨a, c, h1, hb, hg⟩ := h.rep
  have q0 : w.cell? ⟨r, 0, none⟩ = some (.slice a l.length c) := cell_head h1 rfl
  have f0 := free_head (o := 0) h1
  obtain ⟨a1, c1, hr1, hb1, -⟩ := Bytes.upto tyBytes hb 64 h4
  obtain ⟨a2, c2, hr2, hb2, hv2⟩ := Bytes.from tyBytes hb 64 h4
  have hcI : ¬(l.length : Int) < 64 := by omega
  have h4I : (64 : Int) ≤ l.length := by omega
  have hlI : (l.length : Int) ≤ 100000 := by omega
  have hlt : (l.take 64).length = 64 := by rw [List.length_take]; omega
  rw [← hlt] at hr1
  have hr3 : ∀ W, (Instr.slice 30 (.slice a l.length c) (some (.int .i64 64)) none none).run Try.prog W = .ok (.slice a2 (l.length - 64) c2) W := hr2
  have hr0 : ∀ W, (Instr.slice 30 (.slice a l.length c) none (some (.int .i64 64)) none).run Try.prog W = .ok (.slice a1 64 c1) W := by rw [hlt] at hr1; exact hr1
  clear hr1 hr2
  have H1 := Lib.hid h1
  have HB1 := Lib.hid hb1
  have HB2 := Lib.hid hb2
  have HV2 := Lib.hid (fun g h => hg g (hv2 g h))
  have HLT := Lib.hid hlt
  have HLD : Hid ((l.drop 64).length = l.length - 64) := Lib.hid (by rw [List.length_drop])
  have HRB : Hid (r < w.heap.size) := Lib.hid H.out.lt
  clear h h1 hb hg hb2 hv2 hb1 hlt
  go_enter Try.func52, Try.ntmps52
  have k0 : Kept [] w (w.alloc (.cells #[] 5)) := (Kept.refl [] w).alloc _
  have qa := k0.cell q0 (by simp)
  have hown0 : Hid ((w.alloc (.cells #[] 5)).ownsRow w.heap.size 5 1 (.slice (some ⟨w.heap.size, 0, none⟩) 0 0) 0 []) := Lib.hid (World.ownsRow_made (base := w.heap.size) (size := 1) (e := 5) w #[] 0 (Nat.le_refl _) (by decide) rfl)
  have HS1 : Hid (Slc (w.alloc (.cells #[] 5)) 1 (.slice a1 64 c1) 64 ((l.take 64).map bv)) := Lib.hid (by have := HB1.out.kept0 k0; unfold Bytes at this; rw [HLT.out] at this; exact this)
  have HK0 := Lib.hid k0
  clear k0
  go_wp2_with (at_builtin; refine wpList_append_pos tyBytes hown0.out HS1.out (bvs_one _) (by decide) (by decide) (by decide) (by simp) (by rfl) (.tmp 19) (.tmp 25) (by rfl) (by rfl) (by rfl) ?_; intro g cap w1 hown1 hk1 hg1; have k1 : Kept [] w w1 := HK0.out.trans hk1 (fun i hi => .inr (by simp [Value.ownBlock] at hi; omega)); have q1 := k1.cell q0 (by simp); have f1 : w1.frozen? ⟨r, 0, none⟩ = false := (k1.frozen HRB.out (by simp)).trans f0; have HO1 := Lib.hid hown1; have HK1 := Lib.hid k1; clear hown1 hk1 hg1 k1)
  go_ret
  have kr := (Kept.refl [r] w1).setCell (a := w1) (p := ⟨r, 0, none⟩) (.inl (by simp)) (.slice a2 (l.length - 64) c2)
  have hlo := HO1.out.lt
  have hN : NewBytes w w1 (.slice (some ⟨g, 0, none⟩) (0 + 64) cap) (l.take 64) := newBytes_of_row (by simpa using HO1.out)
  have hgr : g ≠ r := by
    have := (hlo g rfl).1
    have := HRB.out
    omega
  refine ⟨⟨_, rfl, ?_⟩, (H.out.kept HK1.out (by simp) (by simp)).put kr (a := a2) (c := c2) (l' := l.drop 64) (bad' := false) ?_ ?_ ?_ (by rw [HLD.out]; omega) (by simp), (HK1.out.mono (by simp)).trans' kr⟩
  · have hX : ∀ x, vblk (.slice (some ⟨g, 0, none⟩) (0 + 64) cap) = some x → x ∉ [r] := by
      intro x hx
      have := (vblk_len hx).2
      simp [Value.ownBlock] at this
      subst this
      simpa using hgr
    exact ⟨hN.1.kept kr hX, fun x hx => ⟨(hN.2 x hx).1, by rw [kr.kind (hN.1.lt hx) (hX x hx)]; exact (hN.2 x hx).2⟩⟩
  · rw [setCell_heap (HK1.out.heap H1.out (by simp)), HLD.out]
    rfl
  · rw [HLD.out]; exact HB2.out.kept0 HK1.out
  · rw [HLD.out]; exact HV2.out
end Go.Proofs.Ytfkdoinlbdcaaaa

/- The document's disk: goes, Stop, Read. -/
import Derived.Test.YtfkdoinlbdcaaaaRef
namespace Go.Proofs.Ytfkdoinlbdcaaaa
open Go.RowKit
section
variable {w : World} {b sb nb lb scap ncap lcap : Nat} {svals nvals lvals : List Value} {d : PDisk}
theorem RefAt.setLeft {w' : World} (h : RefAt w b sb nb lb scap ncap lcap svals nvals lvals d) {left bytes : Int} {off : Bool}
    (k : Kept [b] w w') (hb : w'.heap[b]? = some (.cells #[.slice (some ⟨sb, 0, none⟩) d.sure.length scap, .slice (some ⟨nb, 0, none⟩) d.sure.length ncap, .slice (some ⟨lb, 0, none⟩) d.sure.length lcap, .int .i64 left, .int .i64 bytes, .bool off] 51 (0, 0)))
    (h0 : 0 ≤ bytes) (h1 : bytes ≤ 64) (h2 : -1 ≤ left) (h3 : left ≤ 9223372036854775807) : RefAt w' b sb nb lb scap ncap lcap svals nvals lvals { d with left := left, bytes := bytes, off := off } where
  ok := ⟨h.ok.pos, h.ok.le, h0, h1, h2, h3, h.ok.dom, h.ok.s64, h.ok.l64⟩
  head := hb
  rows := row_kept h.rows k (by intro g hg; simp [Value.ownBlock] at hg; subst hg; simpa using h.dist.1.symm)
  rown := row_kept h.rown k (by intro g hg; simp [Value.ownBlock] at hg; subst hg; simpa using h.dist.2.1.symm)
  rowl := row_kept h.rowl k (by intro g hg; simp [Value.ownBlock] at hg; subst hg; simpa using h.dist.2.2.1.symm)
  apart := h.apart
  sure := h.sure.mono fun x y _ r => r.kept k (by intro k hk; simp at hk; subst hk; rw [h.kb]; decide)
  flag := h.flag
  new := fun j hj l hl => by obtain ⟨v, e, r⟩ := h.new j hj l hl; exact ⟨v, e, r.kept k (by intro k hk; simp at hk; subst hk; rw [h.kb]; decide)⟩

set_option maxRecDepth 10000 in
theorem refGoes_any (h : RefAt w b sb nb lb scap ncap lcap svals nvals lvals d) :
    Calls Try.prog 63 #[.pointer (some ⟨b, 0, none⟩)] w fun e w' => e = .returned (.bool (decide (d.left = 0))) ∧ RefAt w' b sb nb lb scap ncap lcap svals nvals lvals d.goes ∧ Kept [b] w w' := by
  have H := Lib.hid h
  have c3 := h.c3
  have c5 := h.c5
  have f3 := h.free 3
  have f5 := h.free 5
  have l0 := h.ok.l0
  have l1 := h.ok.l1
  unfold PDisk.goes
  clear h
  by_cases h0 : d.left = 0
  · rw [if_pos h0, decide_eq_true h0]
    have hb : (d.left == 0) = true := by simpa using h0
    have H0 := Lib.hid h0
    clear h0
    go_enter Try.func63, Try.ntmps63
    go_wp2
    go_ret
    have h := H.out
    have k : Kept [b] w (w.setCell ⟨b, 5, none⟩ (.bool true)) := (Kept.refl [b] w).setCell (by simp) _
    exact ⟨rfl, h.setLeft k (by rw [setCell_heap h.head]; simp) h.ok.b0 h.ok.b1 h.ok.l0 h.ok.l1, k⟩
  · rw [if_neg h0, decide_eq_false h0]
    have hb : (d.left == 0) = false := by simpa using h0
    clear h0
    by_cases h1 : 0 < d.left
    · rw [if_pos h1]
      go_enter Try.func63, Try.ntmps63
      go_wp2
      go_ret
      have h := H.out
      have k : Kept [b] w (w.setCell ⟨b, 3, none⟩ (.int .i64 (d.left - 1))) := (Kept.refl [b] w).setCell (by simp) _
      exact ⟨rfl, h.setLeft k (by rw [setCell_heap h.head]; simp) h.ok.b0 h.ok.b1 (by omega) (by omega), k⟩
    · rw [if_neg h1]
      go_enter Try.func63, Try.ntmps63
      go_wp2
      go_ret
      exact ⟨rfl, H.out, Kept.refl _ _⟩
end

set_option maxRecDepth 10000 in
theorem refRead_any {w : World} {b : Nat} {F : List Nat} {d : PDisk} (h : RefRep w b F d) (i : Int) :
    Calls Try.prog 22 #[.pointer (some ⟨b, 0, none⟩), .int .i64 i] w fun e w' => (∃ v, e = .returned (.tuple #[v, .int .i64 (d.read i).2]) ∧ Data w v (d.read i).1) ∧ w = w' := by
  obtain ⟨sb, nb, lb, scap, ncap, lcap, svals, nvals, lvals, rfl, h⟩ := h
  have c5 := h.c5
  have his := Lib.hid (refIs_any h i)
  cases ho : d.off
  · unfold PDisk.read PDisk.may
    rw [ho] at c5 ⊢
    by_cases hi : 0 ≤ i ∧ i < d.sure.length
    · obtain ⟨k, rfl⟩ := Int.eq_ofNat_of_zero_le hi.1
      have hnow := Lib.hid (refNow_any h k (by omega))
      have e1 : ¬((k : Int) < 0 ∨ (d.sure.length : Int) ≤ (k : Int)) := by omega
      rw [decide_eq_true hi] at his
      simp only [if_neg e1]
      clear h hi
      go_enter Try.func22, Try.ntmps22
      go_wp2_with (first
        | (go_at_call 43; refine his.out.mono ?_; rintro e w' ⟨rfl, rfl⟩)
        | (go_at_call 44; refine hnow.out.mono ?_; rintro e w' ⟨⟨v, rfl, hv⟩, rfl⟩))
      go_ret2
      exact ⟨⟨v, rfl, by simpa using hv⟩, rfl⟩
    · rw [decide_eq_false hi] at his
      have e1 : i < 0 ∨ (d.sure.length : Int) ≤ i := by omega
      simp only [if_pos e1]
      clear h hi
      go_enter Try.func22, Try.ntmps22
      go_wp2_with (go_at_call 43; refine his.out.mono ?_; rintro e w' ⟨rfl, rfl⟩)
      go_ret2
      exact ⟨⟨_, rfl, slc_nil _ _, by simp [vblk]⟩, rfl⟩
  · have hr : d.read i = ([], 210) := by simp [PDisk.read, PDisk.may, ho]
    rw [hr]
    rw [ho] at c5
    clear h hr
    go_enter Try.func22, Try.ntmps22
    go_wp2_with fail
    go_ret2
    exact ⟨⟨_, rfl, slc_nil _ _, by simp [vblk]⟩, rfl⟩
end Go.Proofs.Ytfkdoinlbdcaaaa

/- The document's reader of bytes (pursuivantref01.Reader): Spoil, Bytes, Int. -/
import Derived.Test.YtfkdoinlbdcaaaaOctJ
namespace Go.Proofs.Ytfkdoinlbdcaaaa
open Go.RowKit

/-- The document's reader at r: what is left lies below B. -/
structure R1At (w : World) (B r : Nat) (l : List UInt8) (bad : Bool) : Prop where
  rep : ∃ a c, w.heap[r]? = some (.cells #[.slice a l.length c, .bool bad] 85 (0, 0)) ∧ Bytes w (.slice a l.length c) l ∧ ∀ g, vblk (.slice a l.length c) = some g → g < B
  own : B ≤ r
  few : l.length ≤ 100000
  spoilt : bad = true → l = []
theorem R1At.kd {w : World} {B r : Nat} {l : List UInt8} {bad : Bool} (h : R1At w B r l bad) : kind w r = 85 + 2 := by
  obtain ⟨a, c, h1, -⟩ := h.rep
  exact kind_cells h1
theorem R1At.lt {w : World} {B r : Nat} {l : List UInt8} {bad : Bool} (h : R1At w B r l bad) : r < w.heap.size := by
  obtain ⟨a, c, h1, -⟩ := h.rep
  exact lt_of_block h1
theorem R1At.kept {X : List Nat} {w w' : World} {B r : Nat} {l : List UInt8} {bad : Bool} (h : R1At w B r l bad) (k : Kept X w w') (h1 : r ∉ X) (hX : ∀ k, k ∈ X → B ≤ k) : R1At w' B r l bad := by
  obtain ⟨a, c, h2, h3, h4⟩ := h.rep
  exact ⟨⟨a, c, k.heap h2 h1, h3.kept k (fun g hg hx => absurd (h4 g hg) (Nat.not_lt.2 (hX g hx))), h4⟩, h.own, h.few, h.spoilt⟩
theorem R1At.put {w : World} {B r : Nat} {l : List UInt8} {bad : Bool} (h : R1At w B r l bad) {w' : World} (k : Kept [r] w w') {a : Option Addr} {c : Nat} {l' : List UInt8} {bad' : Bool} (hh : w'.heap[r]? = some (.cells #[.slice a l'.length c, .bool bad'] 85 (0, 0))) (hd : Bytes w (.slice a l'.length c) l') (hg : ∀ g, vblk (.slice a l'.length c) = some g → g < B) (hf : l'.length ≤ 100000) (hs : bad' = true → l' = []) : R1At w' B r l' bad' :=
  ⟨⟨a, c, hh, hd.kept k (by intro g h1 h2; simp at h2; subst h2; exact absurd (hg _ h1) (Nat.not_lt.2 h.own)), hg⟩, h.own, hf, hs⟩

set_option maxRecDepth 10000 in
theorem r1spoil_any {w : World} {B r : Nat} {l : List UInt8} {bad : Bool} (h : R1At w B r l bad) : Calls Try.prog 71 #[.pointer (some ⟨r, 0, none⟩)] w fun e w' => e = .returned (.tuple #[]) ∧ R1At w' B r [] true ∧ Kept [r] w w' := by
  have H := Lib.hid h
  obtain ⟨a, c, h1, -⟩ := h.rep
  have c0 : w.cell? ⟨r, 0, none⟩ = some (.slice a l.length c) := cell_head h1 rfl
  have c1 : w.cell? ⟨r, 1, none⟩ = some (.bool bad) := cell_head h1 rfl
  have f0 := free_head (o := 0) h1
  have f1 := free_head (o := 1) h1
  have H1 := Lib.hid h1
  clear h h1
  go_enter Try.func71, Try.ntmps71
  go_wp2_with fail
  refine bodyPost_end (results_none rfl _ _ _) rfl ?_
  have k : Kept [r] w ((w.setCell ⟨r, 1, none⟩ (.bool true)).setCell ⟨r, 0, none⟩ (.slice none 0 0)) := ((Kept.refl [r] w).setCell (.inl (by simp)) _).setCell (.inl (by simp)) _
  refine ⟨rfl, H.out.put k (a := none) (c := 0) (l' := []) (bad' := true) ?_ (slc_nil _ _) (by simp [vblk]) (by simp) (fun _ => rfl), k⟩
  rw [setCell_heap (setCell_heap H1.out _)]
  rfl
set_option maxRecDepth 10000 in
set_option maxHeartbeats 800000 in
theorem r1bytes_no {w : World} {B r : Nat} {l : List UInt8} {bad : Bool} (h : R1At w B r l bad) (hb : l.length < 64) :
    Calls Try.prog 52 #[.pointer (some ⟨r, 0, none⟩), .int .i64 64] w fun e w' => e = .returned (.slice none 0 0) ∧ R1At w' B r [] true ∧ Kept [r] w w' := by
  have hs := Lib.hid (r1spoil_any h)
  obtain ⟨a, c, h1, -⟩ := h.rep
  have c0 : w.cell? ⟨r, 0, none⟩ = some (.slice a l.length c) := cell_head h1 rfl
  have hcI : (l.length : Int) < 64 := by omega
  clear h h1 hb
  revert c0 hcI
  generalize l.length = m
  intro c0 hcI
  go_enter Try.func52, Try.ntmps52
  go_wp2_with (go_at_call 71; refine hs.out.mono ?_; rintro e w1 ⟨rfl, h1, h2⟩)
  go_ret
  exact ⟨rfl, h1, h2⟩
set_option maxRecDepth 10000 in
set_option maxHeartbeats 800000 in
theorem r1int_no {w : World} {B r : Nat} {l : List UInt8} {bad : Bool} (h : R1At w B r l bad) (hb : l.length < 4) :
    Calls Try.prog 51 #[.pointer (some ⟨r, 0, none⟩), .int .i64 4] w fun e w' => e = .returned (.int .i64 0) ∧ R1At w' B r [] true ∧ Kept [r] w w' := by
  have hs := Lib.hid (r1spoil_any h)
  obtain ⟨a, c, h1, -⟩ := h.rep
  have c0 : w.cell? ⟨r, 0, none⟩ = some (.slice a l.length c) := cell_head h1 rfl
  have hcI : (l.length : Int) < 4 := by omega
  clear h h1 hb
  revert c0 hcI
  generalize l.length = m
  intro c0 hcI
  go_enter Try.func51, Try.ntmps51
  go_wp2_with (go_at_call 71; refine hs.out.mono ?_; rintro e w1 ⟨rfl, h1, h2⟩)
  go_ret
  exact ⟨rfl, h1, h2⟩
end Go.Proofs.Ytfkdoinlbdcaaaa

/- The reader of bytes (octet.Reader): From, Left, Bad, Spoil, Bytes, Done. -/
import Derived.Test.YtfkdoinlbdcaaaaDo
namespace Go.Proofs.Ytfkdoinlbdcaaaa
open Go.RowKit

/-- A reader at block r: what is left, and whether it is bad. -/
structure RdAt (w : World) (r : Nat) (l : List UInt8) (bad : Bool) : Prop where
  rep : ∃ a c, w.heap[r]? = some (.cells #[.slice a l.length c, .bool bad] 97 (0, 0)) ∧ Data w (.slice a l.length c) l
  few : l.length ≤ 100000
  spoilt : bad = true → l = []
theorem RdAt.kd {w : World} {r : Nat} {l : List UInt8} {bad : Bool} (h : RdAt w r l bad) : kind w r = 97 + 2 := by
  obtain ⟨a, c, h1, -⟩ := h.rep
  exact kind_cells h1
theorem RdAt.lt {w : World} {r : Nat} {l : List UInt8} {bad : Bool} (h : RdAt w r l bad) : r < w.heap.size := by
  obtain ⟨a, c, h1, -⟩ := h.rep
  exact lt_of_block h1
theorem RdAt.kept {X : List Nat} {w w' : World} {r : Nat} {l : List UInt8} {bad : Bool} (h : RdAt w r l bad) (k : Kept X w w') (h1 : r ∉ X) (hX : ∀ k, k ∈ X → kind w k ≠ 5 + 2) : RdAt w' r l bad := by
  obtain ⟨a, c, h2, h3⟩ := h.rep
  exact ⟨⟨a, c, k.heap h2 h1, h3.kept k hX⟩, h.few, h.spoilt⟩

set_option maxRecDepth 10000 in
theorem left_any {w : World} {r : Nat} {l : List UInt8} {bad : Bool} (h : RdAt w r l bad) : Calls Try.prog 67 #[.pointer (some ⟨r, 0, none⟩)] w fun e w' => e = .returned (.int .i64 l.length) ∧ w = w' := by
  obtain ⟨a, c, h1, -⟩ := h.rep
  have c0 : w.cell? ⟨r, 0, none⟩ = some (.slice a l.length c) := cell_head h1 rfl
  clear h h1
  go_enter Try.func67, Try.ntmps67
  go_wp2_with fail
  go_ret
  exact ⟨rfl, rfl⟩
set_option maxRecDepth 10000 in
theorem isBad_any {w : World} {r : Nat} {l : List UInt8} {bad : Bool} (h : RdAt w r l bad) : Calls Try.prog 70 #[.pointer (some ⟨r, 0, none⟩)] w fun e w' => e = .returned (.bool bad) ∧ w = w' := by
  obtain ⟨a, c, h1, -⟩ := h.rep
  have c1 : w.cell? ⟨r, 1, none⟩ = some (.bool bad) := cell_head h1 rfl
  clear h h1
  go_enter Try.func70, Try.ntmps70
  go_wp2_with fail
  go_ret
  exact ⟨rfl, rfl⟩
theorem RdAt.put {w : World} {r : Nat} {l : List UInt8} {bad : Bool} (h : RdAt w r l bad) {w' : World} (k : Kept [r] w w') {a : Option Addr} {c : Nat} {l' : List UInt8} {bad' : Bool} (hh : w'.heap[r]? = some (.cells #[.slice a l'.length c, .bool bad'] 97 (0, 0))) (hd : Data w (.slice a l'.length c) l') (hf : l'.length ≤ 100000) (hs : bad' = true → l' = []) : RdAt w' r l' bad' :=
  ⟨⟨a, c, hh, hd.kept k (by intro k hk; simp at hk; subst hk; rw [h.kd]; decide)⟩, hf, hs⟩
set_option maxRecDepth 10000 in
theorem spoil_any {w : World} {r : Nat} {l : List UInt8} {bad : Bool} (h : RdAt w r l bad) : Calls Try.prog 68 #[.pointer (some ⟨r, 0, none⟩)] w fun e w' => e = .returned (.tuple #[]) ∧ RdAt w' r [] true ∧ Kept [r] w w' := by
  have H := Lib.hid h
  obtain ⟨a, c, h1, -⟩ := h.rep
  have c0 : w.cell? ⟨r, 0, none⟩ = some (.slice a l.length c) := cell_head h1 rfl
  have c1 : w.cell? ⟨r, 1, none⟩ = some (.bool bad) := cell_head h1 rfl
  have f0 := free_head (o := 0) h1
  have f1 := free_head (o := 1) h1
  have H1 := Lib.hid h1
  clear h h1
  go_enter Try.func68, Try.ntmps68
  go_wp2_with fail
  refine bodyPost_end (results_none rfl _ _ _) rfl ?_
  have k : Kept [r] w ((w.setCell ⟨r, 0, none⟩ (.slice none 0 0)).setCell ⟨r, 1, none⟩ (.bool true)) := ((Kept.refl [r] w).setCell (.inl (by simp)) _).setCell (.inl (by simp)) _
  refine ⟨rfl, H.out.put k (a := none) (c := 0) (l' := []) (bad' := true) ?_ ⟨slc_nil _ _, by simp [vblk]⟩ (by simp) (fun _ => rfl), k⟩
  rw [setCell_heap (setCell_heap H1.out _)]
  rfl
set_option maxRecDepth 10000 in
theorem from_any {w : World} {v : Value} {l : List UInt8} (hv : Bytes w v l) (hl : l.length ≤ 100000) : Calls Try.prog 47 #[v] w fun e w' => ∃ r, e = .returned (.pointer (some ⟨r, 0, none⟩)) ∧ RdAt w' r l false ∧ Kept [] w w' ∧ w.heap.size ≤ r := by
  have hc := Lib.hid (clone_any v l w hv (by simp only [lim]; omega))
  clear hv
  go_enter Try.func47, Try.ntmps47
  go_wp2_with (go_at_call 35; refine hc.out.mono ?_; rintro e w1 ⟨v1, rfl, hv1, hk1⟩; obtain ⟨a, c, rfl, -, -⟩ := hv1.1.form; have HV := Lib.hid hv1; have HK := Lib.hid hk1; clear hv1 hk1)
  go_ret
  have k2 := (Kept.refl [] w1).alloc (.cells #[.slice a l.length c, .bool false] 97)
  refine ⟨_, rfl, ⟨⟨a, c, heap_alloc_new w1 _, (Data.of_new HV.out).kept k2 (by simp)⟩, hl, by simp⟩, HK.out.then k2, HK.out.size⟩
set_option maxRecDepth 10000 in
theorem done_any {w : World} {r : Nat} {l : List UInt8} {bad : Bool} (h : RdAt w r l bad) : Calls Try.prog 50 #[.pointer (some ⟨r, 0, none⟩)] w fun e w' => e = .returned (.int .i64 (if bad = true ∨ 0 < l.length then 11 else 0)) ∧ w = w' := by
  have hb := Lib.hid (isBad_any h)
  have hl := Lib.hid (left_any h)
  clear h
  cases bad
  · by_cases h0 : 0 < l.length
    · rw [if_pos (.inr h0)]
      have h0' : (0 : Int) < l.length := by omega
      generalize l.length = n at *
      go_enter Try.func50, Try.ntmps50
      go_wp2_with (first
        | (go_at_call 70; refine hb.out.mono ?_; rintro e w' ⟨rfl, rfl⟩)
        | (go_at_call 67; refine hl.out.mono ?_; rintro e w' ⟨rfl, rfl⟩))
      go_ret
      exact ⟨rfl, rfl⟩
    · rw [if_neg (by rintro (h | h); exact absurd h (by decide); exact h0 h)]
      have h0' : ¬(0 : Int) < l.length := by omega
      generalize l.length = n at *
      go_enter Try.func50, Try.ntmps50
      go_wp2_with (first
        | (go_at_call 70; refine hb.out.mono ?_; rintro e w' ⟨rfl, rfl⟩)
        | (go_at_call 67; refine hl.out.mono ?_; rintro e w' ⟨rfl, rfl⟩))
      go_ret
      exact ⟨rfl, rfl⟩
  · rw [if_pos (.inl rfl)]
    go_enter Try.func50, Try.ntmps50
    go_wp2_with (go_at_call 70; refine hb.out.mono ?_; rintro e w' ⟨rfl, rfl⟩)
    go_ret
    exact ⟨rfl, rfl⟩
end Go.Proofs.Ytfkdoinlbdcaaaa

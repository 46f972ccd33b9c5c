/- Bytes: Clone; a row of what was asked: Clone. -/
import Derived.Test.YtfkdoinlbdcaaaaDoorBase
import Derived.Outline
import Derived.WalkSpells
import Derived.Test.YtfkdoinlbdcaaaaDoorTail
namespace Go.Proofs.YtfkdoinlbdcaaaaDoor
open Go.RowKit
open Go.Maps (Keyed)

theorem tyBytes : SliceTy Tryd.prog 28 5 1 1 (.int .u8 0) := ⟨Tryd.underlying28, by kernel_rfl, rfl, by decide⟩

/-- The bytes l, in an array of their own that was not there in w. -/
def NewBytes (w w' : World) (v : Value) (l : List UInt8) : Prop := Bytes w' v l ∧ ∀ g, vblk v = some g → w.heap.size ≤ g ∧ kind w' g = 5 + 2

theorem newBytes_of_row {w w' : World} {v : Value} {n : Nat} {l : List UInt8} (h : w'.ownsRow w.heap.size 5 1 v n (l.map bv)) : NewBytes w w' v l := by
  have hn : l.length = n := by have := h.1; simpa using this
  subst hn
  exact ⟨Slc.of_row h, fun g hg => ⟨(h.lt g (own_of_vblk hg)).1, row_kind h (own_of_vblk hg)⟩⟩

@[go_sem] theorem eqlNilBytes (w : World) (a : Option Addr) (n c : Nat) : (binOp .eql 28 (.slice a n c) (.slice none 0 0)).run Tryd.prog w = .ok (.bool a.isNone) w := Lib.run_eql_slice_nil w _ _ a n c 0 0 Tryd.underlying28

set_option maxRecDepth 10000 in
theorem clone_any (v : Value) (l : List UInt8) (w : World) (h : Bytes w v l) (hl : l.length ≤ lim) :
    Calls Tryd.prog 30 #[v] w fun e w' => ∃ v', e = .returned v' ∧ NewBytes w w' v' l ∧ Kept [] w w' := by
  rcases h.2 with ⟨rfl, h0⟩ | h2
  · have : l = [] := List.eq_nil_of_length_eq_zero h0
    subst this
    go_enter Tryd.func30, Tryd.ntmps30
    go_wp2
    go_ret
    exact ⟨_, rfl, ⟨slc_nil _ _, by simp [vblk]⟩, Kept.refl _ _⟩
  · obtain ⟨ad, cap, rfl⟩ : ∃ ad cap, v = .slice (some ad) l.length cap := by
      rcases h2 with ⟨h0, a, c, rfl, _⟩ | ⟨g, o, c, rfl, _⟩
      · exact ⟨a, c, by rw [h0]⟩
      · exact ⟨_, _, rfl⟩
    have h1 := (Kept.refl [] w).alloc (.cells #[] 5)
    have hown := World.ownsRow_made (base := w.heap.size) (size := 1) (e := 5) w #[] 0 (Nat.le_refl _) (by decide) rfl
    have hsrc := h.kept0 h1
    go_enter Tryd.func30, Tryd.ntmps30
    go_wp2_with (at_builtin; refine wpList_append_slc tyBytes hown hsrc (bvs_one l) (by simp only [maxLen, lim] at *; omega) (by simp only [lim] at *; omega) (by simp) rfl _ _ rfl rfl rfl ?_; intro v' w1 hown1 hk1 _ hb1)
    go_ret
    exact ⟨_, rfl, newBytes_of_row (by simpa using hown1), h1.trans hk1 (by simp [Value.ownBlock])⟩

/-- A block's bytes, in an array that nobody writes to. -/
def Data (w : World) (v : Value) (l : List UInt8) : Prop := Bytes w v l ∧ ∀ g, vblk v = some g → kind w g = 5 + 2
theorem Data.kept {X : List Nat} {w w' : World} {v : Value} {l : List UInt8} (h : Data w v l) (k : Kept X w w') (hX : ∀ k, k ∈ X → kind w k ≠ 5 + 2) : Data w' v l := by
  have hn : ∀ g, vblk v = some g → g ∉ X := fun g hg hx => hX g hx (h.2 g hg)
  exact ⟨h.1.kept k hn, fun g hg => (k.kind (h.1.lt hg) (hn g hg)).trans (h.2 g hg)⟩
theorem Data.of_new {w w' : World} {v : Value} {l : List UInt8} (h : NewBytes w w' v l) : Data w' v l := ⟨h.1, fun g hg => (h.2 g hg).2⟩


theorem zeroBytes (w : World) : (zeroValue 28).run Tryd.prog w = .ok (.slice none 0 0) w := by kernel_rfl
theorem keyStr : Keyed Tryd.prog 9 := Maps.string_keyed Tryd.underlying9
theorem setCell_heap {w : World} {b i : Nat} {c : Array Value} {t : Nat} {f : Nat × Nat} (h : w.heap[b]? = some (.cells c t f)) (v : Value) : (w.setCell ⟨b, i, none⟩ v).heap[b]? = some (.cells (c.setIfInBounds i v) t f) := by
  simp [World.setCell, Array.getElem?_modify, h]

/-! ### What was asked -/
theorem tyDues : SliceTy Tryd.prog 31 34 2 24 (.agg #[.string ⟨#[]⟩, .int .i64 0]) := ⟨Tryd.underlying31, by kernel_rfl, rfl, by decide⟩
def askCells (l : List (ByteArray × Int)) : List Value := l.flatMap (fun k => [.string k.1, .int .i64 k.2])
theorem askCells_len (l : List (ByteArray × Int)) : (askCells l).length = l.length * 2 := by
  induction l with
  | nil => rfl
  | cons k r ih =>
    have : askCells (k :: r) = [.string k.1, .int .i64 k.2] ++ askCells r := rfl
    rw [this, List.length_append, ih]
    simp
    omega
theorem askCells_get (l : List (ByteArray × Int)) (j : Nat) (h : j < l.length) : (askCells l)[j * 2]? = some (.string l[j].1) ∧ (askCells l)[j * 2 + 1]? = some (.int .i64 l[j].2) := by
  induction l generalizing j with
  | nil => simp at h
  | cons k r ih =>
    have e : askCells (k :: r) = .string k.1 :: .int .i64 k.2 :: askCells r := rfl
    rw [e]
    cases j with
    | zero => exact ⟨rfl, rfl⟩
    | succ j =>
      have := ih j (by simpa using h)
      rw [show (j + 1) * 2 = j * 2 + 1 + 1 by omega]
      simpa using this
theorem askCells_one (l : List (ByteArray × Int)) : ∀ u ∈ askCells l, u.oneCell' = true := by
  intro u hu
  obtain ⟨k, _, hk⟩ := List.mem_flatMap.1 hu
  simp at hk
  rcases hk with rfl | rfl <;> rfl
theorem askCells_app (l r : List (ByteArray × Int)) : askCells (l ++ r) = askCells l ++ askCells r := by simp [askCells]

@[go_sem] theorem eqlNilDues (w : World) (a : Option Addr) (n c : Nat) : (binOp .eql 31 (.slice a n c) (.slice none 0 0)).run Tryd.prog w = .ok (.bool a.isNone) w := Lib.run_eql_slice_nil w _ _ a n c 0 0 Tryd.underlying31

set_option maxRecDepth 10000 in
theorem cloneDues_any (v : Value) (l : List (ByteArray × Int)) (w : World) (h : Slc w 2 v l.length (askCells l)) (hl : l.length ≤ 100000) :
    Calls Tryd.prog 32 #[v] w fun e w' => ∃ v', e = .returned v' ∧ Slc w' 2 v' l.length (askCells l) ∧ (∀ g, vblk v' = some g → w.heap.size ≤ g) ∧ Kept [] w w' := by
  rcases h.2 with ⟨rfl, h0⟩ | h2
  · have : l = [] := List.eq_nil_of_length_eq_zero h0
    subst this
    go_enter Tryd.func32, Tryd.ntmps32
    go_wp2
    go_ret
    exact ⟨_, rfl, slc_nil _ _, by simp [vblk], Kept.refl _ _⟩
  · obtain ⟨ad, cap, rfl⟩ : ∃ ad cap, v = .slice (some ad) l.length cap := by
      rcases h2 with ⟨h0, a, c, rfl, _⟩ | ⟨g, o, c, rfl, _⟩
      · exact ⟨a, c, by rw [h0]⟩
      · exact ⟨_, _, rfl⟩
    have h1 := (Kept.refl [] w).alloc (.cells #[] 34)
    have hown := World.ownsRow_made (base := w.heap.size) (size := 2) (e := 34) w #[] 0 (Nat.le_refl _) (by decide) rfl
    have hsrc := h.kept0 h1
    go_enter Tryd.func32, Tryd.ntmps32
    go_wp2_with (at_builtin; refine wpList_append_slc tyDues hown hsrc (askCells_one l) (by simp only [maxLen] at *; omega) (by omega) (by simp) rfl _ _ rfl rfl rfl ?_; intro v' w1 hown1 hk1 _ hb1)
    go_ret
    exact ⟨_, rfl, Slc.of_row (by simpa using hown1), fun g hg => (hown1.lt g (own_of_vblk hg)).1, h1.trans hk1 (by simp [Value.ownBlock])⟩
end Go.Proofs.YtfkdoinlbdcaaaaDoor

/- The document's disk (pursuivantref21): how it lies in memory, and its small functions. It is the same PDisk. -/
import Derived.Test.YtfkdoinlbdcaaaaLoose
import Derived.Test.YtfkdoinlbdcaaaaArgs
namespace Go.Proofs.Ytfkdoinlbdcaaaa
open Go.RowKit

theorem tyBools : SliceTy Try.prog 49 4 1 1 (.bool false) := ⟨Try.underlying49, by kernel_rfl, rfl, by decide⟩
theorem tyInts : SliceTy Try.prog 41 3 1 8 (.int .i64 0) := ⟨Try.underlying41, by kernel_rfl, rfl, by decide⟩

/-- The document's disk d: its struct at b, the sure blocks' row at sb, the new ones' at nb, the flags' at lb. -/
structure RefAt (w : World) (b sb nb lb scap ncap lcap : Nat) (svals nvals lvals : List Value) (d : PDisk) : Prop where
  ok : d.Ok
  head : w.heap[b]? = some (.cells #[.slice (some ⟨sb, 0, none⟩) d.sure.length scap, .slice (some ⟨nb, 0, none⟩) d.sure.length ncap, .slice (some ⟨lb, 0, none⟩) d.sure.length lcap, .int .i64 d.left, .int .i64 d.bytes, .bool d.off] 51 (0, 0))
  rows : w.ownsRow 0 30 1 (.slice (some ⟨sb, 0, none⟩) d.sure.length scap) d.sure.length svals
  rown : w.ownsRow 0 30 1 (.slice (some ⟨nb, 0, none⟩) d.sure.length ncap) d.sure.length nvals
  rowl : w.ownsRow 0 4 1 (.slice (some ⟨lb, 0, none⟩) d.sure.length lcap) d.sure.length lvals
  apart : sb ≠ nb
  sure : All2 (Data w) svals d.sure
  flag : ∀ j : Nat, j < d.sure.length → lvals[j]? = some (.bool (d.loose j).isSome)
  new : ∀ j : Nat, j < d.sure.length → ∀ l, d.loose j = some l → ∃ v, nvals[j]? = some v ∧ Data w v l

/-- .. and its blocks. -/
def RefRep (w : World) (b : Nat) (F : List Nat) (d : PDisk) : Prop := ∃ sb nb lb scap ncap lcap svals nvals lvals, F = [b, sb, nb, lb] ∧ RefAt w b sb nb lb scap ncap lcap svals nvals lvals d

section
variable {w : World} {b sb nb lb scap ncap lcap : Nat} {svals nvals lvals : List Value} {d : PDisk}
theorem RefAt.kb (h : RefAt w b sb nb lb scap ncap lcap svals nvals lvals d) : kind w b = 51 + 2 := kind_cells h.head
theorem RefAt.ks (h : RefAt w b sb nb lb scap ncap lcap svals nvals lvals d) : kind w sb = 30 + 2 := row_kind h.rows rfl
theorem RefAt.kn (h : RefAt w b sb nb lb scap ncap lcap svals nvals lvals d) : kind w nb = 30 + 2 := row_kind h.rown rfl
theorem RefAt.kl (h : RefAt w b sb nb lb scap ncap lcap svals nvals lvals d) : kind w lb = 4 + 2 := row_kind h.rowl rfl
theorem RefAt.c0 (h : RefAt w b sb nb lb scap ncap lcap svals nvals lvals d) : w.cell? ⟨b, 0, none⟩ = some (.slice (some ⟨sb, 0, none⟩) d.sure.length scap) := cell_head h.head rfl
theorem RefAt.c1 (h : RefAt w b sb nb lb scap ncap lcap svals nvals lvals d) : w.cell? ⟨b, 1, none⟩ = some (.slice (some ⟨nb, 0, none⟩) d.sure.length ncap) := cell_head h.head rfl
theorem RefAt.c2 (h : RefAt w b sb nb lb scap ncap lcap svals nvals lvals d) : w.cell? ⟨b, 2, none⟩ = some (.slice (some ⟨lb, 0, none⟩) d.sure.length lcap) := cell_head h.head rfl
theorem RefAt.c3 (h : RefAt w b sb nb lb scap ncap lcap svals nvals lvals d) : w.cell? ⟨b, 3, none⟩ = some (.int .i64 d.left) := cell_head h.head rfl
theorem RefAt.c4 (h : RefAt w b sb nb lb scap ncap lcap svals nvals lvals d) : w.cell? ⟨b, 4, none⟩ = some (.int .i64 d.bytes) := cell_head h.head rfl
theorem RefAt.c5 (h : RefAt w b sb nb lb scap ncap lcap svals nvals lvals d) : w.cell? ⟨b, 5, none⟩ = some (.bool d.off) := cell_head h.head rfl
theorem RefAt.free (h : RefAt w b sb nb lb scap ncap lcap svals nvals lvals d) (o : Nat) : w.frozen? ⟨b, o, none⟩ = false := free_head h.head
theorem RefAt.dist (h : RefAt w b sb nb lb scap ncap lcap svals nvals lvals d) : b ≠ sb ∧ b ≠ nb ∧ b ≠ lb ∧ sb ≠ nb ∧ sb ≠ lb ∧ nb ≠ lb :=
  ⟨ne_kind h.kb h.ks (by decide), ne_kind h.kb h.kn (by decide), ne_kind h.kb h.kl (by decide), h.apart, ne_kind h.ks h.kl (by decide), ne_kind h.kn h.kl (by decide)⟩
theorem RefAt.kept {X : List Nat} {w' : World} (h : RefAt w b sb nb lb scap ncap lcap svals nvals lvals d) (k : Kept X w w') (h1 : b ∉ X) (h2 : sb ∉ X) (h3 : nb ∉ X) (h4 : lb ∉ X) (hX : ∀ k, k ∈ X → kind w k ≠ 5 + 2) : RefAt w' b sb nb lb scap ncap lcap svals nvals lvals d where
  ok := h.ok
  head := k.heap h.head h1
  rows := row_kept h.rows k (by intro g hg; simp [Value.ownBlock] at hg; subst hg; exact h2)
  rown := row_kept h.rown k (by intro g hg; simp [Value.ownBlock] at hg; subst hg; exact h3)
  rowl := row_kept h.rowl k (by intro g hg; simp [Value.ownBlock] at hg; subst hg; exact h4)
  apart := h.apart
  sure := h.sure.mono (fun x y _ hxy => hxy.kept k hX)
  flag := h.flag
  new := fun j hj l hl => by obtain ⟨v, e, hv⟩ := h.new j hj l hl; exact ⟨v, e, hv.kept k hX⟩
end

theorem RefRep.lt {w : World} {b : Nat} {F : List Nat} {d : PDisk} (h : RefRep w b F d) : ∀ k, k ∈ F → k < w.heap.size := by
  obtain ⟨sb, nb, lb, scap, ncap, lcap, svals, nvals, lvals, rfl, h⟩ := h
  intro k hk
  simp at hk
  rcases hk with rfl | rfl | rfl | rfl
  · exact lt_of_block h.head
  · exact (h.rows.lt _ rfl).2
  · exact (h.rown.lt _ rfl).2
  · exact (h.rowl.lt _ rfl).2
theorem RefRep.kinds {w : World} {b : Nat} {F : List Nat} {d : PDisk} (h : RefRep w b F d) : ∀ k, k ∈ F → kind w k ≠ 5 + 2 := by
  obtain ⟨sb, nb, lb, scap, ncap, lcap, svals, nvals, lvals, rfl, h⟩ := h
  intro k hk
  simp at hk
  rcases hk with rfl | rfl | rfl | rfl
  · rw [h.kb]; decide
  · rw [h.ks]; decide
  · rw [h.kn]; decide
  · rw [h.kl]; decide
theorem RefRep.ok {w : World} {b : Nat} {F : List Nat} {d : PDisk} (h : RefRep w b F d) : d.Ok := by
  obtain ⟨sb, nb, lb, scap, ncap, lcap, svals, nvals, lvals, rfl, h⟩ := h
  exact h.ok
theorem RefRep.kept {X : List Nat} {w w' : World} {b : Nat} {F : List Nat} {d : PDisk} (h : RefRep w b F d) (k : Kept X w w') (hX : ∀ k, k ∈ X → k ∉ F ∧ kind w k ≠ 5 + 2) : RefRep w' b F d := by
  obtain ⟨sb, nb, lb, scap, ncap, lcap, svals, nvals, lvals, rfl, h⟩ := h
  refine ⟨sb, nb, lb, scap, ncap, lcap, svals, nvals, lvals, rfl, h.kept k ?_ ?_ ?_ ?_ fun k hk => (hX k hk).2⟩
  all_goals
    intro hx
    have := (hX _ hx).1
    simp at this
theorem RefRep.kept0 {w w' : World} {b : Nat} {F : List Nat} {d : PDisk} (h : RefRep w b F d) (k : Kept [] w w') : RefRep w' b F d := h.kept k (by simp)

section
variable {w : World} {b sb nb lb scap ncap lcap : Nat} {svals nvals lvals : List Value} {d : PDisk}
set_option maxRecDepth 10000 in
theorem refIs_any (h : RefAt w b sb nb lb scap ncap lcap svals nvals lvals d) (i : Int) : Calls Try.prog 43 #[.pointer (some ⟨b, 0, none⟩), .int .i64 i] w fun e w' => e = .returned (.bool (decide (0 ≤ i ∧ i < d.sure.length))) ∧ w = w' := by
  have c0 := h.c0
  clear h
  go_enter Try.func43, Try.ntmps43
  by_cases h0 : 0 ≤ i
  · by_cases h1 : i < d.sure.length
    · go_wp2
      go_ret
      exact ⟨by simp [h0, h1], rfl⟩
    · go_wp2
      go_ret
      exact ⟨by simp [h1], rfl⟩
  · go_wp2
    go_ret
    exact ⟨by simp; omega, rfl⟩
set_option maxRecDepth 10000 in
theorem refNow_any (h : RefAt w b sb nb lb scap ncap lcap svals nvals lvals d) (k : Nat) (hk : k < d.sure.length) : Calls Try.prog 44 #[.pointer (some ⟨b, 0, none⟩), .int .i64 k] w fun e w' => (∃ v, e = .returned v ∧ Data w v (d.now k)) ∧ w = w' := by
  have c0 := h.c0
  have c1 := h.c1
  have c2 := h.c2
  have hkk : (k : Int) < d.sure.length := by omega
  have qf := h.rowl.cellAt k (by omega)
  rw [h.flag k hk] at qf
  cases hl : d.loose k with
  | some l =>
    obtain ⟨v, hv, hdv⟩ := h.new k hk l hl
    have qn := h.rown.cellAt k (by omega)
    rw [hv] at qn
    rw [hl] at qf
    have hnow : d.now k = l := by unfold PDisk.now; rw [hl]; rfl
    have HD := Lib.hid hdv
    have HN := Lib.hid hnow
    clear h hdv hl hv hnow
    go_enter Try.func44, Try.ntmps44
    go_wp2
    go_ret
    exact ⟨⟨v, rfl, by rw [HN.out]; exact HD.out⟩, rfl⟩
  | none =>
    have hlen := h.sure.1
    have hks : k < svals.length := by omega
    have qs := h.rows.cellAt k (by omega)
    rw [List.getElem?_eq_getElem hks] at qs
    rw [hl] at qf
    have hdv := h.sure.2 k _ _ (List.getElem?_eq_getElem hks) (List.getElem?_eq_getElem hk)
    have hnow : d.now k = d.sure[k] := by unfold PDisk.now; rw [hl]; simp [List.getD_eq_getElem?_getD, hk]
    rw [← hnow] at hdv
    have HD := Lib.hid hdv
    clear h hdv hl hnow hlen
    revert qs HD
    generalize svals[k] = v
    intro qs HD
    go_enter Try.func44, Try.ntmps44
    go_wp2
    go_ret
    exact ⟨⟨v, rfl, HD.out⟩, rfl⟩
end
end Go.Proofs.Ytfkdoinlbdcaaaa

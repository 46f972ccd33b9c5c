/- The document's mirror: how it lies in memory; note. -/
import Derived.Test.YtfkdoinlbdcaaaaDoorMPlain
namespace Go.Proofs.YtfkdoinlbdcaaaaDoor
open Go.RowKit

structure RMirAt (w : World) (b : Nat) (la : Option Addr) (lc : Nat) (aa : Option Addr) (ac : Nat) (rs : Int) (rows : List Row2) (fs : List PF) (d : PMir) : Prop where
  head : w.heap[b]? = some (.cells #[.slice la rows.length lc, .slice aa d.asked.length ac, .int .i64 rs] 50 (0, 0))
  files : Slc w 2 (.slice la rows.length lc) rows.length (fileCells rows)
  kfile : ∀ g, vblk (.slice la rows.length lc) = some g → kind w g = 58 + 2
  bodies : All2 (fun r f => r.1 = f.1 ∧ Data w r.2 f.2) rows fs
  row : Tail w 34 2 (.slice aa d.asked.length ac) d.asked.length (askCells d.asked)
  agree : Agree d fs
  small : ∀ f, f ∈ fs → f.2.length ≤ 1048576
  cnt : fs.length ≤ 256
  slow : d.slow = max rs (-1) ∧ rs ≤ 9223372036854775807
  few : d.asked.length ≤ 257

def RMirRep (w : World) (b : Nat) (F : List Nat) (d : PMir) : Prop := ∃ la lc aa ac rs rows fs, F = b :: ((vblk (.slice la rows.length lc)).toList ++ (tb (.slice aa d.asked.length ac)).toList) ∧ RMirAt w b la lc aa ac rs rows fs d

section
variable {w : World} {b : Nat} {la : Option Addr} {lc : Nat} {aa : Option Addr} {ac : Nat} {rs : Int} {rows : List Row2} {fs : List PF} {d : PMir}
theorem RMirAt.kb (h : RMirAt w b la lc aa ac rs rows fs d) : kind w b = 50 + 2 := kind_cells h.head
theorem RMirAt.ka (h : RMirAt w b la lc aa ac rs rows fs d) {g : Nat} (hg : tb (.slice aa d.asked.length ac) = some g) : kind w g = 34 + 2 := h.row.kind hg
theorem RMirAt.lt (h : RMirAt w b la lc aa ac rs rows fs d) : b < w.heap.size := lt_of_block h.head
theorem RMirAt.c0 (h : RMirAt w b la lc aa ac rs rows fs d) : w.cell? ⟨b, 0, none⟩ = some (.slice la rows.length lc) := cell_head h.head rfl
theorem RMirAt.c1 (h : RMirAt w b la lc aa ac rs rows fs d) : w.cell? ⟨b, 1, none⟩ = some (.slice aa d.asked.length ac) := cell_head h.head rfl
theorem RMirAt.c2 (h : RMirAt w b la lc aa ac rs rows fs d) : w.cell? ⟨b, 2, none⟩ = some (.int .i64 rs) := cell_head h.head rfl
theorem RMirAt.fr (h : RMirAt w b la lc aa ac rs rows fs d) (o : Nat) : w.frozen? ⟨b, o, none⟩ = false := free_head h.head
theorem RMirAt.len (h : RMirAt w b la lc aa ac rs rows fs d) : rows.length = fs.length := h.bodies.1
theorem RMirAt.sl (h : RMirAt w b la lc aa ac rs rows fs d) : Sl rows := by
  intro r hr
  obtain ⟨j, hj, rfl⟩ := List.getElem_of_mem hr
  obtain ⟨-, h2⟩ := h.bodies.2 j rows[j] (fs[j]'(by rw [← h.len]; exact hj)) (List.getElem?_eq_getElem _) (List.getElem?_eq_getElem _)
  obtain ⟨a, c, e, -, -⟩ := h2.1.form
  exact ⟨a, _, c, e⟩
theorem RMirAt.kept {X : List Nat} {w' : World} (h : RMirAt w b la lc aa ac rs rows fs d) (k : Kept X w w') (h1 : b ∉ X) (h2 : ∀ g, vblk (.slice la rows.length lc) = some g → g ∉ X) (h3 : ∀ g, tb (.slice aa d.asked.length ac) = some g → g ∉ X) (hX : ∀ k, k ∈ X → kind w k ≠ 5 + 2) : RMirAt w' b la lc aa ac rs rows fs d where
  head := k.heap h.head h1
  files := h.files.kept k h2
  kfile := fun g hg => (k.kind (h.files.lt hg) (h2 g hg)).trans (h.kfile g hg)
  bodies := h.bodies.mono fun r f _ e => ⟨e.1, e.2.kept k hX⟩
  row := h.row.kept k h3
  agree := h.agree
  small := h.small
  cnt := h.cnt
  slow := h.slow
  few := h.few
theorem RMirAt.kept0 {w' : World} (h : RMirAt w b la lc aa ac rs rows fs d) (k : Kept [] w w') : RMirAt w' b la lc aa ac rs rows fs d := h.kept k (by simp) (by simp) (by simp) (by simp)
/-- What was asked is another row, in the struct's cell. -/
theorem RMirAt.setAsked (h : RMirAt w b la lc aa ac rs rows fs d) {w1 : World} (k1 : Kept (tb (.slice aa d.asked.length ac)).toList w w1) {l : List (ByteArray × Int)} {a' : Option Addr} {c' : Nat} (hl : l.length ≤ 257) (hr : Tail w1 34 2 (.slice a' l.length c') l.length (askCells l)) :
    RMirAt (w1.setCell ⟨b, 1, none⟩ (.slice a' l.length c')) b la lc a' c' rs rows fs { d with asked := l } := by
  have hb1 : b ∉ (tb (.slice aa d.asked.length ac)).toList := fun hx => ne_kind h.kb (h.ka (Option.mem_toList.1 hx)) (by decide) rfl
  have hf1 : ∀ g, vblk (.slice la rows.length lc) = some g → g ∉ (tb (.slice aa d.asked.length ac)).toList := fun g hg hx => ne_kind (h.kfile g hg) (h.ka (Option.mem_toList.1 hx)) (by decide) rfl
  have hX1 : ∀ k, k ∈ (tb (.slice aa d.asked.length ac)).toList → kind w k ≠ 5 + 2 := fun k hk => by rw [h.ka (Option.mem_toList.1 hk)]; decide
  have hh := k1.heap h.head hb1
  have k : Kept [b] w1 (w1.setCell ⟨b, 1, none⟩ (.slice a' l.length c')) := (Kept.refl [b] w1).setCell (.inl (by simp)) _
  have hX : ∀ k, k ∈ [b] → kind w1 k ≠ 5 + 2 := by intro k hk; simp at hk; subst hk; rw [kind_cells hh]; decide
  have hkf : ∀ g, vblk (.slice la rows.length lc) = some g → kind w1 g = 58 + 2 := fun g hg => (k1.kind (h.files.lt hg) (hf1 g hg)).trans (h.kfile g hg)
  have hf2 : ∀ g, vblk (.slice la rows.length lc) = some g → g ∉ [b] := fun g hg hx => by
    simp at hx
    subst hx
    exact ne_kind (hkf _ hg) (kind_cells hh) (by decide) rfl
  have hfl := h.files.kept k1 hf1
  exact {
    head := by rw [setCell_heap hh]; rfl
    files := hfl.kept k hf2
    kfile := fun g hg => (k.kind (hfl.lt hg) (hf2 g hg)).trans (hkf g hg)
    bodies := h.bodies.mono fun r f _ e => ⟨e.1, (e.2.kept k1 hX1).kept k hX⟩
    row := hr.kept k (by intro g hg; simp; exact ne_kind (hr.kind hg) (kind_cells hh) (by decide))
    agree := ⟨h.agree.sorted, h.agree.file, h.agree.cnt⟩
    small := h.small
    cnt := h.cnt
    slow := h.slow
    few := hl }
/-- How slow it is. -/
theorem RMirAt.setSlow (h : RMirAt w b la lc aa ac rs rows fs d) (n : Int) (hn : n ≤ 9223372036854775807) : RMirAt (w.setCell ⟨b, 2, none⟩ (.int .i64 n)) b la lc aa ac n rows fs (d.slowly n) := by
  have k : Kept [b] w (w.setCell ⟨b, 2, none⟩ (.int .i64 n)) := (Kept.refl [b] w).setCell (.inl (by simp)) _
  have hX : ∀ k, k ∈ [b] → kind w k ≠ 5 + 2 := by intro k hk; simp at hk; subst hk; rw [h.kb]; decide
  have hf2 : ∀ g, vblk (.slice la rows.length lc) = some g → g ∉ [b] := fun g hg hx => by
    simp at hx
    subst hx
    exact ne_kind (h.kfile _ hg) h.kb (by decide) rfl
  exact {
    head := by rw [setCell_heap h.head]; rfl
    files := h.files.kept k hf2
    kfile := fun g hg => (k.kind (h.files.lt hg) (hf2 g hg)).trans (h.kfile g hg)
    bodies := h.bodies.mono fun r f _ e => ⟨e.1, e.2.kept k hX⟩
    row := h.row.kept k (by intro g hg; simp; exact ne_kind (h.ka hg) h.kb (by decide))
    agree := ⟨h.agree.sorted, h.agree.file, h.agree.cnt⟩
    small := h.small
    cnt := h.cnt
    slow := ⟨rfl, hn⟩
    few := h.few }
/-- Other files, in the struct's cell. -/
theorem RMirAt.setFiles (h : RMirAt w b la lc aa ac rs rows fs d) {w1 : World} (k1 : Kept [] w w1) {rows' : List Row2} {fs' : List PF} {d' : PMir} {a' : Option Addr} {c' : Nat} (hf : Slc w1 2 (.slice a' rows'.length c') rows'.length (fileCells rows'))
    (hk : ∀ g, vblk (.slice a' rows'.length c') = some g → kind w1 g = 58 + 2) (hb : All2 (fun r f => r.1 = f.1 ∧ Data w1 r.2 f.2) rows' fs') (ha : Agree d' fs') (hs : ∀ f, f ∈ fs' → f.2.length ≤ 1048576) (hc : fs'.length ≤ 256) (e1 : d'.asked = d.asked) (e2 : d'.slow = d.slow) :
    RMirAt (w1.setCell ⟨b, 0, none⟩ (.slice a' rows'.length c')) b a' c' aa ac rs rows' fs' d' := by
  have h1 := h.kept0 k1
  have k : Kept [b] w1 (w1.setCell ⟨b, 0, none⟩ (.slice a' rows'.length c')) := (Kept.refl [b] w1).setCell (.inl (by simp)) _
  have hX : ∀ k, k ∈ [b] → kind w1 k ≠ 5 + 2 := by intro k hk; simp at hk; subst hk; rw [h1.kb]; decide
  have hf2 : ∀ g, vblk (.slice a' rows'.length c') = some g → g ∉ [b] := fun g hg hx => by
    simp at hx
    subst hx
    exact ne_kind (hk _ hg) h1.kb (by decide) rfl
  exact {
    head := by rw [setCell_heap h1.head, e1]; rfl
    files := hf.kept k hf2
    kfile := fun g hg => (k.kind (hf.lt hg) (hf2 g hg)).trans (hk g hg)
    bodies := hb.mono fun r f _ e => ⟨e.1, e.2.kept k hX⟩
    row := by rw [e1]; exact h1.row.kept k (by intro g hg; simp; exact ne_kind (h1.ka hg) h1.kb (by decide))
    agree := ha
    small := hs
    cnt := hc
    slow := by rw [e2]; exact h.slow
    few := by rw [e1]; exact h.few }
end

theorem RMirRep.lt {w : World} {b : Nat} {F : List Nat} {d : PMir} (h : RMirRep w b F d) : ∀ k, k ∈ F → k < w.heap.size := by
  obtain ⟨la, lc, aa, ac, rs, rows, fs, rfl, h⟩ := h
  intro k hk
  simp only [List.mem_cons, List.mem_append, Option.mem_toList] at hk
  rcases hk with rfl | hk | hk
  · exact h.lt
  · exact h.files.lt hk
  · exact h.row.lt hk
theorem RMirRep.kinds {w : World} {b : Nat} {F : List Nat} {d : PMir} (h : RMirRep w b F d) : ∀ k, k ∈ F → kind w k ≠ 5 + 2 := by
  obtain ⟨la, lc, aa, ac, rs, rows, fs, rfl, h⟩ := h
  intro k hk
  simp only [List.mem_cons, List.mem_append, Option.mem_toList] at hk
  rcases hk with rfl | hk | hk
  · rw [h.kb]; decide
  · rw [h.kfile _ hk]; decide
  · rw [h.ka hk]; decide
theorem RMirRep.kept {X : List Nat} {w w' : World} {b : Nat} {F : List Nat} {d : PMir} (h : RMirRep w b F d) (k : Kept X w w') (hX : ∀ k, k ∈ X → k ∉ F ∧ kind w k ≠ 5 + 2) : RMirRep w' b F d := by
  obtain ⟨la, lc, aa, ac, rs, rows, fs, rfl, h⟩ := h
  refine ⟨la, lc, aa, ac, rs, rows, fs, rfl, h.kept k ?_ ?_ ?_ fun k hk => (hX k hk).2⟩
  · intro e; exact (hX _ e).1 (by simp)
  · intro g hg e; exact (hX _ e).1 (by simp [hg])
  · intro g hg e; exact (hX _ e).1 (by simp [hg])
theorem RMirRep.kept0 {w w' : World} {b : Nat} {F : List Nat} {d : PMir} (h : RMirRep w b F d) (k : Kept [] w w') : RMirRep w' b F d := h.kept k (by simp)

set_option maxRecDepth 10000 in
theorem newRMir_any (w : World) : Calls Tryd.prog 19 #[] w fun e w' => ∃ b F, e = .returned (.pointer (some ⟨b, 0, none⟩)) ∧ RMirRep w' b F PMir.new ∧ Kept [] w w' ∧ (∀ k, k ∈ F → w.heap.size ≤ k) := by
  go_enter Tryd.func19, Tryd.ntmps19
  go_wp2
  go_ret
  refine ⟨w.heap.size, [w.heap.size], rfl, ⟨none, 0, none, 0, -1, [], [], rfl, ?_⟩, (Kept.refl _ w).alloc _, by simp⟩
  exact {
    head := heap_alloc_new w _
    files := slc_nil _ _
    kfile := by simp [vblk]
    bodies := All2.nil _
    row := Tail.nil _ _ _
    agree := agree_new
    small := by simp
    cnt := by decide
    slow := by decide
    few := by decide }
end Go.Proofs.YtfkdoinlbdcaaaaDoor

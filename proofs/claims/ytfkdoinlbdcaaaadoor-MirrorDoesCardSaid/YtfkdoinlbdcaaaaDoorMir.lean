/- The mirror: what it is (plainly), how it lies in memory, and the contracts of its small functions. -/
import Derived.Test.YtfkdoinlbdcaaaaDoorMLib
import Derived.Test.YtfkdoinlbdcaaaaDoorLast
namespace Go.Proofs.YtfkdoinlbdcaaaaDoor
open Go.RowKit
open Go.Maps (Keyed)

structure PMir where
  file : List UInt8 → Option (List UInt8)
  cnt : Nat
  asked : List (ByteArray × Int)
  slow : Int
def nameOk (s : ByteArray) : Bool := decide (0 < s.size ∧ s.size ≤ 256)
namespace PMir
def new : PMir := { file := fun _ => none, cnt := 0, asked := [], slow := -1 }
def note (d : PMir) (s : ByteArray) (n : Int) : PMir := if nameOk s then { d with asked := (d.asked ++ [(s, n)]).drop (d.asked.length + 1 - 256) } else d
def stored (d : PMir) (s : ByteArray) (l : List UInt8) : PMir := { d with file := fun x => if x = s.data.toList then some l else d.file x, cnt := if (d.file s.data.toList).isSome then d.cnt else d.cnt + 1 }
def dropped (d : PMir) (s : ByteArray) : PMir := { d with file := fun x => if x = s.data.toList then none else d.file x, cnt := d.cnt - 1 }
def put (d : PMir) (s : ByteArray) (l : List UInt8) : Int × PMir :=
  if nameOk s = false then (1, d) else if 1048576 < l.length then (3, d) else if d.file s.data.toList = none ∧ 256 ≤ d.cnt then (2, d)
  else (0, d.stored s l)
def drop (d : PMir) (s : ByteArray) : Int × PMir :=
  if d.file s.data.toList = none then (4, d) else (0, d.dropped s)
def slowly (d : PMir) (n : Int) : PMir := { d with slow := max n (-1) }
def part (d : PMir) (l : List UInt8) : List UInt8 := if 0 ≤ d.slow then l.take (min d.slow.toNat l.length) else l
def fetch (d : PMir) (s : ByteArray) (most : Int) : (List UInt8 × Int) × PMir :=
  match d.file s.data.toList with
  | none => (([], 4), d.note s (-1))
  | some l => if max most 0 < ((d.part l).length : Int) then (([], 3), d.note s (max most 0 + 1)) else ((d.part l, 0), d.note s (d.part l).length)
end PMir

theorem heap_size_alloc' (w : World) (o : Obj) : (w.alloc o).heap.size = w.heap.size + 1 := by simp
structure MirAt (w : World) (b mb : Nat) (aa : Option Addr) (ac : Nat) (M : Lit → Option Value) (d : PMir) : Prop where
  head : w.heap[b]? = some (.cells #[.map (some mb), .slice aa d.asked.length ac, .int .i64 d.slow] 62 (0, 0))
  map : MapIs Tryd.prog w 9 mb d.cnt M
  row : Tail w 34 2 (.slice aa d.asked.length ac) d.asked.length (askCells d.asked)
  have_ : ∀ x v, M (.string x) = some v → ∃ l, d.file x = some l ∧ Data w v l ∧ l.length ≤ 1048576
  gone : ∀ x, M (.string x) = none → d.file x = none
  cnt : d.cnt ≤ 256
  slow : -1 ≤ d.slow ∧ d.slow ≤ 9223372036854775807
  few : d.asked.length ≤ 257

def MirRep (w : World) (b : Nat) (F : List Nat) (d : PMir) : Prop := ∃ mb aa ac M, F = b :: mb :: (tb (.slice aa d.asked.length ac)).toList ∧ MirAt w b mb aa ac M d

section
variable {w : World} {b mb : Nat} {aa : Option Addr} {ac : Nat} {M : Lit → Option Value} {d : PMir}
theorem MirAt.kb (h : MirAt w b mb aa ac M d) : kind w b = 62 + 2 := kind_cells h.head
theorem MirAt.km (h : MirAt w b mb aa ac M d) : kind w mb = 1 := h.map.kind
theorem MirAt.ka (h : MirAt w b mb aa ac M d) {g : Nat} (hg : tb (.slice aa d.asked.length ac) = some g) : kind w g = 34 + 2 := h.row.kind hg
theorem MirAt.lt (h : MirAt w b mb aa ac M d) : b < w.heap.size := lt_of_block h.head
theorem MirAt.c0 (h : MirAt w b mb aa ac M d) : w.cell? ⟨b, 0, none⟩ = some (.map (some mb)) := cell_head h.head rfl
theorem MirAt.c1 (h : MirAt w b mb aa ac M d) : w.cell? ⟨b, 1, none⟩ = some (.slice aa d.asked.length ac) := cell_head h.head rfl
theorem MirAt.c2 (h : MirAt w b mb aa ac M d) : w.cell? ⟨b, 2, none⟩ = some (.int .i64 d.slow) := cell_head h.head rfl
theorem MirAt.fr (h : MirAt w b mb aa ac M d) (o : Nat) : w.frozen? ⟨b, o, none⟩ = false := free_head h.head
theorem MirAt.bm (h : MirAt w b mb aa ac M d) : b ≠ mb := ne_kind h.kb h.km (by decide)
theorem MirAt.kept {X : List Nat} {w' : World} (h : MirAt w b mb aa ac M d) (k : Kept X w w') (h1 : b ∉ X) (h2 : mb ∉ X) (h3 : ∀ g, tb (.slice aa d.asked.length ac) = some g → g ∉ X) (hX : ∀ k, k ∈ X → kind w k ≠ 5 + 2) : MirAt w' b mb aa ac M d where
  head := k.heap h.head h1
  map := h.map.kept k h2
  row := h.row.kept k h3
  have_ := fun x v hv => by obtain ⟨l, e, r, q⟩ := h.have_ x v hv; exact ⟨l, e, r.kept k hX, q⟩
  gone := h.gone
  cnt := h.cnt
  slow := h.slow
  few := h.few
theorem MirAt.kept0 {w' : World} (h : MirAt w b mb aa ac M d) (k : Kept [] w w') : MirAt w' b mb aa ac M d := h.kept k (by simp) (by simp) (by simp) (by simp)
theorem MirAt.setSlow (h : MirAt w b mb aa ac M d) (n : Int) (hn : -1 ≤ n ∧ n ≤ 9223372036854775807) : MirAt (w.setCell ⟨b, 2, none⟩ (.int .i64 n)) b mb aa ac M { d with slow := n } := by
  have k : Kept [b] w (w.setCell ⟨b, 2, none⟩ (.int .i64 n)) := (Kept.refl [b] w).setCell (.inl (by simp)) _
  have hX : ∀ k, k ∈ [b] → kind w k ≠ 5 + 2 := by intro k hk; simp at hk; subst hk; rw [h.kb]; decide
  exact {
    head := by rw [setCell_heap h.head]; rfl
    map := h.map.kept k (by simpa using h.bm.symm)
    row := h.row.kept k (by intro g hg; simp; exact ne_kind (h.ka hg) h.kb (by decide))
    have_ := fun x v hv => by obtain ⟨l, e, r, q⟩ := h.have_ x v hv; exact ⟨l, e, r.kept k hX, q⟩
    gone := h.gone
    cnt := h.cnt
    slow := hn
    few := h.few }
/-- What was asked is another row, in the struct's cell. -/
theorem MirAt.setAsked (h : MirAt w b mb aa ac M d) {w1 : World} (k1 : Kept (tb (.slice aa d.asked.length ac)).toList w w1) {l : List (ByteArray × Int)} {a' : Option Addr} {c' : Nat} (hl : l.length ≤ 257) (hr : Tail w1 34 2 (.slice a' l.length c') l.length (askCells l)) :
    MirAt (w1.setCell ⟨b, 1, none⟩ (.slice a' l.length c')) b mb a' c' M { d with asked := l } := by
  have hb1 : b ∉ (tb (.slice aa d.asked.length ac)).toList := fun hx => ne_kind h.kb (h.ka (Option.mem_toList.1 hx)) (by decide) rfl
  have hm1 : mb ∉ (tb (.slice aa d.asked.length ac)).toList := fun hx => ne_kind h.km (h.ka (Option.mem_toList.1 hx)) (by decide) rfl
  have hX1 : ∀ k, k ∈ (tb (.slice aa d.asked.length ac)).toList → kind w k ≠ 5 + 2 := fun k hk => by rw [h.ka (Option.mem_toList.1 hk)]; decide
  have hh := k1.heap h.head hb1
  have k : Kept [b] w1 (w1.setCell ⟨b, 1, none⟩ (.slice a' l.length c')) := (Kept.refl [b] w1).setCell (.inl (by simp)) _
  have hX : ∀ k, k ∈ [b] → kind w1 k ≠ 5 + 2 := by intro k hk; simp at hk; subst hk; rw [kind_cells hh]; decide
  exact {
    head := by rw [setCell_heap hh]; rfl
    map := (h.map.kept k1 hm1).kept k (by simpa using h.bm.symm)
    row := hr.kept k (by intro g hg; simp; exact ne_kind (hr.kind hg) (kind_cells hh) (by decide))
    have_ := fun x v hv => by obtain ⟨l, e, r, q⟩ := h.have_ x v hv; exact ⟨l, e, (r.kept k1 hX1).kept k hX, q⟩
    gone := h.gone
    cnt := h.cnt
    slow := h.slow
    few := hl }
end

theorem MirRep.lt {w : World} {b : Nat} {F : List Nat} {d : PMir} (h : MirRep w b F d) : ∀ k, k ∈ F → k < w.heap.size := by
  obtain ⟨mb, aa, ac, M, rfl, h⟩ := h
  intro k hk
  simp only [List.mem_cons, Option.mem_toList] at hk
  rcases hk with rfl | rfl | hk
  · exact h.lt
  · exact h.map.lt
  · exact h.row.lt hk
theorem MirRep.kinds {w : World} {b : Nat} {F : List Nat} {d : PMir} (h : MirRep w b F d) : ∀ k, k ∈ F → kind w k ≠ 5 + 2 := by
  obtain ⟨mb, aa, ac, M, rfl, h⟩ := h
  intro k hk
  simp only [List.mem_cons, Option.mem_toList] at hk
  rcases hk with rfl | rfl | hk
  · rw [h.kb]; decide
  · rw [h.km]; decide
  · rw [h.ka hk]; decide
theorem MirRep.kept {X : List Nat} {w w' : World} {b : Nat} {F : List Nat} {d : PMir} (h : MirRep w b F d) (k : Kept X w w') (hX : ∀ k, k ∈ X → k ∉ F ∧ kind w k ≠ 5 + 2) : MirRep w' b F d := by
  obtain ⟨mb, aa, ac, M, rfl, h⟩ := h
  refine ⟨mb, aa, ac, M, rfl, h.kept k ?_ ?_ ?_ fun k hk => (hX k hk).2⟩
  · intro e; exact (hX _ e).1 (by simp)
  · intro e; exact (hX _ e).1 (by simp)
  · intro g hg e; exact (hX _ e).1 (by simp [hg])
theorem MirRep.kept0 {w w' : World} {b : Nat} {F : List Nat} {d : PMir} (h : MirRep w b F d) (k : Kept [] w w') : MirRep w' b F d := h.kept k (by simp)

@[go_sem] theorem neqSome (mb : Nat) (w : World) : (binOp .neq 60 (.map (some mb)) (.map none)).run Tryd.prog w = .ok (.bool true) w := by kernel_rfl
set_option maxRecDepth 10000 in
theorem made_any {w : World} {b : Nat} {F : List Nat} {d : PMir} (h : MirRep w b F d) : Calls Tryd.prog 28 #[.pointer (some ⟨b, 0, none⟩)] w fun e w' => e = .returned (.bool true) ∧ w = w' := by
  obtain ⟨mb, aa, ac, M, rfl, h⟩ := h
  have c0 := h.c0
  clear h
  go_enter Tryd.func28, Tryd.ntmps28
  go_wp2
  go_ret
  exact ⟨rfl, rfl⟩
set_option maxRecDepth 10000 in
theorem made_nil (w : World) : Calls Tryd.prog 28 #[.pointer none] w fun e w' => e = .returned (.bool false) ∧ w = w' := by
  go_enter Tryd.func28, Tryd.ntmps28
  go_wp2
  go_ret
  exact ⟨rfl, rfl⟩
theorem ne_empty {s : ByteArray} (h : 0 < s.size) : s.toList.isEmpty = false := by
  rw [ByteArray.toList_eq]
  cases hl : s.data.toList with
  | nil => simp at hl; simp only [ByteArray.size, hl] at h; simp at h
  | cons _ _ => rfl
set_option maxRecDepth 10000 in
theorem isName_any (s : ByteArray) (w : World) (hs : s.size ≤ maxLen) : Calls Tryd.prog 29 #[.string s] w fun e w' => e = .returned (.bool (nameOk s)) ∧ w = w' := by
  have hs2 : (s.size : Int) ≤ 9223372036854775807 := by simp only [maxLen] at hs; omega
  clear hs
  unfold nameOk
  by_cases h0 : 0 < s.size
  · have hb := ne_empty h0
    by_cases h1 : s.size ≤ 256
    · rw [decide_eq_true ⟨h0, h1⟩]
      have h1' : (s.size : Int) ≤ 256 := by omega
      clear h0
      go_enter Tryd.func29, Tryd.ntmps29
      go_wp2
      go_ret
      exact ⟨rfl, rfl⟩
    · rw [decide_eq_false (fun h => h1 h.2)]
      have h1' : ¬(s.size : Int) ≤ 256 := by omega
      clear h0
      go_enter Tryd.func29, Tryd.ntmps29
      go_wp2
      go_ret
      exact ⟨rfl, rfl⟩
  · rw [decide_eq_false (fun h => h0 h.1)]
    obtain rfl : s = ⟨#[]⟩ := by
      cases s with
      | mk a =>
        have : a.size = 0 := by simp only [ByteArray.size] at h0; omega
        rw [Array.eq_empty_of_size_eq_zero this]
    clear h0 hs2
    go_enter Tryd.func29, Tryd.ntmps29
    go_wp2
    go_ret
    exact ⟨rfl, rfl⟩

set_option maxRecDepth 10000 in
theorem newMir_any (w : World) : Calls Tryd.prog 8 #[] w fun e w' => ∃ b F, e = .returned (.pointer (some ⟨b, 0, none⟩)) ∧ MirRep w' b F PMir.new ∧ Kept [] w w' ∧ (∀ k, k ∈ F → w.heap.size ≤ k) := by
  have hmm := @run_makeMap Tryd.prog
  go_enter Tryd.func8, Tryd.ntmps8
  go_wp2
  go_ret
  have k := (Kept.refl [] (w.alloc (.map #[] 0))).alloc (.cells #[.map (some w.heap.size), .slice none 0 0, .int .i64 (-1)] 62)
  refine ⟨w.heap.size + 1, [w.heap.size + 1, w.heap.size], rfl, ⟨w.heap.size, none, 0, fun _ => none, rfl, ?_⟩, ((Kept.refl _ w).alloc _).alloc _, ?_⟩
  · exact {
      head := by
        have := heap_alloc_new (w.alloc (.map #[] 0)) (.cells #[.map (some w.heap.size), .slice none 0 0, .int .i64 (-1)] 62)
        rw [heap_size_alloc'] at this
        exact this
      map := (mapIs_made _ w _).kept0 k
      row := Tail.nil _ _ _
      have_ := fun x v hv => by cases hv
      gone := fun _ _ => rfl
      cnt := by decide
      slow := by decide
      few := by decide }
  · intro k hk
    simp at hk
    omega

set_option maxRecDepth 10000 in
theorem slow_any {w : World} {b : Nat} {F : List Nat} {d : PMir} (h : MirRep w b F d) (n : Int) (hn : n ≤ 9223372036854775807) : Calls Tryd.prog 24 #[.pointer (some ⟨b, 0, none⟩), .int .i64 n] w fun e w' => e = .returned (.tuple #[]) ∧ MirRep w' b F (d.slowly n) ∧ Kept F w w' := by
  have hm := Lib.hid (made_any h)
  obtain ⟨mb, aa, ac, M, rfl, h⟩ := h
  have f2 := h.fr 2
  have c2 := h.c2
  have H := Lib.hid h
  clear h
  go_enter Tryd.func24, Tryd.ntmps24
  go_wp2_with (go_at_call 28; refine hm.out.mono ?_; rintro e w' ⟨rfl, rfl⟩)
  all_goals
    refine bodyPost_end (results_none rfl _ _ _) rfl ?_
    have hs : d.slowly n = { d with slow := max n (-1) } := rfl
    rw [hs]
  · rw [Int.max_eq_right (by omega)]
    exact ⟨rfl, ⟨mb, aa, ac, M, rfl, H.out.setSlow (-1) (by decide)⟩, (Kept.refl _ w).setCell (.inl (by simp)) _⟩
  · rw [Int.max_eq_left (by omega)]
    exact ⟨rfl, ⟨mb, aa, ac, M, rfl, H.out.setSlow n ⟨by omega, hn⟩⟩, (Kept.refl _ w).setCell (.inl (by simp)) _⟩
end Go.Proofs.YtfkdoinlbdcaaaaDoor

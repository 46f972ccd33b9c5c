/- Fork. -/
import Derived.Test.YtfkdoinlbdcaaaaDiskF
import Derived.Shelf.SlMaps.Clone
namespace Go.Proofs.Ytfkdoinlbdcaaaa
open Go.RowKit
open Go.Maps (Keyed)

@[go_sem] theorem eqlNilBlocks (w : World) (a : Option Addr) (n c : Nat) : (binOp .eql 48 (.slice a n c) (.slice none 0 0)).run Try.prog w = .ok (.bool a.isNone) w := Lib.run_eql_slice_nil w _ _ a n c 0 0 Try.underlying48

set_option maxRecDepth 10000 in
theorem cloneBlocks_any (g o cap n : Nat) (xs : List Value) (w : World) (h : Slc w 1 (.slice (some ⟨g, o, none⟩) n cap) n xs) (h1 : ∀ u ∈ xs, u.oneCell' = true) (hn : 0 < n) (hl : n ≤ 100000) :
    Calls Try.prog 45 #[.slice (some ⟨g, o, none⟩) n cap] w fun e w' => ∃ g' cap', e = .returned (.slice (some ⟨g', 0, none⟩) n cap') ∧ w'.ownsRow w.heap.size 30 1 (.slice (some ⟨g', 0, none⟩) n cap') n xs ∧ Kept [] w w' := by
  have k1 := (Kept.refl [] w).alloc (.cells #[] 30)
  have hown := World.ownsRow_made (base := w.heap.size) (size := 1) (e := 30) w #[] 0 (Nat.le_refl _) (by decide) rfl
  have hsrc := Lib.hid (h.kept0 k1)
  have H1 := Lib.hid h1
  clear h h1
  go_enter Try.func45, Try.ntmps45
  go_wp2_with (at_builtin; refine wpList_append_pos tyBlocks hown hsrc.out H1.out hn (by simp only [maxLen]; omega) (by omega) (by simp) rfl _ _ rfl rfl rfl ?_; intro g' cap' w1 hown1 hk1 hg1)
  go_ret
  exact ⟨_, _, rfl, by simpa using hown1, k1.trans hk1 (by simp [Value.ownBlock])⟩

set_option maxRecDepth 10000 in
theorem mapsClone_any (b : Nat) (es : Array MapEntry) (clock : Nat) (w : World) (hb : w.heap[b]? = some (.map es clock)) :
    Calls Try.prog 46 #[.map (some b)] w fun e w' => e = .returned (.map (some w.heap.size)) ∧ w.alloc (.map es clock) = w' := by
  have hq := fun w => run_eql_map_nil_sl (P := Try.prog) w 64 _ _ (some b) Try.underlying64
  go_enter Try.func46, Try.ntmps46
  go_wp2
  rw [run_callFunc_extern Try.func66 (by kernel_rfl) (by kernel_rfl) (by kernel_rfl) (e := Extern.MapsClone.clone) (by kernel_rfl), run_maps_clone_sl w 64 hb]
  simp only [Result.andThen]
  rw [Oper.upon_value]
  go_wp2
  rw [run_typeAssert_map_sl _ 64 20 _ _ _ Try.underlying64]
  simp only [Result.andThen]
  rw [Oper.upon_value]
  go_wp2
  go_ret
  exact ⟨rfl, rfl⟩

set_option maxRecDepth 10000 in
set_option maxHeartbeats 800000 in
theorem fork_any {w : World} {b : Nat} {F : List Nat} {d : PDisk} (h : DiskRep w b F d) :
    Calls Try.prog 24 #[.pointer (some ⟨b, 0, none⟩)] w fun e w' => ∃ b' F', e = .returned (.pointer (some ⟨b', 0, none⟩)) ∧ DiskRep w' b' F' d ∧ Kept [] w w' ∧ (∀ k, k ∈ F' → w.heap.size ≤ k) := by
  obtain ⟨sb, scap, mb, cnt, svals, M, rfl, h⟩ := h
  have c0 := h.c0
  have c1 := h.c1
  have c2 := h.c2
  have c3 := h.c3
  have c4 := h.c4
  have H := Lib.hid h
  clear h
  go_enter Try.func24, Try.ntmps24
  go_wp2
  have hx := heap_alloc_new w (.cells #[.slice (some ⟨sb, 0, none⟩) d.sure.length scap, .map (some mb), .int .i64 d.left, .int .i64 d.bytes, .bool d.off] 66)
  have hka := (Kept.refl [] w).alloc (.cells #[.slice (some ⟨sb, 0, none⟩) d.sure.length scap, .map (some mb), .int .i64 d.left, .int .i64 d.bytes, .bool d.off] 66)
  have hbs : b ≠ w.heap.size := Nat.ne_of_lt H.out.lt
  revert hx hka
  generalize w.alloc (.cells #[.slice (some ⟨sb, 0, none⟩) d.sure.length scap, .map (some mb), .int .i64 d.left, .int .i64 d.bytes, .bool d.off] 66) = W1
  intro hx hka
  have hd1 := H.out.kept hka (by simp) (by simp) (by simp) (by simp)
  have e0 := hd1.c0
  have e1 := hd1.c1
  have Hd1 := Lib.hid hd1
  have hsl := Lib.hid (Slc.of_row hd1.row)
  have h1c : Hid (∀ u ∈ svals, u.oneCell' = true) := Lib.hid (by
    intro u hu
    obtain ⟨j, hj, rfl⟩ := List.getElem_of_mem hu
    have hj2 : j < d.sure.length := by rw [← hd1.len]; exact hj
    obtain ⟨a, c, e, -, -⟩ := (hd1.sure.2 j svals[j] d.sure[j] (by simp [hj]) (by simp [hj2])).1.form
    rw [e]; rfl)
  obtain ⟨D, ⟨es, clock, hmb, hrest⟩, hlook⟩ := hd1.map
  have Hrest := Lib.hid hrest
  have Hlook := Lib.hid hlook
  have hpos := hd1.ok.pos
  have hle := hd1.ok.le
  have Hmb := Lib.hid hmb
  have Hx := Lib.hid hx
  clear hd1 hrest hlook hmb hx c0 c1 c2 c3 c4
  go_region_held3 (fun w' => w'.cell? ⟨b, 0, none⟩ = some (.slice (some ⟨sb, 0, none⟩) d.sure.length scap) ∧ w'.cell? ⟨b, 1, none⟩ = some (.map (some mb)))
    (first | go_keep | exact ⟨hk2.cell e0 (by simp), hk2.cell e1 (by simp)⟩ | exact ⟨hk3.cell e0 (by simp), hk3.cell e1 (by simp)⟩ | exact ⟨hk4.cell e0 (by simpa using hbs), hk4.cell e1 (by simpa using hbs)⟩ | exact ⟨hk5.cell e0 (by simpa using hbs), hk5.cell e1 (by simpa using hbs)⟩)
    (first
      | (go_at_call 45; refine Calls.mono (cloneBlocks_any sb 0 scap d.sure.length svals _ hsl.out.drew h1c.out (by omega) (by omega)) ?_; rintro e w2 ⟨g', cap', rfl, hown2, hk2'⟩; have hk2 : Kept [] W1 w2 := (Kept.refl [] W1).drew.then hk2'; have hmb2 := Lib.hid (hk2.heap Hmb.out (by simp)))
      | (go_at_call 46; refine Calls.mono (mapsClone_any mb es clock _ hmb2.out) ?_; rintro e w3 ⟨rfl, hw3⟩; have hk3 : Kept [] W1 w3 := hk2.then (by rw [← hw3]; exact (Kept.refl _ _).alloc _); have hx3 := hk3.heap Hx.out (by simp); have x0 := cell_head (o := 0) hx3 rfl; have x1 := cell_head (o := 1) hx3 rfl; have y0 := free_head (o := 0) hx3; have y1 := free_head (o := 1) hx3; have Hw3 := Lib.hid hw3; have Hx3 := Lib.hid hx3; clear hw3 hx3; have hk4 : Kept [w.heap.size] W1 (w3.setCell ⟨w.heap.size, 0, none⟩ (.slice (some ⟨g', 0, none⟩) d.sure.length cap')) := (hk3.mono (by simp)).setCell (by simp) _; have hk5 : Kept [w.heap.size] W1 ((w3.setCell ⟨w.heap.size, 0, none⟩ (.slice (some ⟨g', 0, none⟩) d.sure.length cap')).setCell ⟨w.heap.size, 1, none⟩ (.map (some w2.heap.size))) := hk4.setCell (by simp) _))
  all_goals go_wp2
  go_ret
  have hlt1 : w.heap.size < W1.heap.size := lt_of_block Hx.out
  have hg2 : W1.heap.size ≤ g' := (hown2.lt g' rfl).1
  have hs2 : W1.heap.size ≤ w2.heap.size := hk2.size
  have k35 : Kept [w.heap.size] w3 ((w3.setCell ⟨w.heap.size, 0, none⟩ (.slice (some ⟨g', 0, none⟩) d.sure.length cap')).setCell ⟨w.heap.size, 1, none⟩ (.map (some w2.heap.size))) := ((Kept.refl _ w3).setCell (by simp) _).setCell (by simp) _
  have hkX : ∀ j, j ∈ [w.heap.size] → kind W1 j ≠ 5 + 2 := by intro j hj; simp at hj; subst hj; rw [kind_cells Hx.out]; decide
  have hb5 : ((w3.setCell ⟨w.heap.size, 0, none⟩ (.slice (some ⟨g', 0, none⟩) d.sure.length cap')).setCell ⟨w.heap.size, 1, none⟩ (.map (some w2.heap.size))).heap[w.heap.size]? = some (.cells #[.slice (some ⟨g', 0, none⟩) d.sure.length cap', .map (some w2.heap.size), .int .i64 d.left, .int .i64 d.bytes, .bool d.off] 66 (0, 0)) := by
    rw [setCell_heap (setCell_heap Hx3.out _)]
    simp
  have k23 : Kept [] w2 w3 := by rw [← Hw3.out]; exact (Kept.refl _ _).alloc _
  have hm3 : w3.heap[w2.heap.size]? = some (.map es clock) := by rw [← Hw3.out]; exact heap_alloc_new w2 _
  revert hk5 k35 hb5
  generalize ((w3.setCell ⟨w.heap.size, 0, none⟩ (.slice (some ⟨g', 0, none⟩) d.sure.length cap')).setCell ⟨w.heap.size, 1, none⟩ (.map (some w2.heap.size))) = W5
  intro hk5 k35 hb5
  have hfin : DiskAt W5 w.heap.size g' cap' w2.heap.size cnt svals M d := {
    ok := Hd1.out.ok
    head := hb5
    row := row_base (row_kept (row_kept hown2 k23 (by simp)) k35 (by intro g hg; simp [Value.ownBlock] at hg; subst hg; simp; omega)) (fun _ _ => Nat.zero_le _)
    map := ⟨D, ⟨es, clock, k35.heap hm3 (by simp; omega), Hrest.out⟩, Hlook.out⟩
    cnt := Hd1.out.cnt
    sure := Hd1.out.sure.mono fun p q _ r => r.kept hk5 hkX
    loose := fun x v hv => by obtain ⟨l, e, r⟩ := Hd1.out.loose x v hv; exact ⟨l, e, r.kept hk5 hkX⟩
    gone := Hd1.out.gone }
  refine ⟨w.heap.size, [w.heap.size, g', w2.heap.size], rfl, ⟨g', cap', w2.heap.size, cnt, svals, M, rfl, hfin⟩, hka.trans hk5 (by simp), ?_⟩
  intro j hj
  simp at hj
  omega
end Go.Proofs.Ytfkdoinlbdcaaaa

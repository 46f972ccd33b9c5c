/- The disk of blocks: Stop, Off, Len, New, and the law's own Block. -/
import Derived.Test.YtfkdoinlbdcaaaaDiskB
import Derived.Deep.RegionLaw
namespace Go.Proofs.Ytfkdoinlbdcaaaa
open Go.RowKit
open Go.Maps (Keyed)

namespace PDisk
def stop (d : PDisk) (n bytes : Int) : Int × PDisk := if d.off then (210, d) else if n < -1 ∨ bytes < 0 ∨ 64 < bytes then (1, d) else (0, { d with left := n, bytes := bytes })
def new (n : Nat) : PDisk := { sure := List.replicate n (List.replicate 64 0), loose := fun _ => none, left := -1, bytes := 0, off := false }
theorem new_ok {n : Nat} (h0 : 1 ≤ n) (h1 : n ≤ 16384) : (new n).Ok := by
  refine ⟨by simpa [new] using h0, by simpa [new] using h1, by simp [new], by simp [new], by simp [new], by simp [new], fun x hx => absurd rfl hx, ?_, fun x l hx => by cases hx⟩
  intro l hl
  have := List.eq_of_mem_replicate hl
  subst this
  simp
end PDisk

set_option maxRecDepth 10000 in
theorem off_any {w : World} {b : Nat} {F : List Nat} {d : PDisk} (h : DiskRep w b F d) :
    Calls Try.prog 18 #[.pointer (some ⟨b, 0, none⟩)] w fun e w' => e = .returned (.bool d.off) ∧ w = w' := by
  obtain ⟨sb, scap, mb, cnt, svals, M, rfl, h⟩ := h
  have c4 := h.c4
  clear h
  go_enter Try.func18, Try.ntmps18
  go_wp2
  go_ret
  exact ⟨rfl, rfl⟩
set_option maxRecDepth 10000 in
theorem off_nil (w : World) : Calls Try.prog 18 #[.pointer none] w fun e w' => e = .returned (.bool false) ∧ w = w' := by
  go_enter Try.func18, Try.ntmps18
  go_wp2
  go_ret
  exact ⟨rfl, rfl⟩
set_option maxRecDepth 10000 in
theorem len_any {w : World} {b : Nat} {F : List Nat} {d : PDisk} (h : DiskRep w b F d) :
    Calls Try.prog 19 #[.pointer (some ⟨b, 0, none⟩)] w fun e w' => e = .returned (.int .i64 d.sure.length) ∧ w = w' := by
  obtain ⟨sb, scap, mb, cnt, svals, M, rfl, h⟩ := h
  have c0 := h.c0
  clear h
  go_enter Try.func19, Try.ntmps19
  go_wp2
  go_ret
  exact ⟨rfl, rfl⟩
set_option maxRecDepth 10000 in
theorem len_nil (w : World) : Calls Try.prog 19 #[.pointer none] w fun e w' => e = .returned (.int .i64 0) ∧ w = w' := by
  go_enter Try.func19, Try.ntmps19
  go_wp2
  go_ret
  exact ⟨rfl, rfl⟩

set_option maxRecDepth 10000 in
theorem stop_any {w : World} {b : Nat} {F : List Nat} {d : PDisk} (h : DiskRep w b F d) (n bytes : Int) (hn : n ≤ 9223372036854775807) :
    Calls Try.prog 23 #[.pointer (some ⟨b, 0, none⟩), .int .i64 n, .int .i64 bytes] w fun e w' => e = .returned (.int .i64 (d.stop n bytes).1) ∧ DiskRep w' b F (d.stop n bytes).2 ∧ Kept F w w' := by
  have H := Lib.hid h
  obtain ⟨sb, scap, mb, cnt, svals, M, rfl, h⟩ := h
  have hm := may_any h 0
  rw [PDisk.may_at0 h.ok] at hm
  have c2 := h.c2
  have c3 := h.c3
  have f2 := h.fr 2
  have f3 := h.fr 3
  unfold PDisk.stop
  have h' := Lib.hid h
  clear h
  cases ho : d.off
  · rw [ho] at hm
    have Hm := Lib.hid hm
    clear hm
    rw [if_neg (by simp)]
    by_cases hb : n < -1 ∨ bytes < 0 ∨ 64 < bytes
    · rw [if_pos hb]
      by_cases h1 : n < -1
      · clear hb ho
        go_enter Try.func23, Try.ntmps23
        go_wp2_with (first
          | (go_at_call 31; refine Hm.out.mono ?_; rintro e w' ⟨rfl, rfl⟩))
        go_ret
        exact ⟨rfl, H.out, Kept.refl _ _⟩
      · by_cases h2 : bytes < 0
        · clear hb ho
          go_enter Try.func23, Try.ntmps23
          go_wp2_with (first
            | (go_at_call 31; refine Hm.out.mono ?_; rintro e w' ⟨rfl, rfl⟩))
          go_ret
          exact ⟨rfl, H.out, Kept.refl _ _⟩
        · have h3 : 64 < bytes := by omega
          clear hb ho
          go_enter Try.func23, Try.ntmps23
          go_wp2_with (first
            | (go_at_call 31; refine Hm.out.mono ?_; rintro e w' ⟨rfl, rfl⟩))
          go_ret
          exact ⟨rfl, H.out, Kept.refl _ _⟩
    · rw [if_neg hb]
      have h1 : ¬ n < -1 := by omega
      have h2 : ¬ bytes < 0 := by omega
      have h3 : ¬ 64 < bytes := by omega
      have Ho := Lib.hid ho
      clear hb ho
      go_enter Try.func23, Try.ntmps23
      go_wp2_with (first
        | (go_at_call 31; refine Hm.out.mono ?_; rintro e w' ⟨rfl, rfl⟩))
      go_ret
      have h := h'.out
      have k : Kept [b] w ((w.setCell ⟨b, 2, none⟩ (.int .i64 n)).setCell ⟨b, 3, none⟩ (.int .i64 bytes)) := ((Kept.refl [b] w).setCell (by simp) _).setCell (by simp) _
      refine ⟨rfl, ⟨sb, scap, mb, cnt, svals, M, rfl, h.setLeft k ?_ (by omega) (by omega) (by omega) (by omega)⟩, k.mono (by simp)⟩
      rw [setCell_heap (setCell_heap h.head _)]
      simp [Ho.out]
  · rw [ho] at hm
    have Hm := Lib.hid hm
    clear hm ho
    rw [if_pos rfl]
    go_enter Try.func23, Try.ntmps23
    go_wp2_with (first
      | (go_at_call 31; refine Hm.out.mono ?_; rintro e w' ⟨rfl, rfl⟩))
    go_ret
    exact ⟨rfl, H.out, Kept.refl _ _⟩

/-! ### New -/
set_option maxRecDepth 10000 in
theorem new_bad (n : Int) (w : World) (h : n < 1 ∨ 16384 < n) : Calls Try.prog 9 #[.int .i64 n] w fun e w' => e = .returned (.tuple #[.pointer none, .int .i64 1]) ∧ w = w' := by
  by_cases h1 : n < 1
  · clear h
    go_enter Try.func9, Try.ntmps9
    go_wp2
    go_ret2
    exact ⟨rfl, rfl⟩
  · have h2 : 16384 < n := by omega
    clear h
    go_enter Try.func9, Try.ntmps9
    go_wp2
    go_ret2
    exact ⟨rfl, rfl⟩
/-- 64 zeros. -/
def z64 : Array Value := madeCells #[.int .u8 0] 64
theorem z64_list : z64.toList = (List.replicate 64 (0 : UInt8)).map bv := by
  rw [z64, toList_madeCells_one, List.map_replicate]; rfl
theorem run_make64 (W : World) : (Instr.makeSlice 30 (.int .i64 64) (.int .i64 64)).run Try.prog W = .ok (.slice (some ⟨W.heap.size, 0, none⟩) 64 64) (W.alloc (.cells z64 5)) := by
  obtain ⟨i, hi, hz, hs, hb⟩ := info_parts tyBytes.info
  have := run_make (P := Try.prog) W 30 5 i (.int .u8 0) Try.underlying30 hi hz .i64 .i64 64 64 (by decide) (by decide) (by rw [hb]; decide) (by decide)
  rw [hs] at this
  exact this
theorem z64_own (W : World) (base : Nat) (hb : base ≤ W.heap.size) : (W.alloc (.cells z64 5)).ownsRow base 5 1 (.slice (some ⟨W.heap.size, 0, none⟩) 64 64) 64 ((List.replicate 64 (0 : UInt8)).map bv) := by
  rw [← z64_list]
  exact World.ownsRow_lit W z64 64 hb (by decide) (by simp [z64, size_madeCells])

set_option maxRecDepth 10000 in
set_option maxHeartbeats 800000 in
theorem new_any (n : Nat) (w : World) (h0 : 1 ≤ n) (h1 : n ≤ 16384) : Calls Try.prog 9 #[.int .i64 n] w fun e w' => ∃ b F, e = .returned (.tuple #[.pointer (some ⟨b, 0, none⟩), .int .i64 0]) ∧ DiskRep w' b F (PDisk.new n) ∧ Kept [] w w' ∧ (∀ k, k ∈ F → w.heap.size ≤ k) := by
  have hmm := @run_makeMap Try.prog
  have hmk := run_make64
  go_enter Try.func9, Try.ntmps9
  go_wp2
  go_loopw [15] (fun i wr => ∃ (k : Nat) (sv : Value) (svals : List Value), i = .int .i64 k ∧ k ≤ n ∧ wr.heap[w.heap.size + 1]? = some (.cells #[sv, .map (some w.heap.size), .int .i64 (-1), .int .i64 0, .bool false] 66 (0, 0)) ∧
      wr.ownsRow (w.heap.size + 2) 30 1 sv k svals ∧ All2 (Data wr) svals (List.replicate k (List.replicate 64 0)) ∧ MapAt Try.prog wr 3 w.heap.size 0 (fun _ => none) ∧ Kept [] w wr ∧ w.heap.size + 2 ≤ wr.heap.size) (fun i _ => n - (intOf i).toNat)
  case atStart =>
    refine ⟨0, .slice none 0 0, [], rfl, Nat.zero_le _, ?_, World.ownsRow_nil _ _ _ _, All2.nil _, ?_, ((Kept.refl _ w).alloc _).alloc _, by simp⟩
    · have := heap_alloc_new (w.alloc (.map #[] 0)) (.cells #[.slice none 0 0, .map (some w.heap.size), .int .i64 (-1), .int .i64 0, .bool false] 66)
      simpa using this
    · exact (mapAt_made _ w _).kept0 ((Kept.refl _ _).alloc _)
  case round =>
    obtain ⟨k, sv, svals, rfl, hk, hb, hown, hall, hmap, hkr, hsz⟩ := hrel
    obtain ⟨sa, sc, rfl, -, -⟩ := (Slc.of_row hown).form
    by_cases hlt : k < n
    · have c0 : wr.cell? ⟨w.heap.size + 1, 0, none⟩ = some (.slice sa k sc) := by simp [World.cell?, hb]
      have f0 : wr.frozen? ⟨w.heap.size + 1, 0, none⟩ = false := by simp [World.frozen?, hb]
      have Hb := Lib.hid hb
      have Hown := Lib.hid hown
      have Hall := Lib.hid hall
      clear hb hown hall
      go_wp2
      have hA := ((Kept.refl [] wr).drew.alloc (.cells z64 5)).alloc (.cells #[.slice (some ⟨wr.heap.size, 0, none⟩) 64 64] 30)
      have hA' := Lib.hid hA
      have hsrc := Lib.hid (slc_one (wr.drew.alloc (.cells z64 5)) (.slice (some ⟨wr.heap.size, 0, none⟩) 64 64) 30 (wr.heap.size + 1) (by simp))
      have hownA := Lib.hid (row_kept Hown.out hA (by simp))
      clear hA
      have hnot : Hid (w.heap.size + 1 ∉ (Value.ownBlock (.slice sa k sc)).toList) := Lib.hid (by
        intro hx
        have := (World.ownsRow.lt Hown.out _ (Option.mem_toList.1 hx)).1
        omega)
      have hlt' : w.heap.size + 1 < wr.heap.size := by omega
      have hlt2 : w.heap.size + 1 < wr.heap.size + 1 := by omega
      go_region_law ((refine step_append_pos tyBlocks hownA.out hsrc.out (by simp [Value.oneCell']) (by decide) (by simp only [maxLen]; omega) (by omega) (by first | omega | (simp; done) | (simp; omega)) (by rfl) _ _ (by rfl) (by rfl) (by rfl) ?_; intro g cap w1 hown1 hk1 hg1; have hb1 := hk1.heap (hA'.out.heap Hb.out (by simp)) hnot.out; have hcell1 := cell_head (o := 0) hb1 rfl; have hf1 := free_head (o := 0) hb1; have Hb1 := Lib.hid hb1; clear hb1))
      all_goals
        go_wp2
        go_roundw
        case rel =>
          have ks : Kept [w.heap.size + 1] w1 (w1.setCell ⟨w.heap.size + 1, 0, none⟩ (.slice (some ⟨g, 0, none⟩) (k + 1) cap)) := (Kept.refl _ w1).setCell (by simp) _
          have hX : ∀ j, j ∈ (Value.ownBlock (.slice sa k sc)).toList → w.heap.size + 2 ≤ j ∧ kind ((wr.drew.alloc (.cells z64 5)).alloc (.cells #[.slice (some ⟨wr.heap.size, 0, none⟩) 64 64] 30)) j = 30 + 2 :=
            fun j hj => ⟨(World.ownsRow.lt Hown.out _ (Option.mem_toList.1 hj)).1, row_kind hownA.out (Option.mem_toList.1 hj)⟩
          have hXs : ∀ j, j ∈ [w.heap.size + 1] → kind w1 j ≠ 5 + 2 := by intro j hj; simp at hj; subst hj; rw [kind_cells Hb1.out]; decide
          have hg2 := (World.ownsRow.lt hown1 g rfl).1
          have hnew : Data ((wr.drew.alloc (.cells z64 5)).alloc (.cells #[.slice (some ⟨wr.heap.size, 0, none⟩) 64 64] 30)) (.slice (some ⟨wr.heap.size, 0, none⟩) 64 64) (List.replicate 64 0) := by
            have hz := row_kept (z64_own wr.drew 0 (Nat.zero_le _)) ((Kept.refl [] (wr.drew.alloc (.cells z64 5))).alloc (.cells #[.slice (some ⟨wr.heap.size, 0, none⟩) 64 64] 30)) (by simp)
            exact ⟨Slc.of_row hz, fun g hg => row_kind hz hg⟩
          refine ⟨k + 1, _, _, by go_num, by omega, ?_, row_kept hown1 ks ?_, ?_, ?_, ?_, ?_⟩
          · rw [setCell_heap Hb1.out]; simp
          · intro g' hg'
            simp [Value.ownBlock] at hg'
            subst hg'
            simp
            omega
          · rw [List.replicate_succ']
            refine All2.app (Hall.out.mono fun x y _ r => ?_) ((All2.nil _).cons ?_)
            · exact ((r.kept hA'.out (by simp)).kept hk1 (fun j hj => by rw [(hX j hj).2]; decide)).kept ks hXs
            · exact (hnew.kept hk1 (fun j hj => by rw [(hX j hj).2]; decide)).kept ks hXs
          · exact ((hmap.kept0 hA'.out).kept hk1 (fun hx => by have := (hX _ hx).1; omega)).kept ks (by simp)
          · exact ((hkr.then hA'.out).trans hk1 (fun j hj => .inr (by have := (hX j hj).1; omega))).trans ks (by simp)
          · have e1 := hA'.out.size
            have e2 := hk1.size
            have e3 := ks.size
            omega
        case measure => simp [intOf]; omega
    · obtain rfl : k = n := by omega
      have Hb := Lib.hid hb
      have Hown := Lib.hid hown
      clear hb hown
      go_wp2
      go_ret2
      have hok := PDisk.new_ok h0 h1
      have e1 : (PDisk.new k).sure.length = k := by simp [PDisk.new]
      rcases Hown.out.2 with ⟨_, h2⟩ | ⟨g, cap, cur, hv, hg, _⟩
      · omega
      · simp only [Value.slice.injEq] at hv
        obtain ⟨rfl, _, rfl⟩ := hv
        have hd : DiskAt wr (w.heap.size + 1) g sc w.heap.size 0 svals (fun _ => none) (PDisk.new k) := {
          ok := hok
          head := by rw [e1]; exact Hb.out
          row := by rw [e1]; exact row_base Hown.out (fun _ _ => Nat.zero_le _)
          map := hmap
          cnt := by omega
          sure := hall
          loose := fun x v hx => by cases hx
          gone := fun _ _ => rfl }
        refine ⟨w.heap.size + 1, [w.heap.size + 1, g, w.heap.size], rfl, ⟨g, _, w.heap.size, 0, svals, _, rfl, hd⟩, hkr, ?_⟩
        intro j hj
        simp at hj
        omega
end Go.Proofs.Ytfkdoinlbdcaaaa

/- The document's disk: New. -/
import Derived.Test.YtfkdoinlbdcaaaaRefI
namespace Go.Proofs.Ytfkdoinlbdcaaaa
open Go.RowKit

set_option maxRecDepth 10000 in
theorem refNew_bad (n : Int) (w : World) (h : n < 1 ∨ 16384 < n) : Calls Try.prog 16 #[.int .i64 n] w fun e w' => e = .returned (.pointer none) ∧ w = w' := by
  by_cases h1 : n < 1
  · clear h
    go_enter Try.func16, Try.ntmps16
    go_wp2
    go_ret
    exact ⟨rfl, rfl⟩
  · have h2 : 16384 < n := by omega
    clear h
    go_enter Try.func16, Try.ntmps16
    go_wp2
    go_ret
    exact ⟨rfl, rfl⟩

theorem run_makeBools (n : Nat) (hn : n ≤ 16384) (W : World) : (Instr.makeSlice 49 (.int .i64 n) (.int .i64 n)).run Try.prog W = .ok (.slice (some ⟨W.heap.size, 0, none⟩) n n) (W.alloc (.cells (madeCells #[.bool false] n) 4)) := by
  obtain ⟨i, hi, hz, hs, hb⟩ := info_parts tyBools.info
  have := run_make (P := Try.prog) W 49 4 i (.bool false) Try.underlying49 hi hz .i64 .i64 n n (by omega) (by omega) (by rw [hb]; omega) (by omega)
  rw [hs] at this
  simp only [Int.toNat_natCast, Nat.mul_one] at this
  exact this
theorem bools_own (W : World) (n base : Nat) (hn : n ≤ 16384) (hb : base ≤ W.heap.size) : (W.alloc (.cells (madeCells #[.bool false] n) 4)).ownsRow base 4 1 (.slice (some ⟨W.heap.size, 0, none⟩) n n) n (List.replicate n (.bool false)) := by
  rw [← toList_madeCells_one]
  exact World.ownsRow_lit W _ n hb (by simp only [maxLen]; omega) (by simp [size_madeCells])

/-- What stands ahead of the k-th round. -/
structure NewAt (w : World) (B n k : Nat) (sv nv : Value) (svals nvals : List Value) : Prop where
  head : w.heap[B + 1]? = some (.cells #[sv, nv, .slice (some ⟨B, 0, none⟩) n n, .int .i64 (-1), .int .i64 0, .bool false] 51 (0, 0))
  rows : w.ownsRow (B + 2) 30 1 sv k svals
  rown : w.ownsRow (B + 2) 30 1 nv k nvals
  rowl : w.ownsRow 0 4 1 (.slice (some ⟨B, 0, none⟩) n n) n (List.replicate n (.bool false))
  apart : ∀ g, sv.ownBlock = some g → nv.ownBlock ≠ some g
  sure : All2 (Data w) svals (List.replicate k (List.replicate 64 0))
  size : B + 2 ≤ w.heap.size

theorem NewAt.kept {w w' : World} {B n k : Nat} {sv nv : Value} {svals nvals : List Value} (h : NewAt w B n k sv nv svals nvals) (hk : Kept [] w w') : NewAt w' B n k sv nv svals nvals where
  head := hk.heap h.head (by simp)
  rows := row_kept h.rows hk (by simp)
  rown := row_kept h.rown hk (by simp)
  rowl := row_kept h.rowl hk (by simp)
  apart := h.apart
  sure := h.sure.mono fun x y _ r => r.kept hk (by simp)
  size := Nat.le_trans h.size hk.size

/-- .. and within it. -/
structure NewAt1 (w : World) (B n k : Nat) (sv nv : Value) (svals nvals : List Value) : Prop where
  head : w.heap[B + 1]? = some (.cells #[sv, nv, .slice (some ⟨B, 0, none⟩) n n, .int .i64 (-1), .int .i64 0, .bool false] 51 (0, 0))
  rows : w.ownsRow (B + 2) 30 1 sv (k + 1) svals
  rown : w.ownsRow (B + 2) 30 1 nv k nvals
  rowl : w.ownsRow 0 4 1 (.slice (some ⟨B, 0, none⟩) n n) n (List.replicate n (.bool false))
  apart : ∀ g, sv.ownBlock = some g → nv.ownBlock ≠ some g
  sure : All2 (Data w) svals (List.replicate (k + 1) (List.replicate 64 0))
  size : B + 2 ≤ w.heap.size

theorem newAt_end {w : World} {B k : Nat} {sv nv : Value} {svals nvals : List Value} (h : NewAt w B k k sv nv svals nvals) (h0 : 1 ≤ k) (h1 : k ≤ 16384) : ∃ F, RefRep w (B + 1) F (PDisk.new k) ∧ ∀ j, j ∈ F → B ≤ j := by
  have e1 : (PDisk.new k).sure.length = k := by simp [PDisk.new]
  obtain ⟨sa, sc, rfl, -, -⟩ := (Slc.of_row h.rows).form
  obtain ⟨na, nc, rfl, -, -⟩ := (Slc.of_row h.rown).form
  rcases h.rows.2 with ⟨_, h2⟩ | ⟨g, cap, cur, hv, hg, _⟩
  · omega
  simp only [Value.slice.injEq] at hv
  obtain ⟨rfl, _, rfl⟩ := hv
  rcases h.rown.2 with ⟨_, h2⟩ | ⟨g', cap', cur', hv, hg', _⟩
  · omega
  simp only [Value.slice.injEq] at hv
  obtain ⟨rfl, _, rfl⟩ := hv
  have hd : RefAt w (B + 1) g g' B sc nc k svals nvals (List.replicate k (.bool false)) (PDisk.new k) := {
    ok := PDisk.new_ok h0 h1
    head := by rw [e1]; exact h.head
    rows := by rw [e1]; exact row_base h.rows (fun _ _ => Nat.zero_le _)
    rown := by rw [e1]; exact row_base h.rown (fun _ _ => Nat.zero_le _)
    rowl := by rw [e1]; exact h.rowl
    apart := by
      intro e
      exact h.apart g rfl (by rw [e]; rfl)
    sure := h.sure
    flag := by
      rw [e1]
      intro j hj
      simp [PDisk.new, hj]
    new := by
      intro j hj l hl
      cases hl }
  refine ⟨[B + 1, g, g', B], ⟨g, g', B, _, _, _, _, _, _, rfl, hd⟩, ?_⟩
  intro j hj
  simp at hj
  omega

set_option maxRecDepth 10000 in
set_option maxHeartbeats 3200000 in
theorem refNew_any (n : Nat) (w : World) (h0 : 1 ≤ n) (h1 : n ≤ 16384) : Calls Try.prog 16 #[.int .i64 n] w fun e w' => ∃ b F, e = .returned (.pointer (some ⟨b, 0, none⟩)) ∧ RefRep w' b F (PDisk.new n) ∧ Kept [] w w' ∧ (∀ k, k ∈ F → w.heap.size ≤ k) := by
  have hmk := run_make64
  have hmb := run_makeBools n h1
  go_enter Try.func16, Try.ntmps16
  go_wp2_with fail
  go_loopw [4] (fun i wr => ∃ (k : Nat) (sv nv : Value) (svals nvals : List Value), i = .int .i64 k ∧ k ≤ n ∧ NewAt wr w.heap.size n k sv nv svals nvals ∧ Kept [] w wr) (fun i _ => n - (intOf i).toNat)
  case atStart =>
    refine ⟨0, .slice none 0 0, .slice none 0 0, [], [], rfl, Nat.zero_le _, ?_, ((Kept.refl _ w).alloc _).alloc _⟩
    exact {
      head := by
        have := heap_alloc_new (w.alloc (.cells (madeCells #[.bool false] n) 4)) (.cells #[.slice none 0 0, .slice none 0 0, .slice (some ⟨w.heap.size, 0, none⟩) n n, .int .i64 (-1), .int .i64 0, .bool false] 51)
        simpa using this
      rows := World.ownsRow_nil _ _ _ _
      rown := World.ownsRow_nil _ _ _ _
      rowl := row_kept (bools_own w n 0 h1 (Nat.zero_le _)) ((Kept.refl [] _).alloc _) (by simp)
      apart := by intro g hg; simp [Value.ownBlock] at hg
      sure := All2.nil _
      size := by simp }
  case round =>
    obtain ⟨k, sv, nv, svals, nvals, rfl, hk, hN, hkr⟩ := hrel
    obtain ⟨sa, sc, rfl, -, -⟩ := (Slc.of_row hN.rows).form
    obtain ⟨na, nc, rfl, -, -⟩ := (Slc.of_row hN.rown).form
    have HN := Lib.hid hN
    have HK := Lib.hid hkr
    by_cases hlt : k < n
    · have hltI : (k : Int) < n := by omega
      have c0 : wr.cell? ⟨w.heap.size + 1, 0, none⟩ = some (.slice sa k sc) := cell_head (o := 0) hN.head rfl
      clear hN hkr
      go_wp2_with fail
      have hA1 : Kept [] wr (wr.drew.alloc (.cells z64 5)) := (Kept.refl [] wr).drew.alloc _
      have hA2 : Kept [] wr ((wr.drew.alloc (.cells z64 5)).alloc (.cells #[.slice (some ⟨wr.heap.size, 0, none⟩) 64 64] 30)) := hA1.alloc _
      have hz := row_kept (z64_own wr.drew 0 (Nat.zero_le _)) ((Kept.refl [] (wr.drew.alloc (.cells z64 5))).alloc (.cells #[.slice (some ⟨wr.heap.size, 0, none⟩) 64 64] 30)) (by simp)
      have HZ : Hid (Data ((wr.drew.alloc (.cells z64 5)).alloc (.cells #[.slice (some ⟨wr.heap.size, 0, none⟩) 64 64] 30)) (.slice (some ⟨wr.heap.size, 0, none⟩) 64 64) (List.replicate 64 0)) := Lib.hid ⟨Slc.of_row hz, fun g hg => row_kind hz hg⟩
      have HA2 := Lib.hid hA2
      have hsrc := Lib.hid (slc_one (wr.drew.alloc (.cells z64 5)) (.slice (some ⟨wr.heap.size, 0, none⟩) 64 64) 30 (wr.heap.size + 1) (by simp))
      have HN2 := Lib.hid (HN.out.kept hA2)
      have cA1 := Lib.hid (hA1.cell c0 (by simp))
      have cA2 := Lib.hid (hA2.cell c0 (by simp))
      clear hz hA1 hA2
      have hSS : (fun w' : World => w'.cell? ⟨w.heap.size + 1, 0, none⟩ = some (.slice sa k sc)) wr.drew := c0
      refine wp_region_last' (n := 11) (fun w' : World => w'.cell? ⟨w.heap.size + 1, 0, none⟩ = some (.slice sa k sc)) 10 (by kernel_rfl) (by kernel_rfl) ?_
      change wpAnyT _ _ _ _ _ _ _ _ _ wr.drew
      refine wpAnyT_start ?_
      intro O R hO hR
      have hQp : ∀ c a (d : Nat) v w, R (.panic c) (a.put (some d) v) w → R (.panic c) a w := by subst hR; exact fun _ _ _ _ _ h => h
      refine wpAnyT_take' (i := 0) (v := ?_) hO rfl rfl (by kernel_rfl) (by kernel_rfl) (by kernel_rfl) (by kernel_rfl) hQp (Or.inl ⟨by kernel_rfl, fun w hSw => ?_⟩) hSS ?_
      rotate_left
      · have s0 := hSw; go_simp; try with_reducible rfl
      try simp only [Act.put, List.setIfInBounds_toArray, List.set_cons_zero, List.set_cons_succ]
      refine wpAnyT_take' (i := 1) (v := ?_) hO rfl rfl (by kernel_rfl) (by kernel_rfl) (by kernel_rfl) (by kernel_rfl) hQp (Or.inl ⟨by kernel_rfl, fun w hSw => ?_⟩) hSS ?_
      rotate_left
      · have s0 := hSw; go_simp; try with_reducible rfl
      try simp only [Act.put, List.setIfInBounds_toArray, List.set_cons_zero, List.set_cons_succ]
      refine wpAnyT_take' (i := 2) (v := ?_) hO rfl rfl (by kernel_rfl) (by kernel_rfl) (by kernel_rfl) (by kernel_rfl) hQp (Or.inl ⟨by kernel_rfl, fun w hSw => ?_⟩) hSS ?_
      rotate_left
      · have s0 := hSw; go_simp; try with_reducible rfl
      try simp only [Act.put, List.setIfInBounds_toArray, List.set_cons_zero, List.set_cons_succ]
      refine wpAnyT_take' (i := 3) (v := ?_) hO rfl rfl (by kernel_rfl) (by kernel_rfl) (by kernel_rfl) (by kernel_rfl) hQp (Or.inl ⟨by kernel_rfl, fun w hSw => ?_⟩) hSS ?_
      rotate_left
      · have s0 := hSw; go_simp; try with_reducible rfl
      try simp only [Act.put, List.setIfInBounds_toArray, List.set_cons_zero, List.set_cons_succ]
      refine wpAnyT_take' (i := 4) (v := ?_) hO rfl rfl (by kernel_rfl) (by kernel_rfl) (by kernel_rfl) (by kernel_rfl) hQp (Or.inl ⟨by kernel_rfl, fun w hSw => ?_⟩) hSS ?_
      rotate_left
      · have s0 := hSw; go_simp; try with_reducible rfl
      try simp only [Act.put, List.setIfInBounds_toArray, List.set_cons_zero, List.set_cons_succ]
      refine wpAnyT_one' (i := 5) hO rfl (by kernel_rfl) (by kernel_rfl) (fun K hK => ?_)
      go_simp
      refine hK _ _ (.inr cA1.out) ?_
      clear hK K
      try simp only [Act.put, List.setIfInBounds_toArray, List.set_cons_zero, List.set_cons_succ]
      clear hSS
      have hSS : (fun w' : World => w'.cell? ⟨w.heap.size + 1, 0, none⟩ = some (.slice sa k sc)) (wr.drew.alloc (.cells z64 5)) := cA1.out
      refine wpAnyT_one' (i := 6) hO rfl (by kernel_rfl) (by kernel_rfl) (fun K hK => ?_)
      go_simp
      refine hK _ _ (.inr cA2.out) ?_
      clear hK K
      try simp only [Act.put, List.setIfInBounds_toArray, List.set_cons_zero, List.set_cons_succ]
      clear hSS
      have eW : (wr.drew.alloc (.cells z64 5)).alloc (.cells #[.slice (some ⟨wr.heap.size, 0, none⟩) 64 64] 30) = ((wr.alloc (.cells z64 5)).alloc (.cells #[.slice (some ⟨wr.heap.size, 0, none⟩) 64 64] 30)).drew := rfl
      rw [eW] at HZ HA2 hsrc HN2 cA2
      clear eW
      revert HZ HA2 hsrc HN2 cA2
      generalize ((wr.alloc (.cells z64 5)).alloc (.cells #[.slice (some ⟨wr.heap.size, 0, none⟩) 64 64] 30)).drew = W2
      intro HZ HA2 hsrc HN2 cA2
      have hSS : (fun w' : World => w'.cell? ⟨w.heap.size + 1, 0, none⟩ = some (.slice sa k sc)) W2 := cA2.out
      have hnot : Hid (w.heap.size + 1 ∉ (Value.ownBlock (.slice sa k sc)).toList) := Lib.hid (by
        intro hx
        have := (World.ownsRow.lt HN.out.rows _ (Option.mem_toList.1 hx)).1
        omega)
      have hbase := HN2.out.size
      refine wpAnyT_one' (i := 7) hO rfl (by kernel_rfl) (by kernel_rfl) (fun K hK => ?_)
      refine oper_append tyBlocks HN2.out.rows hsrc.out (by simp [Value.oneCell']) (by simp only [maxLen]; omega) (by omega) hbase (.tmp 24) (.tmp 26) rfl rfl rfl ?_
      intro b1 d1 w1 hown1 hk1 hv1
      have hb1 := hk1.heap HN2.out.head hnot.out
      have q0 : w1.cell? ⟨w.heap.size + 1, 0, none⟩ = some (.slice sa k sc) := cell_head hb1 rfl
      have f0 := free_head (o := 0) hb1
      clear hSS
      have hSS : (fun w' : World => w'.cell? ⟨w.heap.size + 1, 0, none⟩ = some (.slice sa k sc)) w1 := q0
      have HO1 := Lib.hid hown1
      have HK1 := Lib.hid hk1
      have HV1 := Lib.hid hv1
      have HB1 := Lib.hid hb1
      clear hown1 hk1 hv1 hb1 hnot
      refine hK _ _ (.inr hSS) ?_
      clear hK K
      try simp only [Act.put, List.setIfInBounds_toArray, List.set_cons_zero, List.set_cons_succ]
      refine wpAnyT_one' (i := 8) hO rfl (by kernel_rfl) (by kernel_rfl) (fun K hK => ?_)
      go_simp
      refine hK _ _ (.inr hSS) ?_
      clear hK K
      try simp only [Act.put, List.setIfInBounds_toArray, List.set_cons_zero, List.set_cons_succ]
      refine wpAnyT_take' (i := 9) (v := ?_) hO rfl rfl (by kernel_rfl) (by kernel_rfl) (by kernel_rfl) (by kernel_rfl) hQp (Or.inl ⟨by kernel_rfl, fun w hSw => ?_⟩) hSS ?_
      rotate_left
      · have s0 := hSw; go_simp; try with_reducible rfl
      try simp only [Act.put, List.setIfInBounds_toArray, List.set_cons_zero, List.set_cons_succ]
      refine wpAnyT_one' (i := 10) hO rfl (by kernel_rfl) (by kernel_rfl) (fun K hK => ?_)
      go_simp
      refine hK _ _ (.inl rfl) ?_
      clear hK K
      try simp only [Act.put, List.setIfInBounds_toArray, List.set_cons_zero, List.set_cons_succ]
      refine wpAnyT_done' hO (by kernel_rfl) ?_ _
      subst hR
      try clear hQp hO O
      have k13 : Kept [w.heap.size + 1] w1 (w1.setCell ⟨w.heap.size + 1, 0, none⟩ (.slice b1 (k + 1) d1)) := (Kept.refl _ w1).setCell (.inl (by simp)) _
      have hb3 := setCell_heap (i := 0) HB1.out (.slice b1 (k + 1) d1)
      simp only [List.setIfInBounds_toArray, List.set_cons_zero] at hb3
      have hX : ∀ j, j ∈ (Value.ownBlock (.slice sa k sc)).toList → w.heap.size + 2 ≤ j ∧ kind W2 j = 30 + 2 :=
        fun j hj => ⟨(World.ownsRow.lt HN2.out.rows _ (Option.mem_toList.1 hj)).1, row_kind HN2.out.rows (Option.mem_toList.1 hj)⟩
      have hlt1 := (World.ownsRow.lt HO1.out)
      have hsz1 := HK1.out.size
      have HN3 : Hid (NewAt1 (w1.setCell ⟨w.heap.size + 1, 0, none⟩ (.slice b1 (k + 1) d1)) w.heap.size n k (.slice b1 (k + 1) d1) (.slice na k nc) (svals ++ [.slice (some ⟨wr.heap.size, 0, none⟩) 64 64]) nvals) := Lib.hid {
        head := hb3
        rows := row_kept HO1.out k13 (by intro g hg hx; have := (hlt1 g hg).1; simp at hx; omega)
        rown := row_kept (row_kept HN2.out.rown HK1.out (by intro g hg hx; exact HN2.out.apart g (Option.mem_toList.1 hx) hg)) k13 (by intro g hg hx; have := (World.ownsRow.lt HN2.out.rown g hg).1; simp at hx; omega)
        rowl := row_kept (row_kept HN2.out.rowl HK1.out (by intro g hg hx; simp [Value.ownBlock] at hg; subst hg; have := (hX _ hx).1; omega)) k13 (by intro g hg hx; simp [Value.ownBlock] at hg; subst hg; simp at hx)
        apart := by
          intro g hg
          rcases HV1.out with e | e
          · exact HN2.out.apart g (by rw [← e]; exact hg)
          · rw [hg] at e
            simp only [Option.some.injEq] at e
            intro hx
            have := (World.ownsRow.lt HN2.out.rown g hx).2
            omega
        sure := by
          rw [List.replicate_succ']
          have hXs : ∀ j, j ∈ [w.heap.size + 1] → kind w1 j ≠ 5 + 2 := by intro j hj; simp at hj; subst hj; rw [kind_cells HB1.out]; decide
          refine All2.app (HN2.out.sure.mono fun x y _ r => ?_) ((All2.nil _).cons ?_)
          · exact (r.kept HK1.out (fun j hj => by rw [(hX j hj).2]; decide)).kept k13 hXs
          · exact (HZ.out.kept HK1.out (fun j hj => by rw [(hX j hj).2]; decide)).kept k13 hXs
        size := Nat.le_trans HN2.out.size (Nat.le_trans hsz1 k13.size) }
      have HK3 : Hid (Kept [] w (w1.setCell ⟨w.heap.size + 1, 0, none⟩ (.slice b1 (k + 1) d1))) := Lib.hid (((HK.out.then HA2.out).trans HK1.out (fun j hj => .inr (by have := (hX j hj).1; omega))).trans k13 (by simp))
      clear k13 hb3 hX hlt1 HB1 HV1 HK1 HO1 q0 f0 hSS HN2 HZ HA2 hsrc cA1 cA2
      revert HN3 HK3
      generalize w1.setCell ⟨w.heap.size + 1, 0, none⟩ (.slice b1 (k + 1) d1) = W3
      intro HN3 HK3
      have c1 : W3.cell? ⟨w.heap.size + 1, 1, none⟩ = some (.slice na k nc) := cell_head (o := 1) HN3.out.head rfl
      have hB := (Kept.refl [] W3).alloc (.cells #[.slice none 0 0] 30)
      have hsrcB := Lib.hid (slc_one W3 (.slice none 0 0) 30 W3.heap.size rfl)
      have hownB := Lib.hid (row_kept HN3.out.rown hB (by simp))
      have hhB := Lib.hid (hB.heap HN3.out.head (by simp))
      have hbase3 := HN3.out.size
      have HB := Lib.hid hB
      have hnotB : Hid (w.heap.size + 1 ∉ (Value.ownBlock (.slice na k nc)).toList) := Lib.hid (by
        intro hx
        have := (World.ownsRow.lt HN3.out.rown _ (Option.mem_toList.1 hx)).1
        omega)
      clear hB hbase hsz1
      go_wp2_with (at_builtin; refine wpList_append_pos tyBlocks hownB.out hsrcB.out (by simp [Value.oneCell']) (by decide) (by simp only [maxLen]; omega) (by omega) (by first | omega | (simp; omega)) (by rfl) (.tmp 34) (.tmp 35) (by rfl) (by rfl) (by rfl) ?_; intro g2 cap2 w4 hown4 hk4 hg4; have hb4 := hk4.heap hhB.out hnotB.out; have q4 : w4.cell? ⟨w.heap.size + 1, 1, none⟩ = some (.slice na k nc) := cell_head hb4 rfl; have f4 := free_head (o := 1) hb4; have HB4 := Lib.hid hb4; clear hb4)
      go_roundw
      case rel =>
        have k5 : Kept [w.heap.size + 1] w4 (w4.setCell ⟨w.heap.size + 1, 1, none⟩ (.slice (some ⟨g2, 0, none⟩) (k + 1) cap2)) := (Kept.refl _ w4).setCell (.inl (by simp)) _
        have hb5 := setCell_heap (i := 1) HB4.out (.slice (some ⟨g2, 0, none⟩) (k + 1) cap2)
        simp only [List.setIfInBounds_toArray, List.set_cons_zero, List.set_cons_succ] at hb5
        have hX : ∀ j, j ∈ (Value.ownBlock (.slice na k nc)).toList → w.heap.size + 2 ≤ j ∧ kind (W3.alloc (.cells #[.slice none 0 0] 30)) j = 30 + 2 :=
          fun j hj => ⟨(World.ownsRow.lt hownB.out _ (Option.mem_toList.1 hj)).1, row_kind hownB.out (Option.mem_toList.1 hj)⟩
        have hlt2 := (World.ownsRow.lt hown4)
        have hsz4 := hk4.size
        have hszB := HB.out.size
        have hrB := row_kept HN3.out.rows HB.out (by simp)
        have hlB := row_kept HN3.out.rowl HB.out (by simp)
        refine ⟨k + 1, .slice b1 (k + 1) d1, .slice (some ⟨g2, 0, none⟩) (k + 1) cap2, svals ++ [.slice (some ⟨wr.heap.size, 0, none⟩) 64 64], nvals ++ [.slice none 0 0], by go_num, by omega, ?_, ((HK3.out.then HB.out).trans hk4 (fun j hj => .inr (by have := (hX j hj).1; omega))).trans k5 (by simp)⟩
        exact {
          head := hb5
          rows := row_kept (row_kept hrB hk4 (by intro g hg hx; exact HN3.out.apart g hg (Option.mem_toList.1 hx))) k5 (by intro g hg hx; have := (World.ownsRow.lt HN3.out.rows g hg).1; simp at hx; omega)
          rown := row_kept hown4 k5 (by intro g hg hx; have := (hlt2 g hg).1; simp at hx; omega)
          rowl := row_kept (row_kept hlB hk4 (by intro g hg hx; simp [Value.ownBlock] at hg; subst hg; have := (hX _ hx).1; omega)) k5 (by intro g hg hx; simp [Value.ownBlock] at hg; subst hg; simp at hx)
          apart := by
            intro g hg hx
            simp [Value.ownBlock] at hx
            subst hx
            rcases hg4 with e | e
            · exact HN3.out.apart _ hg e
            · have := (World.ownsRow.lt HN3.out.rows _ hg).2
              omega
          sure := by
            have hXs : ∀ j, j ∈ [w.heap.size + 1] → kind w4 j ≠ 5 + 2 := by intro j hj; simp at hj; subst hj; rw [kind_cells HB4.out]; decide
            refine HN3.out.sure.mono fun x y _ r => ?_
            exact ((r.kept HB.out (by simp)).kept hk4 (fun j hj => by rw [(hX j hj).2]; decide)).kept k5 hXs
          size := Nat.le_trans HN3.out.size (Nat.le_trans hszB (Nat.le_trans hsz4 k5.size)) }
      case measure => simp [intOf]; omega
    · obtain rfl : k = n := by omega
      clear hN hkr
      go_wp2_with fail
      go_ret
      obtain ⟨F, h2, h3⟩ := newAt_end HN.out h0 h1
      exact ⟨_, F, rfl, h2, HK.out, h3⟩
end Go.Proofs.Ytfkdoinlbdcaaaa

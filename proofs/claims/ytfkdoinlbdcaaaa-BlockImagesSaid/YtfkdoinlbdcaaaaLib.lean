/- Contracts of the library's small functions on slices of bytes: Clone, Grow, Concat. -/
import Derived.Test.YtfkdoinlbdcaaaaBase
import Derived.Outline
import Derived.WalkSpells
import Derived.Lib.AppendZeros
namespace Go.Proofs.Ytfkdoinlbdcaaaa
open Go.RowKit

theorem tyBytes : SliceTy Try.prog 30 5 1 1 (.int .u8 0) := ⟨Try.underlying30, by kernel_rfl, rfl, by decide⟩

/-- The bytes l, in an array of their own that was not there in w. -/
def NewBytes (w w' : World) (v : Value) (l : List UInt8) : Prop := Bytes w' v l ∧ ∀ g, vblk v = some g → w.heap.size ≤ g ∧ kind w' g = 5 + 2

theorem newBytes_of_row {w w' : World} {v : Value} {n : Nat} {l : List UInt8} (h : w'.ownsRow w.heap.size 5 1 v n (l.map bv)) : NewBytes w w' v l := by
  have hn : l.length = n := by have := h.1; simpa using this
  subst hn
  exact ⟨Slc.of_row h, fun g hg => ⟨(h.lt g (own_of_vblk hg)).1, row_kind h (own_of_vblk hg)⟩⟩

@[go_sem] theorem eqlNilBytes (w : World) (a : Option Addr) (n c : Nat) : (binOp .eql 30 (.slice a n c) (.slice none 0 0)).run Try.prog w = .ok (.bool a.isNone) w := Lib.run_eql_slice_nil w _ _ a n c 0 0 Try.underlying30

set_option maxRecDepth 10000 in
theorem clone_any (v : Value) (l : List UInt8) (w : World) (h : Bytes w v l) (hl : l.length ≤ lim) :
    Calls Try.prog 35 #[v] w fun e w' => ∃ v', e = .returned v' ∧ NewBytes w w' v' l ∧ Kept [] w w' := by
  rcases h.2 with ⟨rfl, h0⟩ | h2
  · have : l = [] := List.eq_nil_of_length_eq_zero h0
    subst this
    go_enter Try.func35, Try.ntmps35
    go_wp2
    go_ret
    exact ⟨_, rfl, ⟨slc_nil _ _, by simp [vblk]⟩, Kept.refl _ _⟩
  · obtain ⟨ad, cap, rfl⟩ : ∃ ad cap, v = .slice (some ad) l.length cap := by
      rcases h2 with ⟨h0, a, c, rfl, _⟩ | ⟨g, o, c, rfl, _⟩
      · exact ⟨a, c, by rw [h0]⟩
      · exact ⟨_, _, rfl⟩
    have h1 := (Kept.refl [] w).alloc (.cells #[] 5)
    have hown := World.ownsRow_made (base := w.heap.size) (size := 1) (e := 5) w #[] 0 (Nat.le_refl _) (by decide) rfl
    have hsrc := h.kept0 h1
    go_enter Try.func35, Try.ntmps35
    go_wp2_with (at_builtin; refine wpList_append_slc tyBytes hown hsrc (bvs_one l) (by simp only [maxLen, lim] at *; omega) (by simp only [lim] at *; omega) (by simp) rfl _ _ rfl rfl rfl ?_; intro v' w1 hown1 hk1 _ hb1)
    go_ret
    exact ⟨_, rfl, newBytes_of_row (by simpa using hown1), h1.trans hk1 (by simp [Value.ownBlock])⟩

set_option maxRecDepth 10000 in
/-- Grow of nil: room for n, and nothing in it. -/
theorem grow_any (n : Nat) (w : World) (hn : n ≤ lim) :
    Calls Try.prog 59 #[.slice none 0 0, .int .i64 n] w fun e w' => ∃ v', e = .returned v' ∧ w'.ownsRow w.heap.size 5 1 v' 0 [] ∧ Kept [] w w' := by
  obtain ⟨i, hi, hz, hs, hb⟩ := info_parts tyBytes.info
  by_cases h0 : 0 < n
  · have hrun := Lib.run_append_nil_zeros w 30 3 30 5 i (.int .u8 0) .i64 .i64 Try.underlying30 Try.underlying3 hi hz n h0 (by omega) (by simp only [lim] at hn; omega) (by simp only [lim] at hn; rw [hb]; omega)
    have hge := grownCap_ge w n 0 5
    have hmx := grownCap_le_maxLen w n 0 5 (by simp only [lim, maxLen] at *; omega)
    have hsz : (Builtin.zeroCells (Value.int IntKind.u8 0).cells n ++ Builtin.zeroCells (Value.int IntKind.u8 0).cells (grownCap w n 0 5 - n)).size = grownCap w n 0 5 * 1 := by
      simp only [Array.size_append, size_zeroCells]; simp [Value.cells]; omega
    revert hrun hge hmx hsz
    generalize grownCap w n 0 5 = cap
    generalize (Builtin.zeroCells (Value.int IntKind.u8 0).cells n ++ Builtin.zeroCells (Value.int IntKind.u8 0).cells (cap - n)) = cs
    intro hrun hge hmx hsz
    have hmx' := Lib.hid hmx
    have hsz' := Lib.hid hsz
    have hn2 : (n : Int) ≤ 140737488351232 := by simp only [lim] at hn; omega
    have hr' := Lib.hid hrun
    clear hmx hsz hn hi hz hs hb hrun
    go_enter Try.func59, Try.ntmps59
    go_wp2_with (at_builtin; refine Lib.wpList_append_run _ rfl _ _ _ _ rfl _ _ rfl rfl _ _ hr'.out ?_)
    go_ret
    refine ⟨_, rfl, ⟨rfl, .inr ⟨w.heap.size, cap, cs, rfl, Nat.le_refl _, heap_alloc_new w.drew _, Nat.zero_le _, hmx'.out, hsz'.out, by simp⟩⟩, ((Kept.refl _ w).drew).alloc _⟩
  · obtain rfl : n = 0 := by omega
    go_enter Try.func59, Try.ntmps59
    go_wp2
    go_ret
    exact ⟨_, rfl, World.ownsRow_nil _ _ _ _, Kept.refl _ _⟩

set_option maxRecDepth 10000 in
set_option maxHeartbeats 800000 in
theorem concat_any (g o cap : Nat) (vals : List Value) (ls : List (List UInt8)) (w : World) (hrow : Row w g o vals) (hall : All2 (Bytes w) vals ls) (hsum : ls.flatten.length ≤ lim) (hk : vals.length ≤ lim) :
    Calls Try.prog 33 #[.slice (some ⟨g, o, none⟩) vals.length cap] w fun e w' => ∃ v', e = .returned v' ∧ NewBytes w w' v' ls.flatten ∧ Kept [] w w' := by
  have hk' : vals.length ≤ 140737488351232 := by simpa only [lim] using hk
  have hle : ∀ j, (ls.take j).flatten.length ≤ 140737488351232 := fun j => by have := take_flat_le ls j; simp only [lim] at hsum; omega
  have hlen := hall.1
  have Hle := Lib.hid hle
  have Hlen := Lib.hid hlen
  have Hsum := Lib.hid hsum
  clear hk hle hlen hsum
  go_enter Try.func33, Try.ntmps33
  go_wp2_with fail
  go_loop [3, 11] (fun s i => ∃ k : Nat, k ≤ vals.length ∧ i = .int .i64 k ∧ s = .int .i64 (ls.take k).flatten.length) (fun _ i => vals.length - (intOf i).toNat)
  case atStart => exact ⟨0, Nat.zero_le _, rfl, by simp⟩
  case round =>
    obtain ⟨k, hk, rfl, rfl⟩ := hrel
    by_cases hlt : k < vals.length
    · have hlt2 : k < ls.length := by rw [← Hlen.out]; exact hlt
      have hc := hrow.at hlt
      have hb := hall.2 k vals[k] ls[k] (by simp [hlt]) (by simp [hlt2])
      have hb' := Lib.hid hb
      obtain ⟨a1, c1, hv, -, -⟩ := hb.form
      rw [hv] at hc
      have hs := Lib.hid (take_flat_succ ls k hlt2)
      have l1 := Hle.out k
      have l2 := Hle.out (k + 1)
      have l3 : (ls.take k).flatten.length + ls[k].length ≤ 140737488351232 := by rw [hs.out, List.length_append] at l2; exact l2
      clear hb hv l2
      revert l1 l3 hs
      generalize hn1 : (ls.take k).flatten.length = n1
      generalize hn2 : ls[k].length = n2 at hc ⊢
      intro hs l1 l3
      have Hn1 := Lib.hid hn1
      have Hn2 := Lib.hid hn2
      clear hn1 hn2
      go_wp2_with fail
      go_round
      case rel =>
        refine ⟨k + 1, by omega, by go_num, ?_⟩
        rw [hs.out, List.length_append, Hn1.out, Hn2.out]
        go_num
      case measure => simp [intOf]; omega
    · obtain rfl : k = vals.length := by omega
      have e1 : ls.take vals.length = ls := by rw [Hlen.out]; exact List.take_length
      rw [e1]
      have l0 := Hle.out vals.length
      rw [e1] at l0
      clear e1
      revert l0
      generalize hN : ls.flatten.length = N
      intro l0
      have HN := Lib.hid hN
      clear hN
      have hNl : N ≤ lim := by simp only [lim]; exact l0
      have hg := grow_any N w hNl
      have Hg := Lib.hid hg
      clear hg hNl
      go_wp2_with (go_at_call 59; refine Hg.out.mono ?_; rintro e w1 ⟨v1, rfl, hown1, hk1⟩)
      clear Hg
      go_loopw [6, 27] (fun v i wr => ∃ k : Nat, k ≤ vals.length ∧ i = .int .i64 k ∧ wr.ownsRow w.heap.size 5 1 v (ls.take k).flatten.length ((ls.take k).flatten.map bv) ∧ Kept [] w wr) (fun _ i _ => vals.length - (intOf i).toNat)
      case atStart => exact ⟨0, Nat.zero_le _, rfl, by simpa using hown1, hk1⟩
      case round =>
        obtain ⟨k, hk, rfl, hown, hkr⟩ := hrel
        by_cases hlt : k < vals.length
        · have hlt2 : k < ls.length := by rw [← Hlen.out]; exact hlt
          have hc := (hrow.kept hkr (by simp)).at hlt
          have hb := (hall.2 k vals[k] ls[k] (by simp [hlt]) (by simp [hlt2])).kept0 hkr
          have hs := Lib.hid (take_flat_succ ls k hlt2)
          have l1 := Hle.out (k + 1)
          rw [hs.out, List.length_append] at l1
          have l2 := Lib.hid l1
          clear l1
          have hbase := hkr.size
          have Hown := Lib.hid hown
          clear hown
          go_wp2_with (at_builtin; refine wpList_append_slc tyBytes Hown.out hb (bvs_one _) (by have := l2.out; simp only [maxLen]; omega) (by have := l2.out; omega) hbase rfl _ _ rfl rfl rfl ?_; intro v' w2 hown2 hk2 _ hb2)
          go_roundw
          case rel =>
            refine ⟨k + 1, by omega, by go_num, ?_, hkr.trans hk2 ?_⟩
            · rw [hs.out, List.length_append, List.map_append]; exact hown2
            · intro i hi
              exact .inr ((World.ownsRow.lt Hown.out i (Option.mem_toList.1 hi)).1)
          case measure => simp [intOf]; omega
        · obtain rfl : k = vals.length := by omega
          have e1 : ls.take vals.length = ls := by rw [Hlen.out]; exact List.take_length
          rw [e1] at hown
          have Hown := Lib.hid hown
          clear hown e1
          go_wp2
          go_ret
          exact ⟨_, rfl, newBytes_of_row Hown.out, hkr⟩

theorem concat2 (g cap : Nat) (v1 v2 : Value) (l1 l2 : List UInt8) (w : World) (hrow : Row w g 0 [v1, v2]) (h1 : Bytes w v1 l1) (h2 : Bytes w v2 l2) (hsum : l1.length + l2.length ≤ lim) :
    Calls Try.prog 33 #[.slice (some ⟨g, 0, none⟩) 2 cap] w fun e w' => ∃ v', e = .returned v' ∧ NewBytes w w' v' (l1 ++ l2) ∧ Kept [] w w' := by
  have := concat_any g 0 cap [v1, v2] [l1, l2] w hrow ((All2.nil _).cons h2 |>.cons h1) (by simpa using hsum) (by simp [lim])
  simpa using this
theorem concat3 (g cap : Nat) (v1 v2 v3 : Value) (l1 l2 l3 : List UInt8) (w : World) (hrow : Row w g 0 [v1, v2, v3]) (h1 : Bytes w v1 l1) (h2 : Bytes w v2 l2) (h3 : Bytes w v3 l3) (hsum : l1.length + l2.length + l3.length ≤ lim) :
    Calls Try.prog 33 #[.slice (some ⟨g, 0, none⟩) 3 cap] w fun e w' => ∃ v', e = .returned v' ∧ NewBytes w w' v' (l1 ++ (l2 ++ l3)) ∧ Kept [] w w' := by
  have := concat_any g 0 cap [v1, v2, v3] [l1, l2, l3] w hrow ((All2.nil _).cons h3 |>.cons h2 |>.cons h1) (by simp; omega) (by simp [lim])
  simpa using this
/-- A row that was just made. -/
theorem row_new (w : World) (xs : List Value) (t : Nat) : Row (w.alloc (.cells xs.toArray t)) w.heap.size 0 xs := by
  refine ⟨?_, by simp⟩
  intro j u hu
  rw [Nat.zero_add, cell_of_row _ w.heap.size j xs.toArray t (0, 0) (heap_alloc_new w _)]
  simpa using hu
end Go.Proofs.Ytfkdoinlbdcaaaa

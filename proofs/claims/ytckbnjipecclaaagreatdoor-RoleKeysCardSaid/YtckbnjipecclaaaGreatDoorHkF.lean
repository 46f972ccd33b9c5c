/- Parts of one proof, merged: XLib XJE XJF XOr. -/
import Derived.Test.YtckbnjipecclaaaGreatDoorHkA
import Derived.Outline
import Derived.WalkSpells
import Derived.Lib.AppendZeros
import Derived.Test.YtckbnjipecclaaaGreatDoorHkE
import Derived.OrdersHeld
set_option linter.all false
set_option maxHeartbeats 12800000
set_option maxRecDepth 10000
set_option linter.unusedVariables false
set_option linter.unusedSimpArgs false
set_option linter.unnecessarySimpa false
namespace Go.Proofs.YtckbnjipecclaaaGreatDoor
open Go.RowKit
theorem tyBytes : SliceTy Tryz.prog 82 5 1 1 (.int .u8 0) := ⟨Tryz.underlying82, by kernel_rfl, rfl, by decide⟩
def NewBytes (w w' : World) (v : Value) (l : List UInt8) : Prop := Bytes w' v l ∧ ∀ g, vblk v = some g → w.heap.size ≤ g ∧ kind w' g = 5 + 2
theorem newBytes_of_row {w w' : World} {v : Value} {n : Nat} {l : List UInt8} (h : w'.ownsRow w.heap.size 5 1 v n (l.map bv)) : NewBytes w w' v l := by
 have hn : l.length = n := by have := h.1; simpa using this
 subst hn
 exact ⟨Slc.of_row h, fun g hg => ⟨(h.lt g (own_of_vblk hg)).1, row_kind h (own_of_vblk hg)⟩⟩
@[go_sem] theorem eqlNilBytes (w : World) (a : Option Addr) (n c : Nat) : (binOp .eql 82 (.slice a n c) (.slice none 0 0)).run Tryz.prog w = .ok (.bool a.isNone) w := Lib.run_eql_slice_nil w _ _ a n c 0 0 Tryz.underlying82
theorem cloneB_any (v : Value) (l : List UInt8) (w : World) (h : Bytes w v l) (hl : l.length ≤ lim) :
  Calls Tryz.prog 137 #[v] w fun e w' => ∃ v', e = .returned v' ∧ NewBytes w w' v' l ∧ Kept [] w w' := by
 rcases h.2 with ⟨rfl, h0⟩ | h2
 ·have : l = [] := List.eq_nil_of_length_eq_zero h0
  subst this
  go_enter Tryz.func137, Tryz.ntmps137
  go_wp2
  go_ret
  exact ⟨_, rfl, ⟨slc_nil _ _, by simp [vblk]⟩, Kept.refl _ _⟩
 ·obtain ⟨ad, cap, rfl⟩ : ∃ ad cap, v = .slice (some ad) l.length cap := by
   rcases h2 with ⟨h0, a, c, rfl, _⟩ | ⟨g, o, c, rfl, _⟩
   ·exact ⟨a, c, by rw [h0]⟩
   ·exact ⟨_, _, rfl⟩
  have h1 := (Kept.refl [] w).alloc (.cells #[] 5)
  have hown := World.ownsRow_made (base := w.heap.size) (size := 1) (e := 5) w #[] 0 (Nat.le_refl _) (by decide) rfl
  have hsrc := h.kept0 h1
  go_enter Tryz.func137, Tryz.ntmps137
  go_wp2_with (at_builtin; refine wpList_append_slc tyBytes hown hsrc (bvs_one l) (by simp only [maxLen, lim] at *; omega) (by simp only [lim] at *; omega) (by simp) rfl _ _ rfl rfl rfl ?_; intro v' w1 hown1 hk1 _ hb1)
  go_ret
  exact ⟨_, rfl, newBytes_of_row (by simpa using hown1), h1.trans hk1 (by simp [Value.ownBlock])⟩
theorem grow_any (n : Nat) (w : World) (hn : n ≤ lim) :
  Calls Tryz.prog 178 #[.slice none 0 0, .int .i64 n] w fun e w' => ∃ v', e = .returned v' ∧ w'.ownsRow w.heap.size 5 1 v' 0 [] ∧ Kept [] w w' := by
 obtain ⟨i, hi, hz, hs, hb⟩ := info_parts tyBytes.info
 by_cases h0 : 0 < n
 ·have hrun := Lib.run_append_nil_zeros w 82 3 82 5 i (.int .u8 0) .i64 .i64 Tryz.underlying82 Tryz.underlying3 hi hz n h0 (by omega) (by simp only [lim] at hn; omega) (by simp only [lim] at hn; rw [hb]; omega)
  have hge := grownCap_ge w n 0 5
  have hmx := grownCap_le_maxLen w n 0 5 (by simp only [lim, maxLen] at *; omega)
  have hsz : (Builtin.zeroCells (Value.int IntKind.u8 0).cells n ++ Builtin.zeroCells (Value.int IntKind.u8 0).cells (grownCap w n 0 5 - n)).size = grownCap w n 0 5 * 1 := by
   simp only [Array.size_append, size_zeroCells]; simp [Value.cells]; omega
  revert hrun hge hmx hsz
  generalize grownCap w n 0 5 = cap
  generalize (Builtin.zeroCells (Value.int IntKind.u8 0).cells n ++ Builtin.zeroCells (Value.int IntKind.u8 0).cells (cap - n)) = cs
  intro hrun hge hmx hsz
  have hmx' := qI hmx
  have hsz' := qI hsz
  have hn2 : (n : Int) ≤ 140737488351232 := by simp only [lim] at hn; omega
  have hr' := qI hrun
  clear hmx hsz hn hi hz hs hb hrun
  go_enter Tryz.func178, Tryz.ntmps178
  go_wp2_with (at_builtin; refine Lib.wpList_append_run _ rfl _ _ _ _ rfl _ _ rfl rfl _ _ hr'.o ?_)
  go_ret
  refine ⟨_, rfl, ⟨rfl, .inr ⟨w.heap.size, cap, cs, rfl, Nat.le_refl _, heap_alloc_new w.drew _, Nat.zero_le _, hmx'.o, hsz'.o, by simp⟩⟩, ((Kept.refl _ w).drew).alloc _⟩
 ·obtain rfl : n = 0 := by omega
  go_enter Tryz.func178, Tryz.ntmps178
  go_wp2
  go_ret
  exact ⟨_, rfl, World.ownsRow_nil _ _ _ _, Kept.refl _ _⟩
theorem concat_any (g o cap : Nat) (vals : List Value) (ls : List (List UInt8)) (w : World) (hrow : Row w g o vals) (hall : All2 (Bytes w) vals ls) (hsum : ls.flatten.length ≤ lim) (hk : vals.length ≤ lim) :
  Calls Tryz.prog 135 #[.slice (some ⟨g, o, none⟩) vals.length cap] w fun e w' => ∃ v', e = .returned v' ∧ NewBytes w w' v' ls.flatten ∧ Kept [] w w' := by
 have hk' : vals.length ≤ 140737488351232 := by simpa only [lim] using hk
 have hle : ∀ j, (ls.take j).flatten.length ≤ 140737488351232 := fun j => by have := take_flat_le ls j; simp only [lim] at hsum; omega
 have hlen := hall.1
 have Hle := qI hle
 have Hlen := qI hlen
 have Hsum := qI hsum
 clear hk hle hlen hsum
 go_enter Tryz.func135, Tryz.ntmps135
 go_wp2_with fail
 go_loop [3, 11] (fun s i => ∃ k : Nat, k ≤ vals.length ∧ i = .int .i64 k ∧ s = .int .i64 (ls.take k).flatten.length) (fun _ i => vals.length - (intOf i).toNat)
 case atStart => exact ⟨0, Nat.zero_le _, rfl, by simp⟩
 case round =>
  obtain ⟨k, hk, rfl, rfl⟩ := hrel
  by_cases hlt : k < vals.length
  ·have hlt2 : k < ls.length := by rw [← Hlen.o]; exact hlt
   have hc := hrow.at hlt
   have hb := hall.2 k vals[k] ls[k] (by simp [hlt]) (by simp [hlt2])
   have hb' := qI hb
   obtain ⟨a1, c1, hv, -, -⟩ := hb.form
   rw [hv] at hc
   have hs := qI (take_flat_succ ls k hlt2)
   have l1 := Hle.o k
   have l2 := Hle.o (k + 1)
   have l3 : (ls.take k).flatten.length + ls[k].length ≤ 140737488351232 := by rw [hs.o, List.length_append] at l2; exact l2
   clear hb hv l2
   revert l1 l3 hs
   generalize hn1 : (ls.take k).flatten.length = n1
   generalize hn2 : ls[k].length = n2 at hc ⊢
   intro hs l1 l3
   have Hn1 := qI hn1
   have Hn2 := qI hn2
   clear hn1 hn2
   go_wp2_with fail
   go_round
   case rel =>
    refine ⟨k + 1, by omega, by go_num, ?_⟩
    rw [hs.o, List.length_append, Hn1.o, Hn2.o]
    go_num
   case measure => simp [intOf]; omega
  ·obtain rfl : k = vals.length := by omega
   have e1 : ls.take vals.length = ls := by rw [Hlen.o]; exact List.take_length
   rw [e1]
   have l0 := Hle.o vals.length
   rw [e1] at l0
   clear e1
   revert l0
   generalize hN : ls.flatten.length = N
   intro l0
   have HN := qI hN
   clear hN
   have hNl : N ≤ lim := by simp only [lim]; exact l0
   have hg := grow_any N w hNl
   have Hg := qI hg
   clear hg hNl
   go_wp2_with (go_at_call 178; refine Hg.o.mono ?_; rintro e w1 ⟨v1, rfl, hown1, hk1⟩)
   clear Hg
   go_loopw [6, 27] (fun v i wr => ∃ k : Nat, k ≤ vals.length ∧ i = .int .i64 k ∧ wr.ownsRow w.heap.size 5 1 v (ls.take k).flatten.length ((ls.take k).flatten.map bv) ∧ Kept [] w wr) (fun _ i _ => vals.length - (intOf i).toNat)
   case atStart => exact ⟨0, Nat.zero_le _, rfl, by simpa using hown1, hk1⟩
   case round =>
    obtain ⟨k, hk, rfl, hown, hkr⟩ := hrel
    by_cases hlt : k < vals.length
    ·have hlt2 : k < ls.length := by rw [← Hlen.o]; exact hlt
     have hc := (hrow.kept hkr (by simp)).at hlt
     have hb := (hall.2 k vals[k] ls[k] (by simp [hlt]) (by simp [hlt2])).kept0 hkr
     have hs := qI (take_flat_succ ls k hlt2)
     have l1 := Hle.o (k + 1)
     rw [hs.o, List.length_append] at l1
     have l2 := qI l1
     clear l1
     have hbase := hkr.size
     have Hown := qI hown
     clear hown
     go_wp2_with (at_builtin; refine wpList_append_slc tyBytes Hown.o hb (bvs_one _) (by have := l2.o; simp only [maxLen]; omega) (by have := l2.o; omega) hbase rfl _ _ rfl rfl rfl ?_; intro v' w2 hown2 hk2 _ hb2)
     go_roundw
     case rel =>
      refine ⟨k + 1, by omega, by go_num, ?_, hkr.trans hk2 ?_⟩
      ·rw [hs.o, List.length_append, List.map_append]; exact hown2
      ·intro i hi
       exact .inr ((World.ownsRow.lt Hown.o i (Option.mem_toList.1 hi)).1)
     case measure => simp [intOf]; omega
    ·obtain rfl : k = vals.length := by omega
     have e1 : ls.take vals.length = ls := by rw [Hlen.o]; exact List.take_length
     rw [e1] at hown
     have Hown := qI hown
     clear hown e1
     go_wp2
     go_ret
     exact ⟨_, rfl, newBytes_of_row Hown.o, hkr⟩
theorem concat2 (g cap : Nat) (v1 v2 : Value) (l1 l2 : List UInt8) (w : World) (hrow : Row w g 0 [v1, v2]) (h1 : Bytes w v1 l1) (h2 : Bytes w v2 l2) (hsum : l1.length + l2.length ≤ lim) :
  Calls Tryz.prog 135 #[.slice (some ⟨g, 0, none⟩) 2 cap] w fun e w' => ∃ v', e = .returned v' ∧ NewBytes w w' v' (l1 ++ l2) ∧ Kept [] w w' := by
 have := concat_any g 0 cap [v1, v2] [l1, l2] w hrow ((All2.nil _).cons h2 |>.cons h1) (by simpa using hsum) (by simp [lim])
 simpa using this
theorem concat3 (g cap : Nat) (v1 v2 v3 : Value) (l1 l2 l3 : List UInt8) (w : World) (hrow : Row w g 0 [v1, v2, v3]) (h1 : Bytes w v1 l1) (h2 : Bytes w v2 l2) (h3 : Bytes w v3 l3) (hsum : l1.length + l2.length + l3.length ≤ lim) :
  Calls Tryz.prog 135 #[.slice (some ⟨g, 0, none⟩) 3 cap] w fun e w' => ∃ v', e = .returned v' ∧ NewBytes w w' v' (l1 ++ (l2 ++ l3)) ∧ Kept [] w w' := by
 have := concat_any g 0 cap [v1, v2, v3] [l1, l2, l3] w hrow ((All2.nil _).cons h3 |>.cons h2 |>.cons h1) (by simp; omega) (by simp [lim])
 simpa using this
theorem row_new (w : World) (xs : List Value) (t : Nat) : Row (w.alloc (.cells xs.toArray t)) w.heap.size 0 xs := by
 refine ⟨?_, by simp⟩
 intro j u hu
 rw [Nat.zero_add, cell_of_row _ w.heap.size j xs.toArray t (0, 0) (heap_alloc_new w _)]
 simpa using hu
def putB (n sz i : Nat) : UInt8 := UInt8.ofNat (n / 2 ^ (8 * (sz - 1 - i)))
def putL (n sz : Nat) : List UInt8 := (List.range sz).map (putB n sz)
theorem putL_len (n sz : Nat) : (putL n sz).length = sz := by simp [putL]
theorem bv_ofNat (m : Nat) : bv (UInt8.ofNat m) = .int .u8 ((m : Int) % 256) := by
 simp [bv, UInt8.toNat_ofNat]
def putK (n sz k : Nat) : List UInt8 := (List.range sz).map (fun i => if i < k then putB n sz i else 0)
theorem putK_zero (n sz : Nat) : putK n sz 0 = List.replicate sz 0 := by
 apply List.ext_getElem
 ·simp [putK]
 ·intro i h1 h2; simp [putK]
theorem putK_all (n sz : Nat) : putK n sz sz = putL n sz := by
 apply List.map_congr_left
 intro i hi
 rw [if_pos (List.mem_range.1 hi)]
theorem putK_set (n sz k : Nat) (hk : k < sz) : ((putK n sz k).map bv).set k (.int .u8 ((n : Int) / 2 ^ (8 * (sz - 1 - k)) % 256)) = (putK n sz (k + 1)).map bv := by
 have hb : Value.int .u8 ((n : Int) / 2 ^ (8 * (sz - 1 - k)) % 256) = bv (putB n sz k) := by
  rw [putB, bv_ofNat]; simp
 rw [hb]
 apply List.ext_getElem
 ·simp [putK]
 ·intro i h1 h2
  rw [List.getElem_set]
  by_cases e : k = i
  ·subst e; simp [putK]
  ·rw [if_neg e]
   simp only [putK, List.getElem_map, List.getElem_range]
   congr 1
   by_cases h : i < k
   ·rw [if_pos h, if_pos (by omega)]
   ·rw [if_neg h, if_neg (by omega)]
theorem run_makeB (W : World) (n : Nat) (hn : n ≤ lim) : (Instr.makeSlice 82 (.int .i64 n) (.int .i64 n)).run Tryz.prog W = .ok (.slice (some ⟨W.heap.size, 0, none⟩) n n) (W.alloc (.cells (madeCells #[.int .u8 0] n) 5)) := by
 obtain ⟨i, hi, hz, hs, hb⟩ := info_parts tyBytes.info
 have := run_make (P := Tryz.prog) W 82 5 i (.int .u8 0) Tryz.underlying82 hi hz .i64 .i64 n n (by omega) (by omega) (by rw [hb]; unfold lim at hn; omega) (by unfold lim at hn; omega)
 rw [hs] at this
 simpa [Value.cells] using this
theorem zeros_list (n : Nat) : (madeCells #[.int .u8 0] n).toList = (List.replicate n (0 : UInt8)).map bv := by
 rw [toList_madeCells_one, List.map_replicate]; rfl
theorem zeros_own (W : World) (base n : Nat) (hn : n ≤ lim) (hb : base ≤ W.heap.size) : (W.alloc (.cells (madeCells #[.int .u8 0] n) 5)).ownsRow base 5 1 (.slice (some ⟨W.heap.size, 0, none⟩) n n) n ((List.replicate n (0 : UInt8)).map bv) := by
 rw [← zeros_list]
 exact World.ownsRow_lit W (madeCells #[.int .u8 0] n) n hb (by simp only [maxLen]; unfold lim at hn; omega) (by simp [size_madeCells])
theorem octPut_any (n sz : Nat) (w : World) (hz : 1 ≤ sz) (hz8 : sz ≤ 8) (hn : sz = 8 ∨ n < 2 ^ (8 * sz)) : Calls Tryz.prog 139 #[.int .i64 n, .int .i64 sz] w fun e w' => ∃ v, e = .returned (.tuple #[v, .int .i64 0]) ∧ NewBytes w w' v (putL n sz) ∧ Kept [] w w' := by
 have hmk := fun W => run_makeB W sz (by unfold lim; omega)
 have hown0 := qI (zeros_own w w.heap.size sz (by unfold lim; omega) (Nat.le_refl _))
 have hzI : (1 : Int) ≤ sz := by omega
 have hz8I : (sz : Int) ≤ 8 := by omega
 have HN := qI hn
 obtain ⟨W1, Gb⟩ : ∃ W1, Hid (W1 = w.alloc (.cells (madeCells #[.int .u8 0] sz) 5)) := ⟨_, qI rfl⟩
 have Gc : Hid (Kept [] w W1) := qI (by rw [Gb.o]; exact (Kept.refl _ w).alloc _)
 rw [← Gb.o] at hown0
 clear hn
 rcases Nat.lt_or_ge sz 8 with h8 | h8
 case' inr => have h8I : (8 : Int) ≤ sz := by omega
 case' inl =>
  have h8I : (sz : Int) < 8 := by omega
  have hq : ((n : Int) / 2 ^ (8 * sz) != 0) = false := by
   have h1 : n / 2 ^ (8 * sz) = 0 := Nat.div_eq_of_lt (HN.o.resolve_left (by omega))
   have h2 : ((n : Int) / 2 ^ (8 * sz)) = ((n / 2 ^ (8 * sz) : Nat) : Int) := by simp
   rw [h2, h1]; rfl
 all_goals
  go_enter Tryz.func139, Tryz.ntmps139
  go_wp2_with fail
  rw [← Gb.o]
  go_loopw [33] (fun i wr => ∃ k : Nat, i = .int .i64 k ∧ k ≤ sz ∧ wr.ownsRow w.heap.size 5 1 (.slice (some ⟨w.heap.size, 0, none⟩) sz sz) sz ((putK n sz k).map bv) ∧ Kept [] w wr) (fun i _ => sz - (intOf i).toNat)
  case atStart => exact ⟨0, rfl, Nat.zero_le _, by rw [putK_zero]; exact hown0.o, Gc.o⟩
  case round =>
   obtain ⟨k, rfl, hk, hown, hkr⟩ := hrel
   have Hown := qI hown
   have HK := qI hkr
   by_cases h4 : k < sz
   ·have h4I : (k : Int) < sz := by omega
    have hc := hown.cellAt k (by omega)
    have hf := hown.frozenAt k
    obtain ⟨cv, hcv⟩ : ∃ cv, wr.cell? ⟨w.heap.size, k, none⟩ = some cv := by
     refine ⟨_, hc.trans (List.getElem?_eq_getElem ?_)⟩
     simp [putK]; omega
    clear hc hown hkr hmk
    go_wp2_with fail
    case roundEnd =>
     have hst := (Hown.o.stored k (.int .u8 ((n : Int) / 2 ^ (8 * (sz - 1 - k)) % 256))).1
     rw [putK_set n sz k h4] at hst
     exact ⟨⟨k + 1, by go_num, by omega, hst, HK.o.setCell (by simp) _⟩, by simp [intOf]; omega⟩
   ·obtain rfl : k = sz := by omega
    clear hown hkr
    go_wp2_with fail
    go_ret2
    have h9 := Hown.o
    rw [putK_all] at h9
    exact ⟨_, rfl, by have := newBytes_of_row h9; exact this, HK.o⟩
theorem HashAt.lt {w : World} {p : Nat} {s : S8} {v : Value} {n : Int} (h : HashAt w p s v n) : p < w.heap.size := by
 unfold HashAt at h
 exact (Array.getElem?_eq_some_iff.1 h).1
theorem HashAt.c {w : World} {p : Nat} {s : S8} {v : Value} {n : Int} (h : HashAt w p s v n) : w.cell? ⟨p, 0, none⟩ = some (.int .u32 s.a) ∧ w.cell? ⟨p, 1, none⟩ = some (.int .u32 s.b) ∧ w.cell? ⟨p, 2, none⟩ = some (.int .u32 s.c) ∧ w.cell? ⟨p, 3, none⟩ = some (.int .u32 s.d) ∧ w.cell? ⟨p, 4, none⟩ = some (.int .u32 s.e) ∧ w.cell? ⟨p, 5, none⟩ = some (.int .u32 s.f) ∧ w.cell? ⟨p, 6, none⟩ = some (.int .u32 s.g) ∧ w.cell? ⟨p, 7, none⟩ = some (.int .u32 s.h) ∧ w.cell? ⟨p, 8, none⟩ = some v ∧ w.cell? ⟨p, 9, none⟩ = some (.int .i64 n) :=
 ⟨cell_head h rfl, cell_head h rfl, cell_head h rfl, cell_head h rfl, cell_head h rfl, cell_head h rfl, cell_head h rfl, cell_head h rfl, cell_head h rfl, cell_head h rfl⟩
theorem HashAt.kd {w : World} {p : Nat} {s : S8} {v : Value} {n : Int} (h : HashAt w p s v n) : kind w p = 175 + 2 := kind_cells h
theorem fork_any (w : World) (p : Nat) (s : S8) (v : Value) (l : List UInt8) (n : Int) (h : HashAt w p s v n) (hb : Bytes w v l) (hl : l.length ≤ lim) : Calls Tryz.prog 138 #[.pointer (some ⟨p, 0, none⟩)] w fun e w' => ∃ q v', e = .returned (.pointer (some ⟨q, 0, none⟩)) ∧ w.heap.size ≤ q ∧ HashAt w' q s v' n ∧ Bytes w' v' l ∧ (∀ g, vblk v' = some g → w.heap.size ≤ g ∧ kind w' g = 5 + 2) ∧ Kept [] w w' := by
 have HH := qI h
 have HB := qI hb
 have HL := qI hl
 clear h hb hl
 go_enter Tryz.func138, Tryz.ntmps138
 go_wp2_with fail
 refine wp_region_last' (n := 16) (fun w' : World => HashAt w' p s v n ∧ Bytes w' v l ∧ Kept [] w w') 15 (by kernel_rfl) (by kernel_rfl) ?_
 change wpAnyT _ _ _ _ _ _ _ _ _ w.drew
 have hSS : (fun w' : World => HashAt w' p s v n ∧ Bytes w' v l ∧ Kept [] w w') w.drew := ⟨HH.o.kept (Kept.refl [] w).drew (by simp), HB.o.kept0 (Kept.refl [] w).drew, (Kept.refl [] w).drew⟩
 revert hSS
 generalize w.drew = W2
 intro hSS
 refine wpAnyT_start ?_
 intro O R hO hR
 have hQp : ∀ c a (d : Nat) v w, R (.panic c) (a.put (some d) v) w → R (.panic c) a w := by subst hR; exact fun _ _ _ _ _ h => h
 refine wpAnyT_take' (i := 0) (v := ?_) hO rfl rfl (by kernel_rfl) (by kernel_rfl) (by kernel_rfl) (by kernel_rfl) hQp (Or.inl ⟨by kernel_rfl, fun w hSw => ?_⟩) hSS ?_
 rotate_left
 ·go_simp; try with_reducible rfl
 try simp only [zA,zN,zB,zC,zD]
 refine wpAnyT_take' (i := 1) (v := ?_) hO rfl rfl (by kernel_rfl) (by kernel_rfl) (by kernel_rfl) (by kernel_rfl) hQp (Or.inl ⟨by kernel_rfl, fun w hSw => ?_⟩) hSS ?_
 rotate_left
 ·go_simp; try with_reducible rfl
 try simp only [zA,zN,zB,zC,zD]
 refine wpAnyT_take' (i := 2) (v := ?_) hO rfl rfl (by kernel_rfl) (by kernel_rfl) (by kernel_rfl) (by kernel_rfl) hQp (Or.inl ⟨by kernel_rfl, fun w hSw => ?_⟩) hSS ?_
 rotate_left
 ·go_simp; try with_reducible rfl
 try simp only [zA,zN,zB,zC,zD]
 refine wpAnyT_take' (i := 3) (v := ?_) hO rfl rfl (by kernel_rfl) (by kernel_rfl) (by kernel_rfl) (by kernel_rfl) hQp (Or.inl ⟨by kernel_rfl, fun w hSw => ?_⟩) hSS ?_
 rotate_left
 ·obtain ⟨x0, x1, x2, x3, x4, x5, x6, x7, x8, x9⟩ := hSw.1.c; go_simp; try with_reducible rfl
 try simp only [zA,zN,zB,zC,zD]
 refine wpAnyT_take' (i := 4) (v := ?_) hO rfl rfl (by kernel_rfl) (by kernel_rfl) (by kernel_rfl) (by kernel_rfl) hQp (Or.inl ⟨by kernel_rfl, fun w hSw => ?_⟩) hSS ?_
 rotate_left
 ·go_simp; try with_reducible rfl
 try simp only [zA,zN,zB,zC,zD]
 refine wpAnyT_take' (i := 5) (v := ?_) hO rfl rfl (by kernel_rfl) (by kernel_rfl) (by kernel_rfl) (by kernel_rfl) hQp (Or.inl ⟨by kernel_rfl, fun w hSw => ?_⟩) hSS ?_
 rotate_left
 ·go_simp; try with_reducible rfl
 try simp only [zA,zN,zB,zC,zD]
 refine wpAnyT_take' (i := 6) (v := ?_) hO rfl rfl (by kernel_rfl) (by kernel_rfl) (by kernel_rfl) (by kernel_rfl) hQp (Or.inl ⟨by kernel_rfl, fun w hSw => ?_⟩) hSS ?_
 rotate_left
 ·go_simp; try with_reducible rfl
 try simp only [zA,zN,zB,zC,zD]
 refine wpAnyT_take' (i := 7) (v := ?_) hO rfl rfl (by kernel_rfl) (by kernel_rfl) (by kernel_rfl) (by kernel_rfl) hQp (Or.inl ⟨by kernel_rfl, fun w hSw => ?_⟩) hSS ?_
 rotate_left
 ·obtain ⟨x0, x1, x2, x3, x4, x5, x6, x7, x8, x9⟩ := hSw.1.c; go_simp; try with_reducible rfl
 try simp only [zA,zN,zB,zC,zD]
 refine wpAnyT_take' (i := 9) (v := ?_) hO rfl rfl (by kernel_rfl) (by kernel_rfl) (by kernel_rfl) (by kernel_rfl) hQp (Or.inl ⟨by kernel_rfl, fun w hSw => ?_⟩) hSS ?_
 rotate_left
 ·go_simp; try with_reducible rfl
 try simp only [zA,zN,zB,zC,zD]
 refine wpAnyT_take' (i := 10) (v := ?_) hO rfl rfl (by kernel_rfl) (by kernel_rfl) (by kernel_rfl) (by kernel_rfl) hQp (Or.inl ⟨by kernel_rfl, fun w hSw => ?_⟩) hSS ?_
 rotate_left
 ·go_simp; try with_reducible rfl
 try simp only [zA,zN,zB,zC,zD]
 refine wpAnyT_take' (i := 11) (v := ?_) hO rfl rfl (by kernel_rfl) (by kernel_rfl) (by kernel_rfl) (by kernel_rfl) hQp (Or.inl ⟨by kernel_rfl, fun w hSw => ?_⟩) hSS ?_
 rotate_left
 ·go_simp; try with_reducible rfl
 try simp only [zA,zN,zB,zC,zD]
 refine wpAnyT_take' (i := 12) (v := ?_) hO rfl rfl (by kernel_rfl) (by kernel_rfl) (by kernel_rfl) (by kernel_rfl) hQp (Or.inl ⟨by kernel_rfl, fun w hSw => ?_⟩) hSS ?_
 rotate_left
 ·obtain ⟨x0, x1, x2, x3, x4, x5, x6, x7, x8, x9⟩ := hSw.1.c; go_simp; try with_reducible rfl
 try simp only [zA,zN,zB,zC,zD]
 refine wpAnyT_one' (i := 8) hO rfl (by kernel_rfl) (by kernel_rfl) (fun K hK => ?_)
 go_simp
 refine Calls.mono (cloneB_any v l W2 hSS.2.1 HL.o) ?_
 rintro e w3 ⟨v', rfl, hnb, hk3⟩
 obtain ⟨a', c', rfl, -, -⟩ := hnb.1.form
 have hS3 : (fun w' : World => HashAt w' p s v n ∧ Bytes w' v l ∧ Kept [] w w') w3 := ⟨hSS.1.kept hk3 (by simp), hSS.2.1.kept0 hk3, hSS.2.2.then hk3⟩
 have Ga := qI hnb
 have Gd : Hid (w.heap.size ≤ W2.heap.size) := qI hSS.2.2.size
 clear hnb
 refine hK _ _ (.inr hS3) ?_
 clear hK K
 try simp only [zA,zN,zB,zC,zD]
 clear hSS
 have hSS := hS3
 clear hS3
 refine wpAnyT_take' (i := 13) (v := ?_) hO rfl rfl (by kernel_rfl) (by kernel_rfl) (by kernel_rfl) (by kernel_rfl) hQp (Or.inl ⟨by kernel_rfl, fun w hSw => ?_⟩) hSS ?_
 rotate_left
 ·go_simp; try with_reducible rfl
 try simp only [zA,zN,zB,zC,zD]
 refine wpAnyT_one' (i := 14) hO rfl (by kernel_rfl) (by kernel_rfl) (fun K hK => ?_)
 go_simp
 refine hK _ _ (.inr ⟨hSS.1.kept ((Kept.refl [] _).alloc _) (by simp), hSS.2.1.kept0 ((Kept.refl [] _).alloc _), hSS.2.2.alloc _⟩) ?_
 clear hK K
 try simp only [zA,zN,zB,zC,zD]
 refine wpAnyT_one' (i := 15) hO rfl (by kernel_rfl) (by kernel_rfl) (fun K hK => ?_)
 go_simp
 refine hK _ _ (.inl rfl) ?_
 clear hK K
 try simp only [zA,zN,zB,zC,zD]
 refine wpAnyT_done' hO (by kernel_rfl) ?_ _
 subst hR
 try clear hQp hO O
 go_wp2_with fail
 go_ret
 exact ⟨w3.heap.size, rfl, hSS.2.2.size, _, block_alloc rfl, Ga.o.1.kept0 ((Kept.refl [] w3).alloc _), fun g hg => ⟨Nat.le_trans Gd.o (Ga.o.2 g hg).1, (((Kept.refl [] w3).alloc _).kind (Ga.o.1.lt hg) (by simp)).trans (Ga.o.2 g hg).2⟩, hSS.2.2.alloc _⟩
structure Fact (R : World → World → Prop) where
 p : Value → Nat × Nat → World → Prop
 st : ∀ v b w w', p v b w → R w w' → p v b w'
def Fact.is {R : World → World → Prop} (v : Value) : Fact R := ⟨fun u _ _ => u = v, fun _ _ _ _ h _ => h⟩
def Fact.any {R : World → World → Prop} : Fact R := ⟨fun _ _ _ => True, fun _ _ _ _ h _ => h⟩
def factAt {R : World → World → Prop} (fs : List (Fact R)) (i : Nat) : Fact R := fs.getD i Fact.any
def puts : List (Option Nat) → Nat → (Nat → Value) → Act → Act
 | [], _, _, a => a
 | d :: ds, k, x, a => puts ds (k + 1) x (a.put d (x k))
def valOf (a : Act) : Option Nat → Value
 | some d => a.tmps.getD d undef
 | none => undef
def waitsOn (ops : Array Oper) (k j : Nat) : Bool := ((ops[k]?).map (·.after.any fun e => Region.binds .any e && e.on == j)).getD false
def backOnly (ops : Array Oper) (k : Nat) : Bool := ((ops[k]?).map (·.after.all fun e => !Region.binds .any e || decide (e.on < k))).getD false
def noDups : List (Option Nat) → Bool
 | [] => true
 | none :: l => noDups l
 | some d :: l => !l.contains (some d) && noDups l
def ordB (ops : Array Oper) (L n : Nat) : Bool :=
 decide (L < ops.size) && (List.range ops.size).all (backOnly ops) && (List.range L).all (fun j => (List.range (L + 1)).any (fun k => decide (j < k) && waitsOn ops k j)) && noDups (ops.toList.map (·.dst)) &&
  (ops.toList.map (·.dst)).all (fun d => d.all (fun d => decide (d < n))) && (List.range ops.size).all (fun k => decide (k ≤ L) || waitsOn ops k (k - 1))
theorem noDups_spec : ∀ {l : List (Option Nat)}, noDups l = true → ∀ (i j : Nat) (d : Nat), l[i]? = some (some d) → l[j]? = some (some d) → i = j
 | [], _, i, _, _, h, _ => by simp at h
 | none :: l, h, i, j, d, hi, hj => by
  cases i with
  | zero => simp at hi
  | succ i =>
   cases j with
   | zero => simp at hj
   | succ j => rw [noDups_spec (l := l) h i j d (by simpa using hi) (by simpa using hj)]
 | some e :: l, h, i, j, d, hi, hj => by
  simp only [noDups, Bool.and_eq_true, Bool.not_eq_true', List.contains_eq_mem, decide_eq_false_iff_not] at h
  cases i with
  | zero =>
   cases j with
   | zero => rfl
   | succ j =>
    simp only [List.getElem?_cons_zero, Option.some.injEq] at hi
    subst hi
    exact absurd (List.mem_of_getElem? (by simpa using hj)) h.1
  | succ i =>
   cases j with
   | zero =>
    simp only [List.getElem?_cons_zero, Option.some.injEq] at hj
    subst hj
    exact absurd (List.mem_of_getElem? (by simpa using hi)) h.1
   | succ j => rw [noDups_spec (l := l) h.2 i j d (by simpa using hi) (by simpa using hj)]
theorem put_getD (a : Act) (d t : Nat) (v : Value) (hd : d < a.tmps.size) : (a.put (some d) v).tmps.getD t undef = if t = d then v else a.tmps.getD t undef := by
 simp only [Act.put, Array.getD_eq_getD_getElem?, Array.getElem?_setIfInBounds]
 by_cases h : d = t
 ·subst h; simp [hd]
 ·rw [if_neg h, if_neg (Ne.symm h)]
theorem puts_size : ∀ (ds : List (Option Nat)) (k : Nat) (x : Nat → Value) (a : Act), (puts ds k x a).tmps.size = a.tmps.size
 | [], _, _, _ => rfl
 | d :: ds, k, x, a => by
  rw [puts, puts_size ds]
  cases d <;> simp [Act.put]
theorem puts_defers : ∀ (ds : List (Option Nat)) (k : Nat) (x : Nat → Value) (a : Act), (puts ds k x a).defers = a.defers
 | [], _, _, _ => rfl
 | d :: ds, k, x, a => by
  rw [puts, puts_defers ds]
  cases d <;> simp [Act.put]
theorem puts_not : ∀ (ds : List (Option Nat)) (k : Nat) (x : Nat → Value) (a : Act) (t : Nat), some t ∉ ds → (∀ d, some d ∈ ds → d < a.tmps.size) → (puts ds k x a).tmps.getD t undef = a.tmps.getD t undef
 | [], _, _, _, _, _, _ => rfl
 | d :: ds, k, x, a, t, h, hz => by
  have hs : (a.put d (x k)).tmps.size = a.tmps.size := by cases d <;> simp [Act.put]
  rw [puts, puts_not ds _ _ _ t (fun g => h (List.mem_cons_of_mem _ g)) (fun e he => by rw [hs]; exact hz e (List.mem_cons_of_mem _ he))]
  cases d with
  | none => rfl
  | some d =>
   rw [put_getD a d t _ (hz d (List.mem_cons_self ..)), if_neg (fun e => h (by rw [e]; exact List.mem_cons_self ..))]
theorem puts_at : ∀ (ds : List (Option Nat)) (k : Nat) (x : Nat → Value) (a : Act) (i d : Nat), noDups ds = true → (∀ d, some d ∈ ds → d < a.tmps.size) → ds[i]? = some (some d) → (puts ds k x a).tmps.getD d undef = x (k + i)
 | [], _, _, _, _, _, _, _, h => by simp at h
 | e :: ds, k, x, a, i, d, hn, hz, h => by
  have hs : (a.put e (x k)).tmps.size = a.tmps.size := by cases e <;> simp [Act.put]
  have hz' : ∀ d, some d ∈ ds → d < (a.put e (x k)).tmps.size := fun d hd => by rw [hs]; exact hz d (List.mem_cons_of_mem _ hd)
  rw [puts]
  cases i with
  | zero =>
   simp only [List.getElem?_cons_zero, Option.some.injEq] at h
   subst h
   simp only [noDups, Bool.and_eq_true, Bool.not_eq_true', List.contains_eq_mem, decide_eq_false_iff_not] at hn
   rw [puts_not ds _ _ _ d hn.1 hz', put_getD a d d _ (hz d (List.mem_cons_self ..)), if_pos rfl]
   rfl
  | succ i =>
   rw [puts_at ds (k + 1) x _ i d (by
    cases e with
    | none => exact hn
    | some e => simp only [noDups, Bool.and_eq_true] at hn; exact hn.2) hz' (by simpa using h)]
   congr 1; omega
theorem act_puts {ds : List (Option Nat)} {a b : Act} (hn : noDups ds = true) (hz : ∀ d, some d ∈ ds → d < a.tmps.size) (hs : b.tmps.size = a.tmps.size) (hd : b.defers = a.defers) (ho : ∀ t, some t ∉ ds → b.tmps.getD t undef = a.tmps.getD t undef) :
  b = puts ds 0 (fun j => valOf b (ds.getD j none)) a := by
 have key : b.tmps = (puts ds 0 (fun j => valOf b (ds.getD j none)) a).tmps := by
  apply Array.ext
  ·rw [puts_size, hs]
  ·intro t h1 h2
   have e1 : b.tmps[t] = b.tmps.getD t undef := by simp [Array.getD_eq_getD_getElem?, h1]
   have e2 : (puts ds 0 (fun j => valOf b (ds.getD j none)) a).tmps[t] = (puts ds 0 (fun j => valOf b (ds.getD j none)) a).tmps.getD t undef := by rw [Array.getD_eq_getD_getElem?, Array.getElem?_eq_getElem h2]; rfl
   rw [e1, e2]
   by_cases hm : some t ∈ ds
   ·obtain ⟨i, hi, he⟩ := List.getElem_of_mem hm
    have hg : ds[i]? = some (some t) := by rw [List.getElem?_eq_getElem hi, he]
    rw [puts_at ds 0 _ a i t hn hz hg, Nat.zero_add, List.getD_eq_getElem?_getD, hg]
    rfl
   ·rw [puts_not ds 0 _ a t hm hz, ho t hm]
 have e3 := puts_defers ds 0 (fun j => valOf b (ds.getD j none)) a
 rw [← hd] at e3
 cases b
 rename_i tm df
 generalize hP : puts ds 0 _ a = p at key e3 ⊢
 cases p
 simp only at key e3
 subst key; subst e3
 rfl
def Windows (W w' : World) (L : Nat) (b : Nat → Nat × Nat) : Prop := (∀ j, j < L → W.heap.size ≤ (b j).1 ∧ (b j).1 ≤ (b j).2 ∧ (b j).2 ≤ w'.heap.size) ∧ ∀ i j, i < L → j < L → i ≠ j → (b i).2 ≤ (b j).1 ∨ (b j).2 ≤ (b i).1
section
variable {P : Program} {ops : Array Oper} {R : World → World → Prop}
def stepsF (P : Program) (ops : Array Oper) (R : World → World → Prop) (fs : List (Fact R)) (W : World) (F : (Nat → Value) → Act) : List Oper → Nat → Prop
 | [], _ => True
 | o :: l, i => (∀ x w, R W w → ∀ b : Nat → Nat × Nat, (∀ j, waitsOn ops i j = true → (factAt fs j).p (x j) (b j) w) →
     wpList P ops (fun e a' w' => e = .normal ∧ ∃ v, a' = (F x).put o.dst v ∧ (factAt fs i).p (match o.dst with | some _ => v | none => undef) (w.heap.size, w'.heap.size) w' ∧ R w w') [o] (F x) w) ∧ stepsF P ops R fs W F l (i + 1)
theorem stepsF_at {fs : List (Fact R)} {W : World} {F : (Nat → Value) → Act} : ∀ (l : List Oper) (k i : Nat) (o : Oper), stepsF P ops R fs W F l k → l[i]? = some o → ∀ x w, R W w → ∀ b : Nat → Nat × Nat, (∀ j, waitsOn ops (k + i) j = true → (factAt fs j).p (x j) (b j) w) →
  wpList P ops (fun e a' w' => e = .normal ∧ ∃ v, a' = (F x).put o.dst v ∧ (factAt fs (k + i)).p (match o.dst with | some _ => v | none => undef) (w.heap.size, w'.heap.size) w' ∧ R w w') [o] (F x) w
 | [], _, _, _, _, h => by simp at h
 | o :: l, k, 0, o', h, ho => by
  simp only [List.getElem?_cons_zero, Option.some.injEq] at ho
  subst ho
  exact h.1
 | o :: l, k, i + 1, o', h, ho => by
  have := stepsF_at l (k + 1) i o' h.2 (by simpa using ho)
  rw [show k + 1 + i = k + (i + 1) by omega] at this
  exact this
theorem wpOp_of_list {Q Q' : Exit → Act → World → Prop} {K : Act → World → Prop} {i : Nat} {o : Oper} {a : Act} {w : World} (ho : ops[i]? = some o) (h : wpList P ops Q [o] a w) (hK : ∀ a' w', Q .normal a' w' → K a' w') (hp : ∀ c a w, Q (.panic c) a w → Q' (.panic c) a w) (hl : LetsOut Q → LetsOut Q') : wpOp P ops Q' i K a w := by
 unfold wpOp
 rw [ho]
 simp only
 unfold wpList at h
 split at h
 ·rename_i hw
  rw [if_pos hw]
  rcases h with h | h
  ·refine .inl ?_
   unfold Oper.wp at *
   generalize (execOp a.eval o).run P w = r at *
   cases r with
   | ok n w' =>
    cases n <;> simp only [Oper.upon] at h ⊢
    case value v => exact hK _ _ h
    case skip => exact hK _ _ h
    case defer d => exact hK _ _ h
    case enter f args =>
     exact Calls.mono h (fun e w'' he => by cases e <;> first | exact hK _ _ he | exact hp _ _ _ he | exact hl he)
    case row r args => exact Rows.mono h (fun _ _ he => hK _ _ he)
   | halt x w' => cases x <;> simp only [Oper.upon] at h ⊢ <;> exact hp _ _ _ h
  ·exact .inr ⟨h.1, hl h.2⟩
 ·rename_i hw
  rw [if_neg hw]
  exact hK _ _ h
structure Mid (ops : Array Oper) (fs : List (Fact R)) (W : World) (L : Nat) (b : Act) (listed : Array Bool) (a : Act) (w : World) (bs : Nat → Nat × Nat) : Prop where
 size : listed.size = ops.size
 last : ∀ k, L ≤ k → listed.getD k false = false
 closed : ∀ k j, listed.getD k false = true → waitsOn ops k j = true → listed.getD j false = true
 tmps : a.tmps.size = b.tmps.size
 defers : a.defers = b.defers
 rest : ∀ t, some t ∉ ops.toList.map (·.dst) → a.tmps.getD t undef = b.tmps.getD t undef
 late : ∀ k d, L ≤ k → (ops.toList.map (·.dst))[k]? = some (some d) → a.tmps.getD d undef = b.tmps.getD d undef
 rel : R W w
 facts : ∀ j, listed.getD j false = true → (factAt fs j).p (valOf a ((ops.toList.map (·.dst)).getD j none)) (bs j) w
 within : ∀ j, listed.getD j false = true → W.heap.size ≤ (bs j).1 ∧ (bs j).1 ≤ (bs j).2 ∧ (bs j).2 ≤ w.heap.size
 apart : ∀ i j, listed.getD i false = true → listed.getD j false = true → i ≠ j → (bs i).2 ≤ (bs j).1 ∨ (bs j).2 ≤ (bs i).1
theorem mem_ready' {md : Region.Mode} {listed : Array Bool} {i : Nat} : i ∈ Region.ready md ops listed → listed.getD i true = false ∧ ∃ o, ops[i]? = some o ∧ ∀ e ∈ o.after, Region.binds md e = true → listed.getD e.on false = true := fun h => by
 obtain ⟨h1, o, h2, h3⟩ := mem_ready.1 h
 exact ⟨h1, o, h2, h3⟩
theorem waits_listed {listed : Array Bool} {i j : Nat} {o : Oper} (ho : ops[i]? = some o) (h : ∀ e ∈ o.after, Region.binds .any e = true → listed.getD e.on false = true) (hw : waitsOn ops i j = true) : listed.getD j false = true := by
 unfold waitsOn at hw
 rw [ho] at hw
 simp only [Option.map_some, Option.getD_some, Array.any_eq_true'] at hw
 obtain ⟨e, he, hb⟩ := hw
 simp only [Bool.and_eq_true, beq_iff_eq] at hb
 rw [← hb.2]
 exact h e he hb.1
theorem getD_true_false {l : Array Bool} {i : Nat} (h : l.getD i true = false) : l.getD i false = false ∧ i < l.size := by
 by_cases hi : i < l.size
 ·simp [Array.getD_eq_getD_getElem?, hi] at h ⊢; exact h
 ·simp [Array.getD_eq_getD_getElem?, hi] at h
theorem all_of_last {listed : Array Bool} {L : Nat} (hc : ∀ k j, listed.getD k false = true → waitsOn ops k j = true → listed.getD j false = true) (hL : ∀ j, waitsOn ops L j = true → listed.getD j false = true)
  (hB : (List.range L).all (fun j => (List.range (L + 1)).any (fun k => decide (j < k) && waitsOn ops k j)) = true) : ∀ (m j : Nat), L - j = m → j < L → listed.getD j false = true := by
 intro m
 induction m using Nat.strongRecOn with
 | _ m ih =>
  intro j hm hj
  have h1 := List.all_eq_true.1 hB j (List.mem_range.2 hj)
  obtain ⟨k, hk, h2⟩ := List.any_eq_true.1 h1
  simp only [Bool.and_eq_true, decide_eq_true_eq] at h2
  have hkL := List.mem_range.1 hk
  by_cases e : k = L
  ·subst e; exact hL j h2.2
  ·exact hc k j (ih (L - k) (by omega) k rfl (by omega)) h2.2
theorem ready_some {listed : Array Bool} {n : Nat} (hs : ops.size = n) (hl : listed.size = n) (hb : ∀ k, k < n → backOnly ops k = true) : ∀ (m : Nat), m < n → listed.getD m false = false → Region.ready .any ops listed ≠ [] := by
 intro m
 induction m using Nat.strongRecOn with
 | _ m ih =>
  intro hm h
  obtain ⟨o, ho⟩ : ∃ o, ops[m]? = some o := ⟨_, Array.getElem?_eq_getElem (by omega)⟩
  by_cases hall : ∀ e ∈ o.after, Region.binds .any e = true → listed.getD e.on false = true
  ·intro e
   have : m ∈ Region.ready .any ops listed := mem_ready.2 ⟨by
    have hi : m < listed.size := by omega
    simp [Array.getD_eq_getD_getElem?, hi] at h ⊢; exact h, o, ho, hall⟩
   rw [e] at this
   cases this
  ·simp only [Classical.not_forall] at hall
   obtain ⟨e, he, hbn, hf⟩ := hall
   have h1 := hb m hm
   unfold backOnly at h1
   rw [ho] at h1
   simp only [Option.map_some, Option.getD_some, Array.all_eq_true_iff_forall_mem] at h1
   have h2 := h1 e he
   simp only [hbn, Bool.not_true, Bool.false_or, decide_eq_true_eq] at h2
   exact ih e.on h2 (by omega) (by simpa using hf)
def unlisted (l : Array Bool) : Nat := l.toList.countP (fun b => !b)
theorem unlisted_set {l : Array Bool} {i : Nat} (h : l.getD i true = false) : unlisted (l.setIfInBounds i true) + 1 = unlisted l := by
 have hi := (getD_true_false h).2
 have hv : l[i] = false := by simpa [Array.getD_eq_getD_getElem?, hi] using h
 unfold unlisted
 rw [Array.toList_setIfInBounds]
 have hil : i < l.toList.length := by simpa using hi
 rw [List.countP_set hil]
 have hv' : l.toList[i] = false := by simpa using hv
 rw [hv']
 have : 0 < l.toList.countP (fun b => !b) := List.countP_pos_iff.2 ⟨false, by rw [← hv']; exact List.getElem_mem hil, rfl⟩
 simp only [Bool.not_false, Bool.not_true, if_true, Bool.false_eq_true, if_false]
 omega
theorem unlisted_pos {l : Array Bool} {i : Nat} (hi : i < l.size) (h : l.getD i false = false) : 0 < unlisted l := by
 have hv : l[i] = false := by simpa [Array.getD_eq_getD_getElem?, hi] using h
 exact List.countP_pos_iff.2 ⟨false, by rw [← hv]; exact Array.getElem_mem_toList hi, rfl⟩
theorem tail_any {Q : Exit → Act → World → Prop} {L : Nat} (hb : ∀ k, k < ops.size → backOnly ops k = true) (hch : ∀ k, k < ops.size → L < k → waitsOn ops k (k - 1) = true) : ∀ (tl : List Oper) (k : Nat) (fuel : Nat) (listed : Array Bool) (a : Act) (w : World),
  L ≤ k → ops.toList.drop k = tl → listed.size = ops.size → (∀ j, j < k → j < ops.size → listed.getD j false = true) → (∀ j, k ≤ j → listed.getD j false = false) → tl.length ≤ fuel → wpList P ops Q tl a w → wpAny P .any ops Q fuel listed a w := by
 intro tl
 induction tl with
 | nil =>
  intro k fuel listed a w _ htl hs hall _ _ h
  have hk : ops.size ≤ k := by simpa using List.drop_eq_nil_iff.1 htl
  refine wpAny_done ?_ h fuel
  rw [List.eq_nil_iff_forall_not_mem]
  intro j hj
  have hj2 := getD_true_false (mem_ready' hj).1
  rw [hall j (by omega) (by omega)] at hj2
  cases hj2.1
 | cons o rest ih =>
  intro k fuel listed a w hLk htl hs hall hno hf h
  have hk : k < ops.size := by
   rcases Nat.lt_or_ge k ops.size with h1 | h1
   ·exact h1
   ·rw [List.drop_eq_nil_of_le (by simpa using h1)] at htl; cases htl
  have ho : ops[k]? = some o := by
   have h1 : (ops.toList.drop k)[0]? = some o := by rw [htl]; rfl
   rw [List.getElem?_drop, Nat.add_zero, Array.getElem?_toList] at h1
   exact h1
  have hrest : ops.toList.drop (k + 1) = rest := by
   rw [← List.drop_drop, htl]
   rfl
  obtain ⟨f, rfl⟩ : ∃ f, fuel = f + 1 := ⟨fuel - 1, by simp only [List.length_cons] at hf; omega⟩
  refine ⟨fun h0 => absurd h0 (ready_some rfl hs hb k hk (hno k (Nat.le_refl _))), fun i hi => ?_⟩
  obtain ⟨hun, o', ho', hwt⟩ := mem_ready' hi
  have hiu := getD_true_false hun
  have hik : i = k := by
   rcases Nat.lt_trichotomy i k with h1 | h1 | h1
   ·rw [hall i h1 (by omega)] at hiu; cases hiu.1
   ·exact h1
   ·have h2 := hch i (by omega) (by omega)
    have h3 := waits_listed ho' hwt h2
    rw [hno (i - 1) (by omega)] at h3
    cases h3
  subst hik
  obtain rfl : o = o' := by rw [ho] at ho'; exact Option.some.inj ho'
  have hnext : ∀ a' w', wpList P ops Q rest a' w' → wpAny P .any ops Q f (listed.setIfInBounds i true) a' w' := fun a' w' h' => by
   refine ih (i + 1) f _ a' w' (by omega) hrest (by rw [Array.size_setIfInBounds]; exact hs) (fun j hj hjs => ?_) (fun j hj => ?_) (by simp only [List.length_cons] at hf; omega) h'
   ·simp only [Array.getD_eq_getD_getElem?, Array.getElem?_setIfInBounds]
    by_cases e : i = j
    ·rw [if_pos e, if_pos (by omega)]; rfl
    ·rw [if_neg e]
     have := hall j (by omega) hjs
     rwa [Array.getD_eq_getD_getElem?] at this
   ·simp only [Array.getD_eq_getD_getElem?, Array.getElem?_setIfInBounds]
    rw [if_neg (by omega)]
    have := hno j (by omega)
    rwa [Array.getD_eq_getD_getElem?] at this
  unfold wpOp
  rw [ho]
  simp only
  unfold wpList at h
  split at h
  ·rename_i hw
   rw [if_pos hw]
   rcases h with h | h
   ·exact .inl (Oper.wp_mono hnext h)
   ·exact .inr h
  ·rename_i hw
   rw [if_neg hw]
   exact hnext _ _ h
theorem wp_region_late {id n : Nat} {Q : Exit → Act → World → Prop} {a : Act} {w : World} {os : List Oper} (R : World → World → Prop) (W : World) (L : Nat) (fs : List (Fact R)) {F G : (Nat → Value) → Act} (hm : P.follows .mixedOrders = true) (hn : a.tmps.size = n) (hB : ordB os.toArray L n = true)
  (hR : R W w.drew) (htr : ∀ x y z, R x y → R y z → R x z) (hsz : ∀ x y, R x y → x.heap.size ≤ y.heap.size) (hF : ∀ x, puts (os.map (·.dst)) 0 x a = F x) (hG : ∀ x, (∀ k, L ≤ k → k < os.length → x k = valOf a ((os.map (·.dst)).getD k none)) → F x = G x)
  (hsteps : stepsF P os.toArray R fs W G (os.take L) 0)
  (hlast : ∀ x w', R W w' → ∀ b : Nat → Nat × Nat, (∀ j, j < L → (factAt fs j).p (x j) (b j) w') → Windows W w' L b → wpList P os.toArray Q (os.drop L) (F x) w') : (Code.region id os.toArray true).wp P Q a w := by
 subst hn
 have hB0 := hB
 unfold ordB at hB
 simp only [Bool.and_eq_true, beq_iff_eq] at hB
 obtain ⟨⟨⟨⟨⟨h1, h2⟩, h3⟩, h4⟩, h5⟩, h6⟩ := hB
 have h1 : L < os.length := by simpa using h1
 have hs0 : os.toArray.size = os.length := by simp
 have hbk : ∀ k, k < os.toArray.size → backOnly os.toArray k = true := fun k hk => List.all_eq_true.1 h2 k (List.mem_range.2 hk)
 have hch : ∀ k, k < os.toArray.size → L < k → waitsOn os.toArray k (k - 1) = true := fun k hk hl => by
  have := List.all_eq_true.1 h6 k (List.mem_range.2 hk)
  simp only [Bool.or_eq_true, decide_eq_true_eq] at this
  exact this.resolve_left (by omega)
 have hz : ∀ d, some d ∈ os.map (·.dst) → d < a.tmps.size := fun d hd => by
  have := List.all_eq_true.1 h5 _ hd
  simpa using this
 have hds : os.toArray.toList.map (·.dst) = os.map (·.dst) := rfl
 refine wp_region_any hm ?_
 have main : ∀ (fuel : Nat) (listed : Array Bool) (b : Act) (v : World) (bs : Nat → Nat × Nat), unlisted listed ≤ fuel → Mid os.toArray fs W L a listed b v bs → wpAny P .any os.toArray Q fuel listed b v := by
  intro fuel
  induction fuel with
  | zero =>
   intro listed b v bs hu hM
   have := unlisted_pos (i := L) (by rw [hM.size]; omega) (hM.last L (Nat.le_refl _))
   omega
  | succ fuel ih =>
   intro listed b v bs hu hM
   refine ⟨fun h0 => absurd h0 (ready_some rfl hM.size hbk L (by omega) (hM.last L (Nat.le_refl _))), fun i hi => ?_⟩
   obtain ⟨hun, o, ho, hall⟩ := mem_ready' hi
   have hb : b = F (fun j => valOf b ((os.map (·.dst)).getD j none)) := by
    rw [← hF]
    exact act_puts h4 hz hM.tmps hM.defers hM.rest
   have hu' : unlisted (listed.setIfInBounds i true) ≤ fuel := by have := unlisted_set hun; omega
   have hil := (getD_true_false hun).2
   by_cases hiL : i = L
   ·subst hiL
    have hAll : ∀ j, j < i → listed.getD j false = true := fun j hj => all_of_last hM.closed (fun j hj => waits_listed ho hall hj) h3 _ j rfl hj
    have h9 := hlast _ v hM.rel bs (fun j hj => hM.facts j (hAll j hj)) ⟨fun j hj => hM.within j (hAll j hj), fun i j hi hj => hM.apart i j (hAll i hi) (hAll j hj)⟩
    rw [← hb] at h9
    have hul : (os.drop i).length ≤ fuel + 1 := by
     refine Nat.le_trans ?_ hu
     have hdrop : listed.toList.drop i = List.replicate (os.length - i) false := by
      apply List.ext_getElem
      ·rw [List.length_drop, Array.length_toList, hM.size, List.length_replicate]; simp
      ·intro j h1' h2'
       rw [List.getElem_drop, List.getElem_replicate]
       have h7 := hM.last (i + j) (by omega)
       have h8 : i + j < listed.size := by rw [List.length_drop, Array.length_toList] at h1'; omega
       simpa [Array.getD_eq_getD_getElem?, h8] using h7
     unfold unlisted
     conv => rhs; rw [← List.take_append_drop i listed.toList, List.countP_append, hdrop]
     have hc : List.countP (fun b => !b) (List.replicate (os.length - i) false) = os.length - i := by rw [List.countP_replicate]; rfl
     rw [List.length_drop, hc]
     omega
    exact (tail_any hbk hch _ i (fuel + 1) listed b v (Nat.le_refl _) (by rfl) hM.size (fun j hj _ => hAll j hj) hM.last hul h9).2 i hi
   ·have hil2 : i < L := by
     rcases Nat.lt_or_ge i L with h7 | h7
     ·exact h7
     ·have h8 := waits_listed ho hall (hch i (by rw [← hM.size]; exact hil) (by omega))
      rw [hM.last (i - 1) (by omega)] at h8
      cases h8
    have hoi : os[i]? = some o := by simpa using ho
    have hol : (os.take L)[i]? = some o := by rw [List.getElem?_take, if_pos hil2]; exact hoi
    have h9 := stepsF_at (os.take L) 0 i o hsteps hol (fun j => valOf b ((os.map (·.dst)).getD j none)) v hM.rel bs (fun j hj => hM.facts j (waits_listed ho hall (by rw [← Nat.zero_add i]; exact hj)))
    have hbG := hb.trans (hG _ (fun k hk _ => by
     show valOf b ((os.map (·.dst)).getD k none) = _
     cases hd : (os.map (·.dst)).getD k none with
     | none => rfl
     | some d => exact hM.late k d hk (by
       rw [hds]
       rw [List.getD_eq_getElem?_getD] at hd
       cases h7 : (os.map (·.dst))[k]? with
       | none => rw [h7] at hd; cases hd
       | some z => rw [h7] at hd; exact congrArg some hd)))
    rw [← hbG, Nat.zero_add] at h9
    have hdi : (os.map (·.dst))[i]? = some o.dst := by rw [List.getElem?_map, hoi]; rfl
    refine wpOp_of_list ho h9 (fun a' w' ⟨_, u, e1, e2, e3⟩ => ih _ _ _ (fun j => if i = j then (v.heap.size, w'.heap.size) else bs j) hu' ?_) (fun _ _ _ h => nomatch h.1) (fun ⟨_, _, h⟩ => nomatch h.1)
    have hgd : ∀ j, (listed.setIfInBounds i true).getD j false = if i = j then true else listed.getD j false := fun j => by
     simp only [Array.getD_eq_getD_getElem?, Array.getElem?_setIfInBounds]
     by_cases e : i = j
     ·rw [if_pos e, if_pos e, if_pos hil]; rfl
     ·rw [if_neg e, if_neg e]
    have hod : ∀ d, o.dst = some d → d < b.tmps.size := fun d hd => by rw [hM.tmps]; exact hz d (by rw [← hd]; exact List.mem_of_getElem? hdi)
    subst e1
    refine ⟨by rw [Array.size_setIfInBounds]; exact hM.size, fun k hk => by rw [hgd, if_neg (by omega)]; exact hM.last k hk, ?_, ?_, ?_, ?_, ?_, htr _ _ _ hM.rel e3, ?_, ?_, ?_⟩
    ·intro k j hk hw
     rw [hgd] at hk ⊢
     split
     ·rfl
     split at hk
     ·rename_i e; subst e; exact waits_listed ho hall hw
     ·exact hM.closed k j hk hw
    ·rw [← hM.tmps]; cases o.dst <;> simp [Act.put]
    ·rw [← hM.defers]; cases o.dst <;> simp [Act.put]
    ·intro t ht
     rw [← hM.rest t ht]
     cases hd : o.dst with
     | none => rfl
     | some d => rw [put_getD b d t _ (hod d hd), if_neg (fun e => ht (by rw [e, ← hd]; exact List.mem_of_getElem? hdi))]
    ·intro k d hk hkd
     rw [← hM.late k d hk hkd]
     cases hd : o.dst with
     | none => rfl
     | some d' => rw [put_getD b d' d _ (hod d' hd), if_neg (fun e => by
       subst e
       have := noDups_spec h4 i k d (by rw [hdi, hd]) hkd
       omega)]
    ·intro j hj
     rw [hds]
     by_cases e : i = j
     ·subst e
      rw [List.getD_eq_getElem?_getD, hdi, if_pos rfl]
      show (factAt fs i).p (valOf (b.put o.dst u) o.dst) _ w'
      cases hd : o.dst with
      | none => rw [hd] at e2; exact e2
      | some d =>
       rw [hd] at e2
       show (factAt fs i).p ((b.put (some d) u).tmps.getD d undef) _ w'
       rw [put_getD b d d _ (hod d hd), if_pos rfl]
       exact e2
     ·rw [hgd, if_neg e] at hj
      have h8 := (factAt fs j).st _ _ _ _ (hM.facts j hj) e3
      rw [if_neg e]
      rw [hds] at h8
      cases hd : o.dst with
      | none => exact h8
      | some d =>
       have hne : (os.map (·.dst)).getD j none ≠ some d := fun e9 => by
        have : (os.map (·.dst))[j]? = some (some d) := by
         rw [List.getD_eq_getElem?_getD] at e9
         cases h7 : (os.map (·.dst))[j]? with
         | none => rw [h7] at e9; cases e9
         | some z => rw [h7] at e9; exact congrArg some e9
        exact e (noDups_spec h4 i j d (by rw [hdi, hd]) this)
       cases h6 : (os.map (·.dst)).getD j none with
       | none => rw [h6] at h8; exact h8
       | some c =>
        rw [h6] at h8
        show (factAt fs j).p ((b.put (some d) u).tmps.getD c undef) _ w'
        rw [put_getD b d c _ (hod d hd), if_neg (fun e9 => hne (by rw [h6, e9]))]
        exact h8
    ·intro j hj
     by_cases e : i = j
     ·rw [if_pos e]
      exact ⟨hsz _ _ hM.rel, hsz _ _ e3, Nat.le_refl _⟩
     ·rw [if_neg e]
      rw [hgd, if_neg e] at hj
      have := hM.within j hj
      have := hsz _ _ e3
      omega
    ·intro j k hj hk hne
     rw [hgd] at hj hk
     by_cases e : i = j
     ·rw [if_pos e]
      have e2' : i ≠ k := fun h => hne (e.symm.trans h)
      rw [if_neg e2'] at hk ⊢
      have := hM.within k hk
      exact .inr this.2.2
     ·rw [if_neg e] at hj ⊢
      by_cases e' : i = k
      ·rw [if_pos e']
       have := hM.within j hj
       exact .inl this.2.2
      ·rw [if_neg e'] at hk ⊢
       exact hM.apart j k hj hk hne
 refine main os.toArray.size _ a _ (fun _ => (0, 0)) ?_ ?_
 ·unfold unlisted
  exact Nat.le_trans List.countP_le_length (by simp)
 ·refine ⟨by simp, ?_, ?_, rfl, rfl, fun _ _ => rfl, fun _ _ _ _ => rfl, hR, ?_, ?_, ?_⟩
  ·intro k _
   simp only [Array.getD_eq_getD_getElem?, Array.getElem?_replicate]
   split <;> rfl
  ·intro k j hk
   exfalso
   simp only [Array.getD_eq_getD_getElem?, Array.getElem?_replicate] at hk
   split at hk <;> simp at hk
  ·intro j hj
   exfalso
   simp only [Array.getD_eq_getD_getElem?, Array.getElem?_replicate] at hj
   split at hj <;> simp at hj
  ·intro j hj
   exfalso
   simp only [Array.getD_eq_getD_getElem?, Array.getElem?_replicate] at hj
   split at hj <;> simp at hj
  ·intro j k hj
   exfalso
   simp only [Array.getD_eq_getD_getElem?, Array.getElem?_replicate] at hj
   split at hj <;> simp at hj
theorem wp_region_facts {id n : Nat} {Q : Exit → Act → World → Prop} {a : Act} {w : World} {os : List Oper} (R : World → World → Prop) (W : World) (L : Nat) (fs : List (Fact R)) {F : (Nat → Value) → Act} (hm : P.follows .mixedOrders = true) (hn : a.tmps.size = n) (hB : ordB os.toArray L n = true)
  (hR : R W w.drew) (htr : ∀ x y z, R x y → R y z → R x z) (hsz : ∀ x y, R x y → x.heap.size ≤ y.heap.size) (hF : ∀ x, puts (os.map (·.dst)) 0 x a = F x)
  (hsteps : stepsF P os.toArray R fs W F (os.take L) 0)
  (hlast : ∀ x w', R W w' → ∀ b : Nat → Nat × Nat, (∀ j, j < L → (factAt fs j).p (x j) (b j) w') → Windows W w' L b → wpList P os.toArray Q (os.drop L) (F x) w') : (Code.region id os.toArray true).wp P Q a w :=
 wp_region_late R W L fs hm hn hB hR htr hsz hF (fun _ _ => rfl) hsteps hlast
theorem wp_grows_late {id n : Nat} {Q : Exit → Act → World → Prop} {a : Act} {w : World} {os : List Oper} (L : Nat) (fs : List (Fact (Kept []))) {F G : (Nat → Value) → Act} (hm : P.follows .mixedOrders = true) (hn : a.tmps.size = n) (hB : ordB os.toArray L n = true)
  (hF : ∀ x, puts (os.map (·.dst)) 0 x a = F x) (hG : ∀ x, (∀ k, L ≤ k → k < os.length → x k = valOf a ((os.map (·.dst)).getD k none)) → F x = G x)
  (hsteps : stepsF P os.toArray (Kept []) fs w G (os.take L) 0)
  (hlast : ∀ x w', Kept [] w w' → ∀ b : Nat → Nat × Nat, (∀ j, j < L → (factAt fs j).p (x j) (b j) w') → Windows w w' L b → wpList P os.toArray Q (os.drop L) (F x) w') : (Code.region id os.toArray true).wp P Q a w :=
 wp_region_late (Kept []) w L fs hm hn hB (Kept.refl [] w).drew (fun _ _ _ h k => h.then k) (fun _ _ h => h.size) hF hG hsteps hlast
theorem wp_grows {id n : Nat} {Q : Exit → Act → World → Prop} {a : Act} {w : World} {os : List Oper} (L : Nat) (fs : List (Fact (Kept []))) {F : (Nat → Value) → Act} (hm : P.follows .mixedOrders = true) (hn : a.tmps.size = n) (hB : ordB os.toArray L n = true)
  (hF : ∀ x, puts (os.map (·.dst)) 0 x a = F x)
  (hsteps : stepsF P os.toArray (Kept []) fs w F (os.take L) 0)
  (hlast : ∀ x w', Kept [] w w' → ∀ b : Nat → Nat × Nat, (∀ j, j < L → (factAt fs j).p (x j) (b j) w') → Windows w w' L b → wpList P os.toArray Q (os.drop L) (F x) w') : (Code.region id os.toArray true).wp P Q a w :=
 wp_region_facts (Kept []) w L fs hm hn hB (Kept.refl [] w).drew (fun _ _ _ h k => h.then k) (fun _ _ h => h.size) hF hsteps hlast
end
def pairFact (cs : List Value) (n m : Nat) : Fact (Kept []) := ⟨fun v b w => ∃ g, v = .slice (some ⟨g, 0, none⟩) n n ∧ b.1 ≤ g ∧ g < b.2 ∧ Slc w m (.slice (some ⟨g, 0, none⟩) n n) n cs, fun _ _ _ _ ⟨g, h1, h3, h4, h2⟩ k => ⟨g, h1, h3, h4, h2.kept0 k⟩⟩
def boxFact (t : Nat) : Fact (Kept []) := ⟨fun v b w => ∃ g, b.1 ≤ g ∧ g < b.2 ∧ v = .pointer (some ⟨g, 0, none⟩) ∧ w.heap[g]? = some (.cells #[.int .i64 0, .int .i64 0, .string ⟨#[]⟩, .slice none 0 0, .slice none 0 0] t (0, 0)), fun _ _ _ _ ⟨g, h0, h3, h1, h2⟩ k => ⟨g, h0, h3, h1, k.heap h2 (by simp)⟩⟩
end Go.Proofs.YtckbnjipecclaaaGreatDoor

/- Parts of one proof, merged: XJB XJC XJD XGK. -/
import Derived.Test.YtckbnjipecclaaaGreatDoorHkA
import Derived.Test.YtckbnjipecclaaaGreatDoorHkB
import Derived.Test.YtckbnjipecclaaaGreatDoorHkD
import Derived.Deep.DeepCutAuto
import Derived.Deep.CutBlock
import Derived.Deep.MidRow
set_option linter.all false
set_option maxHeartbeats 12800000
set_option maxRecDepth 10000
set_option linter.unusedVariables false
set_option linter.unusedSimpArgs false
set_option linter.unnecessarySimpa false
namespace Go.Proofs.YtckbnjipecclaaaGreatDoor
open Go.RowKit
theorem tyByteJ : SliceTy Tryz.prog 82 5 1 1 (.int .u8 0) := ⟨Tryz.underlying82, by kernel_rfl, rfl, by decide⟩
theorem kept_fresh {X : List Nat} {w w' : World} (h : Kept X w w') (hX : ∀ k, k ∈ X → w.heap.size ≤ k) : Kept [] w w' :=
 ⟨h.os, h.tape, h.output, h.size, fun k hk _ => h.block k hk (fun hx => by have := hX k hx; omega)⟩
def wv (x : Int) : Value := .int .u32 x
def wordsL (l : List Int) (m : Nat) : List Value := l.map wv ++ List.replicate m (wv 0)
def accW (b : List UInt8) : Int := b.foldl (fun w c => bits .or .u32 (w * 256 % 4294967296) (c.toNat : Int)) 0
def s0W (x : Int) : Int := bits .xor .u32 (bits .xor .u32 (rotW 33554432 128 x) (rotW 16384 262144 x)) (x / 8)
def s1W (x : Int) : Int := bits .xor .u32 (bits .xor .u32 (rotW 32768 131072 x) (rotW 8192 524288 x)) (x / 1024)
def nextW (l : List Int) : Int := (l.getD (l.length - 16) 0 + s0W (l.getD (l.length - 15) 0) + l.getD (l.length - 7) 0 + s1W (l.getD (l.length - 2) 0)) % 4294967296
def schedW (b : List UInt8) : Nat → List Int
 | 0 => []
 | t + 1 => schedW b t ++ [if t < 16 then accW ((b.drop (4 * t)).take 4) else nextW (schedW b t)]
theorem sched_len (b : List UInt8) : ∀ t, (schedW b t).length = t
 | 0 => rfl
 | t + 1 => by
  show (schedW b t ++ [_]).length = _
  rw [List.length_append, sched_len b t]; rfl
theorem words_len (l : List Int) (m : Nat) : (wordsL l m).length = l.length + m := by simp [wordsL]
theorem words_zero (l : List Int) (m : Nat) : wordsL (l ++ [0]) m = wordsL l (m + 1) := by
 unfold wordsL
 rw [List.map_append, List.append_assoc]
 rfl
theorem words_get (l : List Int) (m j : Nat) (h : j < l.length) : (wordsL l m)[j]? = some (wv (l.getD j 0)) := by
 unfold wordsL
 rw [List.getElem?_append_left (by simpa using h), List.getElem?_map, List.getElem?_eq_getElem h]
 simp [h]
theorem words_set (l : List Int) (m : Nat) (x y : Int) : (wordsL (l ++ [x]) m).set l.length (wv y) = wordsL (l ++ [y]) m := by
 unfold wordsL
 rw [List.map_append, List.map_append, List.append_assoc, List.append_assoc]
 rw [List.set_append_right _ _ (by simp)]
 simp [wv]
theorem words_toArray_set (l : List Int) (m : Nat) (x y : Int) : (wordsL (l ++ [x]) m).toArray.setIfInBounds l.length (wv y) = (wordsL (l ++ [y]) m).toArray := by
 rw [List.setIfInBounds_toArray, words_set]
theorem words_nil (j m : Nat) (h : j < m) : (wordsL [] m)[j]? = some (wv 0) := by
 unfold wordsL
 simp only [List.map_nil, List.nil_append]
 rw [List.getElem?_replicate, if_pos h]
theorem words_one (l : List Int) (m : Nat) : ∀ v, v ∈ wordsL l m → v.oneCell' = true := by
 intro v hv
 unfold wordsL at hv
 rcases List.mem_append.1 hv with h | h
 ·obtain ⟨x, -, rfl⟩ := List.mem_map.1 h; rfl
 ·obtain ⟨-, rfl⟩ := List.mem_replicate.1 h; rfl
def WordsAt (w : World) (b : Nat) (l : List Int) (m : Nat) : Prop := w.heap[b]? = some (.cells (wordsL l m).toArray 179 (0, 0))
theorem WordsAt.cell {w : World} {b : Nat} {l : List Int} {m j : Nat} (h : WordsAt w b l m) (hj : j < l.length) : w.cell? ⟨b, j, none⟩ = some (.int .u32 (l.getD j 0)) :=
 cell_head h (by have := words_get l m j hj; simpa [wv] using this)
theorem WordsAt.free {w : World} {b : Nat} {l : List Int} {m j : Nat} (h : WordsAt w b l m) : w.frozen? ⟨b, j, none⟩ = false := free_head h
theorem WordsAt.kept {X : List Nat} {w w' : World} {b : Nat} {l : List Int} {m : Nat} (h : WordsAt w b l m) (k : Kept X w w') (hb : b ∉ X) : WordsAt w' b l m := k.heap h hb
theorem WordsAt.store {w : World} {b : Nat} {l : List Int} {m : Nat} {x : Int} (h : WordsAt w b (l ++ [x]) m) (y : Int) : WordsAt (w.setCell ⟨b, l.length, none⟩ (.int .u32 y)) b (l ++ [y]) m :=
 block_setCell h (words_toArray_set l m x y)
theorem sched_any (w : World) (a : Option Addr) (c : Nat) (l : List UInt8) (hl : l.length = 64) (hb : Bytes w (.slice a 64 c) l) :
  Calls Tryz.prog 179 #[.slice a 64 c] w fun e w' => e = .returned (.agg (wordsL (schedW l 64) 0).toArray) ∧ Kept [] w w' := by
 obtain ⟨W0, Ge⟩ : ∃ W0, Hid (W0 = (w.alloc (.cells (wordsL [] 64).toArray 179)).alloc (.cells (wordsL [] 64).toArray 179)) := ⟨_, qI rfl⟩
 have Gh : Hid (Kept [] w W0) := qI (by rw [Ge.o]; exact ((Kept.refl [] w).alloc _).alloc _)
 have Gn : Hid (WordsAt W0 w.heap.size [] 64) := qI (by rw [Ge.o]; exact ((Kept.refl [] _).alloc _).heap (block_alloc rfl) (by simp))
 have Jc : Hid (WordsAt W0 (w.heap.size + 1) [] 64) := qI (by rw [Ge.o]; exact block_alloc (by simp))
 have HB := qI hb
 have Gw := qI hl
 clear hb hl
 go_enter Tryz.func179, Tryz.ntmps179
 go_upto_region 2 with fail
 change Code.wp _ _ _ _ ((w.alloc (.cells (wordsL [] 64).toArray 179)).alloc (.cells (wordsL [] 64).toArray 179))
 rw [← Ge.o]
 go_wp2_with fail
 go_loopw [4, 6, 7, 8, 9, 10, 11] (fun _ _ _ _ _ _ i wr => ∃ t : Nat, i = .int .i64 t ∧ t ≤ 64 ∧ Kept [w.heap.size + 1] W0 wr ∧ WordsAt wr (w.heap.size + 1) (schedW l t) (64 - t)) (fun _ _ _ _ _ _ i _ => 64 - (intOf i).toNat)
 case atStart => exact ⟨0, rfl, by decide, Kept.refl _ _, Jc.o⟩
 case round =>
  obtain ⟨t, rfl, ht, hkw, hwd⟩ := hrel
  have Gi := qI hkw
  have Jd := qI hwd
  by_cases hlt : t < 64
  rotate_left
  ·obtain rfl : t = 64 := by omega
   clear hlt ht hkw
   obtain ⟨CS, hCS⟩ : ∃ CS, CS = wordsL (schedW l 64) 0 := ⟨_, rfl⟩
   have hlen : CS.length = 64 := by rw [hCS, words_len, sched_len]
   have hra : wr.rangeAt (w.heap.size + 1) 0 CS := fun j v hv => by
    rw [Nat.zero_add]
    exact cell_head (hwd : _ = some (Obj.cells (wordsL (schedW l 64) 0).toArray _ _)) (by rw [← hCS]; simpa using hv)
   have hre : WordsAt wr w.heap.size [] 64 := Gn.o.kept Gi.o (by simp)
   have hth : wr.there w.heap.size 0 CS.toArray.size := fun j hj => by
    rw [Nat.zero_add]
    have hj' : j < 64 := by simpa [hlen] using hj
    have h9 := words_nil j 64 hj'
    exact ⟨by rw [cell_head (hre : _ = some (Obj.cells (wordsL [] 64).toArray _ _)) (by simpa using h9)]; rfl, free_head hre⟩
   have hone : CS.toArray.all (·.oneCell') = true := Array.all_eq_true_iff_forall_mem.2 (fun v hv => by rw [hCS] at hv; exact words_one _ _ v (by simpa using hv))
   have Je := qI hCS
   have Jw := qI hre
   have Jf := qI hlen
   have hi : ((Tryz.prog).info? 179).map (·.size) = some CS.length := by rw [hlen]; kernel_rfl
   have hi2 : ((Tryz.prog).info? 179).map (·.size) = some CS.toArray.size := by rw [List.size_toArray, hlen]; kernel_rfl
   go_upto_region 16 with fail
   refine wp_region_list ?_
   change wpList _ _ _ [_, _] _ _
   refine wpList_load_mid (by rfl) 179 (.tmp 3) (by rfl) (w.heap.size + 1) 0 (by rfl) CS _ hra Tryz.underlying179 rfl hi ?_
   refine wpList_store_mid (by rfl) 179 (.tmp 2) (.tmp 78) (by rfl) w.heap.size 0 CS.toArray (by rfl) (by rfl) hth hi2 hone ?_
   have hraF : (wr.setCells w.heap.size 0 CS.toArray.toList).rangeAt w.heap.size 0 CS := World.rangeAt_setCells_same _ _ _ _ (by simpa using hth)
   have hkF := setCells_kept w.heap.size CS.toArray.toList 0 wr
   revert hraF hkF
   generalize wr.setCells w.heap.size 0 CS.toArray.toList = WF
   intro hraF hkF
   have hres := run_loadVar_mid (P := Tryz.prog) WF w.heap.size 0 179 CS _ hraF Tryz.underlying179 rfl hi
   have hkW : Kept [] w WF := kept_fresh (((Gh.o.mono (Y := [w.heap.size, w.heap.size + 1]) (by simp)).trans' (Gi.o.mono (by simp))).trans' (hkF.mono (by simp))) (by simp)
   clear hCS hlen hra hre hth hone hwd hi hi2 hraF hkF
   try simp only [zA,zN,zB,zC,zD]
   go_wp2_with fail
   exact bodyPost_ret (v := .agg CS.toArray) (by simp [results, Tryz.results179, hres, Sem.run_bind, asAddr]) rfl ⟨by rw [Je.o], hkW⟩
  have hltI : (t : Int) < 64 := by omega
  have Jg : Hid (Kept [] w wr) := qI (kept_fresh ((Gh.o.mono (Y := [w.heap.size + 1]) (by simp)).trans' hkw) (by simp))
  by_cases h16 : t < 16
  ·have h16I : (t : Int) < 16 := by omega
   obtain ⟨a2, c2, hs, hby, hvb⟩ := (show Bytes wr (.slice a 64 c) l from HB.o.kept0 Jg.o).mid tyByteJ (4 * t) (4 * t + 4) (by omega) (by rw [Gw.o]; omega)
   have hsc : ∀ W, (Instr.slice 82 (.slice a 64 c) (some (.int .i64 (4 * (t : Int)))) (some (.int .i64 (4 * (t : Int) + 4))) none).run Tryz.prog W = .ok (.slice a2 4 c2) W := fun W => by
    have h9 := hs W
    rw [show 4 * t + 4 - 4 * t = 4 by omega] at h9
    push_cast at h9
    exact h9
   rw [show 4 * t + 4 - 4 * t = 4 by omega] at hby
   obtain ⟨blk, hblk⟩ : ∃ blk, blk = (l.drop (4 * t)).take 4 := ⟨_, rfl⟩
   rw [← hblk] at hby
   have hbl : blk.length = 4 := by rw [hblk, List.length_take, List.length_drop, Gw.o]; omega
   obtain ⟨g2, o2, rfl, hrow⟩ : ∃ g2 o2, a2 = some ⟨g2, o2, none⟩ ∧ Row wr g2 o2 (blk.map bv) := by
    rcases hby.2 with ⟨-, h0⟩ | ⟨h0, -⟩ | ⟨g, o, cap, e, -, -, hr⟩
    ·omega
    ·omega
    ·simp only [Value.slice.injEq] at e
     exact ⟨g, o, e.1, hr⟩
   have Gp := qI hrow
   have Ga := qI hbl
   have Gq := qI hblk
   have Gr := qI h16
   have Gf := qI hlt
   have Jh : Hid (g2 ≠ w.heap.size + 1) := qI (by
    have h9 := Slc.lt HB.o (hvb g2 (by rw [show 4 * t + 4 - 4 * t = 4 by omega]; rfl))
    omega)
   clear hs hby hvb hblk hbl hrow hkw hwd h16 hlt
   go_wp2_with fail
   obtain ⟨WR, rfl⟩ : ∃ x, x = wr := ⟨_, rfl⟩
   go_loopw [6, 24] (fun _ j wq => ∃ k : Nat, j = .int .i64 k ∧ k ≤ 4 ∧ Kept [w.heap.size + 1] WR wq ∧ WordsAt wq (w.heap.size + 1) (schedW l t ++ [accW (blk.take k)]) (63 - t)) (fun _ j _ => 4 - (intOf j).toNat)
   case atStart => exact ⟨0, rfl, by decide, Kept.refl _ _, by
    have h9 := Jd.o
    unfold WordsAt at h9 ⊢
    rw [show 64 - t = (63 - t) + 1 by have := Gf.o; omega, ← words_zero] at h9
    exact h9⟩
   case round =>
    obtain ⟨k, rfl, hk, hk2, hw2⟩ := hrel
    have Gg := qI hk2
    have Gx := qI hw2
    by_cases hk4 : k < 4
    rotate_left
    ·obtain rfl : k = 4 := by omega
     clear hk hk2 hw2 hk4
     go_wp2_with fail
     case roundEnd => exact ⟨⟨t + 1, by go_num, by have := Gf.o; omega, Gi.o.trans' Gg.o, by
      have h9 := Gx.o
      rw [List.take_of_length_le (by rw [Ga.o]; exact Nat.le_refl _), Gq.o] at h9
      show WordsAt _ _ (schedW l t ++ [if t < 16 then _ else _]) _
      rw [if_pos Gr.o, show 64 - (t + 1) = 63 - t by omega]
      exact h9⟩, by have := Gf.o; simp [intOf]; omega⟩
    have hk4I : (k : Int) < 4 := by omega
    have hq := Gp.o.cells k (bv (blk[k]'(by rw [Ga.o]; exact hk4))) (by rw [List.getElem?_map, List.getElem?_eq_getElem (by rw [Ga.o]; exact hk4)]; rfl)
    obtain ⟨cc, hcc⟩ : ∃ cc, cc = blk[k]'(by rw [Ga.o]; exact hk4) := ⟨_, rfl⟩
    rw [← hcc] at hq
    have q0 : wr.cell? ⟨g2, o2 + k, none⟩ = some (.int .u8 (cc.toNat : Int)) := hk2.cell hq (by simpa using Jh.o)
    obtain ⟨A, hA⟩ : ∃ A, A = accW (blk.take k) := ⟨_, rfl⟩
    have hct : w.heap.size + 1 = w.heap.size + 1 := rfl
    have q1 : wr.cell? ⟨w.heap.size + 1, t, none⟩ = some (.int .u32 A) := by
     have h9 := hw2.cell (j := t) (by rw [List.length_append, sched_len]; simp)
     rw [h9, hA]
     simp [List.getD_eq_getElem?_getD, sched_len]
    have z1 : wr.frozen? ⟨w.heap.size + 1, t, none⟩ = false := hw2.free
    have hc0 : (0 : Int) ≤ cc.toNat := by omega
    have hc1 : (cc.toNat : Int) < 256 := by have := cc.toNat_lt; omega
    have hc2 : (cc.toNat : Int) % 4294967296 = cc.toNat := by have := cc.toNat_lt; omega
    have Gs : Hid (accW (blk.take (k + 1)) = bits .or .u32 (A * 256 % 4294967296) (cc.toNat : Int)) := qI (by
     rw [List.take_succ_eq_append_getElem (by rw [Ga.o]; exact hk4), hA, hcc]
     unfold accW
     rw [List.foldl_append]; rfl)
    have Gc := qI hk4
    clear hk hk2 hw2 hk4 hq hct hA hcc
    go_wp2_with fail
    case roundEnd => exact ⟨⟨k + 1, by go_num, by have := Gc.o; omega, Gg.o.trans' ((Kept.refl [w.heap.size + 1] wr).setCell (.inl (by simp)) _), by
     have h9 := Gx.o.store (bits .or .u32 (A * 256 % 4294967296) (cc.toNat : Int))
     rw [sched_len] at h9
     rw [Gs.o]
     exact h9⟩, by have := Gc.o; simp [intOf]; omega⟩
  obtain ⟨q, rfl⟩ : ∃ q, t = q + 16 := ⟨t - 16, by omega⟩
  have Gf := qI hlt
  obtain ⟨A, hA⟩ : ∃ A, A = (schedW l (q + 16)).getD (q + 1) 0 := ⟨_, rfl⟩
  obtain ⟨B, hB⟩ : ∃ B, B = (schedW l (q + 16)).getD (q + 14) 0 := ⟨_, rfl⟩
  obtain ⟨C, hC⟩ : ∃ C, C = (schedW l (q + 16)).getD q 0 := ⟨_, rfl⟩
  obtain ⟨D, hD⟩ : ∃ D, D = (schedW l (q + 16)).getD (q + 9) 0 := ⟨_, rfl⟩
  have Ji : Hid (schedW l (q + 16 + 1) = schedW l (q + 16) ++ [(C + s0W A + D + s1W B) % 4294967296]) := qI (by
   show schedW l (q + 16) ++ [if q + 16 < 16 then _ else _] = _
   rw [if_neg (by omega)]
   unfold nextW
   rw [sched_len, hA, hB, hC, hD, show q + 16 - 16 = q by omega, show q + 16 - 15 = q + 1 by omega, show q + 16 - 7 = q + 9 by omega, show q + 16 - 2 = q + 14 by omega])
  have cA : wr.cell? ⟨w.heap.size + 1, q + 1, none⟩ = some (.int .u32 A) := by rw [hA]; exact hwd.cell (by rw [sched_len]; omega)
  have cB : wr.cell? ⟨w.heap.size + 1, q + 14, none⟩ = some (.int .u32 B) := by rw [hB]; exact hwd.cell (by rw [sched_len]; omega)
  have Jj : Hid (wr.cell? ⟨w.heap.size + 1, q, none⟩ = some (.int .u32 C)) := qI (by rw [hC]; exact hwd.cell (by rw [sched_len]; omega))
  have Jk : Hid (wr.cell? ⟨w.heap.size + 1, q + 9, none⟩ = some (.int .u32 D)) := qI (by rw [hD]; exact hwd.cell (by rw [sched_len]; omega))
  have Jl : Hid (WordsAt wr (w.heap.size + 1) (schedW l (q + 16) ++ [0]) (63 - (q + 16))) := qI (by
   have h9 := hwd
   unfold WordsAt at h9 ⊢
   rw [show 64 - (q + 16) = (63 - (q + 16)) + 1 by omega, ← words_zero] at h9
   exact h9)
  have hqI : (q : Int) + 16 < 64 := by omega
  have hq0 : (0 : Int) ≤ q := by omega
  have hq64 : (q : Int) < 64 := by omega
  have hw0 : IntKind.i64.wrap (q : Int) = q := by rw [IntKind.wrap_i64]; omega
  have hw7 : IntKind.i64.wrap ((q : Int) + 16 - 7) = q + 9 := by rw [IntKind.wrap_i64]; omega
  have hq9 : (0 : Int) ≤ q + 9 := by omega
  have hq94 : (q : Int) + 9 < 64 := by omega
  have hqn : ((q : Int) + 9).toNat = q + 9 := by omega
  have hq16 : (0 : Int) ≤ q + 16 := by omega
  have hqn16 : ((q : Int) + 16).toNat = q + 16 := by omega
  have h16I : ¬ (q : Int) + 16 < 16 := by omega
  clear hA hB hC hD hwd hkw ht hlt h16 hltI
  go_wp2_with fail
  have EA := ext_cell cA
  have EB := ext_cell cB
  clear cA cB
  refine wp_region_ext wr (by kernel_rfl) (by kernel_rfl) (Kept.refl _ _) ?_
  repeat go_big_quiet_step (fail)
  refine wpQuiet_nil ?_
  intro w2 hk2
  have Gg := qI hk2
  clear EA EB hk2
  go_wp2_with fail
  refine (right_any _ A 7 33554432 128 (by unfold Turns; decide)).mono ?_
  rintro e w3 ⟨rfl, hk3⟩
  have Gk := qI (Gg.o.then hk3)
  clear hk3
  go_wp2_with fail
  refine (right_any _ A 18 16384 262144 (by unfold Turns; decide)).mono ?_
  rintro e w4 ⟨rfl, hk4⟩
  have Gc := qI (Gk.o.then hk4)
  clear hk4
  go_wp2_with fail
  refine (right_any _ B 17 32768 131072 (by unfold Turns; decide)).mono ?_
  rintro e w5 ⟨rfl, hk5⟩
  have Gt := qI (Gc.o.then hk5)
  clear hk5
  go_wp2_with fail
  refine (right_any _ B 19 8192 524288 (by unfold Turns; decide)).mono ?_
  rintro e w6 ⟨rfl, hk6⟩
  have Gj := qI (Gt.o.then hk6)
  clear hk6
  go_upto_region 14 with fail
  have c16 := Gj.o.cell Jj.o (by simp)
  have c7 := Gj.o.cell Jk.o (by simp)
  have Jm := qI (Jl.o.kept Gj.o (by simp))
  refine wp_region_last' (n := 16) (fun w' : World => Kept [] w6 w') 15 (by kernel_rfl) (by kernel_rfl) ?_
  change wpAnyT _ _ _ _ _ _ _ _ _ w6.drew
  have hSS : (fun w' : World => Kept [] w6 w') w6.drew := (Kept.refl _ w6).drew
  have Gl : Hid (Kept [] w6 w6.drew) := qI (Kept.refl _ w6).drew
  revert hSS Gl
  generalize w6.drew = WD
  intro hSS Gl
  refine wpAnyT_start ?_
  intro O R hO hR
  have hQp : ∀ c a (d : Nat) v w, R (.panic c) (a.put (some d) v) w → R (.panic c) a w := by subst hR; exact fun _ _ _ _ _ h => h
  refine wpAnyT_take' (i := 0) (v := ?_) hO rfl rfl (by kernel_rfl) (by kernel_rfl) (by kernel_rfl) (by kernel_rfl) hQp (Or.inl ⟨by kernel_rfl, fun w hSw => ?_⟩) hSS ?_
  rotate_left
  ·go_simp; try with_reducible rfl
  try simp only [zA,zN,zB,zC,zD]
  refine wpAnyT_take' (i := 1) (v := ?_) hO rfl rfl (by kernel_rfl) (by kernel_rfl) (by kernel_rfl) (by kernel_rfl) hQp (Or.inl ⟨by kernel_rfl, fun w hSw => ?_⟩) hSS ?_
  rotate_left
  ·go_simp; try with_reducible rfl
  try simp only [zA,zN,zB,zC,zD]
  refine wpAnyT_take' (i := 2) (v := ?_) hO rfl rfl (by kernel_rfl) (by kernel_rfl) (by kernel_rfl) (by kernel_rfl) hQp (Or.inl ⟨by kernel_rfl, fun w hSw => ?_⟩) hSS ?_
  rotate_left
  ·go_simp; try with_reducible rfl
  try simp only [zA,zN,zB,zC,zD]
  refine wpAnyT_take' (i := 3) (v := ?_) hO rfl rfl (by kernel_rfl) (by kernel_rfl) (by kernel_rfl) (by kernel_rfl) hQp (Or.inl ⟨by kernel_rfl, fun w hSw => ?_⟩) hSS ?_
  rotate_left
  ·go_simp; try with_reducible rfl
  try simp only [zA,zN,zB,zC,zD]
  refine wpAnyT_take' (i := 4) (v := ?_) hO rfl rfl (by kernel_rfl) (by kernel_rfl) (by kernel_rfl) (by kernel_rfl) hQp (Or.inl ⟨by kernel_rfl, fun w hSw => ?_⟩) hSS ?_
  rotate_left
  ·have s0 := hSw.cell c16 (by simp); go_simp; try with_reducible rfl
  try simp only [zA,zN,zB,zC,zD]
  refine wpAnyT_take' (i := 5) (v := ?_) hO rfl rfl (by kernel_rfl) (by kernel_rfl) (by kernel_rfl) (by kernel_rfl) hQp (Or.inl ⟨by kernel_rfl, fun w hSw => ?_⟩) hSS ?_
  rotate_left
  ·go_simp; try with_reducible rfl
  try simp only [zA,zN,zB,zC,zD]
  refine wpAnyT_take' (i := 6) (v := ?_) hO rfl rfl (by kernel_rfl) (by kernel_rfl) (by kernel_rfl) (by kernel_rfl) hQp (Or.inl ⟨by kernel_rfl, fun w hSw => ?_⟩) hSS ?_
  rotate_left
  ·go_simp; try with_reducible rfl
  try simp only [zA,zN,zB,zC,zD]
  refine wpAnyT_take' (i := 7) (v := ?_) hO rfl rfl (by kernel_rfl) (by kernel_rfl) (by kernel_rfl) (by kernel_rfl) hQp (Or.inl ⟨by kernel_rfl, fun w hSw => ?_⟩) hSS ?_
  rotate_left
  ·go_simp; try with_reducible rfl
  try simp only [zA,zN,zB,zC,zD]
  refine wpAnyT_take' (i := 8) (v := ?_) hO rfl rfl (by kernel_rfl) (by kernel_rfl) (by kernel_rfl) (by kernel_rfl) hQp (Or.inl ⟨by kernel_rfl, fun w hSw => ?_⟩) hSS ?_
  rotate_left
  ·go_simp; try with_reducible rfl
  try simp only [zA,zN,zB,zC,zD]
  refine wpAnyT_take' (i := 9) (v := ?_) hO rfl rfl (by kernel_rfl) (by kernel_rfl) (by kernel_rfl) (by kernel_rfl) hQp (Or.inl ⟨by kernel_rfl, fun w hSw => ?_⟩) hSS ?_
  rotate_left
  ·go_simp; try with_reducible rfl
  try simp only [zA,zN,zB,zC,zD]
  refine wpAnyT_take' (i := 10) (v := ?_) hO rfl rfl (by kernel_rfl) (by kernel_rfl) (by kernel_rfl) (by kernel_rfl) hQp (Or.inl ⟨by kernel_rfl, fun w hSw => ?_⟩) hSS ?_
  rotate_left
  ·have s0 := hSw.cell c7 (by simp); go_simp; try with_reducible rfl
  try simp only [zA,zN,zB,zC,zD]
  refine wpAnyT_take' (i := 11) (v := ?_) hO rfl rfl (by kernel_rfl) (by kernel_rfl) (by kernel_rfl) (by kernel_rfl) hQp (Or.inl ⟨by kernel_rfl, fun w hSw => ?_⟩) hSS ?_
  rotate_left
  ·go_simp; try with_reducible rfl
  try simp only [zA,zN,zB,zC,zD]
  refine wpAnyT_take' (i := 12) (v := ?_) hO rfl rfl (by kernel_rfl) (by kernel_rfl) (by kernel_rfl) (by kernel_rfl) hQp (Or.inl ⟨by kernel_rfl, fun w hSw => ?_⟩) hSS ?_
  rotate_left
  ·go_simp; try with_reducible rfl
  try simp only [zA,zN,zB,zC,zD]
  refine wpAnyT_take' (i := 13) (v := ?_) hO rfl rfl (by kernel_rfl) (by kernel_rfl) (by kernel_rfl) (by kernel_rfl) hQp (Or.inl ⟨by kernel_rfl, fun w hSw => ?_⟩) hSS ?_
  rotate_left
  ·go_simp; try with_reducible rfl
  try simp only [zA,zN,zB,zC,zD]
  refine wpAnyT_take' (i := 14) (v := ?_) hO rfl rfl (by kernel_rfl) (by kernel_rfl) (by kernel_rfl) (by kernel_rfl) hQp (Or.inl ⟨by kernel_rfl, fun w hSw => ?_⟩) hSS ?_
  rotate_left
  ·go_simp; try with_reducible rfl
  try simp only [zA,zN,zB,zC,zD]
  have zc := Jm.o.kept Gl.o (by simp)
  have zs : WD.cell? ⟨w.heap.size + 1, q + 16, none⟩ = some (.int .u32 0) := by
   have h9 := zc.cell (j := q + 16) (by rw [List.length_append, sched_len]; simp)
   rw [h9]
   simp [List.getD_eq_getElem?_getD, sched_len]
  have zf : WD.frozen? ⟨w.heap.size + 1, q + 16, none⟩ = false := zc.free
  have Jn := qI zc
  refine wpAnyT_one' (i := 15) hO rfl (by kernel_rfl) (by kernel_rfl) (fun K hK => ?_)
  go_simp
  refine hK _ _ (.inl rfl) ?_
  clear hK K
  try simp only [zA,zN,zB,zC,zD]
  refine wpAnyT_done' hO (by kernel_rfl) ?_ _
  subst hR
  try clear hQp hO O
  clear zs zf zc hSS c16 c7
  have hst := Jn.o.store ((C + s0W A + D + s1W B) % 4294967296)
  rw [sched_len] at hst
  have Jo := qI hst
  clear hst
  simp only [IntKind.wrap_u32']
  go_wp2_with fail
  case roundEnd => exact ⟨⟨q + 16 + 1, by go_num, by have := Gf.o; omega, (Gi.o.trans' ((Gj.o.then Gl.o).mono (Y := [w.heap.size + 1]) (by simp))).trans' ((Kept.refl [w.heap.size + 1] WD).setCell (.inl (by simp)) _), by
   rw [Ji.o, show 64 - (q + 16 + 1) = 63 - (q + 16) by omega]
   exact Jo.o⟩, by have := Gf.o; simp [intOf]; omega⟩
def KS : List Int := [1116352408, 1899447441, 3049323471, 3921009573, 961987163, 1508970993, 2453635748, 2870763221, 3624381080, 310598401, 607225278, 1426881987, 1925078388, 2162078206, 2614888103, 3248222580, 3835390401, 4022224774, 264347078, 604807628, 770255983, 1249150122, 1555081692, 1996064986, 2554220882, 2821834349, 2952996808, 3210313671, 3336571891, 3584528711, 113926993, 338241895, 666307205, 773529912, 1294757372, 1396182291, 1695183700, 1986661051, 2177026350, 2456956037, 2730485921, 2820302411, 3259730800, 3345764771, 3516065817, 3600352804, 4094571909, 275423344, 430227734, 506948616, 659060556, 883997877, 958139571, 1322822218, 1537002063, 1747873779, 1955562222, 2024104815, 2227730452, 2361852424, 2428436474, 2756734187, 3204031479, 3329325298]
theorem ks_len : KS.length = 64 := rfl
def KsAt (w : World) : Prop := w.rangeAt 2 0 (wordsL KS 0)
theorem KsAt.kept0 {w w' : World} (h : KsAt w) (k : Kept [] w w') : KsAt w' := fun j v hv => k.cell (h j v hv) (by simp)
structure S8 where
 a : Int
 b : Int
 c : Int
 d : Int
 e : Int
 f : Int
 g : Int
 h : Int
def t1W (s : S8) (K W : Int) : Int := ((s.h + bits .xor .u32 (bits .xor .u32 (rotW 67108864 64 s.e) (rotW 2097152 2048 s.e)) (rotW 128 33554432 s.e) + bits .xor .u32 (bits .and .u32 s.e s.f) (bits .and .u32 (bits .xor .u32 (if IntKind.u32.signed = true then -1 else IntKind.u32.max) s.e) s.g) + K) % 4294967296 + W) % 4294967296
def t2W (s : S8) : Int := (bits .xor .u32 (bits .xor .u32 (rotW 1073741824 4 s.a) (rotW 524288 8192 s.a)) (rotW 1024 4194304 s.a) + bits .xor .u32 (bits .xor .u32 (bits .and .u32 s.a s.b) (bits .and .u32 s.a s.c)) (bits .and .u32 s.b s.c)) % 4294967296
def roundS (s : S8) (K W : Int) : S8 := ⟨(t1W s K W + t2W s) % 4294967296, s.a, s.b, s.c, (s.d + t1W s K W) % 4294967296, s.e, s.f, s.g⟩
def runS (ws : List Int) (s : S8) : Nat → S8
 | 0 => s
 | t + 1 => roundS (runS ws s t) (KS.getD t 0) (ws.getD t 0)
def S8.list (s : S8) : List Int := [s.a, s.b, s.c, s.d, s.e, s.f, s.g, s.h]
def blockS (s : S8) (l : List UInt8) : S8 :=
 let r := runS (schedW l 64) s 64
 ⟨(s.a + r.a) % 4294967296, (s.b + r.b) % 4294967296, (s.c + r.c) % 4294967296, (s.d + r.d) % 4294967296, (s.e + r.e) % 4294967296, (s.f + r.f) % 4294967296, (s.g + r.g) % 4294967296, (s.h + r.h) % 4294967296⟩
def mixA (s r : S8) (j : Nat) : Array Value := #[.int .u32 (if 0 < j then (s.a + r.a) % 4294967296 else s.a), .int .u32 (if 1 < j then (s.b + r.b) % 4294967296 else s.b), .int .u32 (if 2 < j then (s.c + r.c) % 4294967296 else s.c), .int .u32 (if 3 < j then (s.d + r.d) % 4294967296 else s.d), .int .u32 (if 4 < j then (s.e + r.e) % 4294967296 else s.e), .int .u32 (if 5 < j then (s.f + r.f) % 4294967296 else s.f), .int .u32 (if 6 < j then (s.g + r.g) % 4294967296 else s.g), .int .u32 (if 7 < j then (s.h + r.h) % 4294967296 else s.h)]
theorem index_words {cs : Array Value} {t : Nat} {x : Int} (h : cs[t]? = some (.int .u32 x)) (ht : (t : Int) < 64) (W : World) : (Instr.index 179 (.agg cs) (.int .i64 t)).run Tryz.prog W = .ok (.int .u32 x) W := by
 have hs := Tryz.sizeOf139 W
 have ha := Tryz.isAgg139 W
 unfold Instr.index
 simp [asIntOf, run_underlying Tryz.underlying179, hs, part, ha, h, Sem.run_bind]
 intro h9; omega
theorem index_eight {cs : Array Value} {t : Nat} {x : Int} (h : cs[t]? = some (.int .u32 x)) (ht : (t : Int) < 8) (W : World) : (Instr.index 140 (.agg cs) (.int .i64 t)).run Tryz.prog W = .ok (.int .u32 x) W := by
 have hs := Tryz.sizeOf139 W
 have ha := Tryz.isAgg139 W
 unfold Instr.index
 simp [asIntOf, run_underlying Tryz.underlying140, hs, part, ha, h, Sem.run_bind]
 intro h9; omega
theorem zeros_there (w : World) : (w.alloc (.cells (wordsL [] 64).toArray 179)).there w.heap.size 0 64 := fun j hj => by
 rw [Nat.zero_add]
 have hb := heap_alloc_new w (.cells (wordsL [] 64).toArray 179)
 exact ⟨by rw [cell_head hb (by simpa using words_nil j 64 hj)]; rfl, free_head hb⟩
set_option maxRecDepth 100000 in
theorem block_any (w : World) (s : S8) (a : Option Addr) (c : Nat) (l : List UInt8) (hl : l.length = 64) (hb : Bytes w (.slice a 64 c) l) (hk : KsAt w) :
  Calls Tryz.prog 136 #[.agg #[.int .u32 s.a, .int .u32 s.b, .int .u32 s.c, .int .u32 s.d, .int .u32 s.e, .int .u32 s.f, .int .u32 s.g, .int .u32 s.h], .slice a 64 c] w fun e w' =>
   e = .returned (.agg #[.int .u32 (blockS s l).a, .int .u32 (blockS s l).b, .int .u32 (blockS s l).c, .int .u32 (blockS s l).d, .int .u32 (blockS s l).e, .int .u32 (blockS s l).f, .int .u32 (blockS s l).g, .int .u32 (blockS s l).h]) ∧ Kept [] w w' := by
 obtain ⟨W0, Ge⟩ : ∃ W0, Hid (W0 = (w.alloc (.cells #[.int .u32 s.a, .int .u32 s.b, .int .u32 s.c, .int .u32 s.d, .int .u32 s.e, .int .u32 s.f, .int .u32 s.g, .int .u32 s.h] 140)).alloc (.cells #[.int .u32 0, .int .u32 0, .int .u32 0, .int .u32 0, .int .u32 0, .int .u32 0, .int .u32 0, .int .u32 0] 140)) := ⟨_, qI rfl⟩
 have Gh : Hid (Kept [] w W0) := qI (by rw [Ge.o]; exact ((Kept.refl [] w).alloc _).alloc _)
 have Gy : Hid (W0.heap[w.heap.size]? = some (.cells #[.int .u32 s.a, .int .u32 s.b, .int .u32 s.c, .int .u32 s.d, .int .u32 s.e, .int .u32 s.f, .int .u32 s.g, .int .u32 s.h] 140 (0, 0))) := qI (by rw [Ge.o]; exact ((Kept.refl [] _).alloc _).heap (block_alloc rfl) (by simp))
 have Gn : Hid (W0.heap[w.heap.size + 1]? = some (.cells #[.int .u32 0, .int .u32 0, .int .u32 0, .int .u32 0, .int .u32 0, .int .u32 0, .int .u32 0, .int .u32 0] 140 (0, 0))) := qI (by rw [Ge.o]; exact block_alloc (by simp))
 have CS := qI (sched_any W0 a c l hl (hb.kept0 Gh.o))
 have Jp := qI hk
 clear hl hb hk
 go_enter Tryz.func136, Tryz.ntmps136
 go_upto_region 1 with fail
 rw [← Ge.o]
 go_wp2_with fail
 refine CS.o.mono ?_
 rintro e w1 ⟨rfl, hk1⟩
 have Gm := qI hk1
 clear hk1 CS
 obtain ⟨WS, hWS⟩ : ∃ WS, WS = schedW l 64 := ⟨_, rfl⟩
 have Jq := qI hWS
 rw [← hWS]
 have hwl : WS.length = 64 := by rw [hWS, sched_len]
 have Jr := qI hwl
 obtain ⟨CC, hCC⟩ : ∃ CC, CC = wordsL WS 0 := ⟨_, rfl⟩
 rw [← hCC]
 have hlen : CC.length = 64 := by rw [hCC, words_len, hwl]
 have hi2 : ((Tryz.prog).info? 179).map (·.size) = some CC.toArray.size := by rw [List.size_toArray, hlen]; kernel_rfl
 have hth : (w1.alloc (.cells (wordsL [] 64).toArray 179)).there w1.heap.size 0 CC.toArray.size := by have h := zeros_there w1; rwa [show CC.toArray.size = 64 by simpa using hlen]
 have hone : CC.toArray.all (·.oneCell') = true := Array.all_eq_true_iff_forall_mem.2 (fun v hv => by rw [hCC] at hv; exact words_one _ _ v (by simpa using hv))
 have Gu := qI hCC
 clear hWS hwl hCC
 go_wp2_with (refine wpList_store_mid (by rfl) 179 (.tmp 5) (.tmp 25) (by rfl) w1.heap.size 0 CC.toArray (by rfl) (by rfl) hth hi2 hone ?_)
 try simp only [zA,zN,zB,zC,zD]
 have hra : ((w1.alloc (.cells (wordsL [] 64).toArray 179)).setCells w1.heap.size 0 CC.toArray.toList).rangeAt w1.heap.size 0 CC := World.rangeAt_setCells_same _ _ _ _ (by simpa using hth)
 have hk2 : Kept [] w1 ((w1.alloc (.cells (wordsL [] 64).toArray 179)).setCells w1.heap.size 0 CC.toArray.toList) := kept_fresh (((Kept.refl [w1.heap.size] w1).alloc _).trans' (setCells_kept _ _ _ _)) (by simp)
 change Code.wp _ _ _ _ ((w1.alloc (.cells (wordsL [] 64).toArray 179)).setCells w1.heap.size 0 CC.toArray.toList)
 revert hra hk2
 generalize (w1.alloc (.cells (wordsL [] 64).toArray 179)).setCells w1.heap.size 0 CC.toArray.toList = W2
 intro hra hk2
 have Js := qI hra
 have Gg := qI (Gm.o.then hk2)
 have hb2 := Gg.o.heap Gy.o (by simp)
 have E0 := ext_cell (cell_head (o := 0) (v := .int .u32 s.a) hb2 rfl)
 have E1 := ext_cell (cell_head (o := 1) (v := .int .u32 s.b) hb2 rfl)
 have E2 := ext_cell (cell_head (o := 2) (v := .int .u32 s.c) hb2 rfl)
 have E3 := ext_cell (cell_head (o := 3) (v := .int .u32 s.d) hb2 rfl)
 have E4 := ext_cell (cell_head (o := 4) (v := .int .u32 s.e) hb2 rfl)
 have E5 := ext_cell (cell_head (o := 5) (v := .int .u32 s.f) hb2 rfl)
 have E6 := ext_cell (cell_head (o := 6) (v := .int .u32 s.g) hb2 rfl)
 have E7 := ext_cell (cell_head (o := 7) (v := .int .u32 s.h) hb2 rfl)
 clear hra hk2 hb2 hi2 hth hone
 refine wp_region_ext W2 (by kernel_rfl) (by kernel_rfl) (Kept.refl _ _) ?_
 repeat go_big_quiet_step (fail)
 refine wpQuiet_nil ?_
 intro w3 hk3
 have Gk := qI (Gg.o.then hk3)
 have Gv := qI hk3
 clear E0 E1 E2 E3 E4 E5 E6 E7 hk3
 have hks : w3.rangeAt 2 0 (wordsL KS 0) := Jp.o.kept0 (Gh.o.then Gk.o)
 have hik : ((Tryz.prog).info? 179).map (·.size) = some (wordsL KS 0).length := by kernel_rfl
 go_upto_region 5 with fail
 refine wp_region_list ?_
 change wpList _ _ _ [_, _] _ _
 refine wpList_load_mid (by rfl) 179 (.global 2) (by rfl) 2 0 (by rfl) (wordsL KS 0) _ hks Tryz.underlying179 rfl hik ?_
 obtain ⟨KC, hKC⟩ : ∃ KC, KC = (wordsL KS 0).toArray := ⟨_, rfl⟩
 rw [← hKC]
 have Gz := qI hKC
 clear hks hik hKC
 try simp only [zA,zN,zB,zC,zD]
 go_wp2_with fail
 go_loopw [6, 7, 8, 9, 10, 11, 12, 13, 14, 15, 16, 17, 43] (fun a b c d e f g h _ _ _ _ i wr => ∃ t : Nat, i = .int .i64 t ∧ t ≤ 64 ∧ Kept [] w3 wr ∧ ∃ r : S8, r = runS WS s t ∧ a = .int .u32 r.a ∧ b = .int .u32 r.b ∧ c = .int .u32 r.c ∧ d = .int .u32 r.d ∧ e = .int .u32 r.e ∧ f = .int .u32 r.f ∧ g = .int .u32 r.g ∧ h = .int .u32 r.h) (fun _ _ _ _ _ _ _ _ _ _ _ _ i _ => 64 - (intOf i).toNat)
 case atStart => exact ⟨0, rfl, by decide, Kept.refl _ _, s, rfl, rfl, rfl, rfl, rfl, rfl, rfl, rfl, rfl⟩
 case round =>
  obtain ⟨t, rfl, ht, hkw, r, hr, rfl, rfl, rfl, rfl, rfl, rfl, rfl, rfl⟩ := hrel
  have HR := qI hr
  have Gi := qI hkw
  by_cases hlt : t < 64
  rotate_left
  ·obtain rfl : t = 64 := by omega
   have Gc := qI (Gk.o.then hkw)
   clear hlt ht hkw hr
   go_wp2_with fail
   obtain ⟨WR, rfl⟩ : ∃ x, x = wr := ⟨_, rfl⟩
   go_loopw [18, 19, 114] (fun _ _ i wq => ∃ j : Nat, i = .int .i64 j ∧ j ≤ 8 ∧ Kept [w.heap.size] WR wq ∧ wq.heap[w.heap.size]? = some (.cells (mixA s r j) 140 (0, 0))) (fun _ _ i _ => 8 - (intOf i).toNat)
   case atStart => exact ⟨0, rfl, by decide, Kept.refl _ _, Gc.o.heap Gy.o (by simp)⟩
   case round =>
    obtain ⟨j, rfl, hj, hkv, hbl⟩ := hrel
    have Gd := qI hkv
    have Ga := qI hbl
    clear hkv hbl
    have hjj : j = 0 ∨ j = 1 ∨ j = 2 ∨ j = 3 ∨ j = 4 ∨ j = 5 ∨ j = 6 ∨ j = 7 ∨ j = 8 := by omega
    clear hj
    rcases hjj with rfl | rfl | rfl | rfl | rfl | rfl | rfl | rfl | rfl
    ·have q0 := cell_head (o := 0) (v := .int .u32 s.a) Ga.o rfl
     have z0 := free_head (o := 0) Ga.o
     have hx8 : ∀ W, (Instr.index 140 (.agg #[.int .u32 r.a, .int .u32 r.b, .int .u32 r.c, .int .u32 r.d, .int .u32 r.e, .int .u32 r.f, .int .u32 r.g, .int .u32 r.h]) (.int .i64 0)).run Tryz.prog W = .ok (.int .u32 r.a) W := index_eight (t := 0) rfl (by decide)
     go_wp2_with fail
     case roundEnd => exact ⟨⟨1, by go_num, by decide, Gd.o.trans' ((Kept.refl [w.heap.size] wr).setCell (.inl (by simp)) _), block_setCell (i := 0) (v := .int .u32 ((s.a + r.a) % 4294967296)) Ga.o rfl⟩, by simp [intOf]⟩
    ·have q0 := cell_head (o := 1) (v := .int .u32 s.b) Ga.o rfl
     have z0 := free_head (o := 1) Ga.o
     have hx8 : ∀ W, (Instr.index 140 (.agg #[.int .u32 r.a, .int .u32 r.b, .int .u32 r.c, .int .u32 r.d, .int .u32 r.e, .int .u32 r.f, .int .u32 r.g, .int .u32 r.h]) (.int .i64 1)).run Tryz.prog W = .ok (.int .u32 r.b) W := index_eight (t := 1) rfl (by decide)
     go_wp2_with fail
     case roundEnd => exact ⟨⟨2, by go_num, by decide, Gd.o.trans' ((Kept.refl [w.heap.size] wr).setCell (.inl (by simp)) _), block_setCell (i := 1) (v := .int .u32 ((s.b + r.b) % 4294967296)) Ga.o rfl⟩, by simp [intOf]⟩
    ·have q0 := cell_head (o := 2) (v := .int .u32 s.c) Ga.o rfl
     have z0 := free_head (o := 2) Ga.o
     have hx8 : ∀ W, (Instr.index 140 (.agg #[.int .u32 r.a, .int .u32 r.b, .int .u32 r.c, .int .u32 r.d, .int .u32 r.e, .int .u32 r.f, .int .u32 r.g, .int .u32 r.h]) (.int .i64 2)).run Tryz.prog W = .ok (.int .u32 r.c) W := index_eight (t := 2) rfl (by decide)
     go_wp2_with fail
     case roundEnd => exact ⟨⟨3, by go_num, by decide, Gd.o.trans' ((Kept.refl [w.heap.size] wr).setCell (.inl (by simp)) _), block_setCell (i := 2) (v := .int .u32 ((s.c + r.c) % 4294967296)) Ga.o rfl⟩, by simp [intOf]⟩
    ·have q0 := cell_head (o := 3) (v := .int .u32 s.d) Ga.o rfl
     have z0 := free_head (o := 3) Ga.o
     have hx8 : ∀ W, (Instr.index 140 (.agg #[.int .u32 r.a, .int .u32 r.b, .int .u32 r.c, .int .u32 r.d, .int .u32 r.e, .int .u32 r.f, .int .u32 r.g, .int .u32 r.h]) (.int .i64 3)).run Tryz.prog W = .ok (.int .u32 r.d) W := index_eight (t := 3) rfl (by decide)
     go_wp2_with fail
     case roundEnd => exact ⟨⟨4, by go_num, by decide, Gd.o.trans' ((Kept.refl [w.heap.size] wr).setCell (.inl (by simp)) _), block_setCell (i := 3) (v := .int .u32 ((s.d + r.d) % 4294967296)) Ga.o rfl⟩, by simp [intOf]⟩
    ·have q0 := cell_head (o := 4) (v := .int .u32 s.e) Ga.o rfl
     have z0 := free_head (o := 4) Ga.o
     have hx8 : ∀ W, (Instr.index 140 (.agg #[.int .u32 r.a, .int .u32 r.b, .int .u32 r.c, .int .u32 r.d, .int .u32 r.e, .int .u32 r.f, .int .u32 r.g, .int .u32 r.h]) (.int .i64 4)).run Tryz.prog W = .ok (.int .u32 r.e) W := index_eight (t := 4) rfl (by decide)
     go_wp2_with fail
     case roundEnd => exact ⟨⟨5, by go_num, by decide, Gd.o.trans' ((Kept.refl [w.heap.size] wr).setCell (.inl (by simp)) _), block_setCell (i := 4) (v := .int .u32 ((s.e + r.e) % 4294967296)) Ga.o rfl⟩, by simp [intOf]⟩
    ·have q0 := cell_head (o := 5) (v := .int .u32 s.f) Ga.o rfl
     have z0 := free_head (o := 5) Ga.o
     have hx8 : ∀ W, (Instr.index 140 (.agg #[.int .u32 r.a, .int .u32 r.b, .int .u32 r.c, .int .u32 r.d, .int .u32 r.e, .int .u32 r.f, .int .u32 r.g, .int .u32 r.h]) (.int .i64 5)).run Tryz.prog W = .ok (.int .u32 r.f) W := index_eight (t := 5) rfl (by decide)
     go_wp2_with fail
     case roundEnd => exact ⟨⟨6, by go_num, by decide, Gd.o.trans' ((Kept.refl [w.heap.size] wr).setCell (.inl (by simp)) _), block_setCell (i := 5) (v := .int .u32 ((s.f + r.f) % 4294967296)) Ga.o rfl⟩, by simp [intOf]⟩
    ·have q0 := cell_head (o := 6) (v := .int .u32 s.g) Ga.o rfl
     have z0 := free_head (o := 6) Ga.o
     have hx8 : ∀ W, (Instr.index 140 (.agg #[.int .u32 r.a, .int .u32 r.b, .int .u32 r.c, .int .u32 r.d, .int .u32 r.e, .int .u32 r.f, .int .u32 r.g, .int .u32 r.h]) (.int .i64 6)).run Tryz.prog W = .ok (.int .u32 r.g) W := index_eight (t := 6) rfl (by decide)
     go_wp2_with fail
     case roundEnd => exact ⟨⟨7, by go_num, by decide, Gd.o.trans' ((Kept.refl [w.heap.size] wr).setCell (.inl (by simp)) _), block_setCell (i := 6) (v := .int .u32 ((s.g + r.g) % 4294967296)) Ga.o rfl⟩, by simp [intOf]⟩
    ·have q0 := cell_head (o := 7) (v := .int .u32 s.h) Ga.o rfl
     have z0 := free_head (o := 7) Ga.o
     have hx8 : ∀ W, (Instr.index 140 (.agg #[.int .u32 r.a, .int .u32 r.b, .int .u32 r.c, .int .u32 r.d, .int .u32 r.e, .int .u32 r.f, .int .u32 r.g, .int .u32 r.h]) (.int .i64 7)).run Tryz.prog W = .ok (.int .u32 r.h) W := index_eight (t := 7) rfl (by decide)
     go_wp2_with fail
     case roundEnd => exact ⟨⟨8, by go_num, by decide, Gd.o.trans' ((Kept.refl [w.heap.size] wr).setCell (.inl (by simp)) _), block_setCell (i := 7) (v := .int .u32 ((s.h + r.h) % 4294967296)) Ga.o rfl⟩, by simp [intOf]⟩
    have Gb : Hid (wr.heap[w.heap.size + 1]? = some (.cells #[.int .u32 0, .int .u32 0, .int .u32 0, .int .u32 0, .int .u32 0, .int .u32 0, .int .u32 0, .int .u32 0] 140 (0, 0))) := qI (Gd.o.heap (Gc.o.heap Gn.o (by simp)) (by simp))
    have d0 := cell_head (o := 0) (v := .int .u32 0) Gb.o rfl
    have f0 := free_head (o := 0) Gb.o
    have q0 := cell_head (o := 0) (v := .int .u32 ((s.a + r.a) % 4294967296)) Ga.o rfl
    have d1 := cell_head (o := 1) (v := .int .u32 0) Gb.o rfl
    have f1 := free_head (o := 1) Gb.o
    have q1 := cell_head (o := 1) (v := .int .u32 ((s.b + r.b) % 4294967296)) Ga.o rfl
    have d2 := cell_head (o := 2) (v := .int .u32 0) Gb.o rfl
    have f2 := free_head (o := 2) Gb.o
    have q2 := cell_head (o := 2) (v := .int .u32 ((s.c + r.c) % 4294967296)) Ga.o rfl
    have d3 := cell_head (o := 3) (v := .int .u32 0) Gb.o rfl
    have f3 := free_head (o := 3) Gb.o
    have q3 := cell_head (o := 3) (v := .int .u32 ((s.d + r.d) % 4294967296)) Ga.o rfl
    have d4 := cell_head (o := 4) (v := .int .u32 0) Gb.o rfl
    have f4 := free_head (o := 4) Gb.o
    have q4 := cell_head (o := 4) (v := .int .u32 ((s.e + r.e) % 4294967296)) Ga.o rfl
    have d5 := cell_head (o := 5) (v := .int .u32 0) Gb.o rfl
    have f5 := free_head (o := 5) Gb.o
    have q5 := cell_head (o := 5) (v := .int .u32 ((s.f + r.f) % 4294967296)) Ga.o rfl
    have d6 := cell_head (o := 6) (v := .int .u32 0) Gb.o rfl
    have f6 := free_head (o := 6) Gb.o
    have q6 := cell_head (o := 6) (v := .int .u32 ((s.g + r.g) % 4294967296)) Ga.o rfl
    have d7 := cell_head (o := 7) (v := .int .u32 0) Gb.o rfl
    have f7 := free_head (o := 7) Gb.o
    have q7 := cell_head (o := 7) (v := .int .u32 ((s.h + r.h) % 4294967296)) Ga.o rfl
    go_wp2_with fail
    clear d0 f0 q0 d1 f1 q1 d2 f2 q2 d3 f3 q3 d4 f4 q4 d5 f5 q5 d6 f6 q6 d7 f7 q7
    have hb0 := block_setCell (i := 0) (v := .int .u32 ((s.a + r.a) % 4294967296)) (d := #[.int .u32 ((s.a + r.a) % 4294967296), .int .u32 0, .int .u32 0, .int .u32 0, .int .u32 0, .int .u32 0, .int .u32 0, .int .u32 0]) Gb.o rfl
    have hb1 := block_setCell (i := 1) (v := .int .u32 ((s.b + r.b) % 4294967296)) (d := #[.int .u32 ((s.a + r.a) % 4294967296), .int .u32 ((s.b + r.b) % 4294967296), .int .u32 0, .int .u32 0, .int .u32 0, .int .u32 0, .int .u32 0, .int .u32 0]) hb0 rfl
    have hb2 := block_setCell (i := 2) (v := .int .u32 ((s.c + r.c) % 4294967296)) (d := #[.int .u32 ((s.a + r.a) % 4294967296), .int .u32 ((s.b + r.b) % 4294967296), .int .u32 ((s.c + r.c) % 4294967296), .int .u32 0, .int .u32 0, .int .u32 0, .int .u32 0, .int .u32 0]) hb1 rfl
    have hb3 := block_setCell (i := 3) (v := .int .u32 ((s.d + r.d) % 4294967296)) (d := #[.int .u32 ((s.a + r.a) % 4294967296), .int .u32 ((s.b + r.b) % 4294967296), .int .u32 ((s.c + r.c) % 4294967296), .int .u32 ((s.d + r.d) % 4294967296), .int .u32 0, .int .u32 0, .int .u32 0, .int .u32 0]) hb2 rfl
    have hb4 := block_setCell (i := 4) (v := .int .u32 ((s.e + r.e) % 4294967296)) (d := #[.int .u32 ((s.a + r.a) % 4294967296), .int .u32 ((s.b + r.b) % 4294967296), .int .u32 ((s.c + r.c) % 4294967296), .int .u32 ((s.d + r.d) % 4294967296), .int .u32 ((s.e + r.e) % 4294967296), .int .u32 0, .int .u32 0, .int .u32 0]) hb3 rfl
    have hb5 := block_setCell (i := 5) (v := .int .u32 ((s.f + r.f) % 4294967296)) (d := #[.int .u32 ((s.a + r.a) % 4294967296), .int .u32 ((s.b + r.b) % 4294967296), .int .u32 ((s.c + r.c) % 4294967296), .int .u32 ((s.d + r.d) % 4294967296), .int .u32 ((s.e + r.e) % 4294967296), .int .u32 ((s.f + r.f) % 4294967296), .int .u32 0, .int .u32 0]) hb4 rfl
    have hb6 := block_setCell (i := 6) (v := .int .u32 ((s.g + r.g) % 4294967296)) (d := #[.int .u32 ((s.a + r.a) % 4294967296), .int .u32 ((s.b + r.b) % 4294967296), .int .u32 ((s.c + r.c) % 4294967296), .int .u32 ((s.d + r.d) % 4294967296), .int .u32 ((s.e + r.e) % 4294967296), .int .u32 ((s.f + r.f) % 4294967296), .int .u32 ((s.g + r.g) % 4294967296), .int .u32 0]) hb5 rfl
    have hb7 := block_setCell (i := 7) (v := .int .u32 ((s.h + r.h) % 4294967296)) (d := #[.int .u32 ((s.a + r.a) % 4294967296), .int .u32 ((s.b + r.b) % 4294967296), .int .u32 ((s.c + r.c) % 4294967296), .int .u32 ((s.d + r.d) % 4294967296), .int .u32 ((s.e + r.e) % 4294967296), .int .u32 ((s.f + r.f) % 4294967296), .int .u32 ((s.g + r.g) % 4294967296), .int .u32 ((s.h + r.h) % 4294967296)]) hb6 rfl
    have hbF := hb7
    clear hb0 hb1 hb2 hb3 hb4 hb5 hb6 hb7
    have hkF := (((((((((Kept.refl [w.heap.size + 1] wr).setCell (p := ⟨w.heap.size + 1, 0, none⟩) (.inl (by simp)) (.int .u32 ((s.a + r.a) % 4294967296))).setCell (p := ⟨w.heap.size + 1, 1, none⟩) (.inl (by simp)) (.int .u32 ((s.b + r.b) % 4294967296))).setCell (p := ⟨w.heap.size + 1, 2, none⟩) (.inl (by simp)) (.int .u32 ((s.c + r.c) % 4294967296))).setCell (p := ⟨w.heap.size + 1, 3, none⟩) (.inl (by simp)) (.int .u32 ((s.d + r.d) % 4294967296))).setCell (p := ⟨w.heap.size + 1, 4, none⟩) (.inl (by simp)) (.int .u32 ((s.e + r.e) % 4294967296))).setCell (p := ⟨w.heap.size + 1, 5, none⟩) (.inl (by simp)) (.int .u32 ((s.f + r.f) % 4294967296))).setCell (p := ⟨w.heap.size + 1, 6, none⟩) (.inl (by simp)) (.int .u32 ((s.g + r.g) % 4294967296))).setCell (p := ⟨w.heap.size + 1, 7, none⟩) (.inl (by simp)) (.int .u32 ((s.h + r.h) % 4294967296)))
    revert hbF hkF
    generalize hWF : ((((((((wr.setCell ⟨w.heap.size + 1, 0, none⟩ (.int .u32 ((s.a + r.a) % 4294967296))).setCell ⟨w.heap.size + 1, 1, none⟩ (.int .u32 ((s.b + r.b) % 4294967296))).setCell ⟨w.heap.size + 1, 2, none⟩ (.int .u32 ((s.c + r.c) % 4294967296))).setCell ⟨w.heap.size + 1, 3, none⟩ (.int .u32 ((s.d + r.d) % 4294967296))).setCell ⟨w.heap.size + 1, 4, none⟩ (.int .u32 ((s.e + r.e) % 4294967296))).setCell ⟨w.heap.size + 1, 5, none⟩ (.int .u32 ((s.f + r.f) % 4294967296))).setCell ⟨w.heap.size + 1, 6, none⟩ (.int .u32 ((s.g + r.g) % 4294967296))).setCell ⟨w.heap.size + 1, 7, none⟩ (.int .u32 ((s.h + r.h) % 4294967296))) = WF
    intro hbF hkF
    have Jt := qI hkF
    have x0 := cell_head (o := 0) (v := .int .u32 ((s.a + r.a) % 4294967296)) hbF rfl
    have x1 := cell_head (o := 1) (v := .int .u32 ((s.b + r.b) % 4294967296)) hbF rfl
    have x2 := cell_head (o := 2) (v := .int .u32 ((s.c + r.c) % 4294967296)) hbF rfl
    have x3 := cell_head (o := 3) (v := .int .u32 ((s.d + r.d) % 4294967296)) hbF rfl
    have x4 := cell_head (o := 4) (v := .int .u32 ((s.e + r.e) % 4294967296)) hbF rfl
    have x5 := cell_head (o := 5) (v := .int .u32 ((s.f + r.f) % 4294967296)) hbF rfl
    have x6 := cell_head (o := 6) (v := .int .u32 ((s.g + r.g) % 4294967296)) hbF rfl
    have x7 := cell_head (o := 7) (v := .int .u32 ((s.h + r.h) % 4294967296)) hbF rfl
    have hre : blockS s l = ⟨(s.a + r.a) % 4294967296, (s.b + r.b) % 4294967296, (s.c + r.c) % 4294967296, (s.d + r.d) % 4294967296, (s.e + r.e) % 4294967296, (s.f + r.f) % 4294967296, (s.g + r.g) % 4294967296, (s.h + r.h) % 4294967296⟩ := by
     unfold blockS
     rw [← Jq.o, ← HR.o]
    exact bodyPost_ret (v := .agg #[.int .u32 ((s.a + r.a) % 4294967296), .int .u32 ((s.b + r.b) % 4294967296), .int .u32 ((s.c + r.c) % 4294967296), .int .u32 ((s.d + r.d) % 4294967296), .int .u32 ((s.e + r.e) % 4294967296), .int .u32 ((s.f + r.f) % 4294967296), .int .u32 ((s.g + r.g) % 4294967296), .int .u32 ((s.h + r.h) % 4294967296)]) (by simp [results, Tryz.results136, go_sem, x0, x1, x2, x3, x4, x5, x6, x7]) rfl ⟨by rw [hre], kept_fresh ((((Gh.o.mono (Y := [w.heap.size, w.heap.size + 1]) (by simp)).trans' (Gc.o.mono (by simp))).trans' (Gd.o.mono (by simp))).trans' (Jt.o.mono (by simp))) (by simp)⟩
  have hltI : (t : Int) < 64 := by omega
  obtain ⟨K, hKt⟩ : ∃ K, K = KS.getD t 0 := ⟨_, rfl⟩
  obtain ⟨W, hWt⟩ : ∃ W, W = WS.getD t 0 := ⟨_, rfl⟩
  have HKt := qI hKt
  have HWt := qI hWt
  have hkt : KC[t]? = some (.int .u32 K) := by
   rw [Gz.o, hKt]
   have := words_get KS 0 t (by rw [ks_len]; exact hlt)
   simpa [wv] using this
  have hsz : KC.size = 64 := by rw [Gz.o]; rfl
  have hwt : wr.cell? ⟨w1.heap.size, t, none⟩ = some (.int .u32 W) := by
   have h8 := words_get WS 0 t (by rw [Jr.o]; exact hlt)
   have h9 := Js.o t _ (by rw [Gu.o]; exact h8)
   rw [Nat.zero_add] at h9
   rw [hWt]
   exact (Gv.o.then hkw).cell h9 (by simp)
  have hix := index_words hkt hltI
  have Gf := qI hlt
  clear hKt hWt hkw hr ht hkt hsz
  have E0 := ext_cell hwt
  have CR : Hid (∀ (k up down : Int) (x : Int), Turns k up down → ∀ z : Ext wr, Calls Tryz.prog 180 #[.int .u32 x, .int .i64 k] z.w fun e w' => e = .returned (.int .u32 (rotW up down x)) ∧ Kept [] z.w w') := qI (fun k up down x h z => right_any _ x k up down h)
  have C6 := qI (CR.o 6 67108864 64 r.e (by unfold Turns; decide))
  have C11 := qI (CR.o 11 2097152 2048 r.e (by unfold Turns; decide))
  have C25 := qI (CR.o 25 128 33554432 r.e (by unfold Turns; decide))
  go_upto_region 8 with fail
  clear hwt
  refine wp_region_ext wr (by kernel_rfl) (by kernel_rfl) (Kept.refl _ _) ?_
  repeat go_big_quiet_step ((go_at_call 180; first | exact ext_of (C6.o _) | exact ext_of (C11.o _) | exact ext_of (C25.o _)))
  refine wpQuiet_nil ?_
  intro w4 hk4
  have Gc := qI hk4
  clear E0 hk4
  obtain ⟨T1, hT1⟩ : ∃ T1, t1W r K W = T1 := ⟨_, rfl⟩
  have Ja := qI hT1
  unfold t1W at hT1
  simp only [hT1]
  clear hT1 hix
  go_wp2_with fail
  refine (right_any _ r.a 2 1073741824 4 (by unfold Turns; decide)).mono ?_
  rintro e w5 ⟨rfl, hk5⟩
  have Gt := qI (Gc.o.then hk5)
  clear hk5
  go_wp2_with fail
  refine (right_any _ r.a 13 524288 8192 (by unfold Turns; decide)).mono ?_
  rintro e w6 ⟨rfl, hk6⟩
  have Gj := qI (Gt.o.then hk6)
  clear hk6
  go_wp2_with fail
  refine (right_any _ r.a 22 1024 4194304 (by unfold Turns; decide)).mono ?_
  rintro e w7 ⟨rfl, hk7⟩
  have Ju := qI (Gj.o.then hk7)
  clear hk7
  go_upto_region 10 with fail
  obtain ⟨T2, hT2⟩ : ∃ T2, t2W r = T2 := ⟨_, rfl⟩
  have Jv := qI hT2
  unfold t2W at hT2
  simp only [hT2]
  clear hT2
  go_wp2_with fail
  case roundEnd => exact ⟨⟨t + 1, by go_num, by have := Gf.o; omega, Gi.o.then Ju.o, roundS r K W, by
   rw [HKt.o, HWt.o, HR.o]; rfl, by
   show _ = Value.int .u32 ((t1W r K W + t2W r) % 4294967296)
   rw [Ja.o, Jv.o], rfl, rfl, rfl, by
   show _ = Value.int .u32 ((r.d + t1W r K W) % 4294967296)
   rw [Ja.o], rfl, rfl, rfl⟩, by have := Gf.o; simp [intOf]; omega⟩
def startS : S8 := ⟨1779033703, 3144134277, 1013904242, 2773480762, 1359893119, 2600822924, 528734635, 1541459225⟩
def hashC (s : S8) (v : Value) (n : Int) : Array Value := #[.int .u32 s.a, .int .u32 s.b, .int .u32 s.c, .int .u32 s.d, .int .u32 s.e, .int .u32 s.f, .int .u32 s.g, .int .u32 s.h, v, .int .i64 n]
def HashAt (w : World) (p : Nat) (s : S8) (v : Value) (n : Int) : Prop := w.heap[p]? = some (.cells (hashC s v n) 175 (0, 0))
theorem HashAt.kept {X : List Nat} {w w' : World} {p : Nat} {s : S8} {v : Value} {n : Int} (h : HashAt w p s v n) (k : Kept X w w') (hp : p ∉ X) : HashAt w' p s v n := k.heap h hp
theorem start_any (w : World) : Calls Tryz.prog 134 #[] w fun e w' => e = .returned (.agg #[.int .u32 startS.a, .int .u32 startS.b, .int .u32 startS.c, .int .u32 startS.d, .int .u32 startS.e, .int .u32 startS.f, .int .u32 startS.g, .int .u32 startS.h]) ∧ Kept [] w w' := by
 go_enter Tryz.func134, Tryz.ntmps134
 go_wp2_with fail
 exact bodyPost_ret (v := .agg #[.int .u32 startS.a, .int .u32 startS.b, .int .u32 startS.c, .int .u32 startS.d, .int .u32 startS.e, .int .u32 startS.f, .int .u32 startS.g, .int .u32 startS.h]) (by simp [results, Tryz.results134, go_sem, startS]) rfl ⟨rfl, (Kept.refl _ _).alloc _⟩
theorem new_any (w : World) : Calls Tryz.prog 100 #[] w fun e w' => ∃ p, e = .returned (.pointer (some ⟨p, 0, none⟩)) ∧ w.heap.size ≤ p ∧ HashAt w' p startS (.slice none 0 0) 0 ∧ Kept [] w w' := by
 have CS := qI (start_any w)
 go_enter Tryz.func100, Tryz.ntmps100
 go_wp2_with fail
 refine CS.o.mono ?_
 rintro e w1 ⟨rfl, hk1⟩
 have Gm := qI hk1
 clear hk1
 go_wp2_with fail
 go_ret
 exact ⟨w1.heap.size, rfl, Gm.o.size, block_alloc rfl, Gm.o.alloc _⟩
theorem or_comm32 (x y : Int) : bits .or .u32 x y = bits .or .u32 y x := by
 unfold bits
 simp only [BitVec.or_comm]
theorem wpList_buildK {P : Program} {ops : Array Oper} {rest : List Oper} {op : Oper} {a : Act} {w : World} {Q : Exit → Act → World → Prop} (hgd : op.guard = none) {t : TypeId} {parts : Array (Nat × Operand)} (ho : op.op = .build t parts) (cells : Array Value)
  (hb : P.built t (parts.map fun p => (p.1, a.eval p.2)).toList = some cells) (h : wpList P ops Q rest (a.put op.dst (.agg cells)) w) : wpList P ops Q (op :: rest) a w := by
 refine wpList_plain hgd fun K hK => ?_
 unfold Oper.wp execOp
 simp only [ho, Sem.run_bind]
 rw [run_build w t _ cells hb]
 exact hK _ _ h
theorem turn_any (x : Int) (k up down : Int) (h : Turns k up down) (w : World) :
  Calls Tryz.prog 140 #[.int .u32 x, .int .u64 k] w fun e w' => e = .returned (.int .u32 (rotW up down x)) ∧ w = w' := by
 have HC : Hid (rotW up down x = bits .or .u32 (x / down) (x * up % 4294967296)) := qI (or_comm32 _ _)
 unfold Turns at h
 rcases h with ⟨rfl, rfl, rfl⟩ | ⟨rfl, rfl, rfl⟩ | ⟨rfl, rfl, rfl⟩ | ⟨rfl, rfl, rfl⟩ | ⟨rfl, rfl, rfl⟩ | ⟨rfl, rfl, rfl⟩ | ⟨rfl, rfl, rfl⟩ | ⟨rfl, rfl, rfl⟩ | ⟨rfl, rfl, rfl⟩ | ⟨rfl, rfl, rfl⟩
 all_goals
  go_enter Tryz.func140, Tryz.ntmps140
  go_wp2_with fail
  go_ret
  exact ⟨by rw [HC.o]; rfl, rfl⟩
theorem first_any (w : World) : Calls Tryz.prog 104 #[] w fun e w' => e = .returned (.agg #[.int .u32 startS.a, .int .u32 startS.b, .int .u32 startS.c, .int .u32 startS.d, .int .u32 startS.e, .int .u32 startS.f, .int .u32 startS.g, .int .u32 startS.h]) ∧ Kept [] w w' := by
 go_enter Tryz.func104, Tryz.ntmps104
 go_wp2_with fail
 exact bodyPost_ret (v := .agg #[.int .u32 startS.a, .int .u32 startS.b, .int .u32 startS.c, .int .u32 startS.d, .int .u32 startS.e, .int .u32 startS.f, .int .u32 startS.g, .int .u32 startS.h]) (by simp [results, Tryz.results104, go_sem, startS]) rfl ⟨rfl, (Kept.refl _ _).alloc _⟩
set_option maxRecDepth 100000 in
theorem round_any (t : Nat) (ht : t < 64) (w : World) : Calls Tryz.prog 141 #[.int .i64 t] w fun e w' => e = .returned (.int .u32 (KS.getD t 0)) ∧ Kept [] w w' := by
 have HT := qI ht
 have htI : (t : Int) < 64 := by omega
 clear ht
 go_enter Tryz.func141, Tryz.ntmps141
 obtain ⟨CC, hCC⟩ : ∃ CC, CC = (wordsL KS 0).toArray := ⟨_, rfl⟩
 have hsz : CC.size = 64 := by rw [hCC]; rfl
 have hi2 : ((Tryz.prog).info? 179).map (·.size) = some CC.size := by rw [hsz]; kernel_rfl
 have hth : (w.alloc (.cells (wordsL [] 64).toArray 179)).there w.heap.size 0 CC.size := by have h := zeros_there w; rwa [hsz]
 have hone : CC.all (·.oneCell') = true := by rw [hCC]; kernel_rfl
 go_upto_region 1 with fail
 refine wp_region_list ?_
 change wpList _ _ _ [_, _, _] _ _
 refine wpList_buildK (by rfl) (by rfl) CC (by rw [hCC]; kernel_rfl) ?_
 have Gu := qI hCC
 clear hCC hsz
 try simp only [zA,zN,zB,zC,zD]
 go_upto_region 2 with (refine wpList_store_mid (by rfl) 179 (.tmp 3) (.tmp 4) (by rfl) w.heap.size 0 CC (by rfl) (by rfl) hth hi2 hone ?_)
 try simp only [zA,zN,zB,zC,zD]
 have hra : ((w.alloc (.cells (wordsL [] 64).toArray 179)).setCells w.heap.size 0 CC.toList).rangeAt w.heap.size 0 CC.toList := World.rangeAt_setCells_same _ _ _ _ (by simpa using hth)
 have hk2 : Kept [] w ((w.alloc (.cells (wordsL [] 64).toArray 179)).setCells w.heap.size 0 CC.toList) := kept_fresh (((Kept.refl [w.heap.size] w).alloc _).trans' (setCells_kept _ _ _ _)) (by simp)
 change Code.wp _ _ _ _ ((w.alloc (.cells (wordsL [] 64).toArray 179)).setCells w.heap.size 0 CC.toList)
 revert hra hk2
 generalize (w.alloc (.cells (wordsL [] 64).toArray 179)).setCells w.heap.size 0 CC.toList = W2
 intro hra hk2
 have c0 : W2.cell? ⟨w.heap.size, t, none⟩ = some (.int .u32 (KS.getD t 0)) := by
  have h9 := hra t (.int .u32 (KS.getD t 0)) (by rw [Gu.o, List.toList_toArray]; exact words_get KS 0 t (by rw [ks_len]; exact HT.o))
  rwa [Nat.zero_add] at h9
 have Gg := qI hk2
 clear hra hk2 hth hi2 hone
 obtain ⟨kt, Jb⟩ : ∃ kt, Hid (kt = KS.getD t 0) := ⟨_, qI rfl⟩
 rw [← Jb.o] at c0
 go_wp2_with fail
 go_ret
 exact ⟨by rw [← Jb.o]; rfl, Gg.o⟩
end Go.Proofs.YtckbnjipecclaaaGreatDoor

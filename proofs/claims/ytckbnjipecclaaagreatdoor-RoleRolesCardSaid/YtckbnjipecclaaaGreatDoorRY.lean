/- Parts of one proof, merged: XIQ XIR XJM XJN XJP. -/
import Derived.Test.YtckbnjipecclaaaGreatDoorRX
import Derived.Test.YtckbnjipecclaaaGreatDoorRM
import Derived.Great.BuildSlice
import Derived.Test.YtckbnjipecclaaaGreatDoorRU
import Derived.Test.YtckbnjipecclaaaGreatDoorRV
import Derived.Test.YtckbnjipecclaaaGreatDoorRK
import Derived.Lib.Hide
set_option linter.all false
set_option maxHeartbeats 12800000
set_option maxRecDepth 10000
set_option linter.unusedVariables false
set_option linter.unusedSimpArgs false
set_option linter.unnecessarySimpa false
namespace Go.Proofs.YtckbnjipecclaaaGreatDoor
open Go.RowKit Go.Maps Go.Sort Go.Shelf Go.WideElems Go.WideShapes
theorem sortsK (m : Nat) : AnyZ.SortsIn Tryz.prog Tryz.sortedA_ren Fence.wide m :=
 ⟨fun blk off cap ss W hH hblk hsz => callsIn_wide.2 (AnyM.slices_Sort_string Tryz.sortA blk off cap ss W hH hblk hsz),
  fun p cap W => callsIn_wide.2 (AnyM.slices_Sort_string_none Tryz.sortA p cap W)⟩
def oneM (x : List UInt8) (v : Value) : Lit → Option Value := fun z => if z.sameKey (.string x) = true then some v else none
theorem one_perm {w : World} {mb cnt : Nat} {D : DataW Value} {x : List UInt8} {v : Value} (hown : w.ownsMap Tryz.prog 9 heldE mb cnt D) (hD : ∀ kl, oneM x v kl = look D kl ∧ (Maps.has D kl = (oneM x v kl).isSome)) : [x].Perm (strKeys D) := by
 obtain ⟨es, rfl, hp, _⟩ := hown.entries keyStr
 obtain ⟨es', clock, _, F, hs, hDD⟩ := hown
 have hk : ∀ p ∈ es, ∃ x, p.1 = Lit.string x := by
  intro p hp'
  have e : es = (es'.toList.map (rg Tryz.prog 9 heldE)).foldr DataW.insert [] := DataW.map.inj hDD
  rw [e] at hp'
  obtain ⟨x, hx, rfl⟩ := List.mem_map.1 (mem_sorted.1 hp')
  obtain ⟨y, hy⟩ := F.reads x hx
  rw [rg_of hy]
  obtain ⟨n, _, h2, _⟩ := Maps.keyOf_str Tryz.underlying9 (rd_key hy)
  exact ⟨n, h2⟩
 refine perm_strKeys hp hk (List.nodup_cons.2 ⟨List.not_mem_nil, List.nodup_nil⟩) fun y => ?_
 rw [(hD _).2]
 unfold oneM
 rw [sameStr]
 by_cases e : y = x <;> simp [e]
theorem keysOne_any {w : World} {mb : Nat} {id : ByteArray} {v : Value} (h : MapIs Tryz.prog w 9 mb 1 (oneM id.data.toList v)) :
  (Calls Tryz.prog 78 #[.map (some mb)] w fun e w' => e = .returned (.func (.func 111) #[] #[.pointer (some ⟨w.heap.size, 0, none⟩)]) ∧ w' = w.alloc (.cells #[.map (some mb)] 106)) ∧
  Calls Tryz.prog 77 #[.func (.func 111) #[] #[.pointer (some ⟨w.heap.size, 0, none⟩)]] (w.alloc (.cells #[.map (some mb)] 106)) fun e w' => ∃ a c, e = .returned (.slice a 1 c) ∧ Slc w' 1 (.slice a 1 c) 1 [.string id] ∧ Kept [] w w' := by
 obtain ⟨D, hown, hsz, hD⟩ := h
 have hperm := one_perm hown hD
 have hbl := hown.lt
 have hseq : SeqGives Fence.wide 2 Tryz.prog 111 #[.pointer (some ⟨w.heap.size, 0, none⟩)] encStr (fun ss => ss.Perm (strKeys D)) (Maps.size D) (w.alloc (.cells #[.map (some mb)] 106)) :=
  AnyZ.keys_gives (ρ := Tryz.keysA_ren) { Tryz.keysA with } Fence.wide _ trivial rfl (by omega) w.heap.size mb 1 D _ (by simp) (by simp) (by
   obtain ⟨es, clock, hb, Ft, hs, hDD⟩ := hown
   exact ⟨es, clock, (Below.heap_alloc _ _ mb hbl).trans hb, Ft, hs, hDD⟩)
 refine ⟨callsIn_wide.1 (AnyZ.keys_in Tryz.keysA Fence.wide 5 trivial rfl (some mb) w), ?_⟩
 have cS := AnyZ.sorted_in Tryz.sortedA Fence.wide 5 trivial trivial trivial trivial rfl (by omega) (sortsK _) (enters_of Tryz.func110 (by kernel_rfl) rfl) 111 #[.pointer (some ⟨w.heap.size, 0, none⟩)] trivial (enters_of Tryz.func111 (by kernel_rfl) rfl) _ _ (by rw [hsz]; simp only [maxLen]; omega) (by rw [hsz]; omega) _ hseq
 change CallsIn _ _ Tryz.prog 77 _ _ _ at cS
 refine (callsIn_wide.1 cS).mono ?_
 rintro e w1 ⟨v, ss, rfl, hS, hrow, hnil, hb⟩
 have e0 : [id.data.toList].mergeSort leB = [id.data.toList] := by simp
 have e1 : ss.mergeSort leB = [id.data.toList] := (mergeSort_of_perm (hS.trans hperm.symm)).trans e0
 have e2 : ss.length = 1 := (hS.trans hperm.symm).length_eq
 rw [show (fun x y : List UInt8 => decide (x ≤ y)) = leB from rfl, e1, e2] at hrow
 obtain ⟨va, vc, rfl, -, -⟩ := (Slc.of_row hrow).form
 have hs2 := Slc.of_row hrow
 have e3 : [id.data.toList].map encStr = [Value.string id] := by
  show [Value.string ⟨id.data.toList.toArray⟩] = _
  cases id; simp
 rw [e3] at hs2
 exact ⟨va, vc, rfl, hs2, ((Kept.refl [] w).alloc _).then (Kept.of_below (hb.mono (by simp)))⟩
open Go.RowKit
theorem tyRows : SliceTy Tryz.prog 66 65 35 64 (.agg (rowL ⟨#[]⟩ zeroKey).toArray) := ⟨Tryz.underlying66, by kernel_rfl, by kernel_rfl, by decide⟩
theorem list32 {α : Type} (r : List α) (h : r.length = 32) : ∃ x0 x1 x2 x3 x4 x5 x6 x7 x8 x9 x10 x11 x12 x13 x14 x15 x16 x17 x18 x19 x20 x21 x22 x23 x24 x25 x26 x27 x28 x29 x30 x31 : α, r = [x0, x1, x2, x3, x4, x5, x6, x7, x8, x9, x10, x11, x12, x13, x14, x15, x16, x17, x18, x19, x20, x21, x22, x23, x24, x25, x26, x27, x28, x29, x30, x31] := by
 rcases r with _ | ⟨x0, r⟩
 ·simp at h
 rcases r with _ | ⟨x1, r⟩
 ·simp at h
 rcases r with _ | ⟨x2, r⟩
 ·simp at h
 rcases r with _ | ⟨x3, r⟩
 ·simp at h
 rcases r with _ | ⟨x4, r⟩
 ·simp at h
 rcases r with _ | ⟨x5, r⟩
 ·simp at h
 rcases r with _ | ⟨x6, r⟩
 ·simp at h
 rcases r with _ | ⟨x7, r⟩
 ·simp at h
 rcases r with _ | ⟨x8, r⟩
 ·simp at h
 rcases r with _ | ⟨x9, r⟩
 ·simp at h
 rcases r with _ | ⟨x10, r⟩
 ·simp at h
 rcases r with _ | ⟨x11, r⟩
 ·simp at h
 rcases r with _ | ⟨x12, r⟩
 ·simp at h
 rcases r with _ | ⟨x13, r⟩
 ·simp at h
 rcases r with _ | ⟨x14, r⟩
 ·simp at h
 rcases r with _ | ⟨x15, r⟩
 ·simp at h
 rcases r with _ | ⟨x16, r⟩
 ·simp at h
 rcases r with _ | ⟨x17, r⟩
 ·simp at h
 rcases r with _ | ⟨x18, r⟩
 ·simp at h
 rcases r with _ | ⟨x19, r⟩
 ·simp at h
 rcases r with _ | ⟨x20, r⟩
 ·simp at h
 rcases r with _ | ⟨x21, r⟩
 ·simp at h
 rcases r with _ | ⟨x22, r⟩
 ·simp at h
 rcases r with _ | ⟨x23, r⟩
 ·simp at h
 rcases r with _ | ⟨x24, r⟩
 ·simp at h
 rcases r with _ | ⟨x25, r⟩
 ·simp at h
 rcases r with _ | ⟨x26, r⟩
 ·simp at h
 rcases r with _ | ⟨x27, r⟩
 ·simp at h
 rcases r with _ | ⟨x28, r⟩
 ·simp at h
 rcases r with _ | ⟨x29, r⟩
 ·simp at h
 rcases r with _ | ⟨x30, r⟩
 ·simp at h
 rcases r with _ | ⟨x31, r⟩
 ·simp at h
 rcases r with _ | ⟨y, r⟩
 ·exact ⟨x0, x1, x2, x3, x4, x5, x6, x7, x8, x9, x10, x11, x12, x13, x14, x15, x16, x17, x18, x19, x20, x21, x22, x23, x24, x25, x26, x27, x28, x29, x30, x31, rfl⟩
 ·simp at h
theorem built_row {id : ByteArray} {k : KeyS} (h : k.root.length = 32) : Tryz.prog.built 65 [(0, .string id), (1, .agg (keyA k))] = some (rowL id k).toArray := by
 obtain ⟨b, hh, r⟩ := k
 obtain ⟨x0, x1, x2, x3, x4, x5, x6, x7, x8, x9, x10, x11, x12, x13, x14, x15, x16, x17, x18, x19, x20, x21, x22, x23, x24, x25, x26, x27, x28, x29, x30, x31, rfl⟩ := list32 r h
 kernel_rfl
theorem filled_row {id : ByteArray} {k : KeyS} (h : k.root.length = 32) (z : Value) : Instr.fill (fun i => some (i * 35, 35)) ((Array.range (1 * 35)).map (z.cells[· % z.cells.size]!)) [(0, .agg (rowL id k).toArray)] = some (rowL id k).toArray := by
 have hs : (rowL id k).toArray.size = 35 := by simp [rowL_len h]
 obtain ⟨r, h1, h2, h3⟩ := Go.Great.fill_dense (s := 35) (by decide) [.agg (rowL id k).toArray] 0 ((Array.range (1 * 35)).map (z.cells[· % z.cells.size]!)) (by intro v hv; simp only [List.mem_singleton] at hv; subst hv; exact hs) (by simp)
 refine h1.trans (congrArg some (Array.ext_getElem? fun i => ?_))
 rw [h3 i]
 by_cases hi : i < 35
 ·rw [if_pos (by simp; omega), show i / 35 - 0 = 0 by omega, show i % 35 = i by omega]
  rfl
 ·rw [if_neg (by simp; omega), Array.getElem?_eq_none (by rw [Array.size_map, Array.size_range]; omega), Array.getElem?_eq_none (by rw [hs]; omega)]
theorem wpList_buildRow {ops : Array Oper} {rest : List Oper} {op : Oper} {a : Act} {w : World} {Q : Exit → Act → World → Prop} (hgd : op.guard = none) (x y : Operand) (ho : op.op = .build 65 #[(0, x), (1, y)]) {id : ByteArray} {k : KeyS} (hl : k.root.length = 32)
  (hx : a.eval x = .string id) (hy : a.eval y = .agg (keyA k)) (h : wpList Tryz.prog ops Q rest (a.put op.dst (.agg (rowL id k).toArray)) w) : wpList Tryz.prog ops Q (op :: rest) a w := by
 refine wpList_plain hgd fun K hK => ?_
 unfold Oper.wp execOp
 simp only [ho, Sem.run_bind, List.map_toArray, List.map_cons, List.map_nil, hx, hy]
 rw [run_build w _ _ (rowL id k).toArray (built_row hl)]
 exact hK _ _ h
theorem wpList_sliceRow {ops : Array Oper} {rest : List Oper} {op : Oper} {a : Act} {w : World} {Q : Exit → Act → World → Prop} (hgd : op.guard = none) (x : Operand) (ho : op.op = .buildSlice 66 1 #[(0, x)]) {id : ByteArray} {k : KeyS} (hl : k.root.length = 32)
  (hx : a.eval x = .agg (rowL id k).toArray) (h : wpList Tryz.prog ops Q rest (a.put op.dst (.slice (some ⟨w.heap.size, 0, none⟩) 1 1)) (w.alloc (.cells (rowL id k).toArray 65))) : wpList Tryz.prog ops Q (op :: rest) a w := by
 obtain ⟨ie, hie⟩ : ∃ ie, Tryz.prog.info? 65 = some ie := Option.isSome_iff_exists.1 (by kernel_rfl)
 have hsz : ie.size = 35 := by
  have := info35
  rw [hie] at this
  simpa using this
 obtain ⟨z, hz⟩ : ∃ z, ie.zero = some z := by
  have h1 : ((Tryz.prog.info? 65).bind (·.zero)).isSome = true := by kernel_rfl
  rw [hie] at h1
  exact Option.isSome_iff_exists.1 h1
 exact wpList_buildSlice hgd _ _ 1 #[(0, x)] ho (rowL id k).toArray ie z Tryz.underlying66 hie hz (by rw [hsz]; decide) (by rw [hsz]; decide) (by
  have h1 := filled_row (id := id) hl z
  simp only [List.map_toArray, List.map_cons, List.map_nil, hx, hsz]
  exact h1) h
theorem readKeys1_any {S : Nat → Prop} {w : World} {cs : List Value} {k : KeyS} (h : Rep 4 S w cs (rowsV (keyIdS k) (keyV k))) (hm : mayKey k = true) (hr : k.root.length = 32) (ht : Tabs w) (hks : KsAt w) :
  Calls Tryz.prog 33 #[.agg cs.toArray] w fun e w' => (∃ g o c, e = .returned (.tuple #[.slice (some ⟨g, o, none⟩) 1 c, .int .i64 0]) ∧ w'.rangeAt g o (rowL (keyIdS k) k)) ∧ Kept [] w w' := by
 have Gg := qI hr
 have CI : Hid (∀ w1, Kept [] w w1 → Calls Tryz.prog 14 #[.agg (keyA k)] w1 fun e w' => e = .returned (.string (keyIdS k)) ∧ Kept [] w1 w') := qI (fun w1 hk => keyId_any k (may_wf hm).1 hr w1 (ht.kept0 hk) (hks.kept0 hk))
 have CR : Hid (∀ w1 cs1, Rep 3 (fun _ => True) w1 cs1 (keyV k) → Calls Tryz.prog 9 #[.agg cs1.toArray] w1 fun e w' => e = .returned (.tuple #[.agg (keyA k), .int .i64 0]) ∧ Kept [] w1 w') := qI (fun w1 cs1 h1 => (readKey_any (n := 1) h1 (small_key k hr)).mono fun e w' ⟨h2, h3⟩ => ⟨by rw [readKey_keyV hm hr] at h2; exact h2, h3⟩)
 have Gj : Hid ((keyIdS k).size = 64) := qI (idS_size hm)
 clear hm hr ht hks
 revert h CI CR Gj
 generalize keyV k = X
 generalize keyIdS k = id
 intro h CI CR Gj
 obtain ⟨vl, vm, lcs, mcs, ho⟩ := h
 obtain ⟨pa, ca, gq, dm, rfl, rfl, rfl⟩ := ho.forms
 obtain ⟨z, rfl⟩ := List.length_eq_one_iff.1 (show mcs.length = 1 from ho.allm.1)
 obtain ⟨zk, zc⟩ := z
 obtain ⟨hz, hrp⟩ := ho.allm.2 0 (zk, zc) (id, X) rfl rfl
 obtain rfl : zk = id := hz
 have hrp2 : Rep 3 (fun _ => True) w zc X := Rep.mono hrp (fun _ _ _ => trivial)
 obtain ⟨k3, m3, s3, p3, i3, c3, q3, j3, e3, rfl⟩ := hrp2.conv
 have Je := qI hrp2
 obtain ⟨gm, om, rfl, hrg⟩ : ∃ gm om, gq = some ⟨gm, om, none⟩ ∧ w.rangeAt gm om [.string zk, .int .i64 k3, .int .i64 m3, .string s3, .slice p3 i3 c3, .slice q3 j3 e3] := by
  rcases ho.slcm.2 with ⟨h1, -⟩ | ⟨h1, -⟩ | ⟨g', o', cap, h1, -, -, h2, -⟩
  ·simp [rowsV, mapV] at h1
  ·simp [rowsV, mapV] at h1
  ·simp only [Value.slice.injEq] at h1
   exact ⟨g', o', h1.1, h2⟩
 have Jf := qI hrg
 clear ho hrp hrp2 hrg
 change Calls _ _ #[.agg #[.int .i64 6, .int .i64 0, .string ⟨#[]⟩, .slice pa 0 ca, .slice (some ⟨gm, om, none⟩) 1 dm]] _ _
 obtain ⟨W0, Gk⟩ : ∃ W0, Hid (W0 = w.alloc (.cells #[.int .i64 6, .int .i64 0, .string ⟨#[]⟩, .slice pa 0 ca, .slice (some ⟨gm, om, none⟩) 1 dm] 28)) := ⟨_, qI rfl⟩
 have Gl : Hid (Kept [] w W0) := qI (by rw [Gk.o]; exact (Kept.refl _ w).alloc _)
 have Gn : Hid (W0.heap[w.heap.size]? = some (.cells #[.int .i64 6, .int .i64 0, .string ⟨#[]⟩, .slice pa 0 ca, .slice (some ⟨gm, om, none⟩) 1 dm] 28 (0, 0))) := qI (by rw [Gk.o]; exact block_alloc rfl)
 have Jo : Hid (W0.heap.size = w.heap.size + 1) := qI (by rw [Gk.o]; simp)
 have hmm := @run_makeMap Tryz.prog
 obtain ⟨W1, Gm⟩ : ∃ W1, Hid (W1 = W0.alloc (.map #[] 0)) := ⟨_, qI rfl⟩
 have Gv : Hid (Kept [] W0 W1) := qI (by rw [Gm.o]; exact (Kept.refl _ _).alloc _)
 have Jg : Hid (MapIs Tryz.prog W1 9 W0.heap.size 0 (fun _ => none)) := qI (by rw [Gm.o]; exact mapIs_made _ _ _)
 have Jp : Hid (W1.heap.size = W0.heap.size + 1) := qI (by rw [Gm.o]; simp)
 have b0 := cell_head (o := 0) (v := .int .i64 6) Gn.o rfl
 have b4 := cell_head (o := 4) (v := .slice (some ⟨gm, om, none⟩) 1 dm) Gn.o rfl
 go_enter Tryz.func33, Tryz.ntmps33
 go_upto_region 1 with fail
 rw [← Gk.o]
 go_upto_region 4 with fail
 rw [← Gm.o]
 clear b0 b4 hmm
 have b4 := Gv.o.cell (cell_head (o := 4) (v := .slice (some ⟨gm, om, none⟩) 1 dm) Gn.o rfl) (by simp)
 go_wp2_with fail
 clear b4
 go_loopw [6, 7, 8, 9, 10, 27] (fun _ _ _ _ _ i wr => (i = .int .i64 0 ∧ MapIs Tryz.prog wr 9 W0.heap.size 0 (fun _ => none) ∧ Kept [] W0 wr) ∨ (i = .int .i64 1 ∧ MapIs Tryz.prog wr 9 W0.heap.size 1 (oneM zk.data.toList (.agg (keyA k))) ∧ Kept [] W0 wr)) (fun _ _ _ _ _ i _ => 1 - (intOf i).toNat)
 case atStart => exact .inl ⟨rfl, Jg.o, Gv.o⟩
 case round =>
  rcases hrel with ⟨rfl, hmp, hkr⟩ | ⟨rfl, hmp, hkr⟩
  ·have Gp := qI hmp
   have Gh := qI hkr
   clear hmp hkr
   have Ga : Hid (wr.rangeAt gm om [.string zk, .int .i64 k3, .int .i64 m3, .string s3, .slice p3 i3 c3, .slice q3 j3 e3]) := qI (fun j v hv => (Gl.o.then Gh.o).cell (Jf.o j v hv) (by simp))
   have q0 : wr.cell? ⟨gm, om, none⟩ = some (.string zk) := Ga.o 0 (.string zk) rfl
   have q1 := Ga.o 1 (.int .i64 k3) rfl
   have q2 := Ga.o 2 (.int .i64 m3) rfl
   have q3' := Ga.o 3 (.string s3) rfl
   have q4 := Ga.o 4 (.slice p3 i3 c3) rfl
   have q5 := Ga.o 5 (.slice q3 j3 e3) rfl
   obtain ⟨wb, Gq⟩ : ∃ wb, Hid (wb = wr.alloc (.cells #[.string zk, .int .i64 k3, .int .i64 m3, .string s3, .slice p3 i3 c3, .slice q3 j3 e3] 78)) := ⟨_, qI rfl⟩
   have Gw : Hid (Kept [] wr wb) := qI (by rw [Gq.o]; exact (Kept.refl _ _).alloc _)
   have Gc : Hid (wb.heap[wr.heap.size]? = some (.cells #[.string zk, .int .i64 k3, .int .i64 m3, .string s3, .slice p3 i3 c3, .slice q3 j3 e3] 78 (0, 0))) := qI (by rw [Gq.o]; exact block_alloc rfl)
   go_upto_region 7 with fail
   rw [← Gq.o]
   clear q0 q1 q2 q3' q4 q5
   have p0 := cell_head (o := 0) (v := .string zk) Gc.o rfl
   have p1 := cell_head (o := 1) (v := .int .i64 k3) Gc.o rfl
   have p2 := cell_head (o := 2) (v := .int .i64 m3) Gc.o rfl
   have p3' := cell_head (o := 3) (v := .string s3) Gc.o rfl
   have p4 := cell_head (o := 4) (v := .slice p3 i3 c3) Gc.o rfl
   have p5 := cell_head (o := 5) (v := .slice q3 j3 e3) Gc.o rfl
   have CRB := qI (CR.o wb [.int .i64 k3, .int .i64 m3, .string s3, .slice p3 i3 c3, .slice q3 j3 e3] (Je.o.kept0 ((Gl.o.then Gh.o).then Gw.o)))
   go_upto_region 8 with first
    | (go_at_call 9; refine CRB.o.mono ?_; rintro e w3 ⟨rfl, hk3⟩; have Gx := qI hk3; clear hk3)
    | (refine wpList_store34 (by rfl) (.tmp 7) (.tmp 35) (by rfl) (g := w3.heap.size) (k := k) (k0 := zeroKey) (block_alloc rfl) (by rfl) Gg.o (by rfl) (by rfl) ?_; intro w4 h4 hk4; have Jh := qI h4; have Gy : Hid (Kept [] w3 w4) := qI (((Kept.refl [] w3).alloc _).trans hk4 (by intro i hi; simp at hi; subst hi; exact .inr (Nat.le_refl _))); clear h4 hk4; simp only [Act.put])
   have Gd : Hid (Kept [] wr w4) := qI ((Gw.o.then Gx.o).then Gy.o)
   have Gz := qI ((Gx.o.then Gy.o).heap Gc.o (by simp))
   clear p0 p1 p2 p3' p4 p5
   have p0 := cell_head (o := 0) (v := .string zk) Gz.o rfl
   have Ja := qI (Gp.o.kept0 Gd.o)
   have Jb := qI (keyOfStr zk (by rw [Gj.o]; decide))
   have hlk : (Instr.lookup 106 (.map (some W0.heap.size)) (.string zk) true).run Tryz.prog w4 = .ok (.tuple #[.agg (keyA zeroKey), .bool false]) w4 :=
    (Ja.o.at.lookup keyStr Tryz.underlying106 (z := .agg (keyA zeroKey)) (Tryz.zeroValue24 w4) Jb.o).1
   go_upto_region 9 with first
    | (refine wpList_store34 (by rfl) (.tmp 9) (.tmp 42) (by rfl) (g := w4.heap.size) (k := zeroKey) (k0 := zeroKey) (block_alloc rfl) (by rfl) (by rfl) (by rfl) (by rfl) ?_; intro w6 h6 hk6; have Ge : Hid (Kept [] w4 w6) := qI (((Kept.refl [] w4).alloc _).trans hk6 (by intro i hi; simp at hi; subst hi; exact .inr (Nat.le_refl _))); clear h6 hk6; simp only [Act.put])
   clear hlk p0
   have Gf := qI (Jh.o.kept0 Ge.o)
   have Gr := qI (Ge.o.heap Gz.o (by simp))
   have Ji : Hid (Kept [] w w6) := qI (((Gl.o.then Gh.o).then Gd.o).then Ge.o)
   generalize hr3 : w3.heap.size = r3 at Gf
   generalize hrp : wr.heap.size = rp at Gr
   obtain ⟨hq1, hq2⟩ := str_eq (rfl : zk = zk)
   refine wp_grows (n := 79) 11 [Fact.is (.bool false),
    Fact.is (.bool false),
    Fact.is (.int .i64 0),
    Fact.is (.bool false),
    Fact.is (.bool false),
    Fact.is (.bool false),
    Fact.is (.agg (keyA k)),
    Fact.is (.string zk),
    Fact.is (.pointer (some ⟨rp, 0, none⟩)),
    Fact.is (.string zk),
    Fact.is (.bool false)] (by kernel_rfl) rfl (by kernel_rfl) (fun x => by simp only [List.map, puts, Act.put, List.setIfInBounds_toArray, List.set_cons_zero, List.set_cons_succ]; rfl) ?_ ?_
   ·refine ⟨fun x w2 hkw b hd => ?_, fun x w2 hkw b hd => ?_, fun x w2 hkw b hd => ?_, fun x w2 hkw b hd => ?_, fun x w2 hkw b hd => ?_, fun x w2 hkw b hd => ?_, fun x w2 hkw b hd => ?_, fun x w2 hkw b hd => ?_, fun x w2 hkw b hd => ?_, fun x w2 hkw b hd => ?_, fun x w2 hkw b hd => ?_, trivial⟩
    ·go_wp2_with fail
     exact ⟨rfl, Kept.refl _ _⟩
    ·have d0 : x 0 = _ := hd 0 (by kernel_rfl)
     go_wp2_with fail
     exact ⟨rfl, Kept.refl _ _⟩
    ·have d1 : x 1 = _ := hd 1 (by kernel_rfl)
     go_wp2_with fail
     exact ⟨rfl, Kept.refl _ _⟩
    ·have d1 : x 1 = _ := hd 1 (by kernel_rfl)
     have d2 : x 2 = _ := hd 2 (by kernel_rfl)
     go_wp2_with fail
     exact ⟨rfl, Kept.refl _ _⟩
    ·have d1 : x 1 = _ := hd 1 (by kernel_rfl)
     have d3 : x 3 = _ := hd 3 (by kernel_rfl)
     go_wp2_with fail
     exact ⟨rfl, Kept.refl _ _⟩
    ·have d4 : x 4 = _ := hd 4 (by kernel_rfl)
     go_wp2_with fail
     exact ⟨rfl, Kept.refl _ _⟩
    ·have Jj := qI (Gf.o.kept0 hkw)
     have d5 : x 5 = _ := hd 5 (by kernel_rfl)
     refine wpList_load34g (by simp only [Nat.reduceAdd, Nat.zero_add]; revert d5; generalize x 5 = vv; rintro rfl; rfl) (.tmp 7) (by rfl) Jj.o Gg.o rfl ?_
     go_wp2_with fail
     exact ⟨rfl, Kept.refl _ _⟩
    ·have d5 : x 5 = _ := hd 5 (by kernel_rfl)
     have d6 : x 6 = _ := hd 6 (by kernel_rfl)
     have CX := CI.o w2 (Ji.o.then hkw)
     go_wp2_with (go_at_call 14; refine CX.mono ?_; rintro e w8 ⟨rfl, hk8⟩; have Gs := qI hk8; clear hk8)
     exact ⟨rfl, Gs.o⟩
    ·have d5 : x 5 = _ := hd 5 (by kernel_rfl)
     go_wp2_with fail
     exact ⟨rfl, Kept.refl _ _⟩
    ·have y0 := cell_head (o := 0) (v := .string zk) (hkw.heap Gr.o (by simp)) rfl
     have d5 : x 5 = _ := hd 5 (by kernel_rfl)
     have d8 : x 8 = _ := hd 8 (by kernel_rfl)
     go_wp2_with fail
     exact ⟨rfl, Kept.refl _ _⟩
    ·have d5 : x 5 = _ := hd 5 (by kernel_rfl)
     have d7 : x 7 = _ := hd 7 (by kernel_rfl)
     have d9 : x 9 = _ := hd 9 (by kernel_rfl)
     go_wp2_with fail
     exact ⟨rfl, Kept.refl _ _⟩
   ·intro x w7 hkw b hd hwin
    have d5 : x 5 = _ := hd 5 (by decide)
    have d10 : x 10 = _ := hd 10 (by decide)
    have Gb := qI hkw
    clear hd hwin hkw
    change wpList _ _ _ [_] _ _
    obtain ⟨w8, hrun, hM8, hk8, -⟩ := (Ja.o.kept0 (Ge.o.then Gb.o)).update keyStr Tryz.underlying106 (by decide) Jb.o (.agg (keyA k))
    have Jk : Hid (MapIs Tryz.prog w8 9 W0.heap.size 1 (oneM zk.data.toList (.agg (keyA k)))) := qI hM8
    have Gs := qI hk8
    have Gt := qI (Gf.o.kept0 Gb.o)
    have y0 := cell_head (o := 0) (v := .string zk) (Gb.o.heap Gr.o (by simp)) rfl
    clear hM8 hk8
    go_wp2_with (refine wpList_load34 (by rfl) (.tmp 7) (by rfl) Gt.o Gg.o (by rfl) ?_)
    case roundEnd => exact ⟨.inr ⟨rfl, Jk.o, (((Gh.o.then Gd.o).then Ge.o).then Gb.o).trans Gs.o (by intro i hi; simp at hi; subst hi; exact .inr (Nat.le_refl _))⟩, by decide⟩
  ·have Gh := qI hkr
   have Gp := qI hmp
   have Jc := qI (keysOne_any hmp)
   clear hmp hkr
   go_wp2_with first
    | (go_at_call 77; refine Jc.o.2.mono ?_; rintro e w5 ⟨va, vc, rfl, hs5, hk5⟩; have Jl := qI hs5; have Jd := qI hk5; clear hs5 hk5)
    | (go_at_call 78; refine Jc.o.1.mono ?_; rintro e w4 ⟨rfl, rfl⟩)
   go_loopw [11, 13, 65] (fun q _ i wr => (i = .int .i64 0 ∧ q = .slice none 0 0 ∧ Kept [] w5 wr) ∨ (i = .int .i64 1 ∧ ∃ (gr or' cr : Nat), q = .slice (some ⟨gr, or', none⟩) 1 cr ∧ wr.rangeAt gr or' (rowL zk k) ∧ Kept [] w5 wr)) (fun _ _ i _ => 1 - (intOf i).toNat)
   case atStart => exact .inl ⟨rfl, rfl, Kept.refl _ _⟩
   case round =>
    rcases hrel with ⟨rfl, rfl, hkq⟩ | ⟨rfl, gr, or', cr, rfl, hrow, hkq⟩
    ·have Gi := qI hkq
     clear hkq
     obtain ⟨gs, os, rfl, z0⟩ : ∃ gs os, va = some ⟨gs, os, none⟩ ∧ wr.cell? ⟨gs, os, none⟩ = some (.string zk) := by
      rcases Jl.o.2 with ⟨h1, -⟩ | ⟨h1, -⟩ | ⟨g', o', cap, h1, -, -, h2, -⟩
      ·simp at h1
      ·simp at h1
      ·simp only [Value.slice.injEq] at h1
       exact ⟨g', o', h1.1, Gi.o.cell (h2 0 _ rfl) (by simp)⟩
     have Jm := qI (Gp.o.kept0 (Jd.o.then Gi.o))
     have hlk : (Instr.lookup 106 (.map (some W0.heap.size)) (.string zk) false).run Tryz.prog wr = .ok (.agg (keyA k)) wr := by
      have h1 := (Jm.o.at.lookup keyStr Tryz.underlying106 (z := .agg (keyA zeroKey)) (Tryz.zeroValue24 wr) (keyOfStr zk (by rw [Gj.o]; decide))).2
      rw [h1, oneM, sameStr]
      simp
     go_wp2_with first
      | (refine wpList_buildRow (by rfl) (.tmp 70) (.tmp 73) (by rfl) Gg.o (by rfl) (by rfl) ?_)
      | (refine wpList_sliceRow (by rfl) (.tmp 74) (by rfl) Gg.o (by rfl) ?_)
      | (at_builtin; refine wpList_append_slc tyRows (base := wr.heap.size) (v := .slice none 0 0) (n := 0) (xs := []) (World.ownsRow_nil _ _ _ _) (slc_new wr (rowL zk k) 35 1 _ _ rfl (by rw [rowL_len Gg.o]) (by decide)) (rowL_one zk k) (by decide) (by decide) ((Kept.refl [] wr).alloc _).size rfl _ _ rfl rfl rfl ?_; intro v6 w6 hown hk6 _ hb6; obtain ⟨a6, c6, rfl, -, -⟩ := (Slc.of_row hown).form; have Gu := qI (Slc.of_row hown); have Ge := qI hk6; clear hown hk6 hb6)
     case roundEnd =>
      obtain ⟨gr, or', hrw, hrng⟩ : ∃ gr or', a6 = some ⟨gr, or', none⟩ ∧ w6.rangeAt gr or' (rowL zk k) := by
       rcases Gu.o.2 with ⟨h1, -⟩ | ⟨h1, -⟩ | ⟨g', o', cap, h1, -, -, h2, -⟩
       ·simp at h1
       ·simp at h1
       ·simp only [Value.slice.injEq] at h1
        exact ⟨g', o', h1.1, h2⟩
      exact ⟨.inr ⟨rfl, gr, or', c6, by rw [hrw], hrng, ((Gi.o.alloc _).trans' (Ge.o.mono (by simp [Value.ownBlock])))⟩, by decide⟩
    ·have Gi := qI hkq
     have Jn := qI hrow
     clear hkq hrow
     go_wp2_with fail
     refine bodyPost_ret (v := .tuple #[.slice (some ⟨gr, or', none⟩) 1 cr, .int .i64 0]) (by simp [results, Tryz.results33, go_sem]) rfl ?_
     exact ⟨⟨_, _, _, rfl, Jn.o⟩, ((Gl.o.then Gh.o).then Jd.o).then Gi.o⟩
theorem flist_pos {n : Nat} {v : VS (V n)} {s : ByteArray} {most : Int} {x : V n} (h : getV v s = some x) (h3 : kindV n x = 5) (h0 : (lenV n x : Int) ≤ most) : flist v false s most = (some x, false) := by
 unfold flist fget
 rw [h]
 simp only [Bool.false_eq_true, if_false]
 rw [if_pos ⟨h3, by simp [h0]⟩]
theorem readRole_roleV {r : RoleS} (hm : mayRole r = true) : readRoleV (n := 1) (roleV r) = some r := by
 obtain ⟨h1, h2, h3, -, -⟩ := mayRole_ids hm
 have t1 : fint (n := 2) (roleV r) false ⟨#[116, 104, 114, 101, 115, 104, 111, 108, 100]⟩ 1 16 = (r.thr, false) := fint_pos (n := 2) (x := iV 1 r.thr) (by kernel_rfl) rfl h2 h3
 have t2 : flist (n := 2) (roleV r) false ⟨#[107, 101, 121, 105, 100, 115]⟩ 16 = (some (keysV 0 r.keys), false) := flist_pos (n := 2) (x := keysV 0 r.keys) (by kernel_rfl) rfl (by
  show (((r.keys.map (tV 0)).length : Nat) : Int) ≤ 16
  rw [List.length_map]; omega)
 have e1 : (r.keys.map (tV 0)).map (strV 1) = r.keys := by
  rw [List.map_map]
  exact (List.map_congr_left (fun s _ => rfl)).trans (List.map_id _)
 have e2 : (r.keys.map (tV 0)).any (fun x => decide (kindV 1 x ≠ 4)) = false := by
  rw [List.any_eq_false]
  intro x hx
  obtain ⟨s, -, rfl⟩ := List.mem_map.1 hx
  have : kindV 1 (tV 0 s) = 4 := rfl
  simp [this]
 unfold readRoleV
 rw [show decide ((roleV r : VS (V 2)).kind ≠ 6) = false from rfl, t1]
 simp only
 rw [t2]
 show (if (false || (r.keys.map (tV 0)).any (fun x => decide (kindV 1 x ≠ 4))) = false ∧ mayRole ⟨(r.keys.map (tV 0)).map (strV 1), r.thr⟩ = true then some (⟨(r.keys.map (tV 0)).map (strV 1), r.thr⟩ : RoleS) else none) = _
 rw [e1, e2]
 rw [if_pos ⟨rfl, hm⟩]
theorem isId_key {k : KeyS} (h : mayKey k = true) : isIdB (keyIdS k) = true := by
 unfold isIdB keyIdS
 rw [if_pos h, unhex_hex]
 simp [shaL_len]
def oneRole (id : ByteArray) : RoleS := ⟨[id], 1⟩
theorem may_oneRole {id : ByteArray} (h : isIdB id = true) : mayRole (oneRole id) = true := by
 simp [mayRole, oneRole, idsGo, h]
def key7 : KeyS := ⟨8, 1, 7 :: List.replicate 31 0⟩
theorem key7_may : mayKey key7 = true := by decide
theorem key7_len : key7.root.length = 32 := rfl
theorem info5 : (Tryz.prog.info? 28).map (·.size) = some 5 := by kernel_rfl
theorem info2 : (Tryz.prog.info? 43).map (·.size) = some 2 := by kernel_rfl
abbrev ValAt (w : World) (g : Nat) (k m : Int) (s : ByteArray) (a b : Value) : Prop := w.heap[g]? = some (.cells #[.int .i64 k, .int .i64 m, .string s, a, b] 28 (0, 0))
abbrev RolAt (w : World) (g : Nat) (a : Value) (n : Int) : Prop := w.heap[g]? = some (.cells #[a, .int .i64 n] 43 (0, 0))
theorem wpList_store5 {ops : Array Oper} {rest : List Oper} {op : Oper} {a : Act} {w : World} {Q : Exit → Act → World → Prop} (hgd : op.guard = none) (x y : Operand) (ho : op.op = .store 28 x y) {g : Nat} {k m : Int} {s : ByteArray} {p q : Option Addr} {i c j d : Nat} (h0 : ValAt w g 0 0 ⟨#[]⟩ (.slice none 0 0) (.slice none 0 0))
  (hx : a.eval x = .pointer (some ⟨g, 0, none⟩)) (hy : a.eval y = .agg #[.int .i64 k, .int .i64 m, .string s, .slice p i c, .slice q j d]) (h : ∀ w', ValAt w' g k m s (.slice p i c) (.slice q j d) → Kept [g] w w' → wpList Tryz.prog ops Q rest (a.put op.dst undef) w') : wpList Tryz.prog ops Q (op :: rest) a w := by
 refine wpList_store_mid hgd 28 x y ho g 0 _ hx hy (fun z hz => ?_) info5 ?_ (h _ (put5_at h0 k m s (.slice p i c) (.slice q j d)) (setCells_kept _ _ _ _))
 ·rw [Nat.zero_add]
  refine ⟨?_, free_head h0⟩
  have hz' : z < 5 := hz
  rw [cell_head (v := (#[Value.int .i64 0, .int .i64 0, .string ⟨#[]⟩, .slice none 0 0, .slice none 0 0] : Array Value)[z]) h0 (by simp [hz'])]
  rfl
 ·exact all_oneCell_toArray (by intro v hv; simp only [List.mem_cons, List.not_mem_nil, or_false] at hv; rcases hv with rfl | rfl | rfl | rfl | rfl <;> rfl)
theorem wpList_store2 {ops : Array Oper} {rest : List Oper} {op : Oper} {a : Act} {w : World} {Q : Exit → Act → World → Prop} (hgd : op.guard = none) (x y : Operand) (ho : op.op = .store 43 x y) {g : Nat} {n : Int} {p : Option Addr} {i c : Nat} (h0 : RolAt w g (.slice none 0 0) 0)
  (hx : a.eval x = .pointer (some ⟨g, 0, none⟩)) (hy : a.eval y = .agg #[.slice p i c, .int .i64 n]) (h : ∀ w', RolAt w' g (.slice p i c) n → Kept [g] w w' → wpList Tryz.prog ops Q rest (a.put op.dst undef) w') : wpList Tryz.prog ops Q (op :: rest) a w := by
 refine wpList_store_mid hgd 43 x y ho g 0 _ hx hy (fun z hz => ?_) info2 ?_ (h _ (put2_at h0 (.slice p i c) (.int .i64 n)) (setCells_kept _ _ _ _))
 ·rw [Nat.zero_add]
  refine ⟨?_, free_head h0⟩
  have hz' : z < 2 := hz
  rw [cell_head (v := (#[Value.slice none 0 0, .int .i64 0] : Array Value)[z]) h0 (by simp [hz'])]
  rfl
 ·exact all_oneCell_toArray (by intro v hv; simp only [List.mem_cons, List.not_mem_nil, or_false] at hv; rcases hv with rfl | rfl <;> rfl)
theorem built_root : Tryz.prog.built 22 [(0, .int .u8 7)] = some (key7.root.map bv).toArray := by kernel_rfl
theorem built_key7 : Tryz.prog.built 24 [(0, .int .i64 8), (1, .int .i64 1), (2, .agg (key7.root.map bv).toArray)] = some (keyA key7) := by kernel_rfl
theorem wpList_root7 {ops : Array Oper} {rest : List Oper} {op : Oper} {a : Act} {w : World} {Q : Exit → Act → World → Prop} (hgd : op.guard = none) (x : Operand) (ho : op.op = .build 22 #[(0, x)]) (hx : a.eval x = .int .u8 7) (h : wpList Tryz.prog ops Q rest (a.put op.dst (.agg (key7.root.map bv).toArray)) w) : wpList Tryz.prog ops Q (op :: rest) a w := by
 refine wpList_plain hgd fun K hK => ?_
 unfold Oper.wp execOp
 simp only [ho, Sem.run_bind, List.map_toArray, List.map_cons, List.map_nil, hx]
 rw [run_build w _ _ _ built_root]
 exact hK _ _ h
theorem wpList_key7 {ops : Array Oper} {rest : List Oper} {op : Oper} {a : Act} {w : World} {Q : Exit → Act → World → Prop} (hgd : op.guard = none) (x y z : Operand) (ho : op.op = .build 24 #[(0, x), (1, y), (2, z)]) (hx : a.eval x = .int .i64 8) (hy : a.eval y = .int .i64 1) (hz : a.eval z = .agg (key7.root.map bv).toArray) (h : wpList Tryz.prog ops Q rest (a.put op.dst (.agg (keyA key7))) w) : wpList Tryz.prog ops Q (op :: rest) a w := by
 refine wpList_plain hgd fun K hK => ?_
 unfold Oper.wp execOp
 simp only [ho, Sem.run_bind, List.map_toArray, List.map_cons, List.map_nil, hx, hy, hz]
 rw [run_build w _ _ _ built_key7]
 exact hK _ _ h
theorem wpList_eql7 {ops : Array Oper} {rest : List Oper} {op : Oper} {a : Act} {w : World} {Q : Exit → Act → World → Prop} (hw : Region.wanted op (yielded ops a.tmps) = true) (i j : Nat) (ho : op.op = .binOp .eql 24 (.tmp i) (.tmp j) 24) (hx : a.eval (.tmp i) = .agg (keyA key7)) (hy : a.eval (.tmp j) = .agg (keyA key7)) (h : wpList Tryz.prog ops Q rest (a.put op.dst (.bool true)) w) : wpList Tryz.prog ops Q (op :: rest) a w :=
 BigFrame.wpList_want hw fun K hK => by
  have hr : (execOp a.eval op).run Tryz.prog w = .ok (.value (.bool true)) w := by
   unfold execOp
   simp only [ho, hx, hy]
   kernel_rfl
  unfold Oper.wp
  rw [hr]
  exact hK _ _ h
theorem wpList_split {P : Program} {ops : Array Oper} {Q : Exit → Act → World → Prop} : ∀ (l1 l2 : List Oper) (a : Act) (w : World), wpList P ops (fun e a w => e = .normal ∧ wpList P ops Q l2 a w) l1 a w → wpList P ops Q (l1 ++ l2) a w
 | [], l2, a, w, h => h.2
 | o :: l1, l2, a, w, h => by
  rw [List.cons_append]
  unfold wpList at h ⊢
  split at h
  ·rename_i hw
   rw [if_pos hw]
   rcases h with h | h
   ·refine .inl ?_
    unfold Oper.wp at *
    generalize (execOp a.eval o).run P w = r at *
    cases r with
    | ok n w' =>
     cases n <;> simp only [Oper.upon] at h ⊢
     case value v => exact wpList_split l1 l2 _ _ h
     case skip => exact wpList_split l1 l2 _ _ h
     case defer d => exact wpList_split l1 l2 _ _ h
     case enter f args =>
      exact Calls.mono h (fun e w'' he => by
       cases e
       all_goals first
        | exact wpList_split l1 l2 _ _ he
        | exact nomatch he.1
        | exact (fun ⟨_, _, h⟩ => nomatch h.1) he)
     case row r args => exact Rows.mono h (fun _ _ he => wpList_split l1 l2 _ _ he)
    | halt x w' => cases x <;> simp only [Oper.upon] at h ⊢ <;> exact nomatch h.1
   ·exact .inr ⟨h.1, (fun ⟨_, _, h⟩ => nomatch h.1) h.2⟩
  ·rename_i hw
   rw [if_neg hw]
   exact wpList_split l1 l2 _ _ h
theorem wpList_at {P : Program} {ops : Array Oper} {Q : Exit → Act → World → Prop} (n : Nat) {l : List Oper} {a : Act} {w : World} (h : wpList P ops (fun e a w => e = .normal ∧ Hid (wpList P ops Q (l.drop n) a w)) (l.take n) a w) : wpList P ops Q l a w := by
 have := wpList_split (l.take n) (l.drop n) a w (by
  have e : (fun e a w => e = Exit.normal ∧ Hid (wpList P ops Q (l.drop n) a w)) = (fun e a w => e = Exit.normal ∧ wpList P ops Q (l.drop n) a w) := by
   funext e a w
   exact propext ⟨fun h => ⟨h.1, h.2.o⟩, fun h => ⟨h.1, qI h.2⟩⟩
  rw [e] at h
  exact h)
 rwa [List.take_append_drop] at this
end Go.Proofs.YtckbnjipecclaaaGreatDoor

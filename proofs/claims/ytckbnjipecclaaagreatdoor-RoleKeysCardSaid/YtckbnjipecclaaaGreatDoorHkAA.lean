/- Parts of one proof, merged: XIR XJM XJN XGP. -/
import Derived.Test.YtckbnjipecclaaaGreatDoorHkZ
import Derived.Great.BuildSlice
import Derived.Test.YtckbnjipecclaaaGreatDoorHkX
import Derived.Test.YtckbnjipecclaaaGreatDoorHkW
set_option linter.all false
set_option maxHeartbeats 12800000
set_option maxRecDepth 10000
set_option linter.unusedVariables false
set_option linter.unusedSimpArgs false
set_option linter.unnecessarySimpa false
namespace Go.Proofs.YtckbnjipecclaaaGreatDoor
open Go.RowKit
theorem tyRows : SliceTy Tryz.prog 66 65 35 64 (.agg (rowL ⟨#[]⟩ zeroKey).toArray) := ⟨Tryz.underlying66, by kernel_rfl, by kernel_rfl, by decide⟩
theorem list32 {α : Type} (r : List α) (h : r.length = 32) : ∃ x0 x1 x2 x3 x4 x5 x6 x7 x8 x9 x10 x11 x12 x13 x14 x15 x16 x17 x18 x19 x20 x21 x22 x23 x24 x25 x26 x27 x28 x29 x30 x31 : α, r = [x0, x1, x2, x3, x4, x5, x6, x7, x8, x9, x10, x11, x12, x13, x14, x15, x16, x17, x18, x19, x20, x21, x22, x23, x24, x25, x26, x27, x28, x29, x30, x31] := by
 rcases r with _ | ⟨x0, r⟩
 ·simp at h
 rcases r with _ | ⟨x1, r⟩
 ·simp at h
 rcases r with _ | ⟨x2, r⟩
 ·simp at h
 rcases r with _ | ⟨x3, r⟩
 ·simp at h
 rcases r with _ | ⟨x4, r⟩
 ·simp at h
 rcases r with _ | ⟨x5, r⟩
 ·simp at h
 rcases r with _ | ⟨x6, r⟩
 ·simp at h
 rcases r with _ | ⟨x7, r⟩
 ·simp at h
 rcases r with _ | ⟨x8, r⟩
 ·simp at h
 rcases r with _ | ⟨x9, r⟩
 ·simp at h
 rcases r with _ | ⟨x10, r⟩
 ·simp at h
 rcases r with _ | ⟨x11, r⟩
 ·simp at h
 rcases r with _ | ⟨x12, r⟩
 ·simp at h
 rcases r with _ | ⟨x13, r⟩
 ·simp at h
 rcases r with _ | ⟨x14, r⟩
 ·simp at h
 rcases r with _ | ⟨x15, r⟩
 ·simp at h
 rcases r with _ | ⟨x16, r⟩
 ·simp at h
 rcases r with _ | ⟨x17, r⟩
 ·simp at h
 rcases r with _ | ⟨x18, r⟩
 ·simp at h
 rcases r with _ | ⟨x19, r⟩
 ·simp at h
 rcases r with _ | ⟨x20, r⟩
 ·simp at h
 rcases r with _ | ⟨x21, r⟩
 ·simp at h
 rcases r with _ | ⟨x22, r⟩
 ·simp at h
 rcases r with _ | ⟨x23, r⟩
 ·simp at h
 rcases r with _ | ⟨x24, r⟩
 ·simp at h
 rcases r with _ | ⟨x25, r⟩
 ·simp at h
 rcases r with _ | ⟨x26, r⟩
 ·simp at h
 rcases r with _ | ⟨x27, r⟩
 ·simp at h
 rcases r with _ | ⟨x28, r⟩
 ·simp at h
 rcases r with _ | ⟨x29, r⟩
 ·simp at h
 rcases r with _ | ⟨x30, r⟩
 ·simp at h
 rcases r with _ | ⟨x31, r⟩
 ·simp at h
 rcases r with _ | ⟨y, r⟩
 ·exact ⟨x0, x1, x2, x3, x4, x5, x6, x7, x8, x9, x10, x11, x12, x13, x14, x15, x16, x17, x18, x19, x20, x21, x22, x23, x24, x25, x26, x27, x28, x29, x30, x31, rfl⟩
 ·simp at h
theorem built_row {id : ByteArray} {k : KeyS} (h : k.root.length = 32) : Tryz.prog.built 65 [(0, .string id), (1, .agg (keyA k))] = some (rowL id k).toArray := by
 obtain ⟨b, hh, r⟩ := k
 obtain ⟨x0, x1, x2, x3, x4, x5, x6, x7, x8, x9, x10, x11, x12, x13, x14, x15, x16, x17, x18, x19, x20, x21, x22, x23, x24, x25, x26, x27, x28, x29, x30, x31, rfl⟩ := list32 r h
 kernel_rfl
theorem filled_row {id : ByteArray} {k : KeyS} (h : k.root.length = 32) (z : Value) : Instr.fill (fun i => some (i * 35, 35)) ((Array.range (1 * 35)).map (z.cells[· % z.cells.size]!)) [(0, .agg (rowL id k).toArray)] = some (rowL id k).toArray := by
 have hs : (rowL id k).toArray.size = 35 := by simp [rowL_len h]
 obtain ⟨r, h1, h2, h3⟩ := Go.Great.fill_dense (s := 35) (by decide) [.agg (rowL id k).toArray] 0 ((Array.range (1 * 35)).map (z.cells[· % z.cells.size]!)) (by intro v hv; simp only [List.mem_singleton] at hv; subst hv; exact hs) (by simp)
 refine h1.trans (congrArg some (Array.ext_getElem? fun i => ?_))
 rw [h3 i]
 by_cases hi : i < 35
 ·rw [if_pos (by simp; omega), show i / 35 - 0 = 0 by omega, show i % 35 = i by omega]
  rfl
 ·rw [if_neg (by simp; omega), Array.getElem?_eq_none (by rw [Array.size_map, Array.size_range]; omega), Array.getElem?_eq_none (by rw [hs]; omega)]
theorem wpList_buildRow {ops : Array Oper} {rest : List Oper} {op : Oper} {a : Act} {w : World} {Q : Exit → Act → World → Prop} (hgd : op.guard = none) (x y : Operand) (ho : op.op = .build 65 #[(0, x), (1, y)]) {id : ByteArray} {k : KeyS} (hl : k.root.length = 32)
  (hx : a.eval x = .string id) (hy : a.eval y = .agg (keyA k)) (h : wpList Tryz.prog ops Q rest (a.put op.dst (.agg (rowL id k).toArray)) w) : wpList Tryz.prog ops Q (op :: rest) a w := by
 refine wpList_plain hgd fun K hK => ?_
 unfold Oper.wp execOp
 simp only [ho, Sem.run_bind, List.map_toArray, List.map_cons, List.map_nil, hx, hy]
 rw [run_build w _ _ (rowL id k).toArray (built_row hl)]
 exact hK _ _ h
theorem wpList_sliceRow {ops : Array Oper} {rest : List Oper} {op : Oper} {a : Act} {w : World} {Q : Exit → Act → World → Prop} (hgd : op.guard = none) (x : Operand) (ho : op.op = .buildSlice 66 1 #[(0, x)]) {id : ByteArray} {k : KeyS} (hl : k.root.length = 32)
  (hx : a.eval x = .agg (rowL id k).toArray) (h : wpList Tryz.prog ops Q rest (a.put op.dst (.slice (some ⟨w.heap.size, 0, none⟩) 1 1)) (w.alloc (.cells (rowL id k).toArray 65))) : wpList Tryz.prog ops Q (op :: rest) a w := by
 obtain ⟨ie, hie⟩ : ∃ ie, Tryz.prog.info? 65 = some ie := Option.isSome_iff_exists.1 (by kernel_rfl)
 have hsz : ie.size = 35 := by
  have := info35
  rw [hie] at this
  simpa using this
 obtain ⟨z, hz⟩ : ∃ z, ie.zero = some z := by
  have h1 : ((Tryz.prog.info? 65).bind (·.zero)).isSome = true := by kernel_rfl
  rw [hie] at h1
  exact Option.isSome_iff_exists.1 h1
 exact wpList_buildSlice hgd _ _ 1 #[(0, x)] ho (rowL id k).toArray ie z Tryz.underlying66 hie hz (by rw [hsz]; decide) (by rw [hsz]; decide) (by
  have h1 := filled_row (id := id) hl z
  simp only [List.map_toArray, List.map_cons, List.map_nil, hx, hsz]
  exact h1) h
theorem readKeys1_any {S : Nat → Prop} {w : World} {cs : List Value} {k : KeyS} (h : Rep 4 S w cs (rowsV (keyIdS k) (keyV k))) (hm : mayKey k = true) (hr : k.root.length = 32) (ht : Tabs w) (hks : KsAt w) :
  Calls Tryz.prog 33 #[.agg cs.toArray] w fun e w' => (∃ g o c, e = .returned (.tuple #[.slice (some ⟨g, o, none⟩) 1 c, .int .i64 0]) ∧ w'.rangeAt g o (rowL (keyIdS k) k)) ∧ Kept [] w w' := by
 have Gb := qI hr
 have CI : Hid (∀ w1, Kept [] w w1 → Calls Tryz.prog 14 #[.agg (keyA k)] w1 fun e w' => e = .returned (.string (keyIdS k)) ∧ Kept [] w1 w') := qI (fun w1 hk => keyId_any k (may_wf hm).1 hr w1 (ht.kept0 hk) (hks.kept0 hk))
 have CR : Hid (∀ w1 cs1, Rep 3 (fun _ => True) w1 cs1 (keyV k) → Calls Tryz.prog 9 #[.agg cs1.toArray] w1 fun e w' => e = .returned (.tuple #[.agg (keyA k), .int .i64 0]) ∧ Kept [] w1 w') := qI (fun w1 cs1 h1 => (readKey_any (n := 1) h1 (small_key k hr)).mono fun e w' ⟨h2, h3⟩ => ⟨by rw [readKey_keyV hm hr] at h2; exact h2, h3⟩)
 have Gq : Hid ((keyIdS k).size = 64) := qI (idS_size hm)
 clear hm hr ht hks
 revert h CI CR Gq
 generalize keyV k = X
 generalize keyIdS k = id
 intro h CI CR Gq
 obtain ⟨vl, vm, lcs, mcs, ho⟩ := h
 obtain ⟨pa, ca, gq, dm, rfl, rfl, rfl⟩ := ho.forms
 obtain ⟨z, rfl⟩ := List.length_eq_one_iff.1 (show mcs.length = 1 from ho.allm.1)
 obtain ⟨zk, zc⟩ := z
 obtain ⟨hz, hrp⟩ := ho.allm.2 0 (zk, zc) (id, X) rfl rfl
 obtain rfl : zk = id := hz
 have hrp2 : Rep 3 (fun _ => True) w zc X := Rep.mono hrp (fun _ _ _ => trivial)
 obtain ⟨k3, m3, s3, p3, i3, c3, q3, j3, e3, rfl⟩ := hrp2.conv
 have Jp := qI hrp2
 obtain ⟨gm, om, rfl, hrg⟩ : ∃ gm om, gq = some ⟨gm, om, none⟩ ∧ w.rangeAt gm om [.string zk, .int .i64 k3, .int .i64 m3, .string s3, .slice p3 i3 c3, .slice q3 j3 e3] := by
  rcases ho.slcm.2 with ⟨h1, -⟩ | ⟨h1, -⟩ | ⟨g', o', cap, h1, -, -, h2, -⟩
  ·simp [rowsV, mapV] at h1
  ·simp [rowsV, mapV] at h1
  ·simp only [Value.slice.injEq] at h1
   exact ⟨g', o', h1.1, h2⟩
 have Jq := qI hrg
 clear ho hrp hrp2 hrg
 change Calls _ _ #[.agg #[.int .i64 6, .int .i64 0, .string ⟨#[]⟩, .slice pa 0 ca, .slice (some ⟨gm, om, none⟩) 1 dm]] _ _
 obtain ⟨W0, Gf⟩ : ∃ W0, Hid (W0 = w.alloc (.cells #[.int .i64 6, .int .i64 0, .string ⟨#[]⟩, .slice pa 0 ca, .slice (some ⟨gm, om, none⟩) 1 dm] 28)) := ⟨_, qI rfl⟩
 have Gj : Hid (Kept [] w W0) := qI (by rw [Gf.o]; exact (Kept.refl _ w).alloc _)
 have Gs : Hid (W0.heap[w.heap.size]? = some (.cells #[.int .i64 6, .int .i64 0, .string ⟨#[]⟩, .slice pa 0 ca, .slice (some ⟨gm, om, none⟩) 1 dm] 28 (0, 0))) := qI (by rw [Gf.o]; exact block_alloc rfl)
 have Gt : Hid (W0.heap.size = w.heap.size + 1) := qI (by rw [Gf.o]; simp)
 have hmm := @run_makeMap Tryz.prog
 obtain ⟨W1, Gr⟩ : ∃ W1, Hid (W1 = W0.alloc (.map #[] 0)) := ⟨_, qI rfl⟩
 have Ge : Hid (Kept [] W0 W1) := qI (by rw [Gr.o]; exact (Kept.refl _ _).alloc _)
 have Jr : Hid (MapIs Tryz.prog W1 9 W0.heap.size 0 (fun _ => none)) := qI (by rw [Gr.o]; exact mapIs_made _ _ _)
 have Mj : Hid (W1.heap.size = W0.heap.size + 1) := qI (by rw [Gr.o]; simp)
 have b0 := cell_head (o := 0) (v := .int .i64 6) Gs.o rfl
 have b4 := cell_head (o := 4) (v := .slice (some ⟨gm, om, none⟩) 1 dm) Gs.o rfl
 go_enter Tryz.func33, Tryz.ntmps33
 go_upto_region 1 with fail
 rw [← Gf.o]
 go_upto_region 4 with fail
 rw [← Gr.o]
 clear b0 b4 hmm
 have b4 := Ge.o.cell (cell_head (o := 4) (v := .slice (some ⟨gm, om, none⟩) 1 dm) Gs.o rfl) (by simp)
 go_wp2_with fail
 clear b4
 go_loopw [6, 7, 8, 9, 10, 27] (fun _ _ _ _ _ i wr => (i = .int .i64 0 ∧ MapIs Tryz.prog wr 9 W0.heap.size 0 (fun _ => none) ∧ Kept [] W0 wr) ∨ (i = .int .i64 1 ∧ MapIs Tryz.prog wr 9 W0.heap.size 1 (oneM zk.data.toList (.agg (keyA k))) ∧ Kept [] W0 wr)) (fun _ _ _ _ _ i _ => 1 - (intOf i).toNat)
 case atStart => exact .inl ⟨rfl, Jr.o, Ge.o⟩
 case round =>
  rcases hrel with ⟨rfl, hmp, hkr⟩ | ⟨rfl, hmp, hkr⟩
  ·have Gu := qI hmp
   have Gn := qI hkr
   clear hmp hkr
   have Gc : Hid (wr.rangeAt gm om [.string zk, .int .i64 k3, .int .i64 m3, .string s3, .slice p3 i3 c3, .slice q3 j3 e3]) := qI (fun j v hv => (Gj.o.then Gn.o).cell (Jq.o j v hv) (by simp))
   have q0 : wr.cell? ⟨gm, om, none⟩ = some (.string zk) := Gc.o 0 (.string zk) rfl
   have q1 := Gc.o 1 (.int .i64 k3) rfl
   have q2 := Gc.o 2 (.int .i64 m3) rfl
   have q3' := Gc.o 3 (.string s3) rfl
   have q4 := Gc.o 4 (.slice p3 i3 c3) rfl
   have q5 := Gc.o 5 (.slice q3 j3 e3) rfl
   obtain ⟨wb, Gv⟩ : ∃ wb, Hid (wb = wr.alloc (.cells #[.string zk, .int .i64 k3, .int .i64 m3, .string s3, .slice p3 i3 c3, .slice q3 j3 e3] 78)) := ⟨_, qI rfl⟩
   have Jf : Hid (Kept [] wr wb) := qI (by rw [Gv.o]; exact (Kept.refl _ _).alloc _)
   have Gg : Hid (wb.heap[wr.heap.size]? = some (.cells #[.string zk, .int .i64 k3, .int .i64 m3, .string s3, .slice p3 i3 c3, .slice q3 j3 e3] 78 (0, 0))) := qI (by rw [Gv.o]; exact block_alloc rfl)
   go_upto_region 7 with fail
   rw [← Gv.o]
   clear q0 q1 q2 q3' q4 q5
   have p0 := cell_head (o := 0) (v := .string zk) Gg.o rfl
   have p1 := cell_head (o := 1) (v := .int .i64 k3) Gg.o rfl
   have p2 := cell_head (o := 2) (v := .int .i64 m3) Gg.o rfl
   have p3' := cell_head (o := 3) (v := .string s3) Gg.o rfl
   have p4 := cell_head (o := 4) (v := .slice p3 i3 c3) Gg.o rfl
   have p5 := cell_head (o := 5) (v := .slice q3 j3 e3) Gg.o rfl
   have CRB := qI (CR.o wb [.int .i64 k3, .int .i64 m3, .string s3, .slice p3 i3 c3, .slice q3 j3 e3] (Jp.o.kept0 ((Gj.o.then Gn.o).then Jf.o)))
   go_upto_region 8 with first
    | (go_at_call 9; refine CRB.o.mono ?_; rintro e w3 ⟨rfl, hk3⟩; have Jg := qI hk3; clear hk3)
    | (refine wpList_store34 (by rfl) (.tmp 7) (.tmp 35) (by rfl) (g := w3.heap.size) (k := k) (k0 := zeroKey) (block_alloc rfl) (by rfl) Gb.o (by rfl) (by rfl) ?_; intro w4 h4 hk4; have Js := qI h4; have Jh : Hid (Kept [] w3 w4) := qI (((Kept.refl [] w3).alloc _).trans hk4 (by intro i hi; simp at hi; subst hi; exact .inr (Nat.le_refl _))); clear h4 hk4; simp only [Act.put])
   have Gd : Hid (Kept [] wr w4) := qI ((Jf.o.then Jg.o).then Jh.o)
   have Ji := qI ((Jg.o.then Jh.o).heap Gg.o (by simp))
   clear p0 p1 p2 p3' p4 p5
   have p0 := cell_head (o := 0) (v := .string zk) Ji.o rfl
   have Jj := qI (Gu.o.kept0 Gd.o)
   have Jk := qI (keyOfStr zk (by rw [Gq.o]; decide))
   have hlk : (Instr.lookup 106 (.map (some W0.heap.size)) (.string zk) true).run Tryz.prog w4 = .ok (.tuple #[.agg (keyA zeroKey), .bool false]) w4 :=
    (Jj.o.at.lookup keyStr Tryz.underlying106 (z := .agg (keyA zeroKey)) (Tryz.zeroValue24 w4) Jk.o).1
   go_upto_region 9 with first
    | (refine wpList_store34 (by rfl) (.tmp 9) (.tmp 42) (by rfl) (g := w4.heap.size) (k := zeroKey) (k0 := zeroKey) (block_alloc rfl) (by rfl) (by rfl) (by rfl) (by rfl) ?_; intro w6 h6 hk6; have Gk : Hid (Kept [] w4 w6) := qI (((Kept.refl [] w4).alloc _).trans hk6 (by intro i hi; simp at hi; subst hi; exact .inr (Nat.le_refl _))); clear h6 hk6; simp only [Act.put])
   clear hlk p0
   have Gl := qI (Js.o.kept0 Gk.o)
   have Gw := qI (Gk.o.heap Ji.o (by simp))
   have Jt : Hid (Kept [] w w6) := qI (((Gj.o.then Gn.o).then Gd.o).then Gk.o)
   generalize hr3 : w3.heap.size = r3 at Gl
   generalize hrp : wr.heap.size = rp at Gw
   obtain ⟨hq1, hq2⟩ := str_eq (rfl : zk = zk)
   refine wp_grows (n := 79) 11 [Fact.is (.bool false),
    Fact.is (.bool false),
    Fact.is (.int .i64 0),
    Fact.is (.bool false),
    Fact.is (.bool false),
    Fact.is (.bool false),
    Fact.is (.agg (keyA k)),
    Fact.is (.string zk),
    Fact.is (.pointer (some ⟨rp, 0, none⟩)),
    Fact.is (.string zk),
    Fact.is (.bool false)] (by kernel_rfl) rfl (by kernel_rfl) (fun x => by simp only [List.map, puts, Act.put, List.setIfInBounds_toArray, List.set_cons_zero, List.set_cons_succ]; rfl) ?_ ?_
   ·refine ⟨fun x w2 hkw b hd => ?_, fun x w2 hkw b hd => ?_, fun x w2 hkw b hd => ?_, fun x w2 hkw b hd => ?_, fun x w2 hkw b hd => ?_, fun x w2 hkw b hd => ?_, fun x w2 hkw b hd => ?_, fun x w2 hkw b hd => ?_, fun x w2 hkw b hd => ?_, fun x w2 hkw b hd => ?_, fun x w2 hkw b hd => ?_, trivial⟩
    ·go_wp2_with fail
     exact ⟨rfl, Kept.refl _ _⟩
    ·have d0 : x 0 = _ := hd 0 (by kernel_rfl)
     go_wp2_with fail
     exact ⟨rfl, Kept.refl _ _⟩
    ·have d1 : x 1 = _ := hd 1 (by kernel_rfl)
     go_wp2_with fail
     exact ⟨rfl, Kept.refl _ _⟩
    ·have d1 : x 1 = _ := hd 1 (by kernel_rfl)
     have d2 : x 2 = _ := hd 2 (by kernel_rfl)
     go_wp2_with fail
     exact ⟨rfl, Kept.refl _ _⟩
    ·have d1 : x 1 = _ := hd 1 (by kernel_rfl)
     have d3 : x 3 = _ := hd 3 (by kernel_rfl)
     go_wp2_with fail
     exact ⟨rfl, Kept.refl _ _⟩
    ·have d4 : x 4 = _ := hd 4 (by kernel_rfl)
     go_wp2_with fail
     exact ⟨rfl, Kept.refl _ _⟩
    ·have Ju := qI (Gl.o.kept0 hkw)
     have d5 : x 5 = _ := hd 5 (by kernel_rfl)
     refine wpList_load34g (by simp only [Nat.reduceAdd, Nat.zero_add]; revert d5; generalize x 5 = vv; rintro rfl; rfl) (.tmp 7) (by rfl) Ju.o Gb.o rfl ?_
     go_wp2_with fail
     exact ⟨rfl, Kept.refl _ _⟩
    ·have d5 : x 5 = _ := hd 5 (by kernel_rfl)
     have d6 : x 6 = _ := hd 6 (by kernel_rfl)
     have CX := CI.o w2 (Jt.o.then hkw)
     go_wp2_with (go_at_call 14; refine CX.mono ?_; rintro e w8 ⟨rfl, hk8⟩; have Gx := qI hk8; clear hk8)
     exact ⟨rfl, Gx.o⟩
    ·have d5 : x 5 = _ := hd 5 (by kernel_rfl)
     go_wp2_with fail
     exact ⟨rfl, Kept.refl _ _⟩
    ·have y0 := cell_head (o := 0) (v := .string zk) (hkw.heap Gw.o (by simp)) rfl
     have d5 : x 5 = _ := hd 5 (by kernel_rfl)
     have d8 : x 8 = _ := hd 8 (by kernel_rfl)
     go_wp2_with fail
     exact ⟨rfl, Kept.refl _ _⟩
    ·have d5 : x 5 = _ := hd 5 (by kernel_rfl)
     have d7 : x 7 = _ := hd 7 (by kernel_rfl)
     have d9 : x 9 = _ := hd 9 (by kernel_rfl)
     go_wp2_with fail
     exact ⟨rfl, Kept.refl _ _⟩
   ·intro x w7 hkw b hd hwin
    have d5 : x 5 = _ := hd 5 (by decide)
    have d10 : x 10 = _ := hd 10 (by decide)
    have Gh := qI hkw
    clear hd hwin hkw
    change wpList _ _ _ [_] _ _
    obtain ⟨w8, hrun, hM8, hk8, -⟩ := (Jj.o.kept0 (Gk.o.then Gh.o)).update keyStr Tryz.underlying106 (by decide) Jk.o (.agg (keyA k))
    have Jv : Hid (MapIs Tryz.prog w8 9 W0.heap.size 1 (oneM zk.data.toList (.agg (keyA k)))) := qI hM8
    have Gx := qI hk8
    have Gy := qI (Gl.o.kept0 Gh.o)
    have y0 := cell_head (o := 0) (v := .string zk) (Gh.o.heap Gw.o (by simp)) rfl
    clear hM8 hk8
    go_wp2_with (refine wpList_load34 (by rfl) (.tmp 7) (by rfl) Gy.o Gb.o (by rfl) ?_)
    case roundEnd => exact ⟨.inr ⟨rfl, Jv.o, (((Gn.o.then Gd.o).then Gk.o).then Gh.o).trans Gx.o (by intro i hi; simp at hi; subst hi; exact .inr (Nat.le_refl _))⟩, by decide⟩
  ·have Gn := qI hkr
   have Gu := qI hmp
   have Jl := qI (keysOne_any hmp)
   clear hmp hkr
   go_wp2_with first
    | (go_at_call 77; refine Jl.o.2.mono ?_; rintro e w5 ⟨va, vc, rfl, hs5, hk5⟩; have Jw := qI hs5; have Ga := qI hk5; clear hs5 hk5)
    | (go_at_call 78; refine Jl.o.1.mono ?_; rintro e w4 ⟨rfl, rfl⟩)
   go_loopw [11, 13, 65] (fun q _ i wr => (i = .int .i64 0 ∧ q = .slice none 0 0 ∧ Kept [] w5 wr) ∨ (i = .int .i64 1 ∧ ∃ (gr or' cr : Nat), q = .slice (some ⟨gr, or', none⟩) 1 cr ∧ wr.rangeAt gr or' (rowL zk k) ∧ Kept [] w5 wr)) (fun _ _ i _ => 1 - (intOf i).toNat)
   case atStart => exact .inl ⟨rfl, rfl, Kept.refl _ _⟩
   case round =>
    rcases hrel with ⟨rfl, rfl, hkq⟩ | ⟨rfl, gr, or', cr, rfl, hrow, hkq⟩
    ·have Gp := qI hkq
     clear hkq
     obtain ⟨gs, os, rfl, z0⟩ : ∃ gs os, va = some ⟨gs, os, none⟩ ∧ wr.cell? ⟨gs, os, none⟩ = some (.string zk) := by
      rcases Jw.o.2 with ⟨h1, -⟩ | ⟨h1, -⟩ | ⟨g', o', cap, h1, -, -, h2, -⟩
      ·simp at h1
      ·simp at h1
      ·simp only [Value.slice.injEq] at h1
       exact ⟨g', o', h1.1, Gp.o.cell (h2 0 _ rfl) (by simp)⟩
     have Jx := qI (Gu.o.kept0 (Ga.o.then Gp.o))
     have hlk : (Instr.lookup 106 (.map (some W0.heap.size)) (.string zk) false).run Tryz.prog wr = .ok (.agg (keyA k)) wr := by
      have h1 := (Jx.o.at.lookup keyStr Tryz.underlying106 (z := .agg (keyA zeroKey)) (Tryz.zeroValue24 wr) (keyOfStr zk (by rw [Gq.o]; decide))).2
      rw [h1, oneM, sameStr]
      simp
     go_wp2_with first
      | (refine wpList_buildRow (by rfl) (.tmp 70) (.tmp 73) (by rfl) Gb.o (by rfl) (by rfl) ?_)
      | (refine wpList_sliceRow (by rfl) (.tmp 74) (by rfl) Gb.o (by rfl) ?_)
      | (at_builtin; refine wpList_append_slc tyRows (base := wr.heap.size) (v := .slice none 0 0) (n := 0) (xs := []) (World.ownsRow_nil _ _ _ _) (slc_new wr (rowL zk k) 35 1 _ _ rfl (by rw [rowL_len Gb.o]) (by decide)) (rowL_one zk k) (by decide) (by decide) ((Kept.refl [] wr).alloc _).size rfl _ _ rfl rfl rfl ?_; intro v6 w6 hown hk6 _ hb6; obtain ⟨a6, c6, rfl, -, -⟩ := (Slc.of_row hown).form; have Gz := qI (Slc.of_row hown); have Gk := qI hk6; clear hown hk6 hb6)
     case roundEnd =>
      obtain ⟨gr, or', hrw, hrng⟩ : ∃ gr or', a6 = some ⟨gr, or', none⟩ ∧ w6.rangeAt gr or' (rowL zk k) := by
       rcases Gz.o.2 with ⟨h1, -⟩ | ⟨h1, -⟩ | ⟨g', o', cap, h1, -, -, h2, -⟩
       ·simp at h1
       ·simp at h1
       ·simp only [Value.slice.injEq] at h1
        exact ⟨g', o', h1.1, h2⟩
      exact ⟨.inr ⟨rfl, gr, or', c6, by rw [hrw], hrng, ((Gp.o.alloc _).trans' (Gk.o.mono (by simp [Value.ownBlock])))⟩, by decide⟩
    ·have Gp := qI hkq
     have Jy := qI hrow
     clear hkq hrow
     go_wp2_with fail
     refine bodyPost_ret (v := .tuple #[.slice (some ⟨gr, or', none⟩) 1 cr, .int .i64 0]) (by simp [results, Tryz.results33, go_sem]) rfl ?_
     exact ⟨⟨_, _, _, rfl, Jy.o⟩, ((Gj.o.then Gn.o).then Ga.o).then Gp.o⟩
theorem flist_pos {n : Nat} {v : VS (V n)} {s : ByteArray} {most : Int} {x : V n} (h : getV v s = some x) (h3 : kindV n x = 5) (h0 : (lenV n x : Int) ≤ most) : flist v false s most = (some x, false) := by
 unfold flist fget
 rw [h]
 simp only [Bool.false_eq_true, if_false]
 rw [if_pos ⟨h3, by simp [h0]⟩]
theorem readRole_roleV {r : RoleS} (hm : mayRole r = true) : readRoleV (n := 1) (roleV r) = some r := by
 obtain ⟨h1, h2, h3, -, -⟩ := mayRole_ids hm
 have t1 : fint (n := 2) (roleV r) false ⟨#[116, 104, 114, 101, 115, 104, 111, 108, 100]⟩ 1 16 = (r.thr, false) := fint_pos (n := 2) (x := iV 1 r.thr) (by kernel_rfl) rfl h2 h3
 have t2 : flist (n := 2) (roleV r) false ⟨#[107, 101, 121, 105, 100, 115]⟩ 16 = (some (keysV 0 r.keys), false) := flist_pos (n := 2) (x := keysV 0 r.keys) (by kernel_rfl) rfl (by
  show (((r.keys.map (tV 0)).length : Nat) : Int) ≤ 16
  rw [List.length_map]; omega)
 have e1 : (r.keys.map (tV 0)).map (strV 1) = r.keys := by
  rw [List.map_map]
  exact (List.map_congr_left (fun s _ => rfl)).trans (List.map_id _)
 have e2 : (r.keys.map (tV 0)).any (fun x => decide (kindV 1 x ≠ 4)) = false := by
  rw [List.any_eq_false]
  intro x hx
  obtain ⟨s, -, rfl⟩ := List.mem_map.1 hx
  have : kindV 1 (tV 0 s) = 4 := rfl
  simp [this]
 unfold readRoleV
 rw [show decide ((roleV r : VS (V 2)).kind ≠ 6) = false from rfl, t1]
 simp only
 rw [t2]
 show (if (false || (r.keys.map (tV 0)).any (fun x => decide (kindV 1 x ≠ 4))) = false ∧ mayRole ⟨(r.keys.map (tV 0)).map (strV 1), r.thr⟩ = true then some (⟨(r.keys.map (tV 0)).map (strV 1), r.thr⟩ : RoleS) else none) = _
 rw [e1, e2]
 rw [if_pos ⟨rfl, hm⟩]
theorem isId_key {k : KeyS} (h : mayKey k = true) : isIdB (keyIdS k) = true := by
 unfold isIdB keyIdS
 rw [if_pos h, unhex_hex]
 simp [shaL_len]
def oneRole (id : ByteArray) : RoleS := ⟨[id], 1⟩
theorem may_oneRole {id : ByteArray} (h : isIdB id = true) : mayRole (oneRole id) = true := by
 simp [mayRole, oneRole, idsGo, h]
def key7 : KeyS := ⟨8, 1, 7 :: List.replicate 31 0⟩
theorem key7_may : mayKey key7 = true := by decide
theorem key7_len : key7.root.length = 32 := rfl
theorem info5 : (Tryz.prog.info? 28).map (·.size) = some 5 := by kernel_rfl
theorem info2 : (Tryz.prog.info? 43).map (·.size) = some 2 := by kernel_rfl
abbrev ValAt (w : World) (g : Nat) (k m : Int) (s : ByteArray) (a b : Value) : Prop := w.heap[g]? = some (.cells #[.int .i64 k, .int .i64 m, .string s, a, b] 28 (0, 0))
abbrev RolAt (w : World) (g : Nat) (a : Value) (n : Int) : Prop := w.heap[g]? = some (.cells #[a, .int .i64 n] 43 (0, 0))
theorem wpList_store5 {ops : Array Oper} {rest : List Oper} {op : Oper} {a : Act} {w : World} {Q : Exit → Act → World → Prop} (hgd : op.guard = none) (x y : Operand) (ho : op.op = .store 28 x y) {g : Nat} {k m : Int} {s : ByteArray} {p q : Option Addr} {i c j d : Nat} (h0 : ValAt w g 0 0 ⟨#[]⟩ (.slice none 0 0) (.slice none 0 0))
  (hx : a.eval x = .pointer (some ⟨g, 0, none⟩)) (hy : a.eval y = .agg #[.int .i64 k, .int .i64 m, .string s, .slice p i c, .slice q j d]) (h : ∀ w', ValAt w' g k m s (.slice p i c) (.slice q j d) → Kept [g] w w' → wpList Tryz.prog ops Q rest (a.put op.dst undef) w') : wpList Tryz.prog ops Q (op :: rest) a w := by
 refine wpList_store_mid hgd 28 x y ho g 0 _ hx hy (fun z hz => ?_) info5 ?_ (h _ (put5_at h0 k m s (.slice p i c) (.slice q j d)) (setCells_kept _ _ _ _))
 ·rw [Nat.zero_add]
  refine ⟨?_, free_head h0⟩
  have hz' : z < 5 := hz
  rw [cell_head (v := (#[Value.int .i64 0, .int .i64 0, .string ⟨#[]⟩, .slice none 0 0, .slice none 0 0] : Array Value)[z]) h0 (by simp [hz'])]
  rfl
 ·exact all_oneCell_toArray (by intro v hv; simp only [List.mem_cons, List.not_mem_nil, or_false] at hv; rcases hv with rfl | rfl | rfl | rfl | rfl <;> rfl)
theorem wpList_store2 {ops : Array Oper} {rest : List Oper} {op : Oper} {a : Act} {w : World} {Q : Exit → Act → World → Prop} (hgd : op.guard = none) (x y : Operand) (ho : op.op = .store 43 x y) {g : Nat} {n : Int} {p : Option Addr} {i c : Nat} (h0 : RolAt w g (.slice none 0 0) 0)
  (hx : a.eval x = .pointer (some ⟨g, 0, none⟩)) (hy : a.eval y = .agg #[.slice p i c, .int .i64 n]) (h : ∀ w', RolAt w' g (.slice p i c) n → Kept [g] w w' → wpList Tryz.prog ops Q rest (a.put op.dst undef) w') : wpList Tryz.prog ops Q (op :: rest) a w := by
 refine wpList_store_mid hgd 43 x y ho g 0 _ hx hy (fun z hz => ?_) info2 ?_ (h _ (put2_at h0 (.slice p i c) (.int .i64 n)) (setCells_kept _ _ _ _))
 ·rw [Nat.zero_add]
  refine ⟨?_, free_head h0⟩
  have hz' : z < 2 := hz
  rw [cell_head (v := (#[Value.slice none 0 0, .int .i64 0] : Array Value)[z]) h0 (by simp [hz'])]
  rfl
 ·exact all_oneCell_toArray (by intro v hv; simp only [List.mem_cons, List.not_mem_nil, or_false] at hv; rcases hv with rfl | rfl <;> rfl)
theorem built_root : Tryz.prog.built 22 [(0, .int .u8 7)] = some (key7.root.map bv).toArray := by kernel_rfl
theorem built_key7 : Tryz.prog.built 24 [(0, .int .i64 8), (1, .int .i64 1), (2, .agg (key7.root.map bv).toArray)] = some (keyA key7) := by kernel_rfl
theorem wpList_root7 {ops : Array Oper} {rest : List Oper} {op : Oper} {a : Act} {w : World} {Q : Exit → Act → World → Prop} (hgd : op.guard = none) (x : Operand) (ho : op.op = .build 22 #[(0, x)]) (hx : a.eval x = .int .u8 7) (h : wpList Tryz.prog ops Q rest (a.put op.dst (.agg (key7.root.map bv).toArray)) w) : wpList Tryz.prog ops Q (op :: rest) a w := by
 refine wpList_plain hgd fun K hK => ?_
 unfold Oper.wp execOp
 simp only [ho, Sem.run_bind, List.map_toArray, List.map_cons, List.map_nil, hx]
 rw [run_build w _ _ _ built_root]
 exact hK _ _ h
theorem wpList_key7 {ops : Array Oper} {rest : List Oper} {op : Oper} {a : Act} {w : World} {Q : Exit → Act → World → Prop} (hgd : op.guard = none) (x y z : Operand) (ho : op.op = .build 24 #[(0, x), (1, y), (2, z)]) (hx : a.eval x = .int .i64 8) (hy : a.eval y = .int .i64 1) (hz : a.eval z = .agg (key7.root.map bv).toArray) (h : wpList Tryz.prog ops Q rest (a.put op.dst (.agg (keyA key7))) w) : wpList Tryz.prog ops Q (op :: rest) a w := by
 refine wpList_plain hgd fun K hK => ?_
 unfold Oper.wp execOp
 simp only [ho, Sem.run_bind, List.map_toArray, List.map_cons, List.map_nil, hx, hy, hz]
 rw [run_build w _ _ _ built_key7]
 exact hK _ _ h
theorem wpList_eql7 {ops : Array Oper} {rest : List Oper} {op : Oper} {a : Act} {w : World} {Q : Exit → Act → World → Prop} (hw : Region.wanted op (yielded ops a.tmps) = true) (i j : Nat) (ho : op.op = .binOp .eql 24 (.tmp i) (.tmp j) 24) (hx : a.eval (.tmp i) = .agg (keyA key7)) (hy : a.eval (.tmp j) = .agg (keyA key7)) (h : wpList Tryz.prog ops Q rest (a.put op.dst (.bool true)) w) : wpList Tryz.prog ops Q (op :: rest) a w :=
 BigFrame.wpList_want hw fun K hK => by
  have hr : (execOp a.eval op).run Tryz.prog w = .ok (.value (.bool true)) w := by
   unfold execOp
   simp only [ho, hx, hy]
   kernel_rfl
  unfold Oper.wp
  rw [hr]
  exact hK _ _ h
def keyR (k : KeyS) : V 3 := (mapV [(⟨#[107, 101, 121, 116, 121, 112, 101]⟩, (textV ⟨#[108, 97, 109, 112, 111, 114, 116, 45, 109, 101, 114, 107, 108, 101]⟩ : VS (V 1))), (⟨#[107, 101, 121, 118, 97, 108]⟩, valV k), (⟨#[115, 99, 104, 101, 109, 101]⟩, textV ⟨#[115, 104, 97, 50, 53, 54]⟩)] : VS (V 2))
def newRFact (n : Nat) (v : V n) : Fact (Kept []) := ⟨fun u b w => ∃ k m s p i c q j d, u = .agg #[.int .i64 k, .int .i64 m, .string s, .slice p i c, .slice q j d] ∧ Rep n (fun g => b.1 ≤ g ∧ g < b.2) w [.int .i64 k, .int .i64 m, .string s, .slice p i c, .slice q j d] v,
 fun _ _ _ _ ⟨k, m, s, p, i, c, q, j, d, h1, h2⟩ kk => ⟨k, m, s, p, i, c, q, j, d, h1, h2.kept0 kk⟩⟩
def KeyAnsR (w w' : World) (e : Ending) (k : KeyS) : Prop := if mayKey k = true then NewR 3 (fun g => w.heap.size ≤ g) w' e (keyR k) else e = .returned zero5
theorem refKeyValue_any (k : KeyS) (hb : wf64I k.bits) (hr : k.root.length = 32) (w : World) : Calls Tryz.prog 12 #[.agg (keyA k)] w fun e w' => KeyAnsR w w' e k ∧ Kept [] w w' := by
 obtain ⟨W0, Gf⟩ : ∃ W0, Hid (W0 = (w.alloc (.cells (keyA k) 24)).alloc (.cells #[.int .i64 0, .int .i64 0, .string ⟨#[]⟩, .slice none 0 0, .slice none 0 0] 28)) := ⟨_, qI rfl⟩
 have Gj : Hid (Kept [] w W0) := qI (by rw [Gf.o]; exact ((Kept.refl _ w).alloc _).alloc _)
 have HA : Hid (KeyAt W0 w.heap.size k) := qI (by rw [Gf.o]; exact ((Kept.refl [] _).alloc _).heap (block_alloc rfl) (by simp))
 have Jm : Hid (W0.heap[w.heap.size + 1]? = some (.cells #[.int .i64 0, .int .i64 0, .string ⟨#[]⟩, .slice none 0 0, .slice none 0 0] 28 (0, 0))) := qI (by rw [Gf.o]; exact block_alloc (by simp))
 have Gt : Hid (W0.heap.size = w.heap.size + 2) := qI (by rw [Gf.o]; simp)
 have CM := qI (refMayKey_any k hb W0)
 have Gb := qI hr
 clear hb hr
 by_cases hm : mayKey k = true
 rotate_left
 ·have hm2 : mayKey k = false := by simpa using hm
  rw [hm2] at CM
  have Ja : Hid (∀ w' e, KeyAnsR w w' e k = (e = .returned zero5)) := qI (fun w' e => by unfold KeyAnsR; rw [if_neg hm])
  clear hm hm2
  go_enter Tryz.func12, Tryz.ntmps12
  go_upto_region 1 with fail
  rw [← Gf.o]
  go_wp2_with first
   | (refine wpList_load34 (by rfl) (.tmp 1) (by rfl) HA.o Gb.o (by rfl) ?_)
   | (go_at_call 51; refine CM.o.mono ?_; rintro e w1 ⟨rfl, hk1⟩; have Ge := qI hk1; have Jb := qI (hk1.heap Jm.o (by simp)); obtain ⟨r0, r1, r2, r3, r4⟩ := box_of Jb.o; have z : ∀ j, w1.frozen? ⟨w.heap.size + 1, j, none⟩ = false := fun j => free_head Jb.o; clear hk1)
  change bodyPost _ _ _ _ _ (put5 w1 (w.heap.size + 1) 0 0 ⟨#[]⟩ (.slice none 0 0) (.slice none 0 0))
  have Gi := put5_kept w1 (w.heap.size + 1) 0 0 ⟨#[]⟩ (.slice none 0 0) (.slice none 0 0)
  obtain ⟨y0, y1, y2, y3, y4⟩ := box_of (put5_at Jb.o 0 0 ⟨#[]⟩ (.slice none 0 0) (.slice none 0 0))
  revert Gi y0 y1 y2 y3 y4
  generalize put5 w1 (w.heap.size + 1) 0 0 ⟨#[]⟩ (.slice none 0 0) (.slice none 0 0) = WF
  intro Gi y0 y1 y2 y3 y4
  refine bodyPost_ret (v := zero5) (by simp [results, Tryz.results12, go_sem, y0, y1, y2, y3, y4, zero5]) rfl ?_
  rw [Ja.o]
  exact ⟨rfl, (Gj.o.then Ge.o).trans Gi (by intro i hi; simp at hi; subst hi; exact .inr (by omega))⟩
 have Ja : Hid (∀ w' e, KeyAnsR w w' e k = NewR 3 (fun g => w.heap.size ≤ g) w' e (keyR k)) := qI (fun w' e => by unfold KeyAnsR; rw [if_pos hm])
 have Jn : Hid (wf64I k.bits ∧ wf64I k.height) := qI (may_wf hm)
 rw [hm] at CM
 obtain ⟨hs, Jo⟩ : ∃ hs, Hid (hs = hexS k.root) := ⟨_, qI rfl⟩
 clear hm
 go_enter Tryz.func12, Tryz.ntmps12
 go_upto_region 1 with fail
 rw [← Gf.o]
 go_upto_region 3 with first
  | (refine wpList_load34 (by rfl) (.tmp 1) (by rfl) HA.o Gb.o (by rfl) ?_)
  | (go_at_call 51; refine CM.o.mono ?_; rintro e w1 ⟨rfl, hk1⟩; have Ge := qI hk1; clear hk1)
 have Jz : Hid (∀ w2 : World, Kept [] w1 w2 → Calls Tryz.prog 57 #[.slice (some ⟨w.heap.size, 2, none⟩) 32 32] w2 fun e w' => e = .returned (.string hs) ∧ Kept [] w2 w') := qI (fun w2 hk => by
  have h1 := refHexes_any (w := w2) (a := some ⟨w.heap.size, 2, none⟩) (c := 32) (l := k.root) (by rw [Gb.o]; exact (HA.o.root Gb.o).kept0 (Ge.o.then hk)) (by rw [Gb.o]; decide)
  rw [Gb.o, ← Jo.o] at h1
  exact h1)
 refine wp_grows (n := 27) 14 [pairFact [.string ⟨#[98, 105, 116, 115]⟩, .string ⟨#[104, 101, 105, 103, 104, 116]⟩, .string ⟨#[112, 117, 98, 108, 105, 99]⟩] 3 1,
  Fact.is (.pointer (some ⟨w.heap.size, 0, none⟩)),
  Fact.is (.int .i64 k.bits),
  Fact.is (.agg #[.int .i64 3, .int .i64 k.bits, .string ⟨#[]⟩, .slice none 0 0, .slice none 0 0]),
  Fact.is (.pointer (some ⟨w.heap.size, 1, none⟩)),
  Fact.is (.int .i64 k.height),
  Fact.is (.agg #[.int .i64 3, .int .i64 k.height, .string ⟨#[]⟩, .slice none 0 0, .slice none 0 0]),
  Fact.is (.pointer (some ⟨w.heap.size, 2, none⟩)),
  Fact.is (.slice (some ⟨w.heap.size, 2, none⟩) 32 32),
  Fact.is (.string hs),
  Fact.is (.agg #[.int .i64 4, .int .i64 0, .string hs, .slice none 0 0, .slice none 0 0]),
  pairFact [.int .i64 3, .int .i64 k.bits, .string ⟨#[]⟩, .slice none 0 0, .slice none 0 0, .int .i64 3, .int .i64 k.height, .string ⟨#[]⟩, .slice none 0 0, .slice none 0 0, .int .i64 4, .int .i64 0, .string hs, .slice none 0 0, .slice none 0 0] 3 5,
  newRFact 2 (valV k),
  boxFact 28] (by kernel_rfl) rfl (by kernel_rfl) (fun x => by simp only [List.map, puts, Act.put, List.setIfInBounds_toArray, List.set_cons_zero, List.set_cons_succ]; rfl) ?_ ?_
 ·refine ⟨fun x w2 hkw b hd => ?_, fun x w2 hkw b hd => ?_, fun x w2 hkw b hd => ?_, fun x w2 hkw b hd => ?_, fun x w2 hkw b hd => ?_, fun x w2 hkw b hd => ?_, fun x w2 hkw b hd => ?_, fun x w2 hkw b hd => ?_, fun x w2 hkw b hd => ?_, fun x w2 hkw b hd => ?_, fun x w2 hkw b hd => ?_, fun x w2 hkw b hd => ?_, fun x w2 hkw b hd => ?_, fun x w2 hkw b hd => ?_, trivial⟩
  ·go_wp2_with fail
   exact ⟨⟨w2.heap.size, rfl, Nat.le_refl _, by simp, slc_new w2 [.string ⟨#[98, 105, 116, 115]⟩, .string ⟨#[104, 101, 105, 103, 104, 116]⟩, .string ⟨#[112, 117, 98, 108, 105, 99]⟩] 1 3 _ _ rfl rfl (by decide)⟩, (Kept.refl _ _).alloc _⟩
  ·go_wp2_with fail
   exact ⟨rfl, Kept.refl _ _⟩
  ·have d1 : x 1 = _ := hd 1 (by kernel_rfl)
   have y0 := (HA.o.kept0 (Ge.o.then hkw)).c0
   go_wp2_with fail
   exact ⟨rfl, Kept.refl _ _⟩
  ·have d2 : x 2 = _ := hd 2 (by kernel_rfl)
   have CX := refInt_any k.bits w2
   go_wp2_with (go_at_call 55; refine CX.mono ?_; rintro e w5 ⟨rfl, hk5⟩; have Ga := qI hk5; clear hk5)
   exact ⟨rfl, Ga.o⟩
  ·go_wp2_with fail
   exact ⟨rfl, Kept.refl _ _⟩
  ·have d4 : x 4 = _ := hd 4 (by kernel_rfl)
   have y0 := (HA.o.kept0 (Ge.o.then hkw)).c1
   go_wp2_with fail
   exact ⟨rfl, Kept.refl _ _⟩
  ·have d5 : x 5 = _ := hd 5 (by kernel_rfl)
   have CX := refInt_any k.height w2
   go_wp2_with (go_at_call 55; refine CX.mono ?_; rintro e w5 ⟨rfl, hk5⟩; have Ga := qI hk5; clear hk5)
   exact ⟨rfl, Ga.o⟩
  ·go_wp2_with fail
   exact ⟨rfl, Kept.refl _ _⟩
  ·have d7 : x 7 = _ := hd 7 (by kernel_rfl)
   go_wp2_with fail
   exact ⟨rfl, Kept.refl _ _⟩
  ·have d8 : x 8 = _ := hd 8 (by kernel_rfl)
   have CX := Jz.o _ hkw
   go_wp2_with (go_at_call 57; refine CX.mono ?_; rintro e w5 ⟨rfl, hk5⟩; have Ga := qI hk5; clear hk5)
   exact ⟨rfl, Ga.o⟩
  ·have d9 : x 9 = _ := hd 9 (by kernel_rfl)
   have CX := refText_any hs w2
   go_wp2_with (go_at_call 56; refine CX.mono ?_; rintro e w5 ⟨rfl, hk5⟩; have Ga := qI hk5; clear hk5)
   exact ⟨rfl, Ga.o⟩
  ·have d3 : x 3 = _ := hd 3 (by kernel_rfl)
   have d6 : x 6 = _ := hd 6 (by kernel_rfl)
   have d10 : x 10 = _ := hd 10 (by kernel_rfl)
   go_wp2_with fail
   exact ⟨⟨w2.heap.size, rfl, Nat.le_refl _, by simp, slc_new w2 [.int .i64 3, .int .i64 k.bits, .string ⟨#[]⟩, .slice none 0 0, .slice none 0 0, .int .i64 3, .int .i64 k.height, .string ⟨#[]⟩, .slice none 0 0, .slice none 0 0, .int .i64 4, .int .i64 0, .string hs, .slice none 0 0, .slice none 0 0] 5 3 _ _ rfl rfl (by decide)⟩, (Kept.refl _ _).alloc _⟩
  ·obtain ⟨g0, d0, -, -, hs0⟩ := hd 0 (by kernel_rfl)
   obtain ⟨g5, d11, -, -, hs5⟩ := hd 11 (by kernel_rfl)
   have CX := refMap_any (n := 1) (N := 3) (ks := [⟨#[98, 105, 116, 115]⟩, ⟨#[104, 101, 105, 103, 104, 116]⟩, ⟨#[112, 117, 98, 108, 105, 99]⟩]) (lcs := [[.int .i64 3, .int .i64 k.bits, .string ⟨#[]⟩, .slice none 0 0, .slice none 0 0], [.int .i64 3, .int .i64 k.height, .string ⟨#[]⟩, .slice none 0 0, .slice none 0 0], [.int .i64 4, .int .i64 0, .string hs, .slice none 0 0, .slice none 0 0]]) (vs := [(intV k.bits : VS (V 0)), intV k.height, textV hs]) (S := fun _ => False) hs0 hs5 (All2.cons (rep_int (n := 0) _ _ _ Jn.o.1) (All2.cons (rep_int (n := 0) _ _ _ Jn.o.2) (All2.cons (rep_text (n := 0) _ _ hs) (All2.nil _)))) rfl rfl (by decide)
   clear hs0 hs5
   go_wp2_with (go_at_call 54; refine CX.mono ?_; rintro e w5 ⟨⟨cs5, rfl, hr5⟩, hk5⟩; obtain ⟨k3, m3, s3, p3, i3, c3, q3, j3, e3, rfl⟩ := hr5.conv; have Jc := qI (hr5.mono (T := fun g => w2.heap.size ≤ g ∧ g < w5.heap.size) (fun g hg h => by rcases h with h | h; exact h.elim; exact ⟨h, hg⟩)); have Ga := qI hk5; clear hk5 hr5)
   exact ⟨⟨_, _, _, _, _, _, _, _, _, rfl, by have h9 := Jc.o; rw [Jo.o] at h9; exact h9⟩, Ga.o⟩
  ·go_wp2_with fail
   exact ⟨⟨w2.heap.size, Nat.le_refl _, by simp, rfl, block_alloc rfl⟩, (Kept.refl _ _).alloc _⟩
 intro x w3 hkw b hd hwin
 obtain ⟨vk, vm, vs, vp, vi, vc, vq, vj, vd, d12, hrv⟩ := hd 12 (by decide)
 obtain ⟨bx, hb1, hb2, d13, hbx⟩ := hd 13 (by decide)
 have Jd := qI hwin
 have Ma := qI hkw
 have Mb := qI hrv
 have Mc := qI hbx
 have Gg : Hid ((b 13).1 ≤ bx ∧ bx < (b 13).2) := qI ⟨hb1, hb2⟩
 clear hd hwin hkw hrv hbx hb1 hb2
 change wpList _ _ _ [_] _ _
 go_upto_region 4 with (refine wpList_store5 (by rfl) (.tmp 3) (.tmp 20) (by rfl) (g := bx) Mc.o d13 d12 ?_; intro w4 h hk; have HV := qI h; have Gd := qI hk; clear h hk; simp only [Act.put])
 have Md : Hid (w1.heap.size ≤ bx ∧ bx < w3.heap.size) := qI (by have h1 := Jd.o.1 13 (by decide); have h2 := Gg.o; omega)
 have Gm : Hid (Kept [] w1 w4) := qI (Ma.o.trans Gd.o (by intro i hi; simp at hi; subst hi; exact .inr Md.o.1))
 have Me : Hid (W0.heap.size ≤ w4.heap.size) := qI (Ge.o.then Gm.o).size
 have Mf : Hid (Rep 2 (fun g => W0.heap.size ≤ g) w4 [.int .i64 vk, .int .i64 vm, .string vs, .slice vp vi vc, .slice vq vj vd] (valV k)) := qI (by
  have h1 := Jd.o.1 12 (by decide)
  have h2 := Jd.o.2 12 13 (by decide) (by decide) (by decide)
  have h3 := Gg.o
  have h4 := Ge.o.size
  exact (Mb.o.kept Gd.o (by intro i hi; simp at hi; subst hi; omega)).mono (fun g _ h => by omega))
 obtain ⟨b0, b1, b2, b3, b4⟩ := box_of HV.o
 refine wp_grows (n := 27) 6 [pairFact [.string ⟨#[107, 101, 121, 116, 121, 112, 101]⟩, .string ⟨#[107, 101, 121, 118, 97, 108]⟩, .string ⟨#[115, 99, 104, 101, 109, 101]⟩] 3 1,
  Fact.is (.agg #[.int .i64 4, .int .i64 0, .string ⟨#[108, 97, 109, 112, 111, 114, 116, 45, 109, 101, 114, 107, 108, 101]⟩, .slice none 0 0, .slice none 0 0]),
  Fact.is (.agg #[.int .i64 vk, .int .i64 vm, .string vs, .slice vp vi vc, .slice vq vj vd]),
  Fact.is (.agg #[.int .i64 4, .int .i64 0, .string ⟨#[115, 104, 97, 50, 53, 54]⟩, .slice none 0 0, .slice none 0 0]),
  pairFact [.int .i64 4, .int .i64 0, .string ⟨#[108, 97, 109, 112, 111, 114, 116, 45, 109, 101, 114, 107, 108, 101]⟩, .slice none 0 0, .slice none 0 0, .int .i64 vk, .int .i64 vm, .string vs, .slice vp vi vc, .slice vq vj vd, .int .i64 4, .int .i64 0, .string ⟨#[115, 104, 97, 50, 53, 54]⟩, .slice none 0 0, .slice none 0 0] 3 5,
  repFact (fun g => W0.heap.size ≤ g) 3 (keyR k)] (by kernel_rfl) rfl (by kernel_rfl) (fun x => by simp only [List.map, puts, Act.put, List.setIfInBounds_toArray, List.set_cons_zero, List.set_cons_succ]; rfl) ?_ ?_
 ·refine ⟨fun x w2 hkw b hd => ?_, fun x w2 hkw b hd => ?_, fun x w2 hkw b hd => ?_, fun x w2 hkw b hd => ?_, fun x w2 hkw b hd => ?_, fun x w2 hkw b hd => ?_, trivial⟩
  ·go_wp2_with fail
   exact ⟨⟨w2.heap.size, rfl, Nat.le_refl _, by simp, slc_new w2 [.string ⟨#[107, 101, 121, 116, 121, 112, 101]⟩, .string ⟨#[107, 101, 121, 118, 97, 108]⟩, .string ⟨#[115, 99, 104, 101, 109, 101]⟩] 1 3 _ _ rfl rfl (by decide)⟩, (Kept.refl _ _).alloc _⟩
  ·have CX := refText_any ⟨#[108, 97, 109, 112, 111, 114, 116, 45, 109, 101, 114, 107, 108, 101]⟩ w2
   go_wp2_with (go_at_call 56; refine CX.mono ?_; rintro e w5 ⟨rfl, hk5⟩; have Ga := qI hk5; clear hk5)
   exact ⟨rfl, Ga.o⟩
  ·have y0 := hkw.cell b0 (by simp)
   have y1 := hkw.cell b1 (by simp)
   have y2 := hkw.cell b2 (by simp)
   have y3 := hkw.cell b3 (by simp)
   have y4 := hkw.cell b4 (by simp)
   go_wp2_with fail
   exact ⟨rfl, Kept.refl _ _⟩
  ·have CX := refText_any ⟨#[115, 104, 97, 50, 53, 54]⟩ w2
   go_wp2_with (go_at_call 56; refine CX.mono ?_; rintro e w5 ⟨rfl, hk5⟩; have Ga := qI hk5; clear hk5)
   exact ⟨rfl, Ga.o⟩
  ·have d1 : x 1 = _ := hd 1 (by kernel_rfl)
   have d2 : x 2 = _ := hd 2 (by kernel_rfl)
   have d3 : x 3 = _ := hd 3 (by kernel_rfl)
   go_wp2_with fail
   exact ⟨⟨w2.heap.size, rfl, Nat.le_refl _, by simp, slc_new w2 [.int .i64 4, .int .i64 0, .string ⟨#[108, 97, 109, 112, 111, 114, 116, 45, 109, 101, 114, 107, 108, 101]⟩, .slice none 0 0, .slice none 0 0, .int .i64 vk, .int .i64 vm, .string vs, .slice vp vi vc, .slice vq vj vd, .int .i64 4, .int .i64 0, .string ⟨#[115, 104, 97, 50, 53, 54]⟩, .slice none 0 0, .slice none 0 0] 5 3 _ _ rfl rfl (by decide)⟩, (Kept.refl _ _).alloc _⟩
  ·obtain ⟨g0, d0, -, -, hs0⟩ := hd 0 (by kernel_rfl)
   obtain ⟨g5, d4, -, -, hs5⟩ := hd 4 (by kernel_rfl)
   have CX := refMap_any (n := 2) (N := 3) (ks := [⟨#[107, 101, 121, 116, 121, 112, 101]⟩, ⟨#[107, 101, 121, 118, 97, 108]⟩, ⟨#[115, 99, 104, 101, 109, 101]⟩]) (lcs := [[.int .i64 4, .int .i64 0, .string ⟨#[108, 97, 109, 112, 111, 114, 116, 45, 109, 101, 114, 107, 108, 101]⟩, .slice none 0 0, .slice none 0 0], [.int .i64 vk, .int .i64 vm, .string vs, .slice vp vi vc, .slice vq vj vd], [.int .i64 4, .int .i64 0, .string ⟨#[115, 104, 97, 50, 53, 54]⟩, .slice none 0 0, .slice none 0 0]]) (vs := [(textV ⟨#[108, 97, 109, 112, 111, 114, 116, 45, 109, 101, 114, 107, 108, 101]⟩ : VS (V 1)), valV k, textV ⟨#[115, 104, 97, 50, 53, 54]⟩]) (S := fun g => W0.heap.size ≤ g) hs0 hs5 (All2.cons (rep_text (n := 1) _ _ _) (All2.cons (Mf.o.kept0 hkw) (All2.cons (rep_text (n := 1) _ _ _) (All2.nil _)))) rfl rfl (by decide)
   clear hs0 hs5
   go_wp2_with (go_at_call 54; refine CX.mono ?_; rintro e w5 ⟨⟨cs5, rfl, hr5⟩, hk5⟩; obtain ⟨k3, m3, s3, p3, i3, c3, q3, j3, e3, rfl⟩ := hr5.conv; have Jc := qI (hr5.mono (T := fun g => W0.heap.size ≤ g) (fun g _ h => by have := Me.o; have := hkw.size; rcases h with h | h <;> omega)); have Ga := qI hk5; clear hk5 hr5)
   exact ⟨⟨_, _, _, _, _, _, _, _, _, rfl, Jc.o⟩, Ga.o⟩
 intro x2 w7 hkw7 b7 hd7 hwin7
 obtain ⟨k6, m6, s6, p6, i6, c6, q6, j6, e6, d5, hr6⟩ := hd7 5 (by decide)
 have Mg := qI hr6
 have Mh := qI hkw7
 have Je := qI (((Ge.o.then Gm.o).then hkw7).heap Jm.o (by simp))
 clear hd7 hwin7 hkw7 hr6
 obtain ⟨r0, r1, r2, r3, r4⟩ := box_of Je.o
 have z : ∀ j, w7.frozen? ⟨w.heap.size + 1, j, none⟩ = false := fun j => free_head Je.o
 change wpList _ _ _ [_] _ _
 go_wp2_with fail
 change bodyPost _ _ _ _ _ (put5 w7 (w.heap.size + 1) k6 m6 s6 (.slice p6 i6 c6) (.slice q6 j6 e6))
 have Gi := put5_kept w7 (w.heap.size + 1) k6 m6 s6 (.slice p6 i6 c6) (.slice q6 j6 e6)
 obtain ⟨y0, y1, y2, y3, y4⟩ := box_of (put5_at Je.o k6 m6 s6 (.slice p6 i6 c6) (.slice q6 j6 e6))
 revert Gi y0 y1 y2 y3 y4
 generalize put5 w7 (w.heap.size + 1) k6 m6 s6 (.slice p6 i6 c6) (.slice q6 j6 e6) = WF
 intro Gi y0 y1 y2 y3 y4
 refine bodyPost_ret (v := .agg #[.int .i64 k6, .int .i64 m6, .string s6, .slice p6 i6 c6, .slice q6 j6 e6]) (by simp [results, Tryz.results12, go_sem, y0, y1, y2, y3, y4]) rfl ?_
 rw [Ja.o]
 have Mi : Kept [] w WF := (((Gj.o.then Ge.o).then Gm.o).then Mh.o).trans Gi (by intro i hi; simp at hi; subst hi; exact .inr (by omega))
 exact ⟨⟨_, rfl, (Mg.o.kept Gi (by intro i hi; simp at hi; subst hi; have := Gt.o; omega)).mono (fun g _ h => by have := Gt.o; omega)⟩, Mi⟩
end Go.Proofs.YtckbnjipecclaaaGreatDoor

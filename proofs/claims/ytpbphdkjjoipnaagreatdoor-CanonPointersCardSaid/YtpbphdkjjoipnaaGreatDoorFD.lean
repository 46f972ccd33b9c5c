/- Parts of one proof, merged: XBu XSl XKE XSn XKD XUA XUB XTb. -/
import Derived.Test.YtpbphdkjjoipnaaGreatDoorFA
import Derived.Lib.UnsafeStr
import Derived.Lib.AppendStr
import Derived.Test.YtpbphdkjjoipnaaGreatDoorFC
import Derived.Lib.SmallJoins
import Derived.BigQuiet
import Derived.Maps.OwnSet
import Derived.StringKeys
import Derived.Test.YtpbphdkjjoipnaaGreatDoorFB
import Derived.Laws.BitsLemmas
import Derived.Test.YtpbphdkjjoipnaaGreatDoorRows
import Derived.LaidMore
import Derived.Stop.LaidErr
import Derived.MakeChecks
import Derived.Lib.LaidTab
import Derived.Lib.LaidU8T
import Derived.Lib.LaidCase
import Derived.PinnedBridge
set_option linter.all false
set_option maxHeartbeats 12800000
set_option maxRecDepth 10000
set_option linter.unusedVariables false
set_option linter.unusedSimpArgs false
set_option linter.unnecessarySimpa false
namespace Go.Proofs.YtpbphdkjjoipnaaGreatDoor
open Go.RowKit
structure KeptB (b : Nat) (w w' : World) : Prop where
 os : w'.os = w.os
 tape : w'.tape = w.tape
 output : w'.output = w.output
 size : w.heap.size ≤ w'.heap.size
 block : ∀ k, k < w.heap.size → k ≠ b → kind w k ≠ 5 + 2 → w'.heap[k]? = w.heap[k]?
theorem KeptB.refl (b : Nat) (w : World) : KeptB b w w := ⟨rfl, rfl, rfl, Nat.le_refl _, fun _ _ _ _ => rfl⟩
theorem KeptB.trans {b : Nat} {x y z : World} (h : KeptB b x y) (k : KeptB b y z) : KeptB b x z :=
 ⟨k.os.trans h.os, k.tape.trans h.tape, k.output.trans h.output, Nat.le_trans h.size k.size, fun i hi hb hk => by
  have h1 := h.block i hi hb hk
  have h2 : kind y i = kind x i := by simp [kind, h1]
  exact (k.block i (Nat.lt_of_lt_of_le hi h.size) hb (by rw [h2]; exact hk)).trans h1⟩
theorem KeptB.of {b : Nat} {X : List Nat} {w w' : World} (h : Kept X w w') (hX : ∀ k, k ∈ X → k = b ∨ kind w k = 5 + 2) : KeptB b w w' :=
 ⟨h.os, h.tape, h.output, h.size, fun k hk hb hn => h.block k hk (fun e => by rcases hX k e with g | g; exact hb g; exact hn g)⟩
theorem KeptB.of0 {b : Nat} {w w' : World} (h : Kept [] w w') : KeptB b w w' := .of h (by simp)
theorem KeptB.heap {b : Nat} {w w' : World} (h : KeptB b w w') {k : Nat} {o : Obj} (ho : w.heap[k]? = some o) (hb : k ≠ b) (hk : kind w k ≠ 5 + 2) : w'.heap[k]? = some o :=
 (h.block k (lt_of_block ho) hb hk).trans ho
structure BW (T : Nat) (W : World) (b : Nat) (w : World) (l : List UInt8) : Prop where
 blk : ∃ p v, (p = .pointer none ∨ p = .pointer (some ⟨b, 0, none⟩)) ∧ w.heap[b]? = some (.cells #[p, v] T (0, 0)) ∧ w.ownsRow W.heap.size 5 1 v l.length (l.map bv)
 kept : Kept [b] W w
 lt : b < W.heap.size
theorem BW.stay {T : Nat} {W : World} {b : Nat} {w w' : World} {l : List UInt8} (h : BW T W b w l) (k : Kept [] w w') : BW T W b w' l := by
 obtain ⟨p, v, hp, hb, hr⟩ := h.blk
 exact ⟨⟨p, v, hp, k.heap hb (by simp), row_kept hr k (by simp)⟩, h.kept.then k, h.lt⟩
theorem BW.new {T : Nat} {W : World} {b : Nat} (h : W.heap[b]? = some (.cells #[.pointer none, .slice none 0 0] T (0, 0))) : BW T W b W [] :=
 ⟨⟨_, _, .inl rfl, h, World.ownsRow_nil _ _ _ _⟩, Kept.refl _ _, lt_of_block h⟩
def Lies (T : Nat) : Prop := liesAt Tryz.prog Tryz.prog.depth T (2 / Tryz.prog.cellsOf T) 0 70 1 = true
theorem lies_builder : Lies 70 := by unfold Lies; kernel_rfl
theorem lies_writer : Lies 93 := by unfold Lies; kernel_rfl
theorem shape_of {w : World} {b : Nat} {c : Array Value} {t : Nat} {f : Nat × Nat} (h : w.heap[b]? = some (.cells c t f)) : w.shape? b = some (t, c.size) := by simp [World.shape?, h]
theorem ptr_same (w : World) (b : Nat) : (binOp .neq 68 (.pointer (some ⟨b, 0, none⟩)) (.pointer (some ⟨b, 0, none⟩))).run Tryz.prog w = .ok (.bool false) w := by
 have h1 : (Tryz.prog.info? 70).map (·.size) = some 2 := by kernel_rfl
 obtain ⟨j, hj, _⟩ := Option.map_eq_some_iff.1 h1
 exact Lib.run_neq_ptr_same w _ Tryz.underlying68 hj
theorem to_unsafe {w : World} {b : Nat} {p v : Value} {T : Nat} (hb : w.heap[b]? = some (.cells #[p, v] T (0, 0))) : (convert 68 145 (.pointer (some ⟨b, 0, none⟩))).run Tryz.prog w = .ok (.pointer (some ⟨b, 0, none⟩)) w := by
 have h1 : (Tryz.prog.info? 70).map (·.size) = some 2 := by kernel_rfl
 obtain ⟨j, hj, hs⟩ := Option.map_eq_some_iff.1 h1
 exact Lib.run_to_unsafe w ⟨b, 0, none⟩ Tryz.underlying68 Tryz.underlying145 hj (by rw [hs]; decide) (shape_of hb) (by simp)
theorem from_unsafe {w : World} {b : Nat} {p v : Value} {T : Nat} (hT : Lies T) (hb : w.heap[b]? = some (.cells #[p, v] T (0, 0))) : (convert 145 68 (.pointer (some ⟨b, 0, none⟩))).run Tryz.prog w = .ok (.pointer (some ⟨b, 0, none⟩)) w := by
 have h1 : (Tryz.prog.info? 70).map (·.size) = some 2 := by kernel_rfl
 obtain ⟨j, hj, _⟩ := Option.map_eq_some_iff.1 h1
 exact Lib.run_from_unsafe w ⟨b, 0, none⟩ Tryz.underlying145 Tryz.underlying68 hj (shape_of hb) hT
theorem copyCheck_any {T : Nat} (hT : Lies T) {w : World} {b : Nat} {p v : Value} (hp : p = .pointer none ∨ p = .pointer (some ⟨b, 0, none⟩)) (hb : w.heap[b]? = some (.cells #[p, v] T (0, 0))) :
  Calls Tryz.prog 84 #[.pointer (some ⟨b, 0, none⟩)] w fun e w' => e = .returned (.tuple #[]) ∧ w'.heap[b]? = some (.cells #[.pointer (some ⟨b, 0, none⟩), v] T (0, 0)) ∧ Kept [b] w w' := by
 have HB := qI hb
 have c0 := cell_head (o := 0) (v := p) hb rfl
 have f0 := free_head (o := 0) hb
 have e1 := to_unsafe hb
 have e2 := from_unsafe hT hb
 clear hb
 rcases hp with rfl | rfl
 ·go_enter Tryz.func84, Tryz.ntmps84
  go_wp2_with fail
  rw [run_callFunc_extern Tryz.func124 (by kernel_rfl) (by kernel_rfl) (by kernel_rfl) (e := Extern.AbiNoEscape.same) (by kernel_rfl)]
  rw [Lib.run_noEscape]
  simp only [Result.andThen]
  rw [Oper.upon_value]
  go_wp2_with fail
  go_end0
  exact ⟨rfl, block_setCell HB.o rfl, (Kept.refl _ _).setCell (.inl (by simp)) _⟩
 ·have e3 := ptr_same w b
  go_enter Tryz.func84, Tryz.ntmps84
  go_wp2_with fail
  go_end0
  exact ⟨rfl, HB.o, Kept.refl _ _⟩
theorem tyByte : SliceTy Tryz.prog 28 5 1 1 (.int .u8 0) := ⟨Tryz.underlying28, by kernel_rfl, rfl, by decide⟩
theorem BW.opened {T : Nat} {W : World} {b : Nat} {w : World} {l : List UInt8} (h : BW T W b w l) : ∃ p a c, (p = .pointer none ∨ p = .pointer (some ⟨b, 0, none⟩)) ∧ w.heap[b]? = some (.cells #[p, .slice a l.length c] T (0, 0)) ∧ w.ownsRow W.heap.size 5 1 (.slice a l.length c) l.length (l.map bv) := by
 obtain ⟨p, v, hp, hb, hr⟩ := h.blk
 obtain ⟨a, c, rfl, -, -⟩ := (Slc.of_row hr).form
 exact ⟨p, a, c, hp, hb, hr⟩
theorem BW.wrote {T : Nat} {W : World} {b : Nat} {w w1 w2 : World} {l l' : List UInt8} {a a' : Option Addr} {c n' c' : Nat} (h : BW T W b w l) (hr : w.ownsRow W.heap.size 5 1 (.slice a l.length c) l.length (l.map bv))
  (hb1 : w1.heap[b]? = some (.cells #[.pointer (some ⟨b, 0, none⟩), .slice a l.length c] T (0, 0))) (hk1 : Kept [b] w w1) (hr2 : w2.ownsRow W.heap.size 5 1 (.slice a' n' c') n' (l'.map bv)) (hn : l'.length = n') (hk2 : Kept (Value.slice a l.length c).ownBlock.toList w1 w2) :
  w2.cell? ⟨b, 1, none⟩ = some (.slice a l.length c) ∧ w2.frozen? ⟨b, 1, none⟩ = false ∧ BW T W b (w2.setCell ⟨b, 1, none⟩ (.slice a' n' c')) l' ∧ KeptB b w (w2.setCell ⟨b, 1, none⟩ (.slice a' n' c')) := by
 subst hn
 have hlt := h.lt
 have hnb : b ∉ (Value.slice a l.length c).ownBlock.toList := fun hx => by
  have := (hr.lt _ (Option.mem_toList.1 hx)).1; omega
 have hb2 := hk2.heap hb1 hnb
 have kX : Kept (b :: (Value.slice a l.length c).ownBlock.toList) w (w2.setCell ⟨b, 1, none⟩ (.slice a' l'.length c')) :=
  ((hk1.mono (Y := b :: (Value.slice a l.length c).ownBlock.toList) (by simp)).trans' (hk2.mono (fun i hi => List.mem_cons_of_mem _ hi))).setCell (p := ⟨b, 1, none⟩) (.inl (List.mem_cons_self ..)) _
 refine ⟨cell_head hb2 rfl, free_head hb2, ⟨⟨_, _, .inr rfl, block_setCell hb2 rfl, ?_⟩, ?_, hlt⟩, KeptB.of kX ?_⟩
 ·exact row_kept hr2 ((Kept.refl [b] w2).setCell (p := ⟨b, 1, none⟩) (.inl (by simp)) _) (fun g hg hx => by
   simp at hx; have := (hr2.lt g hg).1; omega)
 ·exact h.kept.trans kX (fun i hi => by
   rcases List.mem_cons.1 hi with rfl | hi
   ·exact .inl (by simp)
   ·exact .inr (hr.lt i (Option.mem_toList.1 hi)).1)
 ·intro k hk
  rcases List.mem_cons.1 hk with rfl | hk
  ·exact .inl rfl
  ·exact .inr (row_kind hr (Option.mem_toList.1 hk))
theorem wbyte_any {T : Nat} (hT : Lies T) {W w : World} {b : Nat} {l : List UInt8} (h : BW T W b w l) (hl : l.length ≤ 100000000) (x : UInt8) :
  Calls Tryz.prog 98 #[.pointer (some ⟨b, 0, none⟩), .int .u8 x.toNat] w fun e w' => e = .returned .nilIface ∧ BW T W b w' (l ++ [x]) ∧ KeptB b w w' := by
 obtain ⟨p, a, c, hp, hb, hr⟩ := h.opened
 have H := qI h
 have HR := qI hr
 have CC := qI (copyCheck_any hT hp hb)
 have Gc : Hid (b < W.heap.size ∧ W.heap.size ≤ w.heap.size) := qI ⟨h.lt, h.kept.size⟩
 clear h hp hb hr
 go_enter Tryz.func98, Tryz.ntmps98
 go_wp2_with (first
  | (go_at_call 84; refine CC.o.mono ?_; rintro e w1 ⟨rfl, hb1, hk1⟩; have c1 := cell_head (o := 1) (v := .slice a l.length c) hb1 rfl; have Gb := qI hb1; have Ga := qI hk1; clear hb1 hk1)
  | (at_builtin; refine wpList_append_slc tyByte (row_kept HR.o (Ga.o.then ((Kept.refl [] w1).alloc (.cells #[.int .u8 x.toNat] 5))) (by intro g hg hx; have h1 := (HR.o.lt g hg).1; have h2 := Gc.o; simp at hx; omega)) (slc_one w1 (bv x) 5 _ rfl) (by simp [bv, Value.oneCell']) (by simp only [maxLen]; omega) (by omega) (by have h1 := Gc.o; have h2 := Ga.o.size; simp; omega) rfl _ _ rfl rfl rfl ?_; intro v2 w2 hown2 hk2 _ hb2; obtain ⟨a2, c2, rfl, -, -⟩ := (Slc.of_row hown2).form; obtain ⟨g1, g2, g3, g4⟩ := BW.wrote (l' := l ++ [x]) H.o HR.o (((Kept.refl [] w1).alloc (.cells #[.int .u8 x.toNat] 5)).heap Gb.o (by simp)) (Ga.o.then ((Kept.refl [] w1).alloc (.cells #[.int .u8 x.toNat] 5))) (by rw [List.map_append]; exact hown2) (by simp) hk2; have G3 := qI g3; have G4 := qI g4; clear hown2 hk2 hb2 g3 g4))
 go_ret
 exact ⟨rfl, G3.o, G4.o⟩
theorem wstring_any {T : Nat} (hT : Lies T) {W w : World} {b : Nat} {l : List UInt8} (h : BW T W b w l) (hl : l.length ≤ 100000000) (s : ByteArray) (hs : s.size ≤ 100000000) :
  Calls Tryz.prog 55 #[.pointer (some ⟨b, 0, none⟩), .string s] w fun e w' => e = .returned (.tuple #[.int .i64 s.size, .nilIface]) ∧ BW T W b w' (l ++ s.data.toList) ∧ KeptB b w w' := by
 obtain ⟨p, a, c, hp, hb, hr⟩ := h.opened
 obtain ⟨i0, hi, hz0, hz1, hz2⟩ := info_parts tyByte.info
 have H := qI h
 have HR := qI hr
 have HI := qI hi
 have HZ := qI (And.intro hz0 (And.intro hz1 hz2))
 have CC := qI (copyCheck_any hT hp hb)
 have Gc : Hid (b < W.heap.size ∧ W.heap.size ≤ w.heap.size) := qI ⟨h.lt, h.kept.size⟩
 have HL : Hid (s.data.toList.length = s.size) := qI (by simp)
 clear h hp hb hr hi hz0 hz1 hz2
 go_enter Tryz.func55, Tryz.ntmps55
 go_wp2_with (first
  | (go_at_call 84; refine CC.o.mono ?_; rintro e w1 ⟨rfl, hb1, hk1⟩; have c1 := cell_head (o := 1) (v := .slice a l.length c) hb1 rfl; have Gb := qI hb1; have Ga := qI hk1; clear hb1 hk1)
  | (at_builtin; refine Lib.wpList_append_own_string _ rfl _ _ 28 9 rfl W.heap.size 5 i0 Tryz.underlying28 Tryz.underlying9 HI.o HZ.o.1 HZ.o.2.1 HZ.o.2.2 (.slice a l.length c) l.length (l.map bv) rfl (row_kept HR.o Ga.o (by intro g hg hx; have h1 := (HR.o.lt g hg).1; have h2 := Gc.o; simp at hx; omega)) s rfl (by simp only [maxLen]; omega) (by omega) (by have h1 := Gc.o; have h2 := Ga.o.size; omega) ?_; intro v2 w2 hown2 hg2 _; obtain ⟨a2, c2, rfl, -, -⟩ := (Slc.of_row hown2).form; obtain ⟨g1, g2, g3, g4⟩ := BW.wrote (l' := l ++ s.data.toList) H.o HR.o Gb.o Ga.o (by rw [List.map_append]; exact hown2) (by rw [List.length_append, HL.o]) ((Kept.refl _ _).grown hg2 (fun k e => .inl (by simp [e]))); have G3 := qI g3; have G4 := qI g4; clear hown2 hg2 g3 g4))
 go_ret2
 exact ⟨rfl, G3.o, G4.o⟩
theorem runeCells_eq (m : Nat) (hm : m < 55296 ∨ (57344 ≤ m ∧ m ≤ 1114111)) : Lib.runeCells m = (runeB m).map bv := by
 rw [← bytesZ_rune m hm]
 unfold Lib.runeCells bytesZ
 by_cases h1 : m < 128
 ·rw [Lib.encodeRuneZ_one (by omega) (by omega), if_pos (by omega)]; rfl
 by_cases h2 : m < 2048
 ·rw [Lib.encodeRuneZ_two (by omega) (by omega), if_neg (by omega), if_pos (by omega)]; rfl
 by_cases h3 : m < 65536
 ·rw [Lib.encodeRuneZ_three (by omega), if_neg (by omega), if_neg (by omega), if_pos (by omega)]; rfl
 ·rw [Lib.encodeRuneZ_four (by omega) (by omega), if_neg (by omega), if_neg (by omega), if_neg (by omega)]; rfl
theorem wrune_any {T : Nat} (hT : Lies T) {W w : World} {b : Nat} {l : List UInt8} (h : BW T W b w l) (hl : l.length ≤ 100000000) (m : Nat) (hm : m < 55296 ∨ (57344 ≤ m ∧ m ≤ 1114111)) :
  Calls Tryz.prog 199 #[.pointer (some ⟨b, 0, none⟩), .int .i32 m] w fun e w' => (∃ k, e = .returned (.tuple #[k, .nilIface])) ∧ BW T W b w' (l ++ runeB m) ∧ KeptB b w w' := by
 obtain ⟨p, a, c, hp, hb, hr⟩ := h.opened
 have H := qI h
 have HR := qI hr
 have CC := qI (copyCheck_any hT hp hb)
 have Gc : Hid (b < W.heap.size ∧ W.heap.size ≤ w.heap.size) := qI ⟨h.lt, h.kept.size⟩
 have Gt := qI (runeCells_eq m hm)
 have Gu : Hid ((Lib.runeCells m).length = (runeB m).length) := qI (by rw [runeCells_eq m hm, List.length_map])
 have hr4 : (runeB m).length ≤ 4 := (decode_rune m hm).2.2.1
 have HM : Hid ((m : Int) ≤ 1114111) := qI (by omega)
 clear h hp hb hr hm
 go_enter Tryz.func199, Tryz.ntmps199
 go_wp2_with (first
  | (go_at_call 84; refine CC.o.mono ?_; rintro e w1 ⟨rfl, hb1, hk1⟩; have c1 := cell_head (o := 1) (v := .slice a l.length c) hb1 rfl; have Gb := qI hb1; have Ga := qI hk1; clear hb1 hk1)
  | (go_at_call 227; refine (Any.utf8_AppendRune_plain Tryz.shAppendRune (by kernel_rfl) W.heap.size (.slice a l.length c) l.length (l.map bv) (m : Int) (by have := HM.o; omega) (by have := HM.o; omega) w1 (row_kept HR.o Ga.o (by intro g hg hx; have h1 := (HR.o.lt g hg).1; have h2 := Gc.o; simp at hx; omega)) (by omega) (by have h1 := Gc.o; have h2 := Ga.o.size; omega)).mono ?_; rintro e w2 ⟨v2, rfl, hown2, ob, hg2⟩; obtain ⟨a2, c2, rfl, -, -⟩ := (Slc.of_row hown2).form; obtain ⟨g1, g2, g3, g4⟩ := BW.wrote (l' := l ++ runeB m) H.o HR.o Gb.o Ga.o (by rw [List.map_append, ← Gt.o]; exact hown2) (by rw [List.length_append, Gu.o]) (((Kept.refl _ _).alloc ob).grown hg2 (fun k e => .inl (by simp [e]))); have G3 := qI g3; have G4 := qI g4; obtain ⟨p5, v5, -, hb5, -⟩ := G3.o.blk; clear hown2 hg2 g3 g4))
 go_ret2
 exact ⟨⟨_, rfl⟩, G3.o, G4.o⟩
theorem freeze_kept {w : World} {g : Nat} (n : Nat) : Kept [g] w (w.freeze ⟨g, 0, none⟩ n) := by
 have h := Lib.below_freeze (Below.refl 0 w) (p := ⟨g, 0, none⟩) (Nat.zero_le _) n
 refine ⟨h.os, h.tape, h.output, h.size, fun k hk hx => ?_⟩
 unfold World.freeze
 split
 ·rfl
 ·simp only [Array.getElem?_modify]
  rw [if_neg (by simp at hx; omega)]
theorem bstring_any {T : Nat} {W w : World} {b : Nat} {l : List UInt8} (h : BW T W b w l) (hl : l.length ≤ 100000000) (h0 : l ≠ []) :
  Calls Tryz.prog 57 #[.pointer (some ⟨b, 0, none⟩)] w fun e w' => e = .returned (.string (strB l)) ∧ Kept [b] W w' ∧ KeptB b w w' := by
 obtain ⟨p, a, c, hp, hb, hr⟩ := h.opened
 have Gc : Hid (b < W.heap.size ∧ W.heap.size ≤ w.heap.size) := qI ⟨h.lt, h.kept.size⟩
 have Gk := qI h.kept
 have c1 := cell_head (o := 1) (v := .slice a l.length c) hb rfl
 have hl0 : l.length ≠ 0 := by simpa using h0
 obtain ⟨g, cap, cur, hv, hg, hbg, hnc, hcm, hcs, htake⟩ : ∃ g cap cur, (Value.slice a l.length c) = .slice (some ⟨g, 0, none⟩) l.length cap ∧ W.heap.size ≤ g ∧ w.heap[g]? = some (.cells cur 5 (0, 0)) ∧ l.length ≤ cap ∧ cap ≤ maxLen ∧ cur.size = cap * 1 ∧ cur.toList.take (l.length * 1) = l.map bv := by
  rcases hr.2 with ⟨_, hz⟩ | ⟨g, cap, cur, hv, r1, r2, r3, r4, r5, r6⟩
  ·exact absurd hz hl0
  ·exact ⟨g, cap, cur, hv, r1, r2, r3, r4, r5, r6⟩
 simp only [Value.slice.injEq] at hv
 obtain ⟨rfl, -, rfl⟩ := hv
 have hrow : ∀ j x, l[j]? = some x → w.drew.cell? ((⟨g, 0, none⟩ : Addr).add j) = some (.int .u8 x.toNat) := by
  intro j x hx
  have h2 := (Slc.of_row hr).2
  rcases h2 with ⟨h3, _⟩ | ⟨h3, _⟩ | ⟨g', o', cap', hv', _, _, hrow⟩
  ·cases h3
  ·exact absurd h3 hl0
  ·simp only [Value.slice.injEq, Option.some.injEq, Addr.mk.injEq] at hv'
   obtain ⟨⟨rfl, rfl, -⟩, -, -⟩ := hv'
   exact hrow.adds j (bv x) (by simp [hx])
 have hSD : ∀ W' : World, (Builtin.unsafeSliceData_ #[28] 120 #[.slice (some ⟨g, 0, none⟩) l.length c]).run Tryz.prog W' = .ok (.pointer (some ⟨g, 0, none⟩)) W' := fun W' => Lib.run_unsafeSliceData_row _ _ _ _ _ _ (by omega)
 have hUS : (Builtin.unsafeString_ #[120, 3] 9 #[.pointer (some ⟨g, 0, none⟩), .int .i64 l.length]).run Tryz.prog w.drew = .ok (.string (strB l)) (w.drew.freeze ⟨g, 0, none⟩ l.length) :=
  Lib.run_unsafeString_row w.drew 120 3 9 5 Tryz.underlying120 (by kernel_rfl) g cur.size (by have hg' : w.drew.heap[g]? = some (.cells cur 5 (0, 0)) := hbg; simp [World.shape?, hg']) l h0 (by omega) (by omega) hrow
 have HK : Hid (Kept [g] w (w.drew.freeze ⟨g, 0, none⟩ l.length)) := qI ((Kept.refl [g] w).drew.trans' (freeze_kept l.length))
 have HG : Hid (W.heap.size ≤ g ∧ kind w g = 5 + 2) := qI ⟨hg, kind_cells hbg⟩
 have Gm := qI hSD
 have Gf := qI hUS
 have hgb : b ≠ g := by have := Gc.o; omega
 clear h hp hb hr hbg hnc hcm hcs htake hrow hl0 hSD hUS hg h0
 go_enter Tryz.func57, Tryz.ntmps57
 go_wp2_with fail
 refine wp_region_last' (n := 12) (fun w' : World => w'.cell? ⟨b, 1, none⟩ = some (.slice (some ⟨g, 0, none⟩) l.length c)) 11 (by kernel_rfl) (by kernel_rfl) ?_
 change wpAnyT _ _ _ _ _ _ _ _ _ w.drew
 have hSS : (fun w' : World => w'.cell? ⟨b, 1, none⟩ = some (.slice (some ⟨g, 0, none⟩) l.length c)) w.drew := c1
 clear c1
 revert hSS Gf HK
 generalize w.drew = W2
 intro HK Gf hSS
 refine wpAnyT_start ?_
 intro O R hO hR
 have hQp : ∀ c a (d : Nat) v w, R (.panic c) (a.put (some d) v) w → R (.panic c) a w := by subst hR; exact fun _ _ _ _ _ h => h
 refine wpAnyT_take' (i := 0) (v := ?_) hO rfl rfl (by kernel_rfl) (by kernel_rfl) (by kernel_rfl) (by kernel_rfl) hQp (Or.inl ⟨by kernel_rfl, fun w hSw => ?_⟩) hSS ?_
 rotate_left
 ·go_simp; try with_reducible rfl
 try simp only [zA,zN,zB,zC,zD]
 refine wpAnyT_take' (i := 1) (v := ?_) hO rfl rfl (by kernel_rfl) (by kernel_rfl) (by kernel_rfl) (by kernel_rfl) hQp (Or.inl ⟨by kernel_rfl, fun w hSw => ?_⟩) hSS ?_
 rotate_left
 ·go_simp; try with_reducible rfl
 try simp only [zA,zN,zB,zC,zD]
 refine wpAnyT_take' (i := 2) (v := ?_) hO rfl rfl (by kernel_rfl) (by kernel_rfl) (by kernel_rfl) (by kernel_rfl) hQp (Or.inl ⟨by kernel_rfl, fun w hSw => ?_⟩) hSS ?_
 rotate_left
 ·go_simp; try with_reducible rfl
 try simp only [zA,zN,zB,zC,zD]
 refine wpAnyT_take' (i := 3) (v := ?_) hO rfl rfl (by kernel_rfl) (by kernel_rfl) (by kernel_rfl) (by kernel_rfl) hQp (Or.inl ⟨by kernel_rfl, fun w hSw => ?_⟩) hSS ?_
 rotate_left
 ·go_simp; try with_reducible rfl
 try simp only [zA,zN,zB,zC,zD]
 refine wpAnyT_take' (i := 5) (v := ?_) hO rfl rfl (by kernel_rfl) (by kernel_rfl) (by kernel_rfl) (by kernel_rfl) hQp (Or.inl ⟨by kernel_rfl, fun w hSw => ?_⟩) hSS ?_
 rotate_left
 ·go_simp; try with_reducible rfl
 try simp only [zA,zN,zB,zC,zD]
 refine wpAnyT_take' (i := 6) (v := ?_) hO rfl rfl (by kernel_rfl) (by kernel_rfl) (by kernel_rfl) (by kernel_rfl) hQp (Or.inl ⟨by kernel_rfl, fun w hSw => ?_⟩) hSS ?_
 rotate_left
 ·go_simp; try with_reducible rfl
 try simp only [zA,zN,zB,zC,zD]
 refine wpAnyT_take' (i := 7) (v := ?_) hO rfl rfl (by kernel_rfl) (by kernel_rfl) (by kernel_rfl) (by kernel_rfl) hQp (Or.inl ⟨by kernel_rfl, fun w hSw => ?_⟩) hSS ?_
 rotate_left
 ·go_simp; try with_reducible rfl
 try simp only [zA,zN,zB,zC,zD]
 refine wpAnyT_take' (i := 8) (v := ?_) hO rfl rfl (by kernel_rfl) (by kernel_rfl) (by kernel_rfl) (by kernel_rfl) hQp (Or.inl ⟨by kernel_rfl, fun w hSw => ?_⟩) hSS ?_
 rotate_left
 ·go_simp; try with_reducible rfl
 try simp only [zA,zN,zB,zC,zD]
 refine wpAnyT_take' (i := 9) (v := ?_) hO rfl rfl (by kernel_rfl) (by kernel_rfl) (by kernel_rfl) (by kernel_rfl) hQp (Or.inl ⟨by kernel_rfl, fun w hSw => ?_⟩) hSS ?_
 rotate_left
 ·go_simp; try with_reducible rfl
 try simp only [zA,zN,zB,zC,zD]
 have hSD := Gm.o
 refine wpAnyT_take' (i := 4) (v := ?_) hO rfl rfl (by kernel_rfl) (by kernel_rfl) (by kernel_rfl) (by kernel_rfl) hQp (Or.inl ⟨by kernel_rfl, fun w hSw => ?_⟩) hSS ?_
 rotate_left
 ·go_simp; try with_reducible rfl
 try simp only [zA,zN,zB,zC,zD]
 have hUS := Gf.o
 refine wpAnyT_one' (i := 10) hO rfl (by kernel_rfl) (by kernel_rfl) (fun K hK => ?_)
 go_simp
 have hS2 : (fun w' : World => w'.cell? ⟨b, 1, none⟩ = some (.slice (some ⟨g, 0, none⟩) l.length c)) (W2.freeze ⟨g, 0, none⟩ l.length) := (freeze_kept l.length).cell hSS (by simpa using hgb)
 refine hK _ _ (.inr hS2) ?_
 clear hK K
 try simp only [zA,zN,zB,zC,zD]
 clear hSS
 have hSS := hS2
 clear hS2 hSD hUS
 refine wpAnyT_one' (i := 11) hO rfl (by kernel_rfl) (by kernel_rfl) (fun K hK => ?_)
 go_simp
 refine hK _ _ (.inl rfl) ?_
 clear hK K
 try simp only [zA,zN,zB,zC,zD]
 refine wpAnyT_done' hO (by kernel_rfl) ?_ _
 subst hR
 try clear hQp hO O
 go_wp2_with fail
 go_ret
 refine ⟨rfl, Gk.o.trans HK.o (fun i hi => by simp at hi; subst hi; exact .inr HG.o.1), KeptB.of HK.o (fun i hi => by simp at hi; subst hi; exact .inr HG.o.2)⟩
theorem bstring_new {T : Nat} {w : World} {b : Nat} {p : Value} (hb : w.heap[b]? = some (.cells #[p, .slice none 0 0] T (0, 0))) :
  Calls Tryz.prog 57 #[.pointer (some ⟨b, 0, none⟩)] w fun e w' => e = .returned (.string (strB [])) ∧ Kept [] w w' := by
 have c1 := cell_head (o := 1) (v := .slice none 0 0) hb rfl
 have hSD : ∀ W' : World, (Builtin.unsafeSliceData_ #[28] 120 #[.slice none 0 0]).run Tryz.prog W' = .ok (.pointer none) W' := fun W' => Lib.run_unsafeSliceData_nil _ _ _ _ _
 have hUS : (Builtin.unsafeString_ #[120, 3] 9 #[.pointer none, .int .i64 0]).run Tryz.prog w.drew = .ok (.string .empty) w.drew := Lib.run_unsafeString_none _ _ _ _ _
 have Gm := qI hSD
 have Gf := qI hUS
 have HK : Hid (Kept [] w w.drew) := qI (Kept.refl [] w).drew
 clear hb hSD hUS
 go_enter Tryz.func57, Tryz.ntmps57
 go_wp2_with fail
 refine wp_region_last' (n := 12) (fun w' : World => w'.cell? ⟨b, 1, none⟩ = some (.slice none 0 0)) 11 (by kernel_rfl) (by kernel_rfl) ?_
 change wpAnyT _ _ _ _ _ _ _ _ _ w.drew
 have hSS : (fun w' : World => w'.cell? ⟨b, 1, none⟩ = some (.slice none 0 0)) w.drew := c1
 clear c1
 revert hSS Gf HK
 generalize w.drew = W2
 intro Gf HK hSS
 refine wpAnyT_start ?_
 intro O R hO hR
 have hQp : ∀ c a (d : Nat) v w, R (.panic c) (a.put (some d) v) w → R (.panic c) a w := by subst hR; exact fun _ _ _ _ _ h => h
 refine wpAnyT_take' (i := 0) (v := ?_) hO rfl rfl (by kernel_rfl) (by kernel_rfl) (by kernel_rfl) (by kernel_rfl) hQp (Or.inl ⟨by kernel_rfl, fun w hSw => ?_⟩) hSS ?_
 rotate_left
 ·go_simp; try with_reducible rfl
 try simp only [zA,zN,zB,zC,zD]
 refine wpAnyT_take' (i := 1) (v := ?_) hO rfl rfl (by kernel_rfl) (by kernel_rfl) (by kernel_rfl) (by kernel_rfl) hQp (Or.inl ⟨by kernel_rfl, fun w hSw => ?_⟩) hSS ?_
 rotate_left
 ·go_simp; try with_reducible rfl
 try simp only [zA,zN,zB,zC,zD]
 refine wpAnyT_take' (i := 2) (v := ?_) hO rfl rfl (by kernel_rfl) (by kernel_rfl) (by kernel_rfl) (by kernel_rfl) hQp (Or.inl ⟨by kernel_rfl, fun w hSw => ?_⟩) hSS ?_
 rotate_left
 ·go_simp; try with_reducible rfl
 try simp only [zA,zN,zB,zC,zD]
 refine wpAnyT_take' (i := 3) (v := ?_) hO rfl rfl (by kernel_rfl) (by kernel_rfl) (by kernel_rfl) (by kernel_rfl) hQp (Or.inl ⟨by kernel_rfl, fun w hSw => ?_⟩) hSS ?_
 rotate_left
 ·go_simp; try with_reducible rfl
 try simp only [zA,zN,zB,zC,zD]
 refine wpAnyT_take' (i := 5) (v := ?_) hO rfl rfl (by kernel_rfl) (by kernel_rfl) (by kernel_rfl) (by kernel_rfl) hQp (Or.inl ⟨by kernel_rfl, fun w hSw => ?_⟩) hSS ?_
 rotate_left
 ·go_simp; try with_reducible rfl
 try simp only [zA,zN,zB,zC,zD]
 refine wpAnyT_take' (i := 6) (v := ?_) hO rfl rfl (by kernel_rfl) (by kernel_rfl) (by kernel_rfl) (by kernel_rfl) hQp (Or.inl ⟨by kernel_rfl, fun w hSw => ?_⟩) hSS ?_
 rotate_left
 ·go_simp; try with_reducible rfl
 try simp only [zA,zN,zB,zC,zD]
 refine wpAnyT_take' (i := 7) (v := ?_) hO rfl rfl (by kernel_rfl) (by kernel_rfl) (by kernel_rfl) (by kernel_rfl) hQp (Or.inl ⟨by kernel_rfl, fun w hSw => ?_⟩) hSS ?_
 rotate_left
 ·go_simp; try with_reducible rfl
 try simp only [zA,zN,zB,zC,zD]
 refine wpAnyT_take' (i := 8) (v := ?_) hO rfl rfl (by kernel_rfl) (by kernel_rfl) (by kernel_rfl) (by kernel_rfl) hQp (Or.inl ⟨by kernel_rfl, fun w hSw => ?_⟩) hSS ?_
 rotate_left
 ·go_simp; try with_reducible rfl
 try simp only [zA,zN,zB,zC,zD]
 refine wpAnyT_take' (i := 9) (v := ?_) hO rfl rfl (by kernel_rfl) (by kernel_rfl) (by kernel_rfl) (by kernel_rfl) hQp (Or.inl ⟨by kernel_rfl, fun w hSw => ?_⟩) hSS ?_
 rotate_left
 ·go_simp; try with_reducible rfl
 try simp only [zA,zN,zB,zC,zD]
 have hSD := Gm.o
 refine wpAnyT_take' (i := 4) (v := ?_) hO rfl rfl (by kernel_rfl) (by kernel_rfl) (by kernel_rfl) (by kernel_rfl) hQp (Or.inl ⟨by kernel_rfl, fun w hSw => ?_⟩) hSS ?_
 rotate_left
 ·go_simp; try with_reducible rfl
 try simp only [zA,zN,zB,zC,zD]
 have hUS := Gf.o
 refine wpAnyT_one' (i := 10) hO rfl (by kernel_rfl) (by kernel_rfl) (fun K hK => ?_)
 go_simp
 refine hK _ _ (.inr hSS) ?_
 clear hK K
 try simp only [zA,zN,zB,zC,zD]
 clear hSD hUS
 refine wpAnyT_one' (i := 11) hO rfl (by kernel_rfl) (by kernel_rfl) (fun K hK => ?_)
 go_simp
 refine hK _ _ (.inl rfl) ?_
 clear hK K
 try simp only [zA,zN,zB,zC,zD]
 refine wpAnyT_done' hO (by kernel_rfl) ?_ _
 subst hR
 try clear hQp hO O
 go_wp2_with fail
 go_ret
 exact ⟨rfl, HK.o⟩
open Go.Lib (decodeL)
structure Tabs (w : World) : Prop where
 utf : Lib.Utf8Tabs (Tryz.shDecode_ren.g 3) (Tryz.shDecode_ren.g 4) w
 case : Lib.CaseVar (Tryz.shToLower_ren.g 13) Lib.caseA w
 pow : Lib.TabIs Tryz.prog w "internal/strconv.uint64pow10" .u64 Lib.pow10Tab
theorem Tabs.kept0 {w w' : World} (h : Tabs w) (k : Kept [] w w') : Tabs w' := by
 obtain ⟨h1, h2, h3⟩ := h
 refine ⟨⟨fun c hc => k.cell (h1.1 c hc) (by simp), fun i hi => ⟨k.cell (h1.2 i hi).1 (by simp), k.cell (h1.2 i hi).2 (by simp)⟩⟩, ?_, ?_⟩
 ·obtain ⟨R, oR, cap, q, t⟩ := h2
  exact ⟨R, oR, cap, k.cell q (by simp), fun i hi => by
   obtain ⟨a, b, c, d, e⟩ := t i hi
   exact ⟨k.cell a (by simp), k.cell b (by simp), k.cell c (by simp), k.cell d (by simp), k.cell e (by simp)⟩⟩
 ·have hs : (Tryz.prog.globalNamed "internal/strconv.uint64pow10").isSome = true := by kernel_rfl
  obtain ⟨g, hg⟩ := Option.isSome_iff_exists.1 hs
  exact Go.Joins.tab_stays hg h3 (k.below (Nat.le_refl _) (by simp)) (Nat.le_refl _)
theorem of_below {P : Program} {f : FuncId} {args : Array Value} {w : World} {r : Ending} (h : Calls P f args w fun e w' => e = r ∧ Below w.heap.size w w') : Calls P f args w fun e w' => e = r ∧ Kept [] w w' :=
 h.mono fun _ _ ⟨h1, h2⟩ => ⟨h1, Kept.of_below h2⟩
theorem of_same {P : Program} {f : FuncId} {args : Array Value} {w : World} {r : Ending} (h : Calls P f args w fun e w' => e = r ∧ w' = w) : Calls P f args w fun e w' => e = r ∧ w = w' :=
 h.mono fun _ _ ⟨h1, h2⟩ => ⟨h1, h2.symm⟩
theorem libValid {w : World} (ht : Tabs w) (s : ByteArray) (hs : s.size ≤ 281474976710656) : Calls Tryz.prog 213 #[.string s] w fun e w' => e = .returned (.bool (bytesOk s)) ∧ Kept [] w w' :=
 of_below (Any.utf8_ValidString Tryz.shValid s w (by omega) ht.utf)
theorem libDecode {w : World} (ht : Tabs w) (s : ByteArray) : Calls Tryz.prog 172 #[.string s] w fun e w' => e = .returned (.tuple #[.int .i32 (Lib.decodeGo s).1, .int .i64 (Lib.decodeGo s).2]) ∧ Kept [] w w' :=
 of_below (Any.utf8_DecodeRuneInString Tryz.shDecode s w ht.utf)
theorem libIndexByte (s : ByteArray) (c : Int) (w : World) : Calls Tryz.prog 116 #[.string s, .int .u8 c] w fun e w' => e = .returned (.int .i64 (Lib.indexByte s.data.toList c.toNat.toUInt8)) ∧ w = w' :=
 of_same (Any.strings_IndexByte Tryz.shIndexByte s c w)
theorem libHasPrefix (s p : ByteArray) (w : World) : Calls Tryz.prog 88 #[.string s, .string p] w fun e w' => e = .returned (.bool (p.data.toList.isPrefixOf s.data.toList)) ∧ w = w' :=
 of_same (Any.strings_HasPrefix Tryz.shHasPrefix s p w)
theorem libValidRune (r : Int) (w : World) : Calls Tryz.prog 248 #[.int .i32 r] w fun e w' => e = .returned (.bool (Lib.validRune r)) ∧ w = w' :=
 of_same (Any.utf8_ValidRune Tryz.shValidRune r w)
theorem libFormatBool (b : Bool) (w : World) : Calls Tryz.prog 93 #[.bool b] w fun e w' => e = .returned (.string (strB (Lib.formatBool b))) ∧ w = w' :=
 of_same (Any.strconv_FormatBool Tryz.shFormatBool b w)
theorem kept_grow {w : World} (n : Nat) (os : Array Obj) : Kept [] w (Sort.grow (w.drewN n) os) :=
 ⟨rfl, rfl, rfl, by simp [Sort.grow], fun k hk _ => by
  show (w.heap ++ os)[k]? = w.heap[k]?
  rw [Array.getElem?_append_left hk]⟩
theorem libItoa {w : World} (ht : Tabs w) (n : Int) (h0 : -9223372036854775808 ≤ n) (h1 : n ≤ 9223372036854775807) : Calls Tryz.prog 76 #[.int .i64 n] w fun e w' => e = .returned (.string (strB (Lib.itoa n))) ∧ Kept [] w w' :=
 (Any.strconv_Itoa Tryz.shItoa n h0 h1 w ht.pow).mono fun e w' ⟨h1, k, os, h2⟩ => ⟨h1, by rw [h2]; exact kept_grow k os⟩
theorem lowerExtra : Builder.Extra Tryz.prog Tryz.shToLower_ren := {
 sizeBuilder := by kernel_rfl
 liesBuilder := by kernel_rfl
 t5 := Tryz.underlying5
 a5 := Tryz.isAgg5
 z5 := Tryz.sizeOf5
 v5 := Tryz.zeroValue5
 infoByte := by kernel_rfl
 cellsByte := by kernel_rfl
 sizeByte := by kernel_rfl
 neB5 := by decide }
theorem libToLower {w : World} (ht : Tabs w) (s : ByteArray) (hs : s.size ≤ 1000000) : Calls Tryz.prog 263 #[.string s] w fun e w' => e = .returned (.string (strB (Lib.toLowerD s.data.toList))) ∧ Kept [] w w' :=
 of_below (Any.strings_ToLower_any Tryz.shToLower lowerExtra s w (by omega) ht.case ht.utf)
theorem libTrimLeft (s cs : ByteArray) (w : World) (h1 : cs.size ≤ 100) (h2 : ∀ (j : Nat) b, cs.data.toList[j]? = some b → b.toNat < 128) : Calls Tryz.prog 114 #[.string s, .string cs] w fun e w' => e = .returned (.string (strB (Lib.trimLeftS s.data.toList cs.data.toList))) ∧ Kept [] w w' :=
 of_below (Any.strings_TrimLeft_laid Tryz.shTrimLeft (by kernel_rfl) s cs w (by omega) h2)
theorem libTrim (s cs : ByteArray) (w : World) (hs : s.size ≤ 281474976710656) (h1 : cs.size ≤ 100) (h2 : ∀ (j : Nat) b, cs.data.toList[j]? = some b → b.toNat < 128) : Calls Tryz.prog 266 #[.string s, .string cs] w fun e w' => e = .returned (.string (strB (Lib.trimS s.data.toList cs.data.toList))) ∧ Kept [] w w' :=
 of_below (Any.strings_Trim_laid Tryz.shTrim (by kernel_rfl) s cs w (by omega) (by omega) h2)
theorem libEqual {w : World} {a b : Option Addr} {n m c d : Nat} {x y : List UInt8} (hx : Bytes w (.slice a n c) x) (hy : Bytes w (.slice b m d) y) :
  Calls Tryz.prog 44 #[.slice a n c, .slice b m d] w fun e w' => e = .returned (.bool (decide (x = y))) ∧ w = w' := by
 have c1 := Bytes.toStr hx
 have c2 := Bytes.toStr hy
 have HT : Hid (((strB x).toList == (strB y).toList) = decide (x = y)) := qI (by
  by_cases h : x = y
  ·rw [decide_eq_true h]; exact (str_eq (by rw [h])).1
  ·rw [decide_eq_false h]; exact (str_ne (fun e => h (strB_inj e))).1)
 clear hx hy
 have ht := HT.o
 revert ht
 generalize decide (x = y) = r
 intro ht
 go_enter Tryz.func44, Tryz.ntmps44
 go_wp2_with fail
 go_ret
 exact ⟨rfl, rfl⟩
theorem utfValid {w : World} (ht : Tabs w) (s : ByteArray) (hs : s.size ≤ 281474976710656) : Calls Tryz.prog 177 #[.string s] w fun e w' => e = .returned (.bool (bytesOk s)) ∧ Kept [] w w' := by
 have C := qI (libValid ht s hs)
 clear ht
 go_enter Tryz.func177, Tryz.ntmps177
 go_wp2_with (go_at_call 213; refine C.o.mono ?_; rintro e w2 ⟨rfl, hk2⟩)
 go_ret
 exact ⟨rfl, hk2⟩
theorem decodeGo_eq (s : ByteArray) : Lib.decodeGo s = if s.data.toList = [] then (65533, 0) else decodeL s.data.toList := by
 unfold Lib.decodeGo decodeL
 have e : s.size = s.data.toList.length := by simp
 have e2 : (⟨s.data.toList.toArray⟩ : ByteArray) = s := by cases s; simp
 rw [e2]
 by_cases h : s.data.toList = []
 ·rw [if_pos h, if_pos (by rw [e, h]; rfl)]
 ·rw [if_neg h, if_neg (by rw [e]; exact fun q => h (List.eq_nil_of_length_eq_zero q))]
theorem utfNext {w : World} (ht : Tabs w) (s : ByteArray) (hs : s.size ≤ 281474976710656) : Calls Tryz.prog 226 #[.string s] w fun e w' => e = .returned (.tuple #[.int .i64 (nextZ s.data.toList).1, .int .i64 (nextZ s.data.toList).2]) ∧ Kept [] w w' := by
 have C := qI (libDecode ht s)
 have HD := qI (decodeGo_eq s)
 have HN : Hid ((nextZ s.data.toList = ((-1 : Int), 0) ∧ ((Lib.decodeGo s).2 = 0 ∨ ((Lib.decodeGo s).1 = 65533 ∧ (Lib.decodeGo s).2 = 1))) ∨ (nextZ s.data.toList = (((Lib.decodeGo s).1 : Int), (Lib.decodeGo s).2) ∧ (Lib.decodeGo s).1 ≤ 1114111 ∧ (Lib.decodeGo s).2 ≤ 4 ∧ ¬ ((Lib.decodeGo s).2 = 0) ∧ ¬ ((Lib.decodeGo s).1 = 65533 ∧ (Lib.decodeGo s).2 = 1))) := qI (by
  rw [HD.o]
  unfold nextZ
  by_cases h : s.data.toList = []
  ·rw [if_pos (.inl h), if_pos h]
   exact .inl ⟨rfl, .inl rfl⟩
  ·rw [if_neg h]
   by_cases hb : (decodeL s.data.toList).1 = 65533 ∧ (decodeL s.data.toList).2 = 1
   ·rw [if_pos (.inr hb)]
    exact .inl ⟨rfl, .inr hb⟩
   ·rw [if_neg (by rintro (q | q); exact h q; exact hb q)]
    have D := decoded h hb
    have hp := D.pos
    have h4 := (code_of D).2
    have hv := D.valid
    exact .inr ⟨rfl, by omega, h4, by omega, hb⟩)
 clear ht
 revert C HN
 generalize nextZ s.data.toList = N
 generalize Lib.decodeGo s = p
 obtain ⟨r, k⟩ := p
 intro C HN
 simp only at C HN
 rcases HN.o with ⟨rfl, rfl | ⟨rfl, rfl⟩⟩ | ⟨rfl, h1, h2, h3, h4⟩
 ·go_enter Tryz.func226, Tryz.ntmps226
  go_wp2_with (go_at_call 172; refine C.o.mono ?_; rintro e w2 ⟨rfl, hk2⟩)
  go_ret2
  exact ⟨rfl, hk2⟩
 ·go_enter Tryz.func226, Tryz.ntmps226
  go_wp2_with (go_at_call 172; refine C.o.mono ?_; rintro e w2 ⟨rfl, hk2⟩)
  go_ret2
  exact ⟨rfl, hk2⟩
 ·have fk0 : ((k : Int) == 0) = false := (nat_ne (a := k) (b := 0) h3).1
  have h1I : (r : Int) ≤ 1114111 := by omega
  have h3I : (0 : Int) < k := by omega
  by_cases hr : r = 65533
  ·have fr := (nat_eq hr).1
   have fk1 : ((k : Int) == 1) = false := (nat_ne (a := k) (b := 1) (fun e => h4 ⟨hr, e⟩)).1
   have fr' : ((r : Int) == 65533) = true := fr
   clear h1 h2 h3 h4 hr fr
   go_enter Tryz.func226, Tryz.ntmps226
   go_wp2_with (go_at_call 172; refine C.o.mono ?_; rintro e w2 ⟨rfl, hk2⟩)
   go_ret2
   exact ⟨rfl, hk2⟩
  ·have fr := (nat_ne hr).1
   have fr' : ((r : Int) == 65533) = false := fr
   clear h1 h2 h3 h4 hr fr
   go_enter Tryz.func226, Tryz.ntmps226
   go_wp2_with (go_at_call 172; refine C.o.mono ?_; rintro e w2 ⟨rfl, hk2⟩)
   go_ret2
   exact ⟨rfl, hk2⟩
theorem Bytes.at {w : World} {a : Option Addr} {c : Nat} {l : List UInt8} (h : Bytes w (.slice a l.length c) l) {k : Nat} (hk : k < l.length) : ∃ g o, a = some ⟨g, o, none⟩ ∧ w.cell? ⟨g, o + k, none⟩ = some (.int .u8 l[k].toNat) := by
 rcases h.2 with ⟨_, h0⟩ | ⟨h0, _⟩ | ⟨g, o, cap, hv, _, _, hrow⟩
 ·omega
 ·omega
 ·simp only [Value.slice.injEq] at hv
  exact ⟨g, o, hv.1, hrow.cells k (bv l[k]) (by simp [hk])⟩
def hexL (l : List UInt8) : List UInt8 := l.flatMap (fun c => [hexd (c.toNat / 16), hexd (c.toNat % 16)])
theorem hexL_snoc (l : List UInt8) (c : UInt8) : hexL (l ++ [c]) = (hexL l ++ [hexd (c.toNat / 16)]) ++ [hexd (c.toNat % 16)] := by simp [hexL]
theorem hexL_len : ∀ (l : List UInt8), (hexL l).length = 2 * l.length
 | [] => rfl
 | c :: l => by
  have := hexL_len l
  simp only [hexL, List.flatMap_cons, List.length_append, List.length_cons, List.length_nil] at *
  omega
theorem hexc : ∀ (k : Nat) (h : k < 16), (⟨#[48, 49, 50, 51, 52, 53, 54, 55, 56, 57, 97, 98, 99, 100, 101, 102]⟩ : ByteArray)[k]'h = hexd k := by
 have h : ∀ k : Fin 16, (⟨#[48, 49, 50, 51, 52, 53, 54, 55, 56, 57, 97, 98, 99, 100, 101, 102]⟩ : ByteArray)[k.val]'k.isLt = hexd k.val := by decide
 exact fun k hk => h ⟨k, hk⟩
theorem hex_any {w : World} {a : Option Addr} {c : Nat} {l : List UInt8} (h : Bytes w (.slice a l.length c) l) (hl : l.length ≤ 1000000) (h0 : l ≠ []) :
  Calls Tryz.prog 179 #[.slice a l.length c] w fun e w' => e = .returned (.string (strB (hexL l))) ∧ Kept [] w w' := by
 have H := qI h
 obtain ⟨W0, Gg⟩ : ∃ W0, Hid (W0 = w.alloc (.cells #[.pointer none, .slice none 0 0] 70)) := ⟨_, qI rfl⟩
 have Gi : Hid (Kept [] w W0) := qI (by rw [Gg.o]; exact (Kept.refl _ _).alloc _)
 have Gn : Hid (BW 70 W0 w.heap.size W0 []) := qI (BW.new (by rw [Gg.o]; exact block_alloc rfl))
 clear h
 go_enter Tryz.func179, Tryz.ntmps179
 go_wp2_with fail
 rw [← Gg.o]
 go_loopw [8] (fun i wr => ∃ k : Nat, i = .int .i64 k ∧ k ≤ l.length ∧ BW 70 W0 w.heap.size wr (hexL (l.take k))) (fun i _ => l.length - (intOf i).toNat)
 case atStart => exact ⟨0, rfl, Nat.zero_le _, Gn.o⟩
 case round =>
  obtain ⟨k, rfl, hk, hb⟩ := hrel
  have HB := qI hb
  have Gk : Hid (Kept [] w wr) := qI (Gi.o.trans hb.kept (by intro i hi; simp at hi; subst hi; exact .inr (Nat.le_refl _)))
  clear hb
  by_cases hlt : k < l.length
  ·have hltI : (k : Int) < l.length := by omega
   obtain ⟨g, o, rfl, q0⟩ := Bytes.at (H.o.kept0 Gk.o) hlt
   have hx : (l[k].toNat : Int) ≤ 255 := by have := l[k].toNat_lt; omega
   have Gd : Hid (hexL (l.take (k + 1)) = (hexL (l.take k) ++ [hexd (l[k].toNat / 16)]) ++ [hexd (l[k].toNat % 16)]) := qI (by rw [List.take_succ_eq_append_getElem hlt, hexL_snoc])
   revert q0 hx Gd
   generalize l[k] = x
   intro q0 hx Gd
   have hlen : (hexL (l.take k)).length ≤ 50000000 := by rw [hexL_len, List.length_take]; omega
   go_wp2_with fail
   refine (wbyte_any lies_builder HB.o (by omega) _).mono ?_
   rintro e w1 ⟨rfl, hb1, -⟩
   rw [hexc _ (by omega)] at hb1
   have Gb := qI hb1
   clear hb1
   go_wp2_with fail
   refine (wbyte_any lies_builder Gb.o (by rw [List.length_append]; simp only [List.length_cons, List.length_nil]; omega) _).mono ?_
   rintro e w2 ⟨rfl, hb2, -⟩
   rw [hexc _ (by omega), ← Gd.o] at hb2
   have Gp := qI hb2
   clear hb2
   go_wp2_with fail
   case roundEnd => exact ⟨⟨k + 1, by go_num, by omega, Gp.o⟩, by simp [intOf]; omega⟩
  ·obtain rfl : k = l.length := by omega
   have Gb : Hid (BW 70 W0 w.heap.size wr (hexL l)) := qI (by have := HB.o; rw [List.take_length] at this; exact this)
   have H0 := qI h0
   clear h0
   have hlen : (hexL l).length ≤ 50000000 := by rw [hexL_len]; omega
   go_wp2_with (go_at_call 57; refine (bstring_any Gb.o (by omega) (by intro e; have h1 := congrArg List.length e; rw [hexL_len] at h1; simp only [List.length_nil] at h1; exact H0.o (List.eq_nil_of_length_eq_zero (by omega)))).mono ?_; rintro e w2 ⟨rfl, hk2, -⟩)
   go_ret
   exact ⟨rfl, Gi.o.trans hk2 (by intro i hi; simp at hi; subst hi; exact .inr (Nat.le_refl _))⟩
theorem wbyte_34 {T : Nat} (hT : Lies T) {W w : World} {b : Nat} {l : List UInt8} (h : BW T W b w l) (hl : l.length ≤ 100000000) :
  Calls Tryz.prog 98 #[.pointer (some ⟨b, 0, none⟩), .int .u8 34] w fun e w' => e = .returned .nilIface ∧ BW T W b w' (l ++ [34]) ∧ KeptB b w w' := wbyte_any hT h hl 34
theorem wbyte_92 {T : Nat} (hT : Lies T) {W w : World} {b : Nat} {l : List UInt8} (h : BW T W b w l) (hl : l.length ≤ 100000000) :
  Calls Tryz.prog 98 #[.pointer (some ⟨b, 0, none⟩), .int .u8 92] w fun e w' => e = .returned .nilIface ∧ BW T W b w' (l ++ [92]) ∧ KeptB b w w' := wbyte_any hT h hl 92
theorem quoteB_len (c : UInt8) : (quoteB c).length ≤ 6 := by
 unfold quoteB
 split
 ·simp
 ·split <;> simp
theorem quote_take (s : List UInt8) (k : Nat) : (((s.take k).flatMap quoteB)).length ≤ 6 * s.length := by
 have h : ∀ l : List UInt8, (l.flatMap quoteB).length ≤ 6 * l.length := by
  intro l
  induction l with
  | nil => simp
  | cons c l ih =>
   have := quoteB_len c
   simp only [List.flatMap_cons, List.length_append, List.length_cons]
   omega
 have h1 := h (s.take k)
 rw [List.length_take] at h1
 omega
theorem utfQuote {w : World} (ht : Tabs w) (s : ByteArray) (hs : s.size ≤ 1000000) (hv : bytesOk s = true) :
  Calls Tryz.prog 138 #[.string s] w fun e w' => e = .returned (.tuple #[.string (strB (quoteL s.data.toList)), .int .i64 0]) ∧ Kept [] w w' := by
 have CV := qI (utfValid ht s (by omega))
 rw [hv] at CV
 have HL : Hid (s.data.toList.length = s.size) := qI (by simp)
 clear ht hv
 go_enter Tryz.func138, Tryz.ntmps138
 go_wp2_with (go_at_call 177; refine CV.o.mono ?_; rintro e w1 ⟨rfl, hk1⟩; have Ga := qI hk1; clear hk1)
 obtain ⟨W0, Gg⟩ : ∃ W0, Hid (W0 = w1.alloc (.cells #[.pointer none, .slice none 0 0] 70)) := ⟨_, qI rfl⟩
 have Gi : Hid (Kept [] w1 W0) := qI (by rw [Gg.o]; exact (Kept.refl _ _).alloc _)
 have Gn : Hid (BW 70 W0 w1.heap.size W0 []) := qI (BW.new (by rw [Gg.o]; exact block_alloc rfl))
 rw [← Gg.o]
 refine (wbyte_34 lies_builder Gn.o (by simp)).mono ?_
 rintro e w2 ⟨rfl, hb2, -⟩
 have Gp := qI hb2
 clear hb2
 go_wp2_with fail
 go_loopw [13] (fun i wr => ∃ k : Nat, i = .int .i64 k ∧ k ≤ s.size ∧ BW 70 W0 w1.heap.size wr (34 :: (s.data.toList.take k).flatMap quoteB)) (fun i _ => s.size - (intOf i).toNat)
 case atStart => exact ⟨0, rfl, Nat.zero_le _, Gp.o⟩
 case round =>
  obtain ⟨k, rfl, hk, hb⟩ := hrel
  have HB := qI hb
  have Gk : Hid (Kept [] w1 wr) := qI (Gi.o.trans hb.kept (by intro i hi; simp at hi; subst hi; exact .inr (Nat.le_refl _)))
  clear hb
  have hq : (34 :: (s.data.toList.take k).flatMap quoteB : List UInt8).length ≤ 6000001 := by
   have := quote_take s.data.toList k
   rw [HL.o] at this
   rw [List.length_cons]
   omega
  by_cases hlt : k < s.size
  ·have hltI : (k : Int) < s.size := by omega
   have hlt' : k < s.data.toList.length := by rw [HL.o]; exact hlt
   have Gd : Hid (34 :: (s.data.toList.take (k + 1)).flatMap quoteB = (34 :: (s.data.toList.take k).flatMap quoteB) ++ quoteB (s[k]'hlt)) := qI (by
    rw [List.take_succ_eq_append_getElem hlt', List.flatMap_append, List.cons_append]
    simp only [List.flatMap_cons, List.flatMap_nil, List.append_nil]
    rfl)
   have hx : ((s[k]'hlt).toNat : Int) ≤ 255 := by have := (s[k]'hlt).toNat_lt; omega
   clear hlt'
   revert hx Gd
   generalize 34 :: (s.data.toList.take k).flatMap quoteB = L at *
   generalize hsk : s[k]'hlt = x
   intro Gd hx
   by_cases h32 : x.toNat < 32
   ·have h32I : (x.toNat : Int) < 32 := by omega
    have HQ : Hid (quoteB x = [92, 117, 48, 48] ++ hexL [x]) := qI (by unfold quoteB; rw [if_pos h32]; rfl)
    have CH := qI (hex_any (w := wr.alloc (.cells #[.int .u8 x.toNat] 5)) (a := some ⟨wr.heap.size, 0, none⟩) (c := 1) (l := [x]) (slc_one wr (bv x) 5 _ rfl) (by simp) (by simp))
    clear h32
    go_wp2_with (go_at_call 179; refine CH.o.mono ?_; rintro e w3 ⟨rfl, hk3⟩; have Gv := qI (((Kept.refl [] wr).alloc (.cells #[.int .u8 x.toNat] 5)).then hk3); clear hk3)
    have Gs : Hid ((({ data := #[92, 117, 48, 48] } : ByteArray) ++ strB (hexL [x])).data.toList = [92, 117, 48, 48] ++ hexL [x]) := qI (by
     rw [ByteArray.data_append, Array.toList_append, strB_list])
    refine (wstring_any lies_builder (HB.o.stay Gv.o) (by omega) _ (by rw [← ByteArray.size_data, ← Array.length_toList, Gs.o, List.length_append, hexL_len]; simp)).mono ?_
    rintro e w4 ⟨rfl, hb4, -⟩
    rw [Gs.o, ← HQ.o, ← Gd.o] at hb4
    have Gq := qI hb4
    clear hb4
    go_wp2_with fail
    case roundEnd => exact ⟨⟨k + 1, by go_num, by omega, Gq.o⟩, by simp [intOf]; omega⟩
   ·have h32I : ¬ (x.toNat : Int) < 32 := by omega
    by_cases hc : x = 34 ∨ x = 92
    ·have HQ : Hid (quoteB x = [92] ++ [x]) := qI (by unfold quoteB; rw [if_neg h32, if_pos hc]; rfl)
     have hg : ((x.toNat : Int) == 34) = true ∨ (((x.toNat : Int) == 34) = false ∧ ((x.toNat : Int) == 92) = true) := by
      rcases hc with rfl | rfl
      ·exact .inl rfl
      ·exact .inr ⟨rfl, rfl⟩
     clear hc h32
     rcases hg with g1 | ⟨g1, g2⟩
     all_goals
      go_wp2_with fail
      refine (wbyte_92 lies_builder HB.o (by omega)).mono ?_
      rintro e w3 ⟨rfl, hb3, -⟩
      have Gj := qI hb3
      clear hb3
      go_wp2_with fail
      refine (wbyte_any lies_builder Gj.o (by rw [List.length_append]; simp only [List.length_cons, List.length_nil]; omega) x).mono ?_
      rintro e w4 ⟨rfl, hb4, -⟩
      have Gq := qI hb4
      clear hb4
      go_wp2_with fail
      case roundEnd => exact ⟨⟨k + 1, by go_num, by omega, by rw [Gd.o, HQ.o, ← List.append_assoc]; exact Gq.o⟩, by simp [intOf]; omega⟩
    ·have HQ : Hid (quoteB x = [x]) := qI (by unfold quoteB; rw [if_neg h32, if_neg hc])
     have hn : ∀ v : UInt8, x ≠ v → ((x.toNat : Int) == (v.toNat : Int)) = false := fun v hv => (nat_ne (fun e => hv (UInt8.toNat_inj.1 e))).1
     have g1 : ((x.toNat : Int) == 34) = false := hn 34 (fun e => hc (.inl e))
     have g2 : ((x.toNat : Int) == 92) = false := hn 92 (fun e => hc (.inr e))
     clear hc h32 hn
     go_wp2_with fail
     refine (wbyte_any lies_builder HB.o (by omega) x).mono ?_
     rintro e w3 ⟨rfl, hb3, -⟩
     have Gj := qI hb3
     clear hb3
     go_wp2_with fail
     case roundEnd => exact ⟨⟨k + 1, by go_num, by omega, by rw [Gd.o, HQ.o]; exact Gj.o⟩, by simp [intOf]; omega⟩
  ·obtain rfl : k = s.size := by omega
   have HT : Hid ((34 :: (s.data.toList.take s.size).flatMap quoteB) ++ [34] = quoteL s.data.toList) := qI (by
    rw [List.take_of_length_le (by rw [HL.o]; exact Nat.le_refl _)]
    rfl)
   revert hq HB HT
   generalize 34 :: (s.data.toList.take s.size).flatMap quoteB = L
   intro HB hq HT
   go_wp2_with (first
    | (go_at_call 98; refine (wbyte_34 lies_builder HB.o (by omega)).mono ?_; rintro e w3 ⟨rfl, hb3, -⟩; rw [HT.o] at hb3; have Gj := qI hb3; clear hb3)
    | (go_at_call 57; refine (bstring_any Gj.o (by rw [← HT.o, List.length_append]; simp only [List.length_cons, List.length_nil]; omega) (by unfold quoteL; exact List.cons_ne_nil _ _)).mono ?_; rintro e w4 ⟨rfl, hk4, -⟩))
   go_ret2
   exact ⟨rfl, (Ga.o.then Gi.o).trans hk4 (by intro i hi; simp at hi; subst hi; exact .inr Ga.o.size)⟩
theorem isEmpty_len {α : Type} (l : List α) : l.isEmpty = decide (l.length = 0) := by cases l <;> simp
open Go.Maps (Keyed)
theorem keyStr : Keyed Tryz.prog 9 := Maps.string_keyed Tryz.underlying9
theorem sameStr (x y : List UInt8) : (Lit.string x).sameKey (.string y) = decide (x = y) := by
 by_cases h : x = y <;> simp [Lit.sameKey, h]
theorem keyOfStr (s : ByteArray) (hs : s.size ≤ 281474976710656) : keyOf Tryz.prog 9 (.string s) = some (.string s.data.toList) := Go.WideMaps.keyOf_string_mk (P := Tryz.prog) Tryz.underlying9 (by simp only [maxLen]; omega)
def SeenAt (w : World) (b : Nat) (seen : List ByteArray) : Prop :=
 ∃ n M, MapAt Tryz.prog w 9 b n M ∧ n ≤ seen.length ∧ ∀ s : ByteArray, M (.string s.data.toList) = if seen.any (fun k => decide (k = s)) = true then some (Value.bool true) else none
theorem seen_new {w : World} {b : Nat} (hb : w.heap.size = b) : SeenAt (w.alloc (.map #[] 0)) b [] := by
 subst hb
 exact ⟨0, _, mapAt_made _ w _, Nat.le_refl _, fun s => by simp⟩
theorem SeenAt.kept {w w' : World} {b : Nat} {seen : List ByteArray} {X : List Nat} (h : SeenAt w b seen) (k : Kept X w w') (hb : b ∉ X) : SeenAt w' b seen := by
 obtain ⟨n, M, h1, h2, h3⟩ := h
 exact ⟨n, M, h1.kept k hb, h2, h3⟩
theorem SeenAt.kept0 {w w' : World} {b : Nat} {seen : List ByteArray} (h : SeenAt w b seen) (k : Kept [] w w') : SeenAt w' b seen := h.kept k (by simp)
theorem SeenAt.look {w : World} {b : Nat} {seen : List ByteArray} (h : SeenAt w b seen) (s : ByteArray) (hs : s.size ≤ 281474976710656) :
  (Instr.lookup 176 (.map (some b)) (.string s) false).run Tryz.prog w = .ok (.bool (seen.any (fun k => decide (k = s)))) w := by
 obtain ⟨n, M, h1, h2, h3⟩ := h
 have h4 := (h1.lookup keyStr Tryz.underlying176 (z := .bool false) (Tryz.zeroValue4 w) (keyOfStr s hs)).2
 rw [h4, h3 s]
 cases seen.any (fun k => decide (k = s)) <;> rfl
theorem SeenAt.put {w : World} {b : Nat} {seen : List ByteArray} (h : SeenAt w b seen) (s : ByteArray) (hs : s.size ≤ 281474976710656) (hl : seen.length ≤ 100000000) :
  ∃ w', (Instr.mapUpdate 176 (.map (some b)) (.string s) (.bool true)).run Tryz.prog w = .ok () w' ∧ SeenAt w' b (seen ++ [s]) ∧ Kept [b] w w' := by
 obtain ⟨n, M, h1, h2, h3⟩ := h
 obtain ⟨w', hr, h4, h5, _⟩ := h1.update keyStr Tryz.underlying176 (by simp only [maxLen]; omega) (keyOfStr s hs) (.bool true)
 refine ⟨w', hr, ⟨n + 1, _, h4, by rw [List.length_append]; simp; omega, fun t => ?_⟩, h5⟩
 show (if (Lit.string t.data.toList).sameKey (.string s.data.toList) = true then some (Value.bool true) else M (.string t.data.toList)) = _
 rw [sameStr, List.any_append]
 by_cases e : t = s
 ·subst e
  rw [if_pos (by simp), if_pos (by simp)]
 ·have h7 : t.data.toList ≠ s.data.toList := fun q => e (ba_eq q)
  have h8 : [s].any (fun k => decide (k = t)) = false := by simp [Ne.symm e]
  rw [if_neg (by simpa using h7), h3 t, h8, Bool.or_false]
def keysGo : List ByteArray → List ByteArray → Bool
 | _, [] => true
 | seen, k :: t => !(seen.any (fun x => decide (x = k))) && bytesOk k && keysGo (seen ++ [k]) t
theorem keysGo_eq : ∀ (l seen : List ByteArray), seen.Nodup → (keysGo seen l = true ↔ (∀ k, k ∈ l → bytesOk k = true) ∧ (seen ++ l).Nodup)
 | [], seen, hs => by simp [keysGo, hs]
 | k :: t, seen, hs => by
  unfold keysGo
  rw [Bool.and_eq_true, Bool.and_eq_true]
  by_cases hk : k ∈ seen
  ·have h1 : (seen.any (fun x => decide (x = k))) = true := List.any_eq_true.2 ⟨k, hk, by simp⟩
   rw [h1]
   constructor
   ·rintro ⟨⟨h, _⟩, _⟩; simp at h
   ·rintro ⟨_, h⟩
    exact absurd rfl ((List.nodup_append.1 h).2.2 k hk k (by simp))
  ·have h1 : (seen.any (fun x => decide (x = k))) = false := by
    rw [List.any_eq_false]
    intro x hx e
    rw [decide_eq_true_iff] at e
    exact hk (e ▸ hx)
   have hs' : (seen ++ [k]).Nodup := by
    refine List.nodup_append.2 ⟨hs, by simp, ?_⟩
    intro a ha b hb e
    simp at hb
    exact hk (by rw [← hb, ← e]; exact ha)
   rw [h1, keysGo_eq t (seen ++ [k]) hs']
   simp only [List.append_assoc, List.cons_append, List.nil_append, Bool.not_false, true_and, List.mem_cons, forall_eq_or_imp]
   constructor
   ·rintro ⟨h2, h3, h4⟩; exact ⟨⟨h2, h3⟩, h4⟩
   ·rintro ⟨⟨h2, h3⟩, h4⟩; exact ⟨h2, h3, h4⟩
theorem keysGo_all {α : Type} (m : List (ByteArray × α)) : keysGo [] (m.map (fun p => p.1)) = keysOk m := by
 rw [Bool.eq_iff_iff, keysGo_eq _ [] List.nodup_nil]
 unfold keysOk
 rw [Bool.and_eq_true, List.all_eq_true, decide_eq_true_iff, List.nil_append]
 constructor
 ·rintro ⟨h1, h2⟩; exact ⟨fun p hp => h1 p.1 (List.mem_map.2 ⟨p, hp, rfl⟩), h2⟩
 ·rintro ⟨h1, h2⟩; exact ⟨fun k hk => by obtain ⟨p, hp, rfl⟩ := List.mem_map.1 hk; exact h1 p hp, h2⟩
theorem box_at' {w : World} {g : Nat} (hg : w.heap.size = g) (k m : Int) (s : ByteArray) (a b : Value) (t : Nat) : BoxAt (w.alloc (.cells #[.int .i64 k, .int .i64 m, .string s, a, b] t)) g k m s a b := by
 subst hg; exact box_at w k m s a b t
theorem drop_cons {α : Type} {l : List α} {k : Nat} (h : k < l.length) : l.drop k = l[k] :: l.drop (k + 1) := List.drop_eq_getElem_cons h
theorem eqL_drop {α : Type} {r : α → α → Bool} {xs ys : List α} {k : Nat} (h : k < xs.length) (h' : k < ys.length) : eqL r (xs.drop k) (ys.drop k) = (r xs[k] ys[k] && eqL r (xs.drop (k + 1)) (ys.drop (k + 1))) := by
 rw [drop_cons h, drop_cons h']; rfl
theorem eqL_end {α : Type} {r : α → α → Bool} {xs ys : List α} (h : xs.length = ys.length) : eqL r (xs.drop xs.length) (ys.drop xs.length) = true := by
 rw [List.drop_length, h, List.drop_length]; rfl
theorem eqL_len {α : Type} {r : α → α → Bool} : ∀ {xs ys : List α}, xs.length ≠ ys.length → eqL r xs ys = false
 | [], [], h => absurd rfl h
 | [], _ :: _, _ => rfl
 | _ :: _, [], _ => rfl
 | x :: xs, y :: ys, h => by
  show (r x y && eqL r xs ys) = false
  rw [eqL_len (fun e => h (by simp [e]))]
  simp
theorem eqV_eq {n : Nat} (a b : VS (V n)) : eqV (n + 1) a b = (decide (a.kind = b.kind) && decide (a.num = b.num) && decide (a.s = b.s) && eqL (eqV n) a.l b.l && eqL (fun p q => decide (p.1 = q.1) && eqV n p.2 q.2) a.m b.m) := rfl
theorem unhexAt_any {w : World} {b : Nat} {s : ByteArray} (hb : w.heap[b]? = some (.cells #[.string s] 9 (0, 0))) {i : Nat} (hi : i < s.size) :
  Calls Tryz.prog 267 #[.int .i64 i, .pointer (some ⟨b, 0, none⟩)] w fun e w' => e = .returned (.int .i64 (Lib.indexByte digitsL (s.data.toList[i]'(by simpa using hi)))) ∧ w = w' := by
 have c0 := cell_head (o := 0) (v := .string s) hb rfl
 have hiI : (i : Int) < s.size := by omega
 have HX : Hid (s.data.toList[i]'(by simpa using hi) = s[i]'hi) := qI rfl
 rw [HX.o]
 clear hb HX
 go_enter Tryz.func267, Tryz.ntmps267
 go_wp2_with (go_at_call 116; refine (libIndexByte _ _ _).mono ?_; rintro e w' ⟨rfl, rfl⟩)
 go_ret
 refine ⟨?_, rfl⟩
 simp [digitsL]
theorem str_some {T : ByteArray} (h : T ≠ ⟨#[]⟩) : T.toList.isEmpty = false ∧ (!T.toList.isEmpty) = true := by
 have h1 := (str_ne h).1
 have e : (⟨#[]⟩ : ByteArray).toList = [] := by decide +kernel
 rw [e] at h1
 have h2 : T.toList.isEmpty = false := by
  cases h3 : T.toList with
  | nil => rw [h3] at h1; cases h1
  | cons a l => rfl
 rw [h2]
 exact ⟨rfl, rfl⟩
theorem pairsH_step : ∀ (l : List UInt8) (k : Nat) (h : 2 * k + 1 < l.length), ∃ h2 : k < (pairsH l).length, (pairsH l)[k] = UInt8.ofNat (hv l[2 * k] * 16 + hv l[2 * k + 1])
 | [], k, h => by simp at h
 | [_], k, h => by simp at h
 | a :: b :: r, 0, h => ⟨by simp [pairsH], rfl⟩
 | a :: b :: r, k + 1, h => by
  obtain ⟨h2, h3⟩ := pairsH_step r k (by simp only [List.length_cons] at h; omega)
  refine ⟨by simp only [pairsH, List.length_cons]; omega, ?_⟩
  have e1 : (a :: b :: r)[2 * (k + 1)] = r[2 * k]'(by simp only [List.length_cons] at h; omega) := by
   simp only [show 2 * (k + 1) = 2 * k + 1 + 1 by omega, List.getElem_cons_succ]
  have e2 : (a :: b :: r)[2 * (k + 1) + 1] = r[2 * k + 1]'(by simp only [List.length_cons] at h; omega) := by
   simp only [show 2 * (k + 1) + 1 = 2 * k + 1 + 1 + 1 by omega, List.getElem_cons_succ]
  rw [e1, e2, ← h3]
  rfl
theorem digits16_low : ∀ (j : Nat) b, (⟨#[48, 49, 50, 51, 52, 53, 54, 55, 56, 57, 97, 98, 99, 100, 101, 102]⟩ : ByteArray).data.toList[j]? = some b → b.toNat < 128 := by
 intro j b h
 have hm : b ∈ ([48, 49, 50, 51, 52, 53, 54, 55, 56, 57, 97, 98, 99, 100, 101, 102] : List UInt8) := List.mem_of_getElem? h
 have ha : ([48, 49, 50, 51, 52, 53, 54, 55, 56, 57, 97, 98, 99, 100, 101, 102] : List UInt8).all (fun b => decide (b.toNat < 128)) = true := by decide
 simpa using List.all_eq_true.1 ha b hm
theorem hex_join (x y : Nat) (hx : x < 16) (hy : y < 16) : Value.int .u8 (bits .or .i64 ((x : Int) * 16) (y : Int) % 256) = bv (UInt8.ofNat (x * 16 + y)) := by
 rw [bits_join .i64 32 (by decide) (fun n h0 h1 => by rw [IntKind.wrap_i64]; omega) 4 _ _ (by omega) (by omega) (by omega) (by omega) (by omega) (by omega)]
 unfold bv
 congr 1
theorem unhex_no (s : ByteArray) (hs : s.size ≤ 1000000) (h : s.size % 2 = 1 ∨ s.data.toList.all isLow = false) (w : World) :
  Calls Tryz.prog 262 #[.string s] w fun e w' => e = .returned (.tuple #[.slice none 0 0, .int .i64 10]) ∧ Kept [] w w' := by
 obtain ⟨W1, Ge⟩ : ∃ W1, Hid (W1 = w.alloc (.cells #[.string s] 9)) := ⟨_, qI rfl⟩
 have Ga : Hid (Kept [] w W1) := qI (by rw [Ge.o]; exact (Kept.refl [] w).alloc _)
 have Gb : Hid (W1.heap[w.heap.size]? = some (.cells #[.string s] 9 (0, 0))) := qI (by rw [Ge.o]; exact block_alloc rfl)
 have c0 := cell_head (o := 0) (v := .string s) Gb.o rfl
 have HH := qI h
 have hsI : (s.size : Int) ≤ 1000000 := by omega
 clear h
 by_cases ho : s.size % 2 = 1
 ·have ft : ((s.size : Int).tmod 2) = 1 := by rw [Int.tmod_eq_emod_of_nonneg (by omega)]; omega
  clear ho
  go_enter Tryz.func262, Tryz.ntmps262
  go_wp2_with fail
  rw [← Ge.o]
  go_ret2
  exact ⟨rfl, Ga.o⟩
 ·have ft : ((s.size : Int).tmod 2) = 0 := by rw [Int.tmod_eq_emod_of_nonneg (by omega)]; omega
  have hne : strB (Lib.trimS s.data.toList digitsL) ≠ ⟨#[]⟩ := fun e => by
   have h1 : Lib.trimS s.data.toList digitsL = [] := by rw [← strB_list (Lib.trimS _ _), e]
   rw [trimS_nil] at h1
   have h2 : s.data.toList.all (digitsL.contains ·) = s.data.toList.all isLow := by congr 1; funext c; exact low_digits c
   rw [h2] at h1
   rcases HH.o with h | h
   ·exact ho h
   ·rw [h] at h1; cases h1
  have CT := qI (libTrim s ⟨#[48, 49, 50, 51, 52, 53, 54, 55, 56, 57, 97, 98, 99, 100, 101, 102]⟩ W1 (by omega) (by decide) digits16_low)
  rw [show (⟨#[48, 49, 50, 51, 52, 53, 54, 55, 56, 57, 97, 98, 99, 100, 101, 102]⟩ : ByteArray).data.toList = digitsL from rfl] at CT
  obtain ⟨g1, g2⟩ := str_some hne
  clear ho hne
  revert CT g1 g2
  generalize strB (Lib.trimS s.data.toList digitsL) = T
  intro CT g1 g2
  go_enter Tryz.func262, Tryz.ntmps262
  go_wp2_with fail
  rw [← Ge.o]
  refine CT.o.mono ?_
  rintro e w2 ⟨rfl, hk2⟩
  go_wp2_with fail
  go_ret2
  exact ⟨rfl, Ga.o.then hk2⟩
theorem unhex_yes (s : ByteArray) (hs : s.size ≤ 1000000) (he : s.size % 2 = 0) (ha : s.data.toList.all isLow = true) (w : World) :
  Calls Tryz.prog 262 #[.string s] w fun e w' => (∃ a c, e = .returned (.tuple #[.slice a (pairsH s.data.toList).length c, .int .i64 0]) ∧ w'.ownsRow w.heap.size 5 1 (.slice a (pairsH s.data.toList).length c) (pairsH s.data.toList).length ((pairsH s.data.toList).map bv)) ∧ Kept [] w w' := by
 obtain ⟨W1, Ge⟩ : ∃ W1, Hid (W1 = w.alloc (.cells #[.string s] 9)) := ⟨_, qI rfl⟩
 have Ga : Hid (Kept [] w W1) := qI (by rw [Ge.o]; exact (Kept.refl [] w).alloc _)
 have Gw : Hid (W1.heap.size = w.heap.size + 1) := qI (by rw [Ge.o]; simp)
 have Gb : Hid (W1.heap[w.heap.size]? = some (.cells #[.string s] 9 (0, 0))) := qI (by rw [Ge.o]; exact block_alloc rfl)
 have c0 := cell_head (o := 0) (v := .string s) Gb.o rfl
 have HL : Hid (s.data.toList.length = s.size) := qI (by simp)
 have HA : Hid (∀ i (h : i < s.data.toList.length), isLow s.data.toList[i] = true) := qI (fun i h => List.all_eq_true.1 ha _ (List.getElem_mem h))
 have hsI : (s.size : Int) ≤ 1000000 := by omega
 have ft : ((s.size : Int).tmod 2) = 0 := by rw [Int.tmod_eq_emod_of_nonneg (by omega)]; omega
 have hnil : Lib.trimS s.data.toList digitsL = [] := by
  rw [trimS_nil, ← ha]
  congr 1
  funext c
  exact low_digits c
 have CT := qI (libTrim s ⟨#[48, 49, 50, 51, 52, 53, 54, 55, 56, 57, 97, 98, 99, 100, 101, 102]⟩ W1 (by omega) (by decide) digits16_low)
 rw [show (⟨#[48, 49, 50, 51, 52, 53, 54, 55, 56, 57, 97, 98, 99, 100, 101, 102]⟩ : ByteArray).data.toList = digitsL from rfl, hnil, show strB [] = ⟨#[]⟩ from rfl] at CT
 have HP := qI (pairsH_len s.data.toList)
 have Gx := qI (pairsH_step s.data.toList)
 have HE := qI he
 clear hnil ha he
 go_enter Tryz.func262, Tryz.ntmps262
 go_wp2_with fail
 rw [← Ge.o]
 refine CT.o.mono ?_
 rintro e w2 ⟨rfl, hk2⟩
 have Gy := qI hk2
 clear hk2 c0
 go_wp2_with fail
 go_loopw [5, 6] (fun out i wr => ∃ (k : Nat) (a : Option Addr) (c : Nat), i = .int .i64 (2 * k : Nat) ∧ 2 * k ≤ s.size ∧ out = .slice a k c ∧ wr.ownsRow W1.heap.size 5 1 (.slice a k c) k (((pairsH s.data.toList).take k).map bv) ∧ Kept [] W1 wr) (fun _ i _ => s.size - (intOf i).toNat)
 case atStart => exact ⟨0, none, 0, rfl, Nat.zero_le _, rfl, World.ownsRow_nil _ _ _ _, Gy.o⟩
 case round =>
  obtain ⟨k, a, c, rfl, hk, rfl, hrow, hkr⟩ := hrel
  have Gh := qI hrow
  have Gl := qI hkr
  clear hrow hkr
  have hb := Gl.o.heap Gb.o (by simp)
  have HB := qI hb
  have c0 := cell_head (o := 0) (v := .string s) hb rfl
  clear hb
  by_cases hlt : 2 * k < s.size
  ·have h2 : 2 * k + 1 < s.size := by have := HE.o; omega
   have hl1 : 2 * k < s.data.toList.length := by rw [HL.o]; omega
   have hl2 : 2 * k + 1 < s.data.toList.length := by rw [HL.o]; omega
   obtain ⟨i1, i2, i3⟩ := index_digits _ (HA.o _ hl1)
   obtain ⟨j1, j2, j3⟩ := index_digits _ (HA.o _ hl2)
   obtain ⟨p1, p2⟩ := Gx.o k hl2
   have CA := qI (unhexAt_any HB.o hlt)
   have CB := qI (unhexAt_any HB.o h2)
   rw [i1] at CA
   rw [j1] at CB
   have HN : Hid ((pairsH s.data.toList).take (k + 1) = (pairsH s.data.toList).take k ++ [UInt8.ofNat (hv s.data.toList[2 * k] * 16 + hv s.data.toList[2 * k + 1])]) := qI (by rw [List.take_succ_eq_append_getElem p1, p2])
   have hltI : (2 : Int) * k < s.size := by omega
   have Gz : Hid (2 * k + 1 < s.size) := qI h2
   clear i1 i3 j1 j3 p1 p2
   revert CA CB HN i2 j2
   generalize hv s.data.toList[2 * k] = x
   generalize hv s.data.toList[2 * k + 1] = y
   intro i2 j2 CA CB HN
   clear hl1 hl2
   have i2I : (x : Int) < 16 := by omega
   have j2I : (y : Int) < 16 := by omega
   have ek : ((2 * k : Nat) : Int) = 2 * (k : Int) := by omega
   go_wp2_with fail
   rw [← ek]
   refine CA.o.mono ?_
   rintro e w3 ⟨rfl, rfl⟩
   have ek1 : ((2 * k + 1 : Nat) : Int) = 2 * (k : Int) + 1 := by omega
   go_wp2_with fail
   rw [← ek1]
   refine CB.o.mono ?_
   rintro e w4 ⟨rfl, rfl⟩
   go_wp2_with (at_builtin; refine wpList_append_slc tyByte (v := .slice a k c) (n := k) (row_kept Gh.o ((Kept.refl [] wr).alloc _) (by simp)) (slc_one wr _ _ _ rfl) (by simp [Value.oneCell']) (by simp only [maxLen]; omega) (by omega) (by have := Gl.o.size; simp; omega) rfl _ _ rfl rfl rfl ?_; intro v2 w5 hown hk5 _ hb5; obtain ⟨a5, c5, rfl, -, -⟩ := (Slc.of_row hown).form; have Gr := qI hown; have Ja := qI hk5; clear hown hk5 hb5)
   case roundEnd =>
    refine ⟨⟨k + 1, _, _, congrArg (Value.int .i64) (by omega), by have := Gz.o; omega, rfl, ?_, (Gl.o.alloc _).trans Ja.o (fun i hi => .inr (Gh.o.lt i (Option.mem_toList.1 hi)).1)⟩, by simp [intOf]; omega⟩
    have h9 := Gr.o
    rw [hex_join x y (by omega) (by omega)] at h9
    rw [HN.o, List.map_append]
    exact h9
  ·have HT : Hid ((pairsH s.data.toList).take k = pairsH s.data.toList ∧ k = (pairsH s.data.toList).length) := qI (by
    have h1 := HP.o
    have h2 := HL.o
    have h3 := HE.o
    exact ⟨List.take_of_length_le (by omega), by omega⟩)
   have hltI : (s.size : Int) ≤ 2 * k := by omega
   have ek : ((2 * k : Nat) : Int) = 2 * (k : Int) := by omega
   go_wp2_with fail
   go_ret2
   have h9 := Gh.o
   rw [HT.o.1, HT.o.2] at h9
   refine ⟨⟨a, c, congrArg (fun m : Nat => Ending.returned (Value.tuple #[.slice a m c, .int .i64 0])) HT.o.2, row_base h9 (fun g hg => by have := (h9.lt g hg).1; have := Gw.o; omega)⟩, Ga.o.then Gl.o⟩
def fourZ (l : List UInt8) : Int := match fourL l with | none => -1 | some n => n
theorem four_short {l : List UInt8} (h : l.length < 6) : fourL l = none := by
 match l, h with
 | [], _ => rfl
 | [_], _ => rfl
 | [_, _], _ => rfl
 | [_, _, _], _ => rfl
 | [_, _, _, _], _ => rfl
 | [_, _, _, _, _], _ => rfl
 | _ :: _ :: _ :: _ :: _ :: _ :: _, h => simp only [List.length_cons] at h; omega
theorem six_of {l : List UInt8} (h : 6 ≤ l.length) : ∃ x y a b c d r, l = x :: y :: a :: b :: c :: d :: r := by
 match l, h with
 | x :: y :: a :: b :: c :: d :: r, _ => exact ⟨x, y, a, b, c, d, r, rfl⟩
theorem pair_no (a b : Int) (ha : -1 ≤ a ∧ a ≤ 1114111) (hb : -1 ≤ b ∧ b ≤ 1114111) (h : a < 55296 ∨ 56320 ≤ a ∨ b < 56320 ∨ 57344 ≤ b) (w : World) :
  Calls Tryz.prog 250 #[.int .i32 a, .int .i32 b] w fun e w' => e = .returned (.int .i32 (-1)) ∧ w = w' := by
 obtain ⟨ha1, ha2⟩ := ha
 obtain ⟨hb1, hb2⟩ := hb
 by_cases h1 : a < 55296
 ·go_enter Tryz.func250, Tryz.ntmps250
  go_wp2_with fail
  go_ret
  exact ⟨rfl, rfl⟩
 by_cases h2 : 56320 ≤ a
 ·go_enter Tryz.func250, Tryz.ntmps250
  go_wp2_with fail
  go_ret
  exact ⟨rfl, rfl⟩
 by_cases h3 : b < 56320
 ·go_enter Tryz.func250, Tryz.ntmps250
  go_wp2_with fail
  go_ret
  exact ⟨rfl, rfl⟩
 ·have h4 : 57344 ≤ b := by omega
  go_enter Tryz.func250, Tryz.ntmps250
  go_wp2_with fail
  go_ret
  exact ⟨rfl, rfl⟩
theorem pair_yes (a b : Int) (h1 : 55296 ≤ a) (h2 : a < 56320) (h3 : 56320 ≤ b) (h4 : b < 57344) (w : World) :
  Calls Tryz.prog 250 #[.int .i32 a, .int .i32 b] w fun e w' => e = .returned (.int .i32 (65536 + (a - 55296) * 1024 + (b - 56320))) ∧ w = w' := by
 have HE : Hid (65536 + (a - 55296) * 1024 + (b - 56320) = 65536 + (a - 55296) * 1024 + b - 56320) := qI (by omega)
 go_enter Tryz.func250, Tryz.ntmps250
 go_wp2_with fail
 go_ret
 rw [HE.o]
 exact ⟨rfl, rfl⟩
def laid6 : List (String × DataW Unit) := [("math/bits.deBruijn32tab", Rows.laid_math_bits_deBruijn32tab), ("math/bits.deBruijn64tab", Rows.laid_math_bits_deBruijn64tab), ("internal/strconv.uint64pow10", Rows.laid_internal_strconv_uint64pow10), ("unicode/utf8.acceptRanges", Rows.laid_unicode_utf8_acceptRanges), ("unicode.CaseRanges", Rows.laid_unicode_CaseRanges), ("unicode/utf8.first", Rows.laid_unicode_utf8_first)]
theorem gPow : Tryz.prog.globalNamed "internal/strconv.uint64pow10" = some 1 := by kernel_rfl
theorem first_eq : Rows.laid_unicode_utf8_first = Lib.firstData := Pinned.utf8First_eq
theorem ranges_eq : Rows.laid_unicode_CaseRanges = Lib.caseData := Pinned.caseRanges_eq
theorem accept_eq : Rows.laid_unicode_utf8_acceptRanges = Lib.acceptData := by kernel_rfl
theorem pow_eq : (Rows.laid_internal_strconv_uint64pow10 : DataW Unit) = Lib.tabData .u64 Lib.pow10Tab := by kernel_rfl
theorem tabs_of_laid {W : World} (hL : laidMetH Tryz.prog laid6 W) : Tabs W := by
 rw [MakeChecks.laidMetH_plain _ _ _ (by kernel_rfl)] at hL
 have r1 : ("unicode/utf8.first", Lib.firstData) ∈ laid6 := by rw [← first_eq]; simp [laid6]
 have r2 : ("unicode/utf8.acceptRanges", Lib.acceptData) ∈ laid6 := by rw [← accept_eq]; simp [laid6]
 have r3 : ("unicode.CaseRanges", Lib.caseData) ∈ laid6 := by rw [← ranges_eq]; simp [laid6]
 refine ⟨utf8Tabs_of_readsT (U8Types.of260 { Tryz.shDecode with }) ⟨by kernel_rfl, by kernel_rfl, by kernel_rfl, by kernel_rfl, by kernel_rfl, by kernel_rfl, by kernel_rfl⟩ (Lib.laidMet.reads hL r1) (Lib.laidMet.reads hL r2),
  caseVar_of_reads { Tryz.shToLower with } (by kernel_rfl) ⟨by kernel_rfl, by kernel_rfl, by kernel_rfl, by kernel_rfl, by kernel_rfl, by kernel_rfl⟩ (Lib.laidMet.reads hL r3), ?_⟩
 have h3 := hL.tail.tail
 rw [show (Rows.laid_internal_strconv_uint64pow10 : DataW Unit) = Lib.tabData .u64 Lib.pow10Tab from pow_eq] at h3
 exact Lib.tabIs_of_head gPow (by kernel_rfl) Tryz.underlying236 Tryz.underlying201 (by kernel_rfl) (by kernel_rfl) h3
end Go.Proofs.YtpbphdkjjoipnaaGreatDoor

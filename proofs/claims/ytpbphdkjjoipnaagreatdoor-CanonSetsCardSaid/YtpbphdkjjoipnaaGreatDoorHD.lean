/- Parts of one proof, merged: XBu XSl XKE XSn XKD XUA XUB XTb. -/
import Derived.Test.YtpbphdkjjoipnaaGreatDoorHA
import Derived.Lib.UnsafeStr
import Derived.Lib.AppendStr
import Derived.Test.YtpbphdkjjoipnaaGreatDoorHC
import Derived.Lib.SmallJoins
import Derived.BigQuiet
import Derived.Maps.OwnSet
import Derived.StringKeys
import Derived.Test.YtpbphdkjjoipnaaGreatDoorHB
import Derived.Laws.BitsLemmas
import Derived.Test.YtpbphdkjjoipnaaGreatDoorRows
import Derived.LaidMore
import Derived.Stop.LaidErr
import Derived.MakeChecks
import Derived.Lib.LaidTab
import Derived.Lib.LaidU8T
import Derived.Lib.LaidCase
import Derived.PinnedBridge
set_option linter.all false
set_option maxHeartbeats 12800000
set_option maxRecDepth 10000
set_option linter.unusedVariables false
set_option linter.unusedSimpArgs false
set_option linter.unnecessarySimpa false
namespace Go.Proofs.YtpbphdkjjoipnaaGreatDoor
open Go.Proofs.Tryz
open Go.RowKit
structure z8 (b : Nat) (w w' : World) : Prop where
 os : w'.os = w.os
 tape : w'.tape = w.tape
 output : w'.output = w.output
 size : w.heap.size ≤ w'.heap.size
 block : ∀ k, k < w.heap.size → k ≠ b → kind w k ≠ 5 + 2 → w'.heap[k]? = w.heap[k]?
theorem z8.refl (b : Nat) (w : World) : z8 b w w := ⟨rfl, rfl, rfl, Nat.le_refl _, fun _ _ _ _ => rfl⟩
theorem z8.trans {b : Nat} {x y z : World} (h : z8 b x y) (k : z8 b y z) : z8 b x z :=
 ⟨k.os.trans h.os, k.tape.trans h.tape, k.output.trans h.output, Nat.le_trans h.size k.size, fun i hi hb hk => by
  have h1 := h.block i hi hb hk
  have h2 : kind y i = kind x i := by simp [kind, h1]
  exact (k.block i (Nat.lt_of_lt_of_le hi h.size) hb (by rw [h2]; exact hk)).trans h1⟩
theorem z8.of {b : Nat} {X : List Nat} {w w' : World} (h : zb X w w') (hX : ∀ k, k ∈ X → k = b ∨ kind w k = 5 + 2) : z8 b w w' :=
 ⟨h.os, h.tape, h.output, h.size, fun k hk hb hn => h.block k hk (fun e => by rcases hX k e with g | g; exact hb g; exact hn g)⟩
theorem z8.of0 {b : Nat} {w w' : World} (h : zb [] w w') : z8 b w w' := .of h (by simp)
theorem z8.heap {b : Nat} {w w' : World} (h : z8 b w w') {k : Nat} {o : Obj} (ho : w.heap[k]? = some o) (hb : k ≠ b) (hk : kind w k ≠ 5 + 2) : w'.heap[k]? = some o :=
 (h.block k (lt_of_block ho) hb hk).trans ho
structure BW (T : Nat) (W : World) (b : Nat) (w : World) (l : List UInt8) : Prop where
 blk : ∃ p v, (p = .pointer none ∨ p = .pointer (some ⟨b, 0, none⟩)) ∧ w.heap[b]? = some (.cells #[p, v] T (0, 0)) ∧ w.ownsRow W.heap.size 5 1 v l.length (l.map bv)
 kept : zb [b] W w
 lt : b < W.heap.size
theorem BW.stay {T : Nat} {W : World} {b : Nat} {w w' : World} {l : List UInt8} (h : BW T W b w l) (k : zb [] w w') : BW T W b w' l := by
 obtain ⟨p, v, hp, hb, hr⟩ := h.blk
 exact ⟨⟨p, v, hp, k.heap hb (by simp), zh hr k (by simp)⟩, h.kept.then k, h.lt⟩
theorem BW.new {T : Nat} {W : World} {b : Nat} (h : W.heap[b]? = some (.cells #[.pointer none, .slice none 0 0] T (0, 0))) : BW T W b W [] :=
 ⟨⟨_, _, .inl rfl, h, World.ownsRow_nil _ _ _ _⟩, zb.refl _ _, lt_of_block h⟩
def YK (T : Nat) : Prop := liesAt Tryz.prog Tryz.prog.depth T (2 / Tryz.prog.cellsOf T) 0 70 1 = true
theorem yP : YK 70 := by unfold YK; kernel_rfl
theorem yI : YK 93 := by unfold YK; kernel_rfl
theorem shape_of {w : World} {b : Nat} {c : Array Value} {t : Nat} {f : Nat × Nat} (h : w.heap[b]? = some (.cells c t f)) : w.shape? b = some (t, c.size) := by simp [World.shape?, h]
theorem ptr_same (w : World) (b : Nat) : (binOp .neq 68 (.pointer (some ⟨b, 0, none⟩)) (.pointer (some ⟨b, 0, none⟩))).run Tryz.prog w = .ok (.bool false) w := by
 have h1 : (Tryz.prog.info? 70).map (·.size) = some 2 := by kernel_rfl
 obtain ⟨j, hj, _⟩ := Option.map_eq_some_iff.1 h1
 exact Lib.run_neq_ptr_same w _ underlying68 hj
theorem to_unsafe {w : World} {b : Nat} {p v : Value} {T : Nat} (hb : w.heap[b]? = some (.cells #[p, v] T (0, 0))) : (convert 68 145 (.pointer (some ⟨b, 0, none⟩))).run Tryz.prog w = .ok (.pointer (some ⟨b, 0, none⟩)) w := by
 have h1 : (Tryz.prog.info? 70).map (·.size) = some 2 := by kernel_rfl
 obtain ⟨j, hj, hs⟩ := Option.map_eq_some_iff.1 h1
 exact Lib.run_to_unsafe w ⟨b, 0, none⟩ underlying68 underlying145 hj (by rw [hs]; decide) (shape_of hb) (by simp)
theorem from_unsafe {w : World} {b : Nat} {p v : Value} {T : Nat} (hT : YK T) (hb : w.heap[b]? = some (.cells #[p, v] T (0, 0))) : (convert 145 68 (.pointer (some ⟨b, 0, none⟩))).run Tryz.prog w = .ok (.pointer (some ⟨b, 0, none⟩)) w := by
 have h1 : (Tryz.prog.info? 70).map (·.size) = some 2 := by kernel_rfl
 obtain ⟨j, hj, _⟩ := Option.map_eq_some_iff.1 h1
 exact Lib.run_from_unsafe w ⟨b, 0, none⟩ underlying145 underlying68 hj (shape_of hb) hT
theorem jC {T : Nat} (hT : YK T) {w : World} {b : Nat} {p v : Value} (hp : p = .pointer none ∨ p = .pointer (some ⟨b, 0, none⟩)) (hb : w.heap[b]? = some (.cells #[p, v] T (0, 0))) :
  Calls Tryz.prog 84 #[.pointer (some ⟨b, 0, none⟩)] w fun e w' => e = .returned (.tuple #[]) ∧ w'.heap[b]? = some (.cells #[.pointer (some ⟨b, 0, none⟩), v] T (0, 0)) ∧ zb [b] w w' := by
 have HB := qI hb
 have c0 := za (o := 0) (v := p) hb rfl
 have f0 := zc (o := 0) hb
 have e1 := to_unsafe hb
 have e2 := from_unsafe hT hb
 clear hb
 rcases hp with rfl | rfl
 ·go_enter func84, ntmps84
  go_wp2_with fail
  rw [run_callFunc_extern func124 (by kernel_rfl) (by kernel_rfl) (by kernel_rfl) (e := Extern.AbiNoEscape.same) (by kernel_rfl)]
  rw [Lib.run_noEscape]
  simp only [Result.andThen]
  rw [Oper.upon_value]
  go_wp2_with fail
  go_end0
  exact ⟨rfl, zf HB.o rfl, (zb.refl _ _).setCell (.inl (by simp)) _⟩
 ·have e3 := ptr_same w b
  go_enter func84, ntmps84
  go_wp2_with fail
  go_end0
  exact ⟨rfl, HB.o, zb.refl _ _⟩
theorem tyByte : kg Tryz.prog 28 5 1 1 (.int .u8 0) := ⟨underlying28, by kernel_rfl, rfl, by decide⟩
theorem BW.opened {T : Nat} {W : World} {b : Nat} {w : World} {l : List UInt8} (h : BW T W b w l) : ∃ p a c, (p = .pointer none ∨ p = .pointer (some ⟨b, 0, none⟩)) ∧ w.heap[b]? = some (.cells #[p, .slice a l.length c] T (0, 0)) ∧ w.ownsRow W.heap.size 5 1 (.slice a l.length c) l.length (l.map bv) := by
 obtain ⟨p, v, hp, hb, hr⟩ := h.blk
 obtain ⟨a, c, rfl, -, -⟩ := (Slc.of_row hr).form
 exact ⟨p, a, c, hp, hb, hr⟩
theorem BW.wrote {T : Nat} {W : World} {b : Nat} {w w1 w2 : World} {l l' : List UInt8} {a a' : Option Addr} {c n' c' : Nat} (h : BW T W b w l) (hr : w.ownsRow W.heap.size 5 1 (.slice a l.length c) l.length (l.map bv))
  (hb1 : w1.heap[b]? = some (.cells #[.pointer (some ⟨b, 0, none⟩), .slice a l.length c] T (0, 0))) (hk1 : zb [b] w w1) (hr2 : w2.ownsRow W.heap.size 5 1 (.slice a' n' c') n' (l'.map bv)) (hn : l'.length = n') (hk2 : zb (Value.slice a l.length c).ownBlock.toList w1 w2) :
  w2.cell? ⟨b, 1, none⟩ = some (.slice a l.length c) ∧ w2.frozen? ⟨b, 1, none⟩ = false ∧ BW T W b (w2.setCell ⟨b, 1, none⟩ (.slice a' n' c')) l' ∧ z8 b w (w2.setCell ⟨b, 1, none⟩ (.slice a' n' c')) := by
 subst hn
 have hlt := h.lt
 have hnb : b ∉ (Value.slice a l.length c).ownBlock.toList := fun hx => by
  have := (hr.lt _ (Option.mem_toList.1 hx)).1; omega
 have hb2 := hk2.heap hb1 hnb
 have kX : zb (b :: (Value.slice a l.length c).ownBlock.toList) w (w2.setCell ⟨b, 1, none⟩ (.slice a' l'.length c')) :=
  ((hk1.mono (Y := b :: (Value.slice a l.length c).ownBlock.toList) (by simp)).trans' (hk2.mono (fun i hi => List.mem_cons_of_mem _ hi))).setCell (p := ⟨b, 1, none⟩) (.inl (List.mem_cons_self ..)) _
 refine ⟨za hb2 rfl, zc hb2, ⟨⟨_, _, .inr rfl, zf hb2 rfl, ?_⟩, ?_, hlt⟩, z8.of kX ?_⟩
 ·exact zh hr2 ((zb.refl [b] w2).setCell (p := ⟨b, 1, none⟩) (.inl (by simp)) _) (fun g hg hx => by
   simp at hx; have := (hr2.lt g hg).1; omega)
 ·exact h.kept.trans kX (fun i hi => by
   rcases List.mem_cons.1 hi with rfl | hi
   ·exact .inl (by simp)
   ·exact .inr (hr.lt i (Option.mem_toList.1 hi)).1)
 ·intro k hk
  rcases List.mem_cons.1 hk with rfl | hk
  ·exact .inl rfl
  ·exact .inr (yu hr (Option.mem_toList.1 hk))
theorem y6 {T : Nat} (hT : YK T) {W w : World} {b : Nat} {l : List UInt8} (h : BW T W b w l) (hl : l.length ≤ 100000000) (x : UInt8) :
  Calls Tryz.prog 98 #[.pointer (some ⟨b, 0, none⟩), .int .u8 x.toNat] w fun e w' => e = .returned .nilIface ∧ BW T W b w' (l ++ [x]) ∧ z8 b w w' := by
 obtain ⟨p, a, c, hp, hb, hr⟩ := h.opened
 have H := qI h
 have HR := qI hr
 have CC := qI (jC hT hp hb)
 have Ge : Hid (b < W.heap.size ∧ W.heap.size ≤ w.heap.size) := qI ⟨h.lt, h.kept.size⟩
 clear h hp hb hr
 go_enter func98, ntmps98
 go_wp2_with (first
  | (go_at_call 84; refine CC.o.mono ?_; rintro e w1 ⟨rfl, hb1, hk1⟩; have c1 := za (o := 1) (v := .slice a l.length c) hb1 rfl; have Gc := qI hb1; have Ga := qI hk1; clear hb1 hk1)
  | (at_builtin; refine yo tyByte (zh HR.o (Ga.o.then ((zb.refl [] w1).alloc (.cells #[.int .u8 x.toNat] 5))) (by intro g hg hx; have h1 := (HR.o.lt g hg).1; have h2 := Ge.o; simp at hx; omega)) (slc_one w1 (bv x) 5 _ rfl) (by simp [bv, Value.oneCell']) (by simp only [maxLen]; omega) (by omega) (by have h1 := Ge.o; have h2 := Ga.o.size; simp; omega) rfl _ _ rfl rfl rfl ?_; intro v2 w2 hown2 hk2 _ hb2; obtain ⟨a2, c2, rfl, -, -⟩ := (Slc.of_row hown2).form; obtain ⟨g1, g2, g3, g4⟩ := BW.wrote (l' := l ++ [x]) H.o HR.o (((zb.refl [] w1).alloc (.cells #[.int .u8 x.toNat] 5)).heap Gc.o (by simp)) (Ga.o.then ((zb.refl [] w1).alloc (.cells #[.int .u8 x.toNat] 5))) (by rw [List.map_append]; exact hown2) (by simp) hk2; have G3 := qI g3; have G4 := qI g4; clear hown2 hk2 hb2 g3 g4))
 go_ret
 exact ⟨rfl, G3.o, G4.o⟩
theorem ki {T : Nat} (hT : YK T) {W w : World} {b : Nat} {l : List UInt8} (h : BW T W b w l) (hl : l.length ≤ 100000000) (s : ByteArray) (hs : s.size ≤ 100000000) :
  Calls Tryz.prog 55 #[.pointer (some ⟨b, 0, none⟩), .string s] w fun e w' => e = .returned (.tuple #[.int .i64 s.size, .nilIface]) ∧ BW T W b w' (l ++ s.data.toList) ∧ z8 b w w' := by
 obtain ⟨p, a, c, hp, hb, hr⟩ := h.opened
 obtain ⟨i0, hi, hz0, hz1, hz2⟩ := info_parts tyByte.info
 have H := qI h
 have HR := qI hr
 have HI := qI hi
 have HZ := qI (And.intro hz0 (And.intro hz1 hz2))
 have CC := qI (jC hT hp hb)
 have Ge : Hid (b < W.heap.size ∧ W.heap.size ≤ w.heap.size) := qI ⟨h.lt, h.kept.size⟩
 have HL : Hid (s.data.toList.length = s.size) := qI (by simp)
 clear h hp hb hr hi hz0 hz1 hz2
 go_enter func55, ntmps55
 go_wp2_with (first
  | (go_at_call 84; refine CC.o.mono ?_; rintro e w1 ⟨rfl, hb1, hk1⟩; have c1 := za (o := 1) (v := .slice a l.length c) hb1 rfl; have Gc := qI hb1; have Ga := qI hk1; clear hb1 hk1)
  | (at_builtin; refine Lib.wpList_append_own_string _ rfl _ _ 28 9 rfl W.heap.size 5 i0 underlying28 underlying9 HI.o HZ.o.1 HZ.o.2.1 HZ.o.2.2 (.slice a l.length c) l.length (l.map bv) rfl (zh HR.o Ga.o (by intro g hg hx; have h1 := (HR.o.lt g hg).1; have h2 := Ge.o; simp at hx; omega)) s rfl (by simp only [maxLen]; omega) (by omega) (by have h1 := Ge.o; have h2 := Ga.o.size; omega) ?_; intro v2 w2 hown2 hg2 _; obtain ⟨a2, c2, rfl, -, -⟩ := (Slc.of_row hown2).form; obtain ⟨g1, g2, g3, g4⟩ := BW.wrote (l' := l ++ s.data.toList) H.o HR.o Gc.o Ga.o (by rw [List.map_append]; exact hown2) (by rw [List.length_append, HL.o]) ((zb.refl _ _).grown hg2 (fun k e => .inl (by simp [e]))); have G3 := qI g3; have G4 := qI g4; clear hown2 hg2 g3 g4))
 go_ret2
 exact ⟨rfl, G3.o, G4.o⟩
theorem YF (m : Nat) (hm : m < 55296 ∨ (57344 ≤ m ∧ m ≤ 1114111)) : Lib.runeCells m = (yh m).map bv := by
 rw [← Qi m hm]
 unfold Lib.runeCells qt
 by_cases h1 : m < 128
 ·rw [Lib.encodeRuneZ_one (by omega) (by omega), if_pos (by omega)]; rfl
 by_cases h2 : m < 2048
 ·rw [Lib.encodeRuneZ_two (by omega) (by omega), if_neg (by omega), if_pos (by omega)]; rfl
 by_cases h3 : m < 65536
 ·rw [Lib.encodeRuneZ_three (by omega), if_neg (by omega), if_neg (by omega), if_pos (by omega)]; rfl
 ·rw [Lib.encodeRuneZ_four (by omega) (by omega), if_neg (by omega), if_neg (by omega), if_neg (by omega)]; rfl
theorem wrune_any {T : Nat} (hT : YK T) {W w : World} {b : Nat} {l : List UInt8} (h : BW T W b w l) (hl : l.length ≤ 100000000) (m : Nat) (hm : m < 55296 ∨ (57344 ≤ m ∧ m ≤ 1114111)) :
  Calls Tryz.prog 199 #[.pointer (some ⟨b, 0, none⟩), .int .i32 m] w fun e w' => (∃ k, e = .returned (.tuple #[k, .nilIface])) ∧ BW T W b w' (l ++ yh m) ∧ z8 b w w' := by
 obtain ⟨p, a, c, hp, hb, hr⟩ := h.opened
 have H := qI h
 have HR := qI hr
 have CC := qI (jC hT hp hb)
 have Ge : Hid (b < W.heap.size ∧ W.heap.size ≤ w.heap.size) := qI ⟨h.lt, h.kept.size⟩
 have Jd := qI (YF m hm)
 have Je : Hid ((Lib.runeCells m).length = (yh m).length) := qI (by rw [YF m hm, List.length_map])
 have hr4 : (yh m).length ≤ 4 := (xR m hm).2.2.1
 have HM : Hid ((m : Int) ≤ 1114111) := qI (by omega)
 clear h hp hb hr hm
 go_enter func199, ntmps199
 go_wp2_with (first
  | (go_at_call 84; refine CC.o.mono ?_; rintro e w1 ⟨rfl, hb1, hk1⟩; have c1 := za (o := 1) (v := .slice a l.length c) hb1 rfl; have Gc := qI hb1; have Ga := qI hk1; clear hb1 hk1)
  | (go_at_call 227; refine (Any.utf8_AppendRune_plain Tryz.shAppendRune (by kernel_rfl) W.heap.size (.slice a l.length c) l.length (l.map bv) (m : Int) (by have := HM.o; omega) (by have := HM.o; omega) w1 (zh HR.o Ga.o (by intro g hg hx; have h1 := (HR.o.lt g hg).1; have h2 := Ge.o; simp at hx; omega)) (by omega) (by have h1 := Ge.o; have h2 := Ga.o.size; omega)).mono ?_; rintro e w2 ⟨v2, rfl, hown2, ob, hg2⟩; obtain ⟨a2, c2, rfl, -, -⟩ := (Slc.of_row hown2).form; obtain ⟨g1, g2, g3, g4⟩ := BW.wrote (l' := l ++ yh m) H.o HR.o Gc.o Ga.o (by rw [List.map_append, ← Jd.o]; exact hown2) (by rw [List.length_append, Je.o]) (((zb.refl _ _).alloc ob).grown hg2 (fun k e => .inl (by simp [e]))); have G3 := qI g3; have G4 := qI g4; obtain ⟨p5, v5, -, hb5, -⟩ := G3.o.blk; clear hown2 hg2 g3 g4))
 go_ret2
 exact ⟨⟨_, rfl⟩, G3.o, G4.o⟩
theorem Y9 {w : World} {g : Nat} (n : Nat) : zb [g] w (w.freeze ⟨g, 0, none⟩ n) := by
 have h := Lib.below_freeze (Below.refl 0 w) (p := ⟨g, 0, none⟩) (Nat.zero_le _) n
 refine ⟨h.os, h.tape, h.output, h.size, fun k hk hx => ?_⟩
 unfold World.freeze
 split
 ·rfl
 ·simp only [Array.getElem?_modify]
  rw [if_neg (by simp at hx; omega)]
theorem jh {T : Nat} {W w : World} {b : Nat} {l : List UInt8} (h : BW T W b w l) (hl : l.length ≤ 100000000) (h0 : l ≠ []) :
  Calls Tryz.prog 57 #[.pointer (some ⟨b, 0, none⟩)] w fun e w' => e = .returned (.string (zg l)) ∧ zb [b] W w' ∧ z8 b w w' := by
 obtain ⟨p, a, c, hp, hb, hr⟩ := h.opened
 have Ge : Hid (b < W.heap.size ∧ W.heap.size ≤ w.heap.size) := qI ⟨h.lt, h.kept.size⟩
 have Gb := qI h.kept
 have c1 := za (o := 1) (v := .slice a l.length c) hb rfl
 have hl0 : l.length ≠ 0 := by simpa using h0
 obtain ⟨g, cap, cur, hv, hg, hbg, hnc, hcm, hcs, htake⟩ : ∃ g cap cur, (Value.slice a l.length c) = .slice (some ⟨g, 0, none⟩) l.length cap ∧ W.heap.size ≤ g ∧ w.heap[g]? = some (.cells cur 5 (0, 0)) ∧ l.length ≤ cap ∧ cap ≤ maxLen ∧ cur.size = cap * 1 ∧ cur.toList.take (l.length * 1) = l.map bv := by
  rcases hr.2 with ⟨_, hz⟩ | ⟨g, cap, cur, hv, r1, r2, r3, r4, r5, r6⟩
  ·exact absurd hz hl0
  ·exact ⟨g, cap, cur, hv, r1, r2, r3, r4, r5, r6⟩
 simp only [Value.slice.injEq] at hv
 obtain ⟨rfl, -, rfl⟩ := hv
 have hrow : ∀ j x, l[j]? = some x → w.drew.cell? ((⟨g, 0, none⟩ : Addr).add j) = some (.int .u8 x.toNat) := by
  intro j x hx
  have h2 := (Slc.of_row hr).2
  rcases h2 with ⟨h3, _⟩ | ⟨h3, _⟩ | ⟨g', o', cap', hv', _, _, hrow⟩
  ·cases h3
  ·exact absurd h3 hl0
  ·simp only [Value.slice.injEq, Option.some.injEq, Addr.mk.injEq] at hv'
   obtain ⟨⟨rfl, rfl, -⟩, -, -⟩ := hv'
   exact hrow.adds j (bv x) (by simp [hx])
 have hSD : ∀ W' : World, (Builtin.unsafeSliceData_ #[28] 120 #[.slice (some ⟨g, 0, none⟩) l.length c]).run Tryz.prog W' = .ok (.pointer (some ⟨g, 0, none⟩)) W' := fun W' => Lib.run_unsafeSliceData_row _ _ _ _ _ _ (by omega)
 have hUS : (Builtin.unsafeString_ #[120, 3] 9 #[.pointer (some ⟨g, 0, none⟩), .int .i64 l.length]).run Tryz.prog w.drew = .ok (.string (zg l)) (w.drew.freeze ⟨g, 0, none⟩ l.length) :=
  Lib.run_unsafeString_row w.drew 120 3 9 5 underlying120 (by kernel_rfl) g cur.size (by have hg' : w.drew.heap[g]? = some (.cells cur 5 (0, 0)) := hbg; simp [World.shape?, hg']) l h0 (by omega) (by omega) hrow
 have HK : Hid (zb [g] w (w.drew.freeze ⟨g, 0, none⟩ l.length)) := qI ((zb.refl [g] w).drew.trans' (Y9 l.length))
 have HG : Hid (W.heap.size ≤ g ∧ kind w g = 5 + 2) := qI ⟨hg, vF hbg⟩
 have Gu := qI hSD
 have Gj := qI hUS
 have hgb : b ≠ g := by have := Ge.o; omega
 clear h hp hb hr hbg hnc hcm hcs htake hrow hl0 hSD hUS hg h0
 go_enter func57, ntmps57
 go_wp2_with fail
 refine zk (n := 12) (fun w' : World => w'.cell? ⟨b, 1, none⟩ = some (.slice (some ⟨g, 0, none⟩) l.length c)) 11 (by kernel_rfl) (by kernel_rfl) ?_
 change zR _ _ _ _ _ _ _ _ _ w.drew
 have hSS : (fun w' : World => w'.cell? ⟨b, 1, none⟩ = some (.slice (some ⟨g, 0, none⟩) l.length c)) w.drew := c1
 clear c1
 revert hSS Gj HK
 generalize w.drew = W2
 intro HK Gj hSS
 refine zx ?_
 intro O R hO hR
 have hQp : ∀ c a (d : Nat) v w, R (.panic c) (a.put (some d) v) w → R (.panic c) a w := by subst hR; exact fun _ _ _ _ _ h => h
 refine qT 0 ?_ hO rfl rfl (by kernel_rfl) hQp (fun w hSw => ?_) hSS ?_
 rotate_left
 ·go_simp; try with_reducible rfl
 try simp only [zA,zN,zB,zC,zD]
 refine qT 1 ?_ hO rfl rfl (by kernel_rfl) hQp (fun w hSw => ?_) hSS ?_
 rotate_left
 ·go_simp; try with_reducible rfl
 try simp only [zA,zN,zB,zC,zD]
 refine qT 2 ?_ hO rfl rfl (by kernel_rfl) hQp (fun w hSw => ?_) hSS ?_
 rotate_left
 ·go_simp; try with_reducible rfl
 try simp only [zA,zN,zB,zC,zD]
 refine qT 3 ?_ hO rfl rfl (by kernel_rfl) hQp (fun w hSw => ?_) hSS ?_
 rotate_left
 ·go_simp; try with_reducible rfl
 try simp only [zA,zN,zB,zC,zD]
 refine qT 5 ?_ hO rfl rfl (by kernel_rfl) hQp (fun w hSw => ?_) hSS ?_
 rotate_left
 ·go_simp; try with_reducible rfl
 try simp only [zA,zN,zB,zC,zD]
 refine qT 6 ?_ hO rfl rfl (by kernel_rfl) hQp (fun w hSw => ?_) hSS ?_
 rotate_left
 ·go_simp; try with_reducible rfl
 try simp only [zA,zN,zB,zC,zD]
 refine qT 7 ?_ hO rfl rfl (by kernel_rfl) hQp (fun w hSw => ?_) hSS ?_
 rotate_left
 ·go_simp; try with_reducible rfl
 try simp only [zA,zN,zB,zC,zD]
 refine qT 8 ?_ hO rfl rfl (by kernel_rfl) hQp (fun w hSw => ?_) hSS ?_
 rotate_left
 ·go_simp; try with_reducible rfl
 try simp only [zA,zN,zB,zC,zD]
 refine qT 9 ?_ hO rfl rfl (by kernel_rfl) hQp (fun w hSw => ?_) hSS ?_
 rotate_left
 ·go_simp; try with_reducible rfl
 try simp only [zA,zN,zB,zC,zD]
 have hSD := Gu.o
 refine qT 4 ?_ hO rfl rfl (by kernel_rfl) hQp (fun w hSw => ?_) hSS ?_
 rotate_left
 ·go_simp; try with_reducible rfl
 try simp only [zA,zN,zB,zC,zD]
 have hUS := Gj.o
 refine qO 10 hO rfl (by kernel_rfl) (fun K hK => ?_)
 go_simp
 have hS2 : (fun w' : World => w'.cell? ⟨b, 1, none⟩ = some (.slice (some ⟨g, 0, none⟩) l.length c)) (W2.freeze ⟨g, 0, none⟩ l.length) := (Y9 l.length).cell hSS (by simpa using hgb)
 refine hK _ _ (.inr hS2) ?_
 clear hK K
 try simp only [zA,zN,zB,zC,zD]
 clear hSS
 have hSS := hS2
 clear hS2 hSD hUS
 refine qO 11 hO rfl (by kernel_rfl) (fun K hK => ?_)
 go_simp
 refine hK _ _ (.inl rfl) ?_
 clear hK K
 try simp only [zA,zN,zB,zC,zD]
 refine zv hO (by kernel_rfl) ?_ _
 subst hR
 try clear hQp hO O
 go_wp2_with fail
 go_ret
 refine ⟨rfl, Gb.o.trans HK.o (fun i hi => by simp at hi; subst hi; exact .inr HG.o.1), z8.of HK.o (fun i hi => by simp at hi; subst hi; exact .inr HG.o.2)⟩
theorem bstring_new {T : Nat} {w : World} {b : Nat} {p : Value} (hb : w.heap[b]? = some (.cells #[p, .slice none 0 0] T (0, 0))) :
  Calls Tryz.prog 57 #[.pointer (some ⟨b, 0, none⟩)] w fun e w' => e = .returned (.string (zg [])) ∧ zb [] w w' := by
 have c1 := za (o := 1) (v := .slice none 0 0) hb rfl
 have hSD : ∀ W' : World, (Builtin.unsafeSliceData_ #[28] 120 #[.slice none 0 0]).run Tryz.prog W' = .ok (.pointer none) W' := fun W' => Lib.run_unsafeSliceData_nil _ _ _ _ _
 have hUS : (Builtin.unsafeString_ #[120, 3] 9 #[.pointer none, .int .i64 0]).run Tryz.prog w.drew = .ok (.string .empty) w.drew := Lib.run_unsafeString_none _ _ _ _ _
 have Gu := qI hSD
 have Gj := qI hUS
 have HK : Hid (zb [] w w.drew) := qI (zb.refl [] w).drew
 clear hb hSD hUS
 go_enter func57, ntmps57
 go_wp2_with fail
 refine zk (n := 12) (fun w' : World => w'.cell? ⟨b, 1, none⟩ = some (.slice none 0 0)) 11 (by kernel_rfl) (by kernel_rfl) ?_
 change zR _ _ _ _ _ _ _ _ _ w.drew
 have hSS : (fun w' : World => w'.cell? ⟨b, 1, none⟩ = some (.slice none 0 0)) w.drew := c1
 clear c1
 revert hSS Gj HK
 generalize w.drew = W2
 intro Gj HK hSS
 refine zx ?_
 intro O R hO hR
 have hQp : ∀ c a (d : Nat) v w, R (.panic c) (a.put (some d) v) w → R (.panic c) a w := by subst hR; exact fun _ _ _ _ _ h => h
 refine qT 0 ?_ hO rfl rfl (by kernel_rfl) hQp (fun w hSw => ?_) hSS ?_
 rotate_left
 ·go_simp; try with_reducible rfl
 try simp only [zA,zN,zB,zC,zD]
 refine qT 1 ?_ hO rfl rfl (by kernel_rfl) hQp (fun w hSw => ?_) hSS ?_
 rotate_left
 ·go_simp; try with_reducible rfl
 try simp only [zA,zN,zB,zC,zD]
 refine qT 2 ?_ hO rfl rfl (by kernel_rfl) hQp (fun w hSw => ?_) hSS ?_
 rotate_left
 ·go_simp; try with_reducible rfl
 try simp only [zA,zN,zB,zC,zD]
 refine qT 3 ?_ hO rfl rfl (by kernel_rfl) hQp (fun w hSw => ?_) hSS ?_
 rotate_left
 ·go_simp; try with_reducible rfl
 try simp only [zA,zN,zB,zC,zD]
 refine qT 5 ?_ hO rfl rfl (by kernel_rfl) hQp (fun w hSw => ?_) hSS ?_
 rotate_left
 ·go_simp; try with_reducible rfl
 try simp only [zA,zN,zB,zC,zD]
 refine qT 6 ?_ hO rfl rfl (by kernel_rfl) hQp (fun w hSw => ?_) hSS ?_
 rotate_left
 ·go_simp; try with_reducible rfl
 try simp only [zA,zN,zB,zC,zD]
 refine qT 7 ?_ hO rfl rfl (by kernel_rfl) hQp (fun w hSw => ?_) hSS ?_
 rotate_left
 ·go_simp; try with_reducible rfl
 try simp only [zA,zN,zB,zC,zD]
 refine qT 8 ?_ hO rfl rfl (by kernel_rfl) hQp (fun w hSw => ?_) hSS ?_
 rotate_left
 ·go_simp; try with_reducible rfl
 try simp only [zA,zN,zB,zC,zD]
 refine qT 9 ?_ hO rfl rfl (by kernel_rfl) hQp (fun w hSw => ?_) hSS ?_
 rotate_left
 ·go_simp; try with_reducible rfl
 try simp only [zA,zN,zB,zC,zD]
 have hSD := Gu.o
 refine qT 4 ?_ hO rfl rfl (by kernel_rfl) hQp (fun w hSw => ?_) hSS ?_
 rotate_left
 ·go_simp; try with_reducible rfl
 try simp only [zA,zN,zB,zC,zD]
 have hUS := Gj.o
 refine qO 10 hO rfl (by kernel_rfl) (fun K hK => ?_)
 go_simp
 refine hK _ _ (.inr hSS) ?_
 clear hK K
 try simp only [zA,zN,zB,zC,zD]
 clear hSD hUS
 refine qO 11 hO rfl (by kernel_rfl) (fun K hK => ?_)
 go_simp
 refine hK _ _ (.inl rfl) ?_
 clear hK K
 try simp only [zA,zN,zB,zC,zD]
 refine zv hO (by kernel_rfl) ?_ _
 subst hR
 try clear hQp hO O
 go_wp2_with fail
 go_ret
 exact ⟨rfl, HK.o⟩
open Go.Lib (decodeL)
structure yK (w : World) : Prop where
 utf : Lib.Utf8Tabs (Tryz.shDecode_ren.g 3) (Tryz.shDecode_ren.g 4) w
 case : Lib.CaseVar (Tryz.shToLower_ren.g 13) Lib.caseA w
 pow : Lib.TabIs Tryz.prog w "internal/strconv.uint64pow10" .u64 Lib.pow10Tab
theorem yK.kept0 {w w' : World} (h : yK w) (k : zb [] w w') : yK w' := by
 obtain ⟨h1, h2, h3⟩ := h
 refine ⟨⟨fun c hc => k.cell (h1.1 c hc) (by simp), fun i hi => ⟨k.cell (h1.2 i hi).1 (by simp), k.cell (h1.2 i hi).2 (by simp)⟩⟩, ?_, ?_⟩
 ·obtain ⟨R, oR, cap, q, t⟩ := h2
  exact ⟨R, oR, cap, k.cell q (by simp), fun i hi => by
   obtain ⟨a, b, c, d, e⟩ := t i hi
   exact ⟨k.cell a (by simp), k.cell b (by simp), k.cell c (by simp), k.cell d (by simp), k.cell e (by simp)⟩⟩
 ·have hs : (Tryz.prog.globalNamed "internal/strconv.uint64pow10").isSome = true := by kernel_rfl
  obtain ⟨g, hg⟩ := Option.isSome_iff_exists.1 hs
  exact Go.Joins.tab_stays hg h3 (k.below (Nat.le_refl _) (by simp)) (Nat.le_refl _)
theorem of_below {P : Program} {f : FuncId} {args : Array Value} {w : World} {r : Ending} (h : Calls P f args w fun e w' => e = r ∧ Below w.heap.size w w') : Calls P f args w fun e w' => e = r ∧ zb [] w w' :=
 h.mono fun _ _ ⟨h1, h2⟩ => ⟨h1, zb.of_below h2⟩
theorem Qz {P : Program} {f : FuncId} {args : Array Value} {w : World} {r : Ending} (h : Calls P f args w fun e w' => e = r ∧ w' = w) : Calls P f args w fun e w' => e = r ∧ w = w' :=
 h.mono fun _ _ ⟨h1, h2⟩ => ⟨h1, h2.symm⟩
theorem libValid {w : World} (ht : yK w) (s : ByteArray) (hs : s.size ≤ 281474976710656) : Calls Tryz.prog 213 #[.string s] w fun e w' => e = .returned (.bool (zX s)) ∧ zb [] w w' :=
 of_below (Any.utf8_ValidString Tryz.shValid s w (by omega) ht.utf)
theorem libDecode {w : World} (ht : yK w) (s : ByteArray) : Calls Tryz.prog 172 #[.string s] w fun e w' => e = .returned (.tuple #[.int .i32 (Lib.decodeGo s).1, .int .i64 (Lib.decodeGo s).2]) ∧ zb [] w w' :=
 of_below (Any.utf8_DecodeRuneInString Tryz.shDecode s w ht.utf)
theorem qa (s : ByteArray) (c : Int) (w : World) : Calls Tryz.prog 116 #[.string s, .int .u8 c] w fun e w' => e = .returned (.int .i64 (Lib.indexByte s.data.toList c.toNat.toUInt8)) ∧ w = w' :=
 Qz (Any.strings_IndexByte Tryz.shIndexByte s c w)
theorem xA (s p : ByteArray) (w : World) : Calls Tryz.prog 88 #[.string s, .string p] w fun e w' => e = .returned (.bool (p.data.toList.isPrefixOf s.data.toList)) ∧ w = w' :=
 Qz (Any.strings_HasPrefix Tryz.shHasPrefix s p w)
theorem YA (r : Int) (w : World) : Calls Tryz.prog 248 #[.int .i32 r] w fun e w' => e = .returned (.bool (Lib.validRune r)) ∧ w = w' :=
 Qz (Any.utf8_ValidRune Tryz.shValidRune r w)
theorem K5 (b : Bool) (w : World) : Calls Tryz.prog 93 #[.bool b] w fun e w' => e = .returned (.string (zg (Lib.formatBool b))) ∧ w = w' :=
 Qz (Any.strconv_FormatBool Tryz.shFormatBool b w)
theorem kept_grow {w : World} (n : Nat) (os : Array Obj) : zb [] w (Sort.grow (w.drewN n) os) :=
 ⟨rfl, rfl, rfl, by simp [Sort.grow], fun k hk _ => by
  show (w.heap ++ os)[k]? = w.heap[k]?
  rw [Array.getElem?_append_left hk]⟩
theorem libItoa {w : World} (ht : yK w) (n : Int) (h0 : -9223372036854775808 ≤ n) (h1 : n ≤ 9223372036854775807) : Calls Tryz.prog 76 #[.int .i64 n] w fun e w' => e = .returned (.string (zg (Lib.itoa n))) ∧ zb [] w w' :=
 (Any.strconv_Itoa Tryz.shItoa n h0 h1 w ht.pow).mono fun e w' ⟨h1, k, os, h2⟩ => ⟨h1, by rw [h2]; exact kept_grow k os⟩
theorem lowerExtra : Builder.Extra Tryz.prog Tryz.shToLower_ren := {
 sizeBuilder := by kernel_rfl
 liesBuilder := by kernel_rfl
 t5 := underlying5
 a5 := isAgg5
 z5 := sizeOf5
 v5 := zeroValue5
 infoByte := by kernel_rfl
 cellsByte := by kernel_rfl
 sizeByte := by kernel_rfl
 neB5 := by decide }
theorem libToLower {w : World} (ht : yK w) (s : ByteArray) (hs : s.size ≤ 1000000) : Calls Tryz.prog 263 #[.string s] w fun e w' => e = .returned (.string (zg (Lib.toLowerD s.data.toList))) ∧ zb [] w w' :=
 of_below (Any.strings_ToLower_any Tryz.shToLower lowerExtra s w (by omega) ht.case ht.utf)
theorem Qp (s cs : ByteArray) (w : World) (h1 : cs.size ≤ 100) (h2 : ∀ (j : Nat) b, cs.data.toList[j]? = some b → b.toNat < 128) : Calls Tryz.prog 114 #[.string s, .string cs] w fun e w' => e = .returned (.string (zg (Lib.trimLeftS s.data.toList cs.data.toList))) ∧ zb [] w w' :=
 of_below (Any.strings_TrimLeft_laid Tryz.shTrimLeft (by kernel_rfl) s cs w (by omega) h2)
theorem libTrim (s cs : ByteArray) (w : World) (hs : s.size ≤ 281474976710656) (h1 : cs.size ≤ 100) (h2 : ∀ (j : Nat) b, cs.data.toList[j]? = some b → b.toNat < 128) : Calls Tryz.prog 266 #[.string s, .string cs] w fun e w' => e = .returned (.string (zg (Lib.trimS s.data.toList cs.data.toList))) ∧ zb [] w w' :=
 of_below (Any.strings_Trim_laid Tryz.shTrim (by kernel_rfl) s cs w (by omega) (by omega) h2)
theorem libEqual {w : World} {a b : Option Addr} {n m c d : Nat} {x y : List UInt8} (hx : xt w (.slice a n c) x) (hy : xt w (.slice b m d) y) :
  Calls Tryz.prog 44 #[.slice a n c, .slice b m d] w fun e w' => e = .returned (.bool (decide (x = y))) ∧ w = w' := by
 have c1 := xt.toStr hx
 have c2 := xt.toStr hy
 have HT : Hid (((zg x).toList == (zg y).toList) = decide (x = y)) := qI (by
  by_cases h : x = y
  ·rw [decide_eq_true h]; exact (qo (by rw [h])).1
  ·rw [decide_eq_false h]; exact (xM (fun e => h (strB_inj e))).1)
 clear hx hy
 have ht := HT.o
 revert ht
 generalize decide (x = y) = r
 intro ht
 go_enter func44, ntmps44
 go_wp2_with fail
 go_ret
 exact ⟨rfl, rfl⟩
theorem Kq {w : World} (ht : yK w) (s : ByteArray) (hs : s.size ≤ 281474976710656) : Calls Tryz.prog 177 #[.string s] w fun e w' => e = .returned (.bool (zX s)) ∧ zb [] w w' := by
 have C := qI (libValid ht s hs)
 clear ht
 go_enter func177, ntmps177
 go_wp2_with (go_at_call 213; refine C.o.mono ?_; rintro e w2 ⟨rfl, hk2⟩)
 go_ret
 exact ⟨rfl, hk2⟩
theorem decodeGo_eq (s : ByteArray) : Lib.decodeGo s = if s.data.toList = [] then (65533, 0) else decodeL s.data.toList := by
 unfold Lib.decodeGo decodeL
 have e : s.size = s.data.toList.length := by simp
 have e2 : (⟨s.data.toList.toArray⟩ : ByteArray) = s := by cases s; simp
 rw [e2]
 by_cases h : s.data.toList = []
 ·rw [if_pos h, if_pos (by rw [e, h]; rfl)]
 ·rw [if_neg h, if_neg (by rw [e]; exact fun q => h (List.eq_nil_of_length_eq_zero q))]
theorem utfNext {w : World} (ht : yK w) (s : ByteArray) (hs : s.size ≤ 281474976710656) : Calls Tryz.prog 226 #[.string s] w fun e w' => e = .returned (.tuple #[.int .i64 (xZ s.data.toList).1, .int .i64 (xZ s.data.toList).2]) ∧ zb [] w w' := by
 have C := qI (libDecode ht s)
 have HD := qI (decodeGo_eq s)
 have HN : Hid ((xZ s.data.toList = ((-1 : Int), 0) ∧ ((Lib.decodeGo s).2 = 0 ∨ ((Lib.decodeGo s).1 = 65533 ∧ (Lib.decodeGo s).2 = 1))) ∨ (xZ s.data.toList = (((Lib.decodeGo s).1 : Int), (Lib.decodeGo s).2) ∧ (Lib.decodeGo s).1 ≤ 1114111 ∧ (Lib.decodeGo s).2 ≤ 4 ∧ ¬ ((Lib.decodeGo s).2 = 0) ∧ ¬ ((Lib.decodeGo s).1 = 65533 ∧ (Lib.decodeGo s).2 = 1))) := qI (by
  rw [HD.o]
  unfold xZ
  by_cases h : s.data.toList = []
  ·rw [if_pos (.inl h), if_pos h]
   exact .inl ⟨rfl, .inl rfl⟩
  ·rw [if_neg h]
   by_cases hb : (decodeL s.data.toList).1 = 65533 ∧ (decodeL s.data.toList).2 = 1
   ·rw [if_pos (.inr hb)]
    exact .inl ⟨rfl, .inr hb⟩
   ·rw [if_neg (by rintro (q | q); exact h q; exact hb q)]
    have D := kG h hb
    have hp := D.pos
    have h4 := (code_of D).2
    have hv := D.valid
    exact .inr ⟨rfl, by omega, h4, by omega, hb⟩)
 clear ht
 revert C HN
 generalize xZ s.data.toList = N
 generalize Lib.decodeGo s = p
 obtain ⟨r, k⟩ := p
 intro C HN
 simp only at C HN
 rcases HN.o with ⟨rfl, rfl | ⟨rfl, rfl⟩⟩ | ⟨rfl, h1, h2, h3, h4⟩
 ·go_enter func226, ntmps226
  go_wp2_with (go_at_call 172; refine C.o.mono ?_; rintro e w2 ⟨rfl, hk2⟩)
  go_ret2
  exact ⟨rfl, hk2⟩
 ·go_enter func226, ntmps226
  go_wp2_with (go_at_call 172; refine C.o.mono ?_; rintro e w2 ⟨rfl, hk2⟩)
  go_ret2
  exact ⟨rfl, hk2⟩
 ·have fk0 : ((k : Int) == 0) = false := (qK (a := k) (b := 0) h3).1
  have h1I : (r : Int) ≤ 1114111 := by omega
  have h3I : (0 : Int) < k := by omega
  by_cases hr : r = 65533
  ·have fr := (vv hr).1
   have fk1 : ((k : Int) == 1) = false := (qK (a := k) (b := 1) (fun e => h4 ⟨hr, e⟩)).1
   have fr' : ((r : Int) == 65533) = true := fr
   clear h1 h2 h3 h4 hr fr
   go_enter func226, ntmps226
   go_wp2_with (go_at_call 172; refine C.o.mono ?_; rintro e w2 ⟨rfl, hk2⟩)
   go_ret2
   exact ⟨rfl, hk2⟩
  ·have fr := (qK hr).1
   have fr' : ((r : Int) == 65533) = false := fr
   clear h1 h2 h3 h4 hr fr
   go_enter func226, ntmps226
   go_wp2_with (go_at_call 172; refine C.o.mono ?_; rintro e w2 ⟨rfl, hk2⟩)
   go_ret2
   exact ⟨rfl, hk2⟩
theorem xt.at {w : World} {a : Option Addr} {c : Nat} {l : List UInt8} (h : xt w (.slice a l.length c) l) {k : Nat} (hk : k < l.length) : ∃ g o, a = some ⟨g, o, none⟩ ∧ w.cell? ⟨g, o + k, none⟩ = some (.int .u8 l[k].toNat) := by
 rcases h.2 with ⟨_, h0⟩ | ⟨h0, _⟩ | ⟨g, o, cap, hv, _, _, hrow⟩
 ·omega
 ·omega
 ·simp only [Value.slice.injEq] at hv
  exact ⟨g, o, hv.1, hrow.cells k (bv l[k]) (by simp [hk])⟩
def Zn (l : List UInt8) : List UInt8 := l.flatMap (fun c => [vU (c.toNat / 16), vU (c.toNat % 16)])
theorem hexL_snoc (l : List UInt8) (c : UInt8) : Zn (l ++ [c]) = (Zn l ++ [vU (c.toNat / 16)]) ++ [vU (c.toNat % 16)] := by simp [Zn]
theorem bo : ∀ (l : List UInt8), (Zn l).length = 2 * l.length
 | [] => rfl
 | c :: l => by
  have := bo l
  simp only [Zn, List.flatMap_cons, List.length_append, List.length_cons, List.length_nil] at *
  omega
theorem hexc : ∀ (k : Nat) (h : k < 16), (⟨#[48, 49, 50, 51, 52, 53, 54, 55, 56, 57, 97, 98, 99, 100, 101, 102]⟩ : ByteArray)[k]'h = vU k := by
 have h : ∀ k : Fin 16, (⟨#[48, 49, 50, 51, 52, 53, 54, 55, 56, 57, 97, 98, 99, 100, 101, 102]⟩ : ByteArray)[k.val]'k.isLt = vU k.val := by decide
 exact fun k hk => h ⟨k, hk⟩
theorem hex_any {w : World} {a : Option Addr} {c : Nat} {l : List UInt8} (h : xt w (.slice a l.length c) l) (hl : l.length ≤ 1000000) (h0 : l ≠ []) :
  Calls Tryz.prog 179 #[.slice a l.length c] w fun e w' => e = .returned (.string (zg (Zn l))) ∧ zb [] w w' := by
 have H := qI h
 obtain ⟨W0, Gk⟩ : ∃ W0, Hid (W0 = w.alloc (.cells #[.pointer none, .slice none 0 0] 70)) := ⟨_, qI rfl⟩
 have Gd : Hid (zb [] w W0) := qI (by rw [Gk.o]; exact (zb.refl _ _).alloc _)
 have Gv : Hid (BW 70 W0 w.heap.size W0 []) := qI (BW.new (by rw [Gk.o]; exact zn rfl))
 clear h
 go_enter func179, ntmps179
 go_wp2_with fail
 rw [← Gk.o]
 go_loopw [8] (fun i wr => ∃ k : Nat, i = .int .i64 k ∧ k ≤ l.length ∧ BW 70 W0 w.heap.size wr (Zn (l.take k))) (fun i _ => l.length - (intOf i).toNat)
 case atStart => exact ⟨0, rfl, Nat.zero_le _, Gv.o⟩
 case round =>
  obtain ⟨k, rfl, hk, hb⟩ := hrel
  have HB := qI hb
  have Gb : Hid (zb [] w wr) := qI (Gd.o.trans hb.kept (by intro i hi; simp at hi; subst hi; exact .inr (Nat.le_refl _)))
  clear hb
  by_cases hlt : k < l.length
  ·have hltI : (k : Int) < l.length := by omega
   obtain ⟨g, o, rfl, q0⟩ := xt.at (H.o.kept0 Gb.o) hlt
   have hx : (l[k].toNat : Int) ≤ 255 := by have := l[k].toNat_lt; omega
   have Gh : Hid (Zn (l.take (k + 1)) = (Zn (l.take k) ++ [vU (l[k].toNat / 16)]) ++ [vU (l[k].toNat % 16)]) := qI (by rw [List.take_succ_eq_append_getElem hlt, hexL_snoc])
   revert q0 hx Gh
   generalize l[k] = x
   intro q0 hx Gh
   have hlen : (Zn (l.take k)).length ≤ 50000000 := by rw [bo, List.length_take]; omega
   go_wp2_with fail
   refine (y6 yP HB.o (by omega) _).mono ?_
   rintro e w1 ⟨rfl, hb1, -⟩
   rw [hexc _ (by omega)] at hb1
   have Gc := qI hb1
   clear hb1
   go_wp2_with fail
   refine (y6 yP Gc.o (by rw [List.length_append]; simp only [List.length_cons, List.length_nil]; omega) _).mono ?_
   rintro e w2 ⟨rfl, hb2, -⟩
   rw [hexc _ (by omega), ← Gh.o] at hb2
   have Gw := qI hb2
   clear hb2
   go_wp2_with fail
   case roundEnd => exact ⟨⟨k + 1, by go_num, by omega, Gw.o⟩, by simp [intOf]; omega⟩
  ·obtain rfl : k = l.length := by omega
   have Gc : Hid (BW 70 W0 w.heap.size wr (Zn l)) := qI (by have := HB.o; rw [List.take_length] at this; exact this)
   have H0 := qI h0
   clear h0
   have hlen : (Zn l).length ≤ 50000000 := by rw [bo]; omega
   go_wp2_with (go_at_call 57; refine (jh Gc.o (by omega) (by intro e; have h1 := congrArg List.length e; rw [bo] at h1; simp only [List.length_nil] at h1; exact H0.o (List.eq_nil_of_length_eq_zero (by omega)))).mono ?_; rintro e w2 ⟨rfl, hk2, -⟩)
   go_ret
   exact ⟨rfl, Gd.o.trans hk2 (by intro i hi; simp at hi; subst hi; exact .inr (Nat.le_refl _))⟩
theorem wbyte_34 {T : Nat} (hT : YK T) {W w : World} {b : Nat} {l : List UInt8} (h : BW T W b w l) (hl : l.length ≤ 100000000) :
  Calls Tryz.prog 98 #[.pointer (some ⟨b, 0, none⟩), .int .u8 34] w fun e w' => e = .returned .nilIface ∧ BW T W b w' (l ++ [34]) ∧ z8 b w w' := y6 hT h hl 34
theorem wbyte_92 {T : Nat} (hT : YK T) {W w : World} {b : Nat} {l : List UInt8} (h : BW T W b w l) (hl : l.length ≤ 100000000) :
  Calls Tryz.prog 98 #[.pointer (some ⟨b, 0, none⟩), .int .u8 92] w fun e w' => e = .returned .nilIface ∧ BW T W b w' (l ++ [92]) ∧ z8 b w w' := y6 hT h hl 92
theorem quoteB_len (c : UInt8) : (yk c).length ≤ 6 := by
 unfold yk
 split
 ·simp
 ·split <;> simp
theorem quote_take (s : List UInt8) (k : Nat) : (((s.take k).flatMap yk)).length ≤ 6 * s.length := by
 have h : ∀ l : List UInt8, (l.flatMap yk).length ≤ 6 * l.length := by
  intro l
  induction l with
  | nil => simp
  | cons c l ih =>
   have := quoteB_len c
   simp only [List.flatMap_cons, List.length_append, List.length_cons]
   omega
 have h1 := h (s.take k)
 rw [List.length_take] at h1
 omega
theorem utfQuote {w : World} (ht : yK w) (s : ByteArray) (hs : s.size ≤ 1000000) (hv : zX s = true) :
  Calls Tryz.prog 138 #[.string s] w fun e w' => e = .returned (.tuple #[.string (zg (yr s.data.toList)), .int .i64 0]) ∧ zb [] w w' := by
 have CV := qI (Kq ht s (by omega))
 rw [hv] at CV
 have HL : Hid (s.data.toList.length = s.size) := qI (by simp)
 clear ht hv
 go_enter func138, ntmps138
 go_wp2_with (go_at_call 177; refine CV.o.mono ?_; rintro e w1 ⟨rfl, hk1⟩; have Ga := qI hk1; clear hk1)
 obtain ⟨W0, Gk⟩ : ∃ W0, Hid (W0 = w1.alloc (.cells #[.pointer none, .slice none 0 0] 70)) := ⟨_, qI rfl⟩
 have Gd : Hid (zb [] w1 W0) := qI (by rw [Gk.o]; exact (zb.refl _ _).alloc _)
 have Gv : Hid (BW 70 W0 w1.heap.size W0 []) := qI (BW.new (by rw [Gk.o]; exact zn rfl))
 rw [← Gk.o]
 refine (wbyte_34 yP Gv.o (by simp)).mono ?_
 rintro e w2 ⟨rfl, hb2, -⟩
 have Gw := qI hb2
 clear hb2
 go_wp2_with fail
 go_loopw [13] (fun i wr => ∃ k : Nat, i = .int .i64 k ∧ k ≤ s.size ∧ BW 70 W0 w1.heap.size wr (34 :: (s.data.toList.take k).flatMap yk)) (fun i _ => s.size - (intOf i).toNat)
 case atStart => exact ⟨0, rfl, Nat.zero_le _, Gw.o⟩
 case round =>
  obtain ⟨k, rfl, hk, hb⟩ := hrel
  have HB := qI hb
  have Gb : Hid (zb [] w1 wr) := qI (Gd.o.trans hb.kept (by intro i hi; simp at hi; subst hi; exact .inr (Nat.le_refl _)))
  clear hb
  have hq : (34 :: (s.data.toList.take k).flatMap yk : List UInt8).length ≤ 6000001 := by
   have := quote_take s.data.toList k
   rw [HL.o] at this
   rw [List.length_cons]
   omega
  by_cases hlt : k < s.size
  ·have hltI : (k : Int) < s.size := by omega
   have hlt' : k < s.data.toList.length := by rw [HL.o]; exact hlt
   have Gh : Hid (34 :: (s.data.toList.take (k + 1)).flatMap yk = (34 :: (s.data.toList.take k).flatMap yk) ++ yk (s[k]'hlt)) := qI (by
    rw [List.take_succ_eq_append_getElem hlt', List.flatMap_append, List.cons_append]
    simp only [List.flatMap_cons, List.flatMap_nil, List.append_nil]
    rfl)
   have hx : ((s[k]'hlt).toNat : Int) ≤ 255 := by have := (s[k]'hlt).toNat_lt; omega
   clear hlt'
   revert hx Gh
   generalize 34 :: (s.data.toList.take k).flatMap yk = L at *
   generalize hsk : s[k]'hlt = x
   intro Gh hx
   by_cases h32 : x.toNat < 32
   ·have h32I : (x.toNat : Int) < 32 := by omega
    have HQ : Hid (yk x = [92, 117, 48, 48] ++ Zn [x]) := qI (by unfold yk; rw [if_pos h32]; rfl)
    have CH := qI (hex_any (w := wr.alloc (.cells #[.int .u8 x.toNat] 5)) (a := some ⟨wr.heap.size, 0, none⟩) (c := 1) (l := [x]) (slc_one wr (bv x) 5 _ rfl) (by simp) (by simp))
    clear h32
    go_wp2_with (go_at_call 179; refine CH.o.mono ?_; rintro e w3 ⟨rfl, hk3⟩; have Jf := qI (((zb.refl [] wr).alloc (.cells #[.int .u8 x.toNat] 5)).then hk3); clear hk3)
    have Ja : Hid ((({ data := #[92, 117, 48, 48] } : ByteArray) ++ zg (Zn [x])).data.toList = [92, 117, 48, 48] ++ Zn [x]) := qI (by
     rw [ByteArray.data_append, Array.toList_append, zq])
    refine (ki yP (HB.o.stay Jf.o) (by omega) _ (by rw [← ByteArray.size_data, ← Array.length_toList, Ja.o, List.length_append, bo]; simp)).mono ?_
    rintro e w4 ⟨rfl, hb4, -⟩
    rw [Ja.o, ← HQ.o, ← Gh.o] at hb4
    have Gx := qI hb4
    clear hb4
    go_wp2_with fail
    case roundEnd => exact ⟨⟨k + 1, by go_num, by omega, Gx.o⟩, by simp [intOf]; omega⟩
   ·have h32I : ¬ (x.toNat : Int) < 32 := by omega
    by_cases hc : x = 34 ∨ x = 92
    ·have HQ : Hid (yk x = [92] ++ [x]) := qI (by unfold yk; rw [if_neg h32, if_pos hc]; rfl)
     have hg : ((x.toNat : Int) == 34) = true ∨ (((x.toNat : Int) == 34) = false ∧ ((x.toNat : Int) == 92) = true) := by
      rcases hc with rfl | rfl
      ·exact .inl rfl
      ·exact .inr ⟨rfl, rfl⟩
     clear hc h32
     rcases hg with g1 | ⟨g1, g2⟩
     all_goals
      go_wp2_with fail
      refine (wbyte_92 yP HB.o (by omega)).mono ?_
      rintro e w3 ⟨rfl, hb3, -⟩
      have Gs := qI hb3
      clear hb3
      go_wp2_with fail
      refine (y6 yP Gs.o (by rw [List.length_append]; simp only [List.length_cons, List.length_nil]; omega) x).mono ?_
      rintro e w4 ⟨rfl, hb4, -⟩
      have Gx := qI hb4
      clear hb4
      go_wp2_with fail
      case roundEnd => exact ⟨⟨k + 1, by go_num, by omega, by rw [Gh.o, HQ.o, ← List.append_assoc]; exact Gx.o⟩, by simp [intOf]; omega⟩
    ·have HQ : Hid (yk x = [x]) := qI (by unfold yk; rw [if_neg h32, if_neg hc])
     have hn : ∀ v : UInt8, x ≠ v → ((x.toNat : Int) == (v.toNat : Int)) = false := fun v hv => (qK (fun e => hv (UInt8.toNat_inj.1 e))).1
     have g1 : ((x.toNat : Int) == 34) = false := hn 34 (fun e => hc (.inl e))
     have g2 : ((x.toNat : Int) == 92) = false := hn 92 (fun e => hc (.inr e))
     clear hc h32 hn
     go_wp2_with fail
     refine (y6 yP HB.o (by omega) x).mono ?_
     rintro e w3 ⟨rfl, hb3, -⟩
     have Gs := qI hb3
     clear hb3
     go_wp2_with fail
     case roundEnd => exact ⟨⟨k + 1, by go_num, by omega, by rw [Gh.o, HQ.o]; exact Gs.o⟩, by simp [intOf]; omega⟩
  ·obtain rfl : k = s.size := by omega
   have HT : Hid ((34 :: (s.data.toList.take s.size).flatMap yk) ++ [34] = yr s.data.toList) := qI (by
    rw [List.take_of_length_le (by rw [HL.o]; exact Nat.le_refl _)]
    rfl)
   revert hq HB HT
   generalize 34 :: (s.data.toList.take s.size).flatMap yk = L
   intro HB hq HT
   go_wp2_with (first
    | (go_at_call 98; refine (wbyte_34 yP HB.o (by omega)).mono ?_; rintro e w3 ⟨rfl, hb3, -⟩; rw [HT.o] at hb3; have Gs := qI hb3; clear hb3)
    | (go_at_call 57; refine (jh Gs.o (by rw [← HT.o, List.length_append]; simp only [List.length_cons, List.length_nil]; omega) (by unfold yr; exact List.cons_ne_nil _ _)).mono ?_; rintro e w4 ⟨rfl, hk4, -⟩))
   go_ret2
   exact ⟨rfl, (Ga.o.then Gd.o).trans hk4 (by intro i hi; simp at hi; subst hi; exact .inr Ga.o.size)⟩
def jw {α : Type} (v : VS α) (m : Int) (s : ByteArray) (l k : Nat) : Prop :=
 (v.kind = 1 ∧ m = 0 ∧ s = ⟨#[]⟩ ∧ l = 0 ∧ k = 0) ∨ (v.kind = 2 ∧ (v.num = 0 ∨ v.num = 1) ∧ m = v.num ∧ s = ⟨#[]⟩ ∧ l = 0 ∧ k = 0) ∨
 (v.kind = 3 ∧ (-9007199254740991 ≤ v.num ∧ v.num ≤ 9007199254740991) ∧ m = v.num ∧ s = ⟨#[]⟩ ∧ l = 0 ∧ k = 0) ∨ (v.kind = 4 ∧ zX v.s = true ∧ m = 0 ∧ s = v.s ∧ l = 0 ∧ k = 0) ∨
 (v.kind = 5 ∧ m = 0 ∧ s = ⟨#[]⟩ ∧ l = v.l.length ∧ k = 0) ∨ (v.kind = 6 ∧ m = 0 ∧ s = ⟨#[]⟩ ∧ l = 0 ∧ k = v.m.length)
theorem xW {α : Type} (l : List α) : l.isEmpty = decide (l.length = 0) := by cases l <;> simp
theorem bare_own {α : Type} {v : VS α} {m : Int} {s : ByteArray} {l k : Nat} (h : jw v m s l k) :
  zE v = (decide (v.num = m) && decide (v.s = s) && decide (v.l.length = l) && decide (v.m.length = k) && (if v.kind = 6 then yE v.m else true)) := by
 unfold zE jK
 simp only [xW]
 rcases h with ⟨h1, rfl, rfl, rfl, rfl⟩ | ⟨h1, h2, rfl, rfl, rfl, rfl⟩ | ⟨h1, h2, rfl, rfl, rfl, rfl⟩ | ⟨h1, h2, rfl, rfl, rfl, rfl⟩ | ⟨h1, rfl, rfl, rfl, rfl⟩ | ⟨h1, rfl, rfl, rfl, rfl⟩
 ·rw [h1]; simp
 ·rw [h1]; simp [h2]
 ·rw [h1]; simp [h2]
 ·rw [h1]; simp [h2, Bool.and_assoc]
 ·rw [h1]; simp
 ·rw [h1]
  simp only [if_neg (show ¬ ((6 : Int) = 1) by decide), if_neg (show ¬ ((6 : Int) = 2) by decide), if_neg (show ¬ ((6 : Int) = 3) by decide), if_neg (show ¬ ((6 : Int) = 4) by decide), if_neg (show ¬ ((6 : Int) = 5) by decide), if_pos]
  cases yE v.m <;> cases decide (v.num = 0) <;> cases decide (v.s = ⟨#[]⟩) <;> cases decide (v.l.length = 0) <;> simp
def xO {α : Type} (r : α → Bool) : List ByteArray → List (ByteArray × α) → Bool
 | _, [] => true
 | seen, p :: t => zX p.1 && r p.2 && !(seen.any (fun k => decide (k = p.1))) && xO r (seen ++ [p.1]) t
theorem QE {α : Type} (r : α → Bool) : ∀ (m : List (ByteArray × α)) (seen : List ByteArray), seen.Nodup →
  (xO r seen m = true ↔ (∀ p, p ∈ m → zX p.1 = true ∧ r p.2 = true) ∧ (seen ++ m.map (fun p => p.1)).Nodup)
 | [], seen, hs => by simp [xO, hs]
 | p :: t, seen, hs => by
  unfold xO
  rw [Bool.and_eq_true, Bool.and_eq_true, Bool.and_eq_true]
  by_cases hk : p.1 ∈ seen
  ·have h1 : (seen.any (fun k => decide (k = p.1))) = true := List.any_eq_true.2 ⟨p.1, hk, by simp⟩
   rw [h1]
   constructor
   ·rintro ⟨⟨_, h⟩, _⟩; simp at h
   ·rintro ⟨_, h⟩
    exact absurd hk (fun q => by
     have := (List.nodup_append.1 h).2.2 p.1 q p.1 (by simp)
     exact this rfl)
  ·have h1 : (seen.any (fun k => decide (k = p.1))) = false := by
    rw [List.any_eq_false]
    intro x hx e
    exact hk (by rw [decide_eq_true_iff] at e; rw [← e]; exact hx)
   have hs' : (seen ++ [p.1]).Nodup := by
    refine List.nodup_append.2 ⟨hs, by simp, ?_⟩
    intro a ha b hb e
    simp at hb
    exact hk (by rw [← hb, ← e]; exact ha)
   rw [h1, QE r t (seen ++ [p.1]) hs']
   simp only [List.map_cons, List.append_assoc, List.cons_append, List.nil_append, Bool.not_false, and_true, List.mem_cons, forall_eq_or_imp]
   constructor
   ·rintro ⟨h2, h3, h4⟩; exact ⟨⟨h2, h3⟩, h4⟩
   ·rintro ⟨⟨h2, h3⟩, h4⟩; exact ⟨h2, h3, h4⟩
theorem pairsOk_all {α : Type} (r : α → Bool) (m : List (ByteArray × α)) : xO r [] m = (yE m && m.all (fun p => r p.2)) := by
 rw [Bool.eq_iff_iff, QE r m [] List.nodup_nil, Bool.and_eq_true]
 unfold yE
 rw [Bool.and_eq_true, List.all_eq_true, List.all_eq_true, decide_eq_true_iff, List.nil_append]
 constructor
 ·rintro ⟨h1, h2⟩; exact ⟨⟨fun p hp => (h1 p hp).1, h2⟩, fun p hp => (h1 p hp).2⟩
 ·rintro ⟨⟨h1, h2⟩, h3⟩; exact ⟨fun p hp => ⟨h1 p hp, h3 p hp⟩, h2⟩
theorem right_bare {n : Nat} {v : VS (V n)} {m : Int} {s : ByteArray} {l k : Nat} (h : jw v m s l k) :
  zj (n + 1) v = (decide (v.num = m) && decide (v.s = s) && decide (v.l.length = l) && decide (v.m.length = k) && v.l.all (zj n) && xO (zj n) [] v.m) := by
 have e : zj (n + 1) v = (zE v && v.kids.all (zj n)) := rfl
 have ek : v.kids.all (zj n) = (v.l.all (zj n) && v.m.all (fun p => zj n p.2)) := by
  unfold VS.kids
  rw [List.all_append, List.all_map]
  rfl
 rw [e, bare_own h, ek, pairsOk_all]
 by_cases h6 : v.kind = 6
 ·rw [if_pos h6]
  cases yE v.m <;> cases v.l.all (zj n) <;> cases v.m.all (fun p => zj n p.2) <;> simp
 ·rw [if_neg h6]
  have hk : k = 0 := by
   rcases h with h | h | h | h | h | h
   ·exact h.2.2.2.2
   ·exact h.2.2.2.2.2
   ·exact h.2.2.2.2.2
   ·exact h.2.2.2.2.2
   ·exact h.2.2.2.2
   ·exact absurd h.1 h6
  subst hk
  by_cases hm : v.m.length = 0
  ·have := List.eq_nil_of_length_eq_zero hm
   rw [this]
   cases v.l.all (zj n) <;> simp [yE]
  ·simp [hm]
open Go.Maps (Keyed)
theorem keyStr : Keyed Tryz.prog 9 := Maps.string_keyed underlying9
theorem sameStr (x y : List UInt8) : (Lit.string x).sameKey (.string y) = decide (x = y) := by
 by_cases h : x = y <;> simp [Lit.sameKey, h]
theorem keyOfStr (s : ByteArray) (hs : s.size ≤ 281474976710656) : keyOf Tryz.prog 9 (.string s) = some (.string s.data.toList) := Go.WideMaps.keyOf_string_mk (P := Tryz.prog) underlying9 (by simp only [maxLen]; omega)
def xN (w : World) (b : Nat) (seen : List ByteArray) : Prop :=
 ∃ n M, Zd Tryz.prog w 9 b n M ∧ n ≤ seen.length ∧ ∀ s : ByteArray, M (.string s.data.toList) = if seen.any (fun k => decide (k = s)) = true then some (Value.bool true) else none
theorem seen_new {w : World} {b : Nat} (hb : w.heap.size = b) : xN (w.alloc (.map #[] 0)) b [] := by
 subst hb
 exact ⟨0, _, mapAt_made _ w _, Nat.le_refl _, fun s => by simp⟩
theorem xN.kept {w w' : World} {b : Nat} {seen : List ByteArray} {X : List Nat} (h : xN w b seen) (k : zb X w w') (hb : b ∉ X) : xN w' b seen := by
 obtain ⟨n, M, h1, h2, h3⟩ := h
 exact ⟨n, M, h1.kept k hb, h2, h3⟩
theorem xN.kept0 {w w' : World} {b : Nat} {seen : List ByteArray} (h : xN w b seen) (k : zb [] w w') : xN w' b seen := h.kept k (by simp)
theorem xN.look {w : World} {b : Nat} {seen : List ByteArray} (h : xN w b seen) (s : ByteArray) (hs : s.size ≤ 281474976710656) :
  (Instr.lookup 176 (.map (some b)) (.string s) false).run Tryz.prog w = .ok (.bool (seen.any (fun k => decide (k = s)))) w := by
 obtain ⟨n, M, h1, h2, h3⟩ := h
 have h4 := (h1.lookup keyStr underlying176 (z := .bool false) (zeroValue4 w) (keyOfStr s hs)).2
 rw [h4, h3 s]
 cases seen.any (fun k => decide (k = s)) <;> rfl
theorem xN.put {w : World} {b : Nat} {seen : List ByteArray} (h : xN w b seen) (s : ByteArray) (hs : s.size ≤ 281474976710656) (hl : seen.length ≤ 100000000) :
  ∃ w', (Instr.mapUpdate 176 (.map (some b)) (.string s) (.bool true)).run Tryz.prog w = .ok () w' ∧ xN w' b (seen ++ [s]) ∧ zb [b] w w' := by
 obtain ⟨n, M, h1, h2, h3⟩ := h
 obtain ⟨w', hr, h4, h5, _⟩ := h1.update keyStr underlying176 (by simp only [maxLen]; omega) (keyOfStr s hs) (.bool true)
 refine ⟨w', hr, ⟨n + 1, _, h4, by rw [List.length_append]; simp; omega, fun t => ?_⟩, h5⟩
 show (if (Lit.string t.data.toList).sameKey (.string s.data.toList) = true then some (Value.bool true) else M (.string t.data.toList)) = _
 rw [sameStr, List.any_append]
 by_cases e : t = s
 ·subst e
  rw [if_pos (by simp), if_pos (by simp)]
 ·have h7 : t.data.toList ≠ s.data.toList := fun q => e (qR q)
  have h8 : [s].any (fun k => decide (k = t)) = false := by simp [Ne.symm e]
  rw [if_neg (by simpa using h7), h3 t, h8, Bool.or_false]
def vd : List ByteArray → List ByteArray → Bool
 | _, [] => true
 | seen, k :: t => !(seen.any (fun x => decide (x = k))) && zX k && vd (seen ++ [k]) t
theorem zaf : ∀ (l seen : List ByteArray), seen.Nodup → (vd seen l = true ↔ (∀ k, k ∈ l → zX k = true) ∧ (seen ++ l).Nodup)
 | [], seen, hs => by simp [vd, hs]
 | k :: t, seen, hs => by
  unfold vd
  rw [Bool.and_eq_true, Bool.and_eq_true]
  by_cases hk : k ∈ seen
  ·have h1 : (seen.any (fun x => decide (x = k))) = true := List.any_eq_true.2 ⟨k, hk, by simp⟩
   rw [h1]
   constructor
   ·rintro ⟨⟨h, _⟩, _⟩; simp at h
   ·rintro ⟨_, h⟩
    exact absurd rfl ((List.nodup_append.1 h).2.2 k hk k (by simp))
  ·have h1 : (seen.any (fun x => decide (x = k))) = false := by
    rw [List.any_eq_false]
    intro x hx e
    rw [decide_eq_true_iff] at e
    exact hk (e ▸ hx)
   have hs' : (seen ++ [k]).Nodup := by
    refine List.nodup_append.2 ⟨hs, by simp, ?_⟩
    intro a ha b hb e
    simp at hb
    exact hk (by rw [← hb, ← e]; exact ha)
   rw [h1, zaf t (seen ++ [k]) hs']
   simp only [List.append_assoc, List.cons_append, List.nil_append, Bool.not_false, true_and, List.mem_cons, forall_eq_or_imp]
   constructor
   ·rintro ⟨h2, h3, h4⟩; exact ⟨⟨h2, h3⟩, h4⟩
   ·rintro ⟨⟨h2, h3⟩, h4⟩; exact ⟨h2, h3, h4⟩
theorem keysGo_all {α : Type} (m : List (ByteArray × α)) : vd [] (m.map (fun p => p.1)) = yE m := by
 rw [Bool.eq_iff_iff, zaf _ [] List.nodup_nil]
 unfold yE
 rw [Bool.and_eq_true, List.all_eq_true, decide_eq_true_iff, List.nil_append]
 constructor
 ·rintro ⟨h1, h2⟩; exact ⟨fun p hp => h1 p.1 (List.mem_map.2 ⟨p, hp, rfl⟩), h2⟩
 ·rintro ⟨h1, h2⟩; exact ⟨fun k hk => by obtain ⟨p, hp, rfl⟩ := List.mem_map.1 hk; exact h1 p hp, h2⟩
theorem ql {w : World} {g : Nat} (hg : w.heap.size = g) (k m : Int) (s : ByteArray) (a b : Value) (t : Nat) : z6 (w.alloc (.cells #[.int .i64 k, .int .i64 m, .string s, a, b] t)) g k m s a b := by
 subst hg; exact yb w k m s a b t
theorem zag {α : Type} {l : List α} {k : Nat} (h : k < l.length) : l.drop k = l[k] :: l.drop (k + 1) := List.drop_eq_getElem_cons h
theorem ZL {α : Type} {r : α → α → Bool} {xs ys : List α} {k : Nat} (h : k < xs.length) (h' : k < ys.length) : eqL r (xs.drop k) (ys.drop k) = (r xs[k] ys[k] && eqL r (xs.drop (k + 1)) (ys.drop (k + 1))) := by
 rw [zag h, zag h']; rfl
theorem QC {α : Type} {r : α → α → Bool} {xs ys : List α} (h : xs.length = ys.length) : eqL r (xs.drop xs.length) (ys.drop xs.length) = true := by
 rw [List.drop_length, h, List.drop_length]; rfl
theorem Yt {α : Type} {r : α → α → Bool} : ∀ {xs ys : List α}, xs.length ≠ ys.length → eqL r xs ys = false
 | [], [], h => absurd rfl h
 | [], _ :: _, _ => rfl
 | _ :: _, [], _ => rfl
 | x :: xs, y :: ys, h => by
  show (r x y && eqL r xs ys) = false
  rw [Yt (fun e => h (by simp [e]))]
  simp
theorem eqV_eq {n : Nat} (a b : VS (V n)) : eqV (n + 1) a b = (decide (a.kind = b.kind) && decide (a.num = b.num) && decide (a.s = b.s) && eqL (eqV n) a.l b.l && eqL (fun p q => decide (p.1 = q.1) && eqV n p.2 q.2) a.m b.m) := rfl
def jc (n : Nat) : Prop := ∀ (va vb : V n) {S T : Nat → Prop} {w : World} {ca cb : List Value}, Rep n S w ca va → Rep n T w cb vb → zZ n va →
    Calls Tryz.prog 18 #[.agg ca.toArray, .agg cb.toArray] w fun e w' => e = .returned (.bool (eqV n va vb)) ∧ zb [] w w'
theorem Ko {n : Nat} (known : jc n) : jc (n + 1) := fun (va : VS (V n)) (vb : VS (V n)) {S} {T} {w} {ca} {cb} h h' hs => by
  have Jg := qI h
  have Jb := qI h'
  have Jc := qI hs
  obtain ⟨vl, vm, lcs, mcs, h⟩ := h
  obtain ⟨a, c, b, e, rfl, rfl, rfl⟩ := h.forms
  have H := qI h
  obtain ⟨vl', vm', lcs', mcs', h'⟩ := h'
  obtain ⟨a', c', b', e', rfl, rfl, rfl⟩ := h'.forms
  have H' := qI h'
  have IH := qI known
  have Gn := qI (eqV_eq va vb)
  obtain ⟨W2, Gf⟩ : ∃ W2, Hid (W2 = (w.alloc (.cells #[.int .i64 va.kind, .int .i64 va.num, .string va.s, .slice a va.l.length c, .slice b va.m.length e] 25)).alloc (.cells #[.int .i64 vb.kind, .int .i64 vb.num, .string vb.s, .slice a' vb.l.length c', .slice b' vb.m.length e'] 25)) := ⟨_, qI rfl⟩
  have Gd : Hid (zb [] w W2) := qI (by rw [Gf.o]; exact ((zb.refl [] w).alloc _).alloc _)
  have HB : Hid (z6 W2 w.heap.size va.kind va.num va.s (.slice a va.l.length c) (.slice b va.m.length e)) := qI (by rw [Gf.o]; exact (yb w _ _ _ _ _ _).kept0 ((zb.refl [] _).alloc _))
  have Gy : Hid (z6 W2 (w.heap.size + 1) vb.kind vb.num vb.s (.slice a' vb.l.length c') (.slice b' vb.m.length e')) := qI (by rw [Gf.o]; exact ql (by simp) _ _ _ _ _ _)
  have hlv : va.l.length ≤ 20000 := by have := hs.few; omega
  have hmv : va.m.length ≤ 20000 := by have := hs.few; omega
  obtain ⟨c0, c1, c2, c3, c4⟩ := HB.o
  obtain ⟨d0, d1, d2, d3, d4⟩ := Gy.o
  rw [Gf.o] at c0 c1 c2 c3 c4 d0 d1 d2 d3 d4
  clear h h' hs
  by_cases hkind : va.kind = vb.kind
  rotate_left
  ·obtain ⟨f1, f2⟩ := zt hkind
   have HF : Hid (eqV (n + 1) va vb = false) := qI (by rw [Gn.o]; simp [hkind])
   clear hkind
   go_enter func18, ntmps18
   go_wp2_with fail
   go_ret
   rw [HF.o, ← Gf.o]
   exact ⟨rfl, Gd.o⟩
  obtain ⟨fkind1, fkind2⟩ := yg hkind
  have Hhkind := qI hkind
  clear hkind
  by_cases hnum : va.num = vb.num
  rotate_left
  ·obtain ⟨f1, f2⟩ := zt hnum
   have HF : Hid (eqV (n + 1) va vb = false) := qI (by rw [Gn.o]; simp [hnum])
   clear hnum
   go_enter func18, ntmps18
   go_wp2_with fail
   go_ret
   rw [HF.o, ← Gf.o]
   exact ⟨rfl, Gd.o⟩
  obtain ⟨fnum1, fnum2⟩ := yg hnum
  have Hhnum := qI hnum
  clear hnum
  by_cases hstr : va.s = vb.s
  rotate_left
  ·obtain ⟨f1, f2⟩ := xM hstr
   have HF : Hid (eqV (n + 1) va vb = false) := qI (by rw [Gn.o]; simp [hstr])
   clear hstr
   go_enter func18, ntmps18
   go_wp2_with fail
   go_ret
   rw [HF.o, ← Gf.o]
   exact ⟨rfl, Gd.o⟩
  obtain ⟨fstr1, fstr2⟩ := qo hstr
  have Hhstr := qI hstr
  clear hstr
  by_cases hll : va.l.length = vb.l.length
  rotate_left
  ·obtain ⟨f1, f2⟩ := qK hll
   have HF : Hid (eqV (n + 1) va vb = false) := qI (by rw [Gn.o, Yt hll]; simp)
   clear hll
   go_enter func18, ntmps18
   go_wp2_with fail
   go_ret
   rw [HF.o, ← Gf.o]
   exact ⟨rfl, Gd.o⟩
  obtain ⟨fll1, fll2⟩ := vv hll
  have Hhll := qI hll
  clear hll
  by_cases hml : va.m.length = vb.m.length
  rotate_left
  ·obtain ⟨f1, f2⟩ := qK hml
   have HF : Hid (eqV (n + 1) va vb = false) := qI (by rw [Gn.o, Yt hml]; simp)
   clear hml
   go_enter func18, ntmps18
   go_wp2_with fail
   go_ret
   rw [HF.o, ← Gf.o]
   exact ⟨rfl, Gd.o⟩
  obtain ⟨fml1, fml2⟩ := vv hml
  have Hhml := qI hml
  clear hml
  have Gt : Hid (eqV (n + 1) va vb = (eqL (eqV n) va.l vb.l && eqL (fun p q => decide (p.1 = q.1) && eqV n p.2 q.2) va.m vb.m)) := qI (by rw [Gn.o]; simp [Hhkind.o, Hhnum.o, Hhstr.o])
  have hlI : (vb.l.length : Int) ≤ 20000 := by have := Hhll.o; omega
  go_enter func18, ntmps18
  go_wp2_with fail
  rw [← Gf.o]
  clear c0 c1 c2 c3 c4 d0 d1 d2 d3 d4 fkind1 fkind2 fnum1 fnum2 fstr1 fstr2 fll1 fll2 fml1 fml2
  go_loopw [5] (fun i wr => ∃ k : Nat, i = .int .i64 k ∧ k ≤ va.l.length ∧ eqL (eqV n) (va.l.drop k) (vb.l.drop k) = eqL (eqV n) va.l vb.l ∧ zb [] W2 wr) (fun i _ => va.l.length - (intOf i).toNat)
  case atStart => exact ⟨0, rfl, Nat.zero_le _, rfl, zb.refl _ _⟩
  case round =>
   obtain ⟨k, rfl, hk, hg, hkr⟩ := hrel
   have HG := qI hg
   have Gg := qI hkr
   have Gb := qI (Gd.o.trans' hkr)
   obtain ⟨c0, c1, c2, c3, c4⟩ := HB.o.kept0 hkr
   obtain ⟨d0, d1, d2, d3, d4⟩ := Gy.o.kept0 hkr
   clear hg hkr
   by_cases hlt : k < va.l.length
   ·have hltI : (k : Int) < va.l.length := by omega
    have hltI' : (k : Int) < vb.l.length := by have := Hhll.o; omega
    have hlt' : k < vb.l.length := by omega
    obtain ⟨g, o, cap, kd, nm, st, a1, b1, he, q0, q1, q2, q3, q4, hr⟩ := H.o.at_l Gb.o k hlt
    simp only [Value.slice.injEq] at he
    obtain ⟨rfl, -, rfl⟩ := he
    obtain ⟨g', o', cap', kd', nm', st', a1', b1', he, p0, p1, p2, p3, p4, hr'⟩ := H'.o.at_l Gb.o k hlt'
    simp only [Value.slice.injEq] at he
    obtain ⟨rfl, -, rfl⟩ := he
    have HR := qI hr
    have Gp := qI hr'
    have Gq := qI (Jc.o.kid (xY (List.getElem_mem hlt)))
    have CL : ∀ z : Ext wr, Calls Tryz.prog 18 #[.agg #[.int .i64 kd, .int .i64 nm, .string st, a1, b1], .agg #[.int .i64 kd', .int .i64 nm', .string st', a1', b1']] z.w fun e w' => e = .returned (.bool (eqV n va.l[k] vb.l[k])) ∧ zb [] z.w w' := fun z => IH.o _ _ (HR.o.kept0 z.k) (Gp.o.kept0 z.k) Gq.o
    have HD := qI (ZL (r := eqV n) hlt hlt')
    clear hr hr'
    revert CL HD
    generalize eqV n va.l[k] vb.l[k] = r
    intro CL HD
    have E0 := zu c3
    have E1 := zu d3
    have E2 := zu q0
    have E3 := zu q1
    have E4 := zu q2
    have E5 := zu q3
    have E6 := zu q4
    have E7 := zu p0
    have E8 := zu p1
    have E9 := zu p2
    have E10 := zu p3
    have E11 := zu p4
    go_wp2_with fail
    refine yd wr (by kernel_rfl) (by kernel_rfl) (zb.refl _ _) ?_
    clear c0 c1 c2 c4 d0 d1 d2 d4 q0 q1 q2 q3 q4 p0 p1 p2 p3 p4 c3 d3
    repeat go_big_quiet_step ((go_at_call 18; exact ext_of (CL _)))
    refine wpQuiet_nil ?_
    intro w2 hk2
    cases r
    ·go_wp2_with fail
     go_ret
     rw [Gt.o, ← HG.o, HD.o]
     exact ⟨by simp, Gb.o.then hk2⟩
    ·go_wp2_with fail
     case roundEnd =>
      refine ⟨⟨k + 1, by go_num, by omega, ?_, Gg.o.then hk2⟩, by simp [intOf]; omega⟩
      rw [← HG.o, HD.o]
      simp
   ·obtain rfl : k = va.l.length := by omega
    have hnI : (vb.l.length : Int) ≤ (va.l.length : Int) := by have := Hhll.o; omega
    have Gl : Hid (eqV (n + 1) va vb = eqL (fun p q => decide (p.1 = q.1) && eqV n p.2 q.2) va.m vb.m) := qI (by rw [Gt.o, ← HG.o, QC Hhll.o]; simp)
    go_wp2_with fail
    clear HG Gb c0 c1 c2 c3 c4 d0 d1 d2 d3 d4
    go_loopw [6] (fun i wr2 => ∃ k : Nat, i = .int .i64 k ∧ k ≤ va.m.length ∧ eqL (fun p q => decide (p.1 = q.1) && eqV n p.2 q.2) (va.m.drop k) (vb.m.drop k) = eqL (fun p q => decide (p.1 = q.1) && eqV n p.2 q.2) va.m vb.m ∧ zb [] W2 wr2) (fun i _ => va.m.length - (intOf i).toNat)
    case atStart => exact ⟨0, rfl, Nat.zero_le _, rfl, Gg.o⟩
    case round =>
     obtain ⟨k, rfl, hk, hg, hkr⟩ := hrel
     clear Gg
     have HG := qI hg
     have Gg := qI hkr
     have Gb := qI (Gd.o.trans' hkr)
     obtain ⟨c0, c1, c2, c3, c4⟩ := HB.o.kept0 hkr
     obtain ⟨d0, d1, d2, d3, d4⟩ := Gy.o.kept0 hkr
     clear hg hkr
     by_cases hlt : k < va.m.length
     ·have hltI : (k : Int) < va.m.length := by omega
      have hltI' : (k : Int) < vb.m.length := by have := Hhml.o; omega
      have hlt' : k < vb.m.length := by omega
      obtain ⟨g, o, cap, kd, nm, st, a1, b1, he, q0, q1, q2, q3, q4, q5, hr⟩ := H.o.at_m Gb.o k hlt
      simp only [Value.slice.injEq] at he
      obtain ⟨rfl, -, rfl⟩ := he
      obtain ⟨g', o', cap', kd', nm', st', a1', b1', he, p0, p1, p2, p3, p4, p5, hr'⟩ := H'.o.at_m Gb.o k hlt'
      simp only [Value.slice.injEq] at he
      obtain ⟨rfl, -, rfl⟩ := he
      have HR := qI hr
      have Gp := qI hr'
      have Gq := qI (Jc.o.kid (xV (List.getElem_mem hlt)))
      have HD := qI (ZL (r := fun p q : ByteArray × V n => decide (p.1 = q.1) && eqV n p.2 q.2) hlt hlt')
      clear hr hr'
      revert q0 p0 HR Gp Gq HD
      generalize va.m[k] = x
      generalize vb.m[k] = y
      obtain ⟨key, x⟩ := x
      obtain ⟨key', y⟩ := y
      intro p0 q0 HR Gp Gq HD
      simp only at q0 p0 HR Gp Gq HD
      have CL : ∀ z : Ext wr, Calls Tryz.prog 18 #[.agg #[.int .i64 kd, .int .i64 nm, .string st, a1, b1], .agg #[.int .i64 kd', .int .i64 nm', .string st', a1', b1']] z.w fun e w' => e = .returned (.bool (eqV n x y)) ∧ zb [] z.w w' := fun z => IH.o _ _ (HR.o.kept0 z.k) (Gp.o.kept0 z.k) Gq.o
      have E0 := zu c4
      have E1 := zu d4
      have E2 := zu q0
      have E3 := zu q1
      have E4 := zu q2
      have E5 := zu q3
      have E6 := zu q4
      have E7 := zu q5
      have E8 := zu p0
      have E9 := zu p1
      have E10 := zu p2
      have E11 := zu p3
      have E12 := zu p4
      have E13 := zu p5
      by_cases hkey : key = key'
      ·obtain ⟨fk1, fk2⟩ := qo hkey
       have Gr : Hid (eqL (fun p q => decide (p.1 = q.1) && eqV n p.2 q.2) (va.m.drop k) (vb.m.drop k) = (eqV n x y && eqL (fun p q => decide (p.1 = q.1) && eqV n p.2 q.2) (va.m.drop (k + 1)) (vb.m.drop (k + 1)))) := qI (by rw [HD.o, decide_eq_true hkey, Bool.true_and])
       clear hkey HD
       revert CL Gr
       generalize eqV n x y = r
       intro CL Gr
       go_wp2_with fail
       refine yd wr (by kernel_rfl) (by kernel_rfl) (zb.refl _ _) ?_
       clear c0 c1 c2 c4 d0 d1 d2 d4 q0 q1 q2 q3 q4 q5 p0 p1 p2 p3 p4 p5 c3 d3
       repeat go_big_quiet_step ((go_at_call 18; exact ext_of (CL _)))
       refine wpQuiet_nil ?_
       intro w2 hk2
       cases r
       ·go_wp2_with fail
        go_ret
        rw [Gl.o, ← HG.o, Gr.o]
        exact ⟨by simp, Gb.o.then hk2⟩
       ·go_wp2_with fail
        case roundEnd =>
         refine ⟨⟨k + 1, by go_num, by omega, ?_, Gg.o.then hk2⟩, by simp [intOf]; omega⟩
         rw [← HG.o, Gr.o]
         simp
      ·obtain ⟨fk1, fk2⟩ := xM hkey
       have Gr : Hid (eqL (fun p q => decide (p.1 = q.1) && eqV n p.2 q.2) (va.m.drop k) (vb.m.drop k) = false) := qI (by rw [HD.o, decide_eq_false hkey]; simp)
       clear hkey HD CL
       go_wp2_with fail
       refine yd wr (by kernel_rfl) (by kernel_rfl) (zb.refl _ _) ?_
       clear c0 c1 c2 c4 d0 d1 d2 d4 q0 q1 q2 q3 q4 q5 p0 p1 p2 p3 p4 p5 c3 d3
       repeat go_big_quiet_step (fail)
       refine wpQuiet_nil ?_
       intro w2 hk2
       go_wp2_with fail
       go_ret
       rw [Gl.o, ← HG.o, Gr.o]
       exact ⟨rfl, Gb.o.then hk2⟩
     ·obtain rfl : k = va.m.length := by omega
      have hnI2 : (vb.m.length : Int) ≤ (va.m.length : Int) := by have := Hhml.o; omega
      go_wp2_with fail
      go_ret
      rw [Gl.o, ← HG.o, QC Hhml.o]
      exact ⟨rfl, Gb.o⟩
theorem vT : ∀ (n : Nat), jc n
 | 0 => fun v _ {_} {_} {_} {_} {_} h _ _ => h.elim
 | n + 1 => Ko (vT n)
theorem YI : ∀ (n : Nat) (va vb : V n) {S T : Nat → Prop} {w : World} {ca cb : List Value}, Rep n S w ca va → Rep n T w cb vb → zZ n va →
  Calls Tryz.prog 18 #[.agg ca.toArray, .agg cb.toArray] w fun e w' => e = .returned (.bool (eqV n va vb)) ∧ zb [] w w' := fun n => vT n
theorem Qa {w : World} {b : Nat} {s : ByteArray} (hb : w.heap[b]? = some (.cells #[.string s] 9 (0, 0))) {i : Nat} (hi : i < s.size) :
  Calls Tryz.prog 267 #[.int .i64 i, .pointer (some ⟨b, 0, none⟩)] w fun e w' => e = .returned (.int .i64 (Lib.indexByte x6 (s.data.toList[i]'(by simpa using hi)))) ∧ w = w' := by
 have c0 := za (o := 0) (v := .string s) hb rfl
 have hiI : (i : Int) < s.size := by omega
 have HX : Hid (s.data.toList[i]'(by simpa using hi) = s[i]'hi) := qI rfl
 rw [HX.o]
 clear hb HX
 go_enter func267, ntmps267
 go_wp2_with (go_at_call 116; refine (qa _ _ _).mono ?_; rintro e w' ⟨rfl, rfl⟩)
 go_ret
 refine ⟨?_, rfl⟩
 simp [x6]
theorem qe {T : ByteArray} (h : T ≠ ⟨#[]⟩) : T.toList.isEmpty = false ∧ (!T.toList.isEmpty) = true := by
 have h1 := (xM h).1
 have e : (⟨#[]⟩ : ByteArray).toList = [] := by decide +kernel
 rw [e] at h1
 have h2 : T.toList.isEmpty = false := by
  cases h3 : T.toList with
  | nil => rw [h3] at h1; cases h1
  | cons a l => rfl
 rw [h2]
 exact ⟨rfl, rfl⟩
theorem Qk : ∀ (l : List UInt8) (k : Nat) (h : 2 * k + 1 < l.length), ∃ h2 : k < (xB l).length, (xB l)[k] = UInt8.ofNat (hv l[2 * k] * 16 + hv l[2 * k + 1])
 | [], k, h => by simp at h
 | [_], k, h => by simp at h
 | a :: b :: r, 0, h => ⟨by simp [xB], rfl⟩
 | a :: b :: r, k + 1, h => by
  obtain ⟨h2, h3⟩ := Qk r k (by simp only [List.length_cons] at h; omega)
  refine ⟨by simp only [xB, List.length_cons]; omega, ?_⟩
  have e1 : (a :: b :: r)[2 * (k + 1)] = r[2 * k]'(by simp only [List.length_cons] at h; omega) := by
   simp only [show 2 * (k + 1) = 2 * k + 1 + 1 by omega, List.getElem_cons_succ]
  have e2 : (a :: b :: r)[2 * (k + 1) + 1] = r[2 * k + 1]'(by simp only [List.length_cons] at h; omega) := by
   simp only [show 2 * (k + 1) + 1 = 2 * k + 1 + 1 + 1 by omega, List.getElem_cons_succ]
  rw [e1, e2, ← h3]
  rfl
theorem ZN : ∀ (j : Nat) b, (⟨#[48, 49, 50, 51, 52, 53, 54, 55, 56, 57, 97, 98, 99, 100, 101, 102]⟩ : ByteArray).data.toList[j]? = some b → b.toNat < 128 := by
 intro j b h
 have hm : b ∈ ([48, 49, 50, 51, 52, 53, 54, 55, 56, 57, 97, 98, 99, 100, 101, 102] : List UInt8) := List.mem_of_getElem? h
 have ha : ([48, 49, 50, 51, 52, 53, 54, 55, 56, 57, 97, 98, 99, 100, 101, 102] : List UInt8).all (fun b => decide (b.toNat < 128)) = true := by decide
 simpa using List.all_eq_true.1 ha b hm
theorem hex_join (x y : Nat) (hx : x < 16) (hy : y < 16) : Value.int .u8 (bits .or .i64 ((x : Int) * 16) (y : Int) % 256) = bv (UInt8.ofNat (x * 16 + y)) := by
 rw [bits_join .i64 32 (by decide) (fun n h0 h1 => by rw [IntKind.wrap_i64]; omega) 4 _ _ (by omega) (by omega) (by omega) (by omega) (by omega) (by omega)]
 unfold bv
 congr 1
theorem unhex_no (s : ByteArray) (hs : s.size ≤ 1000000) (h : s.size % 2 = 1 ∨ s.data.toList.all qf = false) (w : World) :
  Calls Tryz.prog 262 #[.string s] w fun e w' => e = .returned (.tuple #[.slice none 0 0, .int .i64 10]) ∧ zb [] w w' := by
 obtain ⟨W1, Gi⟩ : ∃ W1, Hid (W1 = w.alloc (.cells #[.string s] 9)) := ⟨_, qI rfl⟩
 have Ga : Hid (zb [] w W1) := qI (by rw [Gi.o]; exact (zb.refl [] w).alloc _)
 have Gc : Hid (W1.heap[w.heap.size]? = some (.cells #[.string s] 9 (0, 0))) := qI (by rw [Gi.o]; exact zn rfl)
 have c0 := za (o := 0) (v := .string s) Gc.o rfl
 have HH := qI h
 have hsI : (s.size : Int) ≤ 1000000 := by omega
 clear h
 by_cases ho : s.size % 2 = 1
 ·have ft : ((s.size : Int).tmod 2) = 1 := by rw [Int.tmod_eq_emod_of_nonneg (by omega)]; omega
  clear ho
  go_enter func262, ntmps262
  go_wp2_with fail
  rw [← Gi.o]
  go_ret2
  exact ⟨rfl, Ga.o⟩
 ·have ft : ((s.size : Int).tmod 2) = 0 := by rw [Int.tmod_eq_emod_of_nonneg (by omega)]; omega
  have hne : zg (Lib.trimS s.data.toList x6) ≠ ⟨#[]⟩ := fun e => by
   have h1 : Lib.trimS s.data.toList x6 = [] := by rw [← zq (Lib.trimS _ _), e]
   rw [JV] at h1
   have h2 : s.data.toList.all (x6.contains ·) = s.data.toList.all qf := by congr 1; funext c; exact QX c
   rw [h2] at h1
   rcases HH.o with h | h
   ·exact ho h
   ·rw [h] at h1; cases h1
  have CT := qI (libTrim s ⟨#[48, 49, 50, 51, 52, 53, 54, 55, 56, 57, 97, 98, 99, 100, 101, 102]⟩ W1 (by omega) (by decide) ZN)
  rw [show (⟨#[48, 49, 50, 51, 52, 53, 54, 55, 56, 57, 97, 98, 99, 100, 101, 102]⟩ : ByteArray).data.toList = x6 from rfl] at CT
  obtain ⟨g1, g2⟩ := qe hne
  clear ho hne
  revert CT g1 g2
  generalize zg (Lib.trimS s.data.toList x6) = T
  intro CT g1 g2
  go_enter func262, ntmps262
  go_wp2_with fail
  rw [← Gi.o]
  refine CT.o.mono ?_
  rintro e w2 ⟨rfl, hk2⟩
  go_wp2_with fail
  go_ret2
  exact ⟨rfl, Ga.o.then hk2⟩
theorem unhex_yes (s : ByteArray) (hs : s.size ≤ 1000000) (he : s.size % 2 = 0) (ha : s.data.toList.all qf = true) (w : World) :
  Calls Tryz.prog 262 #[.string s] w fun e w' => (∃ a c, e = .returned (.tuple #[.slice a (xB s.data.toList).length c, .int .i64 0]) ∧ w'.ownsRow w.heap.size 5 1 (.slice a (xB s.data.toList).length c) (xB s.data.toList).length ((xB s.data.toList).map bv)) ∧ zb [] w w' := by
 obtain ⟨W1, Gi⟩ : ∃ W1, Hid (W1 = w.alloc (.cells #[.string s] 9)) := ⟨_, qI rfl⟩
 have Ga : Hid (zb [] w W1) := qI (by rw [Gi.o]; exact (zb.refl [] w).alloc _)
 have Jh : Hid (W1.heap.size = w.heap.size + 1) := qI (by rw [Gi.o]; simp)
 have Gc : Hid (W1.heap[w.heap.size]? = some (.cells #[.string s] 9 (0, 0))) := qI (by rw [Gi.o]; exact zn rfl)
 have c0 := za (o := 0) (v := .string s) Gc.o rfl
 have HL : Hid (s.data.toList.length = s.size) := qI (by simp)
 have HA : Hid (∀ i (h : i < s.data.toList.length), qf s.data.toList[i] = true) := qI (fun i h => List.all_eq_true.1 ha _ (List.getElem_mem h))
 have hsI : (s.size : Int) ≤ 1000000 := by omega
 have ft : ((s.size : Int).tmod 2) = 0 := by rw [Int.tmod_eq_emod_of_nonneg (by omega)]; omega
 have hnil : Lib.trimS s.data.toList x6 = [] := by
  rw [JV, ← ha]
  congr 1
  funext c
  exact QX c
 have CT := qI (libTrim s ⟨#[48, 49, 50, 51, 52, 53, 54, 55, 56, 57, 97, 98, 99, 100, 101, 102]⟩ W1 (by omega) (by decide) ZN)
 rw [show (⟨#[48, 49, 50, 51, 52, 53, 54, 55, 56, 57, 97, 98, 99, 100, 101, 102]⟩ : ByteArray).data.toList = x6 from rfl, hnil, show zg [] = ⟨#[]⟩ from rfl] at CT
 have HP := qI (QU s.data.toList)
 have Ji := qI (Qk s.data.toList)
 have HE := qI he
 clear hnil ha he
 go_enter func262, ntmps262
 go_wp2_with fail
 rw [← Gi.o]
 refine CT.o.mono ?_
 rintro e w2 ⟨rfl, hk2⟩
 have Jj := qI hk2
 clear hk2 c0
 go_wp2_with fail
 go_loopw [5, 6] (fun out i wr => ∃ (k : Nat) (a : Option Addr) (c : Nat), i = .int .i64 (2 * k : Nat) ∧ 2 * k ≤ s.size ∧ out = .slice a k c ∧ wr.ownsRow W1.heap.size 5 1 (.slice a k c) k (((xB s.data.toList).take k).map bv) ∧ zb [] W1 wr) (fun _ i _ => s.size - (intOf i).toNat)
 case atStart => exact ⟨0, none, 0, rfl, Nat.zero_le _, rfl, World.ownsRow_nil _ _ _ _, Jj.o⟩
 case round =>
  obtain ⟨k, a, c, rfl, hk, rfl, hrow, hkr⟩ := hrel
  have Gm := qI hrow
  have Gg := qI hkr
  clear hrow hkr
  have hb := Gg.o.heap Gc.o (by simp)
  have HB := qI hb
  have c0 := za (o := 0) (v := .string s) hb rfl
  clear hb
  by_cases hlt : 2 * k < s.size
  ·have h2 : 2 * k + 1 < s.size := by have := HE.o; omega
   have hl1 : 2 * k < s.data.toList.length := by rw [HL.o]; omega
   have hl2 : 2 * k + 1 < s.data.toList.length := by rw [HL.o]; omega
   obtain ⟨i1, i2, i3⟩ := yF _ (HA.o _ hl1)
   obtain ⟨j1, j2, j3⟩ := yF _ (HA.o _ hl2)
   obtain ⟨p1, p2⟩ := Ji.o k hl2
   have CA := qI (Qa HB.o hlt)
   have CB := qI (Qa HB.o h2)
   rw [i1] at CA
   rw [j1] at CB
   have HN : Hid ((xB s.data.toList).take (k + 1) = (xB s.data.toList).take k ++ [UInt8.ofNat (hv s.data.toList[2 * k] * 16 + hv s.data.toList[2 * k + 1])]) := qI (by rw [List.take_succ_eq_append_getElem p1, p2])
   have hltI : (2 : Int) * k < s.size := by omega
   have Jk : Hid (2 * k + 1 < s.size) := qI h2
   clear i1 i3 j1 j3 p1 p2
   revert CA CB HN i2 j2
   generalize hv s.data.toList[2 * k] = x
   generalize hv s.data.toList[2 * k + 1] = y
   intro i2 j2 CA CB HN
   clear hl1 hl2
   have i2I : (x : Int) < 16 := by omega
   have j2I : (y : Int) < 16 := by omega
   have ek : ((2 * k : Nat) : Int) = 2 * (k : Int) := by omega
   go_wp2_with fail
   rw [← ek]
   refine CA.o.mono ?_
   rintro e w3 ⟨rfl, rfl⟩
   have ek1 : ((2 * k + 1 : Nat) : Int) = 2 * (k : Int) + 1 := by omega
   go_wp2_with fail
   rw [← ek1]
   refine CB.o.mono ?_
   rintro e w4 ⟨rfl, rfl⟩
   go_wp2_with (at_builtin; refine yo tyByte (v := .slice a k c) (n := k) (zh Gm.o ((zb.refl [] wr).alloc _) (by simp)) (slc_one wr _ _ _ rfl) (by simp [Value.oneCell']) (by simp only [maxLen]; omega) (by omega) (by have := Gg.o.size; simp; omega) rfl _ _ rfl rfl rfl ?_; intro v2 w5 hown hk5 _ hb5; obtain ⟨a5, c5, rfl, -, -⟩ := (Slc.of_row hown).form; have Gz := qI hown; have Jl := qI hk5; clear hown hk5 hb5)
   case roundEnd =>
    refine ⟨⟨k + 1, _, _, congrArg (Value.int .i64) (by omega), by have := Jk.o; omega, rfl, ?_, (Gg.o.alloc _).trans Jl.o (fun i hi => .inr (Gm.o.lt i (Option.mem_toList.1 hi)).1)⟩, by simp [intOf]; omega⟩
    have h9 := Gz.o
    rw [hex_join x y (by omega) (by omega)] at h9
    rw [HN.o, List.map_append]
    exact h9
  ·have HT : Hid ((xB s.data.toList).take k = xB s.data.toList ∧ k = (xB s.data.toList).length) := qI (by
    have h1 := HP.o
    have h2 := HL.o
    have h3 := HE.o
    exact ⟨List.take_of_length_le (by omega), by omega⟩)
   have hltI : (s.size : Int) ≤ 2 * k := by omega
   have ek : ((2 * k : Nat) : Int) = 2 * (k : Int) := by omega
   go_wp2_with fail
   go_ret2
   have h9 := Gm.o
   rw [HT.o.1, HT.o.2] at h9
   refine ⟨⟨a, c, congrArg (fun m : Nat => Ending.returned (Value.tuple #[.slice a m c, .int .i64 0])) HT.o.2, y8 h9 (fun g hg => by have := (h9.lt g hg).1; have := Jh.o; omega)⟩, Ga.o.then Gg.o⟩
def kv (l : List UInt8) : Int := match qv l with | none => -1 | some n => n
theorem four_short {l : List UInt8} (h : l.length < 6) : qv l = none := by
 match l, h with
 | [], _ => rfl
 | [_], _ => rfl
 | [_, _], _ => rfl
 | [_, _, _], _ => rfl
 | [_, _, _, _], _ => rfl
 | [_, _, _, _, _], _ => rfl
 | _ :: _ :: _ :: _ :: _ :: _ :: _, h => simp only [List.length_cons] at h; omega
theorem six_of {l : List UInt8} (h : 6 ≤ l.length) : ∃ x y a b c d r, l = x :: y :: a :: b :: c :: d :: r := by
 match l, h with
 | x :: y :: a :: b :: c :: d :: r, _ => exact ⟨x, y, a, b, c, d, r, rfl⟩
theorem pair_no (a b : Int) (ha : -1 ≤ a ∧ a ≤ 1114111) (hb : -1 ≤ b ∧ b ≤ 1114111) (h : a < 55296 ∨ 56320 ≤ a ∨ b < 56320 ∨ 57344 ≤ b) (w : World) :
  Calls Tryz.prog 250 #[.int .i32 a, .int .i32 b] w fun e w' => e = .returned (.int .i32 (-1)) ∧ w = w' := by
 obtain ⟨ha1, ha2⟩ := ha
 obtain ⟨hb1, hb2⟩ := hb
 by_cases h1 : a < 55296
 ·go_enter func250, ntmps250
  go_wp2_with fail
  go_ret
  exact ⟨rfl, rfl⟩
 by_cases h2 : 56320 ≤ a
 ·go_enter func250, ntmps250
  go_wp2_with fail
  go_ret
  exact ⟨rfl, rfl⟩
 by_cases h3 : b < 56320
 ·go_enter func250, ntmps250
  go_wp2_with fail
  go_ret
  exact ⟨rfl, rfl⟩
 ·have h4 : 57344 ≤ b := by omega
  go_enter func250, ntmps250
  go_wp2_with fail
  go_ret
  exact ⟨rfl, rfl⟩
theorem pair_yes (a b : Int) (h1 : 55296 ≤ a) (h2 : a < 56320) (h3 : 56320 ≤ b) (h4 : b < 57344) (w : World) :
  Calls Tryz.prog 250 #[.int .i32 a, .int .i32 b] w fun e w' => e = .returned (.int .i32 (65536 + (a - 55296) * 1024 + (b - 56320))) ∧ w = w' := by
 have HE : Hid (65536 + (a - 55296) * 1024 + (b - 56320) = 65536 + (a - 55296) * 1024 + b - 56320) := qI (by omega)
 go_enter func250, ntmps250
 go_wp2_with fail
 go_ret
 rw [HE.o]
 exact ⟨rfl, rfl⟩
theorem gPow : Tryz.prog.globalNamed "internal/strconv.uint64pow10" = some 1 := by kernel_rfl
theorem first_eq : Rows.laid_unicode_utf8_first = Lib.firstData := Pinned.utf8First_eq
theorem ranges_eq : Rows.laid_unicode_CaseRanges = Lib.caseData := Pinned.caseRanges_eq
theorem accept_eq : Rows.laid_unicode_utf8_acceptRanges = Lib.acceptData := by kernel_rfl
theorem pow_eq : (Rows.laid_internal_strconv_uint64pow10 : DataW Unit) = Lib.tabData .u64 Lib.pow10Tab := by kernel_rfl
end Go.Proofs.YtpbphdkjjoipnaaGreatDoor

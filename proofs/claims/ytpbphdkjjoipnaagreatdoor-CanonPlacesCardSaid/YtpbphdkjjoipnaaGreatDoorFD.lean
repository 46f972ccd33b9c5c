/- Parts of one proof, merged: XBu XSl XKE XSn XKD XUA XUB XTb. -/
import Derived.Test.YtpbphdkjjoipnaaGreatDoorFA
import Derived.Lib.UnsafeStr
import Derived.Lib.AppendStr
import Derived.Test.YtpbphdkjjoipnaaGreatDoorFC
import Derived.Lib.SmallJoins
import Derived.BigQuiet
import Derived.Maps.OwnSet
import Derived.StringKeys
import Derived.Test.YtpbphdkjjoipnaaGreatDoorFB
import Derived.Laws.BitsLemmas
import Derived.Test.YtpbphdkjjoipnaaGreatDoorRows
import Derived.LaidMore
import Derived.Stop.LaidErr
import Derived.MakeChecks
import Derived.Lib.LaidTab
import Derived.Lib.LaidU8T
import Derived.Lib.LaidCase
import Derived.PinnedBridge
set_option linter.all false
set_option maxHeartbeats 12800000
set_option maxRecDepth 10000
set_option linter.unusedVariables false
set_option linter.unusedSimpArgs false
set_option linter.unnecessarySimpa false
namespace Go.Proofs.YtpbphdkjjoipnaaGreatDoor
open Go.RowKit
structure zZ (b : Nat) (w w' : World) : Prop where
 os : w'.os = w.os
 tape : w'.tape = w.tape
 output : w'.output = w.output
 size : w.heap.size ≤ w'.heap.size
 block : ∀ k, k < w.heap.size → k ≠ b → kind w k ≠ 5 + 2 → w'.heap[k]? = w.heap[k]?
theorem zZ.refl (b : Nat) (w : World) : zZ b w w := ⟨rfl, rfl, rfl, Nat.le_refl _, fun _ _ _ _ => rfl⟩
theorem zZ.trans {b : Nat} {x y z : World} (h : zZ b x y) (k : zZ b y z) : zZ b x z :=
 ⟨k.os.trans h.os, k.tape.trans h.tape, k.output.trans h.output, Nat.le_trans h.size k.size, fun i hi hb hk => by
  have h1 := h.block i hi hb hk
  have h2 : kind y i = kind x i := by simp [kind, h1]
  exact (k.block i (Nat.lt_of_lt_of_le hi h.size) hb (by rw [h2]; exact hk)).trans h1⟩
theorem zZ.of {b : Nat} {X : List Nat} {w w' : World} (h : zc X w w') (hX : ∀ k, k ∈ X → k = b ∨ kind w k = 5 + 2) : zZ b w w' :=
 ⟨h.os, h.tape, h.output, h.size, fun k hk hb hn => h.block k hk (fun e => by rcases hX k e with g | g; exact hb g; exact hn g)⟩
theorem zZ.of0 {b : Nat} {w w' : World} (h : zc [] w w') : zZ b w w' := .of h (by simp)
theorem zZ.heap {b : Nat} {w w' : World} (h : zZ b w w') {k : Nat} {o : Obj} (ho : w.heap[k]? = some o) (hb : k ≠ b) (hk : kind w k ≠ 5 + 2) : w'.heap[k]? = some o :=
 (h.block k (lt_of_block ho) hb hk).trans ho
structure BW (T : Nat) (W : World) (b : Nat) (w : World) (l : List UInt8) : Prop where
 blk : ∃ p v, (p = .pointer none ∨ p = .pointer (some ⟨b, 0, none⟩)) ∧ w.heap[b]? = some (.cells #[p, v] T (0, 0)) ∧ w.ownsRow W.heap.size 5 1 v l.length (l.map bv)
 kept : zc [b] W w
 lt : b < W.heap.size
theorem BW.stay {T : Nat} {W : World} {b : Nat} {w w' : World} {l : List UInt8} (h : BW T W b w l) (k : zc [] w w') : BW T W b w' l := by
 obtain ⟨p, v, hp, hb, hr⟩ := h.blk
 exact ⟨⟨p, v, hp, k.heap hb (by simp), zk hr k (by simp)⟩, h.kept.then k, h.lt⟩
theorem BW.new {T : Nat} {W : World} {b : Nat} (h : W.heap[b]? = some (.cells #[.pointer none, .slice none 0 0] T (0, 0))) : BW T W b W [] :=
 ⟨⟨_, _, .inl rfl, h, World.ownsRow_nil _ _ _ _⟩, zc.refl _ _, lt_of_block h⟩
def Yr (T : Nat) : Prop := liesAt Tryz.prog Tryz.prog.depth T (2 / Tryz.prog.cellsOf T) 0 70 1 = true
theorem yH : Yr 70 := by unfold Yr; kernel_rfl
theorem yK : Yr 93 := by unfold Yr; kernel_rfl
theorem shape_of {w : World} {b : Nat} {c : Array Value} {t : Nat} {f : Nat × Nat} (h : w.heap[b]? = some (.cells c t f)) : w.shape? b = some (t, c.size) := by simp [World.shape?, h]
theorem ptr_same (w : World) (b : Nat) : (binOp .neq 68 (.pointer (some ⟨b, 0, none⟩)) (.pointer (some ⟨b, 0, none⟩))).run Tryz.prog w = .ok (.bool false) w := by
 have h1 : (Tryz.prog.info? 70).map (·.size) = some 2 := by kernel_rfl
 obtain ⟨j, hj, _⟩ := Option.map_eq_some_iff.1 h1
 exact Lib.run_neq_ptr_same w _ Tryz.underlying68 hj
theorem to_unsafe {w : World} {b : Nat} {p v : Value} {T : Nat} (hb : w.heap[b]? = some (.cells #[p, v] T (0, 0))) : (convert 68 145 (.pointer (some ⟨b, 0, none⟩))).run Tryz.prog w = .ok (.pointer (some ⟨b, 0, none⟩)) w := by
 have h1 : (Tryz.prog.info? 70).map (·.size) = some 2 := by kernel_rfl
 obtain ⟨j, hj, hs⟩ := Option.map_eq_some_iff.1 h1
 exact Lib.run_to_unsafe w ⟨b, 0, none⟩ Tryz.underlying68 Tryz.underlying145 hj (by rw [hs]; decide) (shape_of hb) (by simp)
theorem from_unsafe {w : World} {b : Nat} {p v : Value} {T : Nat} (hT : Yr T) (hb : w.heap[b]? = some (.cells #[p, v] T (0, 0))) : (convert 145 68 (.pointer (some ⟨b, 0, none⟩))).run Tryz.prog w = .ok (.pointer (some ⟨b, 0, none⟩)) w := by
 have h1 : (Tryz.prog.info? 70).map (·.size) = some 2 := by kernel_rfl
 obtain ⟨j, hj, _⟩ := Option.map_eq_some_iff.1 h1
 exact Lib.run_from_unsafe w ⟨b, 0, none⟩ Tryz.underlying145 Tryz.underlying68 hj (shape_of hb) hT
theorem jx {T : Nat} (hT : Yr T) {w : World} {b : Nat} {p v : Value} (hp : p = .pointer none ∨ p = .pointer (some ⟨b, 0, none⟩)) (hb : w.heap[b]? = some (.cells #[p, v] T (0, 0))) :
  Calls Tryz.prog 84 #[.pointer (some ⟨b, 0, none⟩)] w fun e w' => e = .returned (.tuple #[]) ∧ w'.heap[b]? = some (.cells #[.pointer (some ⟨b, 0, none⟩), v] T (0, 0)) ∧ zc [b] w w' := by
 have HB := qI hb
 have c0 := zb (o := 0) (v := p) hb rfl
 have f0 := zg (o := 0) hb
 have e1 := to_unsafe hb
 have e2 := from_unsafe hT hb
 clear hb
 rcases hp with rfl | rfl
 ·go_enter Tryz.func84, Tryz.ntmps84
  go_wp2_with fail
  rw [run_callFunc_extern Tryz.func124 (by kernel_rfl) (by kernel_rfl) (by kernel_rfl) (e := Extern.AbiNoEscape.same) (by kernel_rfl)]
  rw [Lib.run_noEscape]
  simp only [Result.andThen]
  rw [Oper.upon_value]
  go_wp2_with fail
  go_end0
  exact ⟨rfl, ze HB.o rfl, (zc.refl _ _).setCell (.inl (by simp)) _⟩
 ·have e3 := ptr_same w b
  go_enter Tryz.func84, Tryz.ntmps84
  go_wp2_with fail
  go_end0
  exact ⟨rfl, HB.o, zc.refl _ _⟩
theorem Z8 : kC Tryz.prog 28 5 1 1 (.int .u8 0) := ⟨Tryz.underlying28, by kernel_rfl, rfl, by decide⟩
theorem BW.opened {T : Nat} {W : World} {b : Nat} {w : World} {l : List UInt8} (h : BW T W b w l) : ∃ p a c, (p = .pointer none ∨ p = .pointer (some ⟨b, 0, none⟩)) ∧ w.heap[b]? = some (.cells #[p, .slice a l.length c] T (0, 0)) ∧ w.ownsRow W.heap.size 5 1 (.slice a l.length c) l.length (l.map bv) := by
 obtain ⟨p, v, hp, hb, hr⟩ := h.blk
 obtain ⟨a, c, rfl, -, -⟩ := (Slc.of_row hr).form
 exact ⟨p, a, c, hp, hb, hr⟩
theorem BW.wrote {T : Nat} {W : World} {b : Nat} {w w1 w2 : World} {l l' : List UInt8} {a a' : Option Addr} {c n' c' : Nat} (h : BW T W b w l) (hr : w.ownsRow W.heap.size 5 1 (.slice a l.length c) l.length (l.map bv))
  (hb1 : w1.heap[b]? = some (.cells #[.pointer (some ⟨b, 0, none⟩), .slice a l.length c] T (0, 0))) (hk1 : zc [b] w w1) (hr2 : w2.ownsRow W.heap.size 5 1 (.slice a' n' c') n' (l'.map bv)) (hn : l'.length = n') (hk2 : zc (Value.slice a l.length c).ownBlock.toList w1 w2) :
  w2.cell? ⟨b, 1, none⟩ = some (.slice a l.length c) ∧ w2.frozen? ⟨b, 1, none⟩ = false ∧ BW T W b (w2.setCell ⟨b, 1, none⟩ (.slice a' n' c')) l' ∧ zZ b w (w2.setCell ⟨b, 1, none⟩ (.slice a' n' c')) := by
 subst hn
 have hlt := h.lt
 have hnb : b ∉ (Value.slice a l.length c).ownBlock.toList := fun hx => by
  have := (hr.lt _ (Option.mem_toList.1 hx)).1; omega
 have hb2 := hk2.heap hb1 hnb
 have kX : zc (b :: (Value.slice a l.length c).ownBlock.toList) w (w2.setCell ⟨b, 1, none⟩ (.slice a' l'.length c')) :=
  ((hk1.mono (Y := b :: (Value.slice a l.length c).ownBlock.toList) (by simp)).trans' (hk2.mono (fun i hi => List.mem_cons_of_mem _ hi))).setCell (p := ⟨b, 1, none⟩) (.inl (List.mem_cons_self ..)) _
 refine ⟨zb hb2 rfl, zg hb2, ⟨⟨_, _, .inr rfl, ze hb2 rfl, ?_⟩, ?_, hlt⟩, zZ.of kX ?_⟩
 ·exact zk hr2 ((zc.refl [b] w2).setCell (p := ⟨b, 1, none⟩) (.inl (by simp)) _) (fun g hg hx => by
   simp at hx; have := (hr2.lt g hg).1; omega)
 ·exact h.kept.trans kX (fun i hi => by
   rcases List.mem_cons.1 hi with rfl | hi
   ·exact .inl (by simp)
   ·exact .inr (hr.lt i (Option.mem_toList.1 hi)).1)
 ·intro k hk
  rcases List.mem_cons.1 hk with rfl | hk
  ·exact .inl rfl
  ·exact .inr (Qe hr (Option.mem_toList.1 hk))
theorem y9 {T : Nat} (hT : Yr T) {W w : World} {b : Nat} {l : List UInt8} (h : BW T W b w l) (hl : l.length ≤ 100000000) (x : UInt8) :
  Calls Tryz.prog 98 #[.pointer (some ⟨b, 0, none⟩), .int .u8 x.toNat] w fun e w' => e = .returned .nilIface ∧ BW T W b w' (l ++ [x]) ∧ zZ b w w' := by
 obtain ⟨p, a, c, hp, hb, hr⟩ := h.opened
 have H := qI h
 have HR := qI hr
 have CC := qI (jx hT hp hb)
 have Ge : Hid (b < W.heap.size ∧ W.heap.size ≤ w.heap.size) := qI ⟨h.lt, h.kept.size⟩
 clear h hp hb hr
 go_enter Tryz.func98, Tryz.ntmps98
 go_wp2_with (first
  | (go_at_call 84; refine CC.o.mono ?_; rintro e w1 ⟨rfl, hb1, hk1⟩; have c1 := zb (o := 1) (v := .slice a l.length c) hb1 rfl; have Gc := qI hb1; have Ga := qI hk1; clear hb1 hk1)
  | (at_builtin; refine yj Z8 (zk HR.o (Ga.o.then ((zc.refl [] w1).alloc (.cells #[.int .u8 x.toNat] 5))) (by intro g hg hx; have h1 := (HR.o.lt g hg).1; have h2 := Ge.o; simp at hx; omega)) (J1 w1 (bv x) 5 _ rfl) (by simp [bv, Value.oneCell']) (by simp only [maxLen]; omega) (by omega) (by have h1 := Ge.o; have h2 := Ga.o.size; simp; omega) rfl _ _ rfl rfl rfl ?_; intro v2 w2 hown2 hk2 _ hb2; obtain ⟨a2, c2, rfl, -, -⟩ := (Slc.of_row hown2).form; obtain ⟨g1, g2, g3, g4⟩ := BW.wrote (l' := l ++ [x]) H.o HR.o (((zc.refl [] w1).alloc (.cells #[.int .u8 x.toNat] 5)).heap Gc.o (by simp)) (Ga.o.then ((zc.refl [] w1).alloc (.cells #[.int .u8 x.toNat] 5))) (by rw [List.map_append]; exact hown2) (by simp) hk2; have G3 := qI g3; have G4 := qI g4; clear hown2 hk2 hb2 g3 g4))
 go_ret
 exact ⟨rfl, G3.o, G4.o⟩
theorem qv {T : Nat} (hT : Yr T) {W w : World} {b : Nat} {l : List UInt8} (h : BW T W b w l) (hl : l.length ≤ 100000000) (s : ByteArray) (hs : s.size ≤ 100000000) :
  Calls Tryz.prog 55 #[.pointer (some ⟨b, 0, none⟩), .string s] w fun e w' => e = .returned (.tuple #[.int .i64 s.size, .nilIface]) ∧ BW T W b w' (l ++ s.data.toList) ∧ zZ b w w' := by
 obtain ⟨p, a, c, hp, hb, hr⟩ := h.opened
 obtain ⟨i0, hi, hz0, hz1, hz2⟩ := info_parts Z8.info
 have H := qI h
 have HR := qI hr
 have HI := qI hi
 have HZ := qI (And.intro hz0 (And.intro hz1 hz2))
 have CC := qI (jx hT hp hb)
 have Ge : Hid (b < W.heap.size ∧ W.heap.size ≤ w.heap.size) := qI ⟨h.lt, h.kept.size⟩
 have HL : Hid (s.data.toList.length = s.size) := qI (by simp)
 clear h hp hb hr hi hz0 hz1 hz2
 go_enter Tryz.func55, Tryz.ntmps55
 go_wp2_with (first
  | (go_at_call 84; refine CC.o.mono ?_; rintro e w1 ⟨rfl, hb1, hk1⟩; have c1 := zb (o := 1) (v := .slice a l.length c) hb1 rfl; have Gc := qI hb1; have Ga := qI hk1; clear hb1 hk1)
  | (at_builtin; refine Lib.wpList_append_own_string _ rfl _ _ 28 9 rfl W.heap.size 5 i0 Tryz.underlying28 Tryz.underlying9 HI.o HZ.o.1 HZ.o.2.1 HZ.o.2.2 (.slice a l.length c) l.length (l.map bv) rfl (zk HR.o Ga.o (by intro g hg hx; have h1 := (HR.o.lt g hg).1; have h2 := Ge.o; simp at hx; omega)) s rfl (by simp only [maxLen]; omega) (by omega) (by have h1 := Ge.o; have h2 := Ga.o.size; omega) ?_; intro v2 w2 hown2 hg2 _; obtain ⟨a2, c2, rfl, -, -⟩ := (Slc.of_row hown2).form; obtain ⟨g1, g2, g3, g4⟩ := BW.wrote (l' := l ++ s.data.toList) H.o HR.o Gc.o Ga.o (by rw [List.map_append]; exact hown2) (by rw [List.length_append, HL.o]) ((zc.refl _ _).grown hg2 (fun k e => .inl (by simp [e]))); have G3 := qI g3; have G4 := qI g4; clear hown2 hg2 g3 g4))
 go_ret2
 exact ⟨rfl, G3.o, G4.o⟩
theorem Zn (m : Nat) (hm : m < 55296 ∨ (57344 ≤ m ∧ m ≤ 1114111)) : Lib.runeCells m = (yb m).map bv := by
 rw [← YR m hm]
 unfold Lib.runeCells qp
 by_cases h1 : m < 128
 ·rw [Lib.encodeRuneZ_one (by omega) (by omega), if_pos (by omega)]; rfl
 by_cases h2 : m < 2048
 ·rw [Lib.encodeRuneZ_two (by omega) (by omega), if_neg (by omega), if_pos (by omega)]; rfl
 by_cases h3 : m < 65536
 ·rw [Lib.encodeRuneZ_three (by omega), if_neg (by omega), if_neg (by omega), if_pos (by omega)]; rfl
 ·rw [Lib.encodeRuneZ_four (by omega) (by omega), if_neg (by omega), if_neg (by omega), if_neg (by omega)]; rfl
theorem wrune_any {T : Nat} (hT : Yr T) {W w : World} {b : Nat} {l : List UInt8} (h : BW T W b w l) (hl : l.length ≤ 100000000) (m : Nat) (hm : m < 55296 ∨ (57344 ≤ m ∧ m ≤ 1114111)) :
  Calls Tryz.prog 199 #[.pointer (some ⟨b, 0, none⟩), .int .i32 m] w fun e w' => (∃ k, e = .returned (.tuple #[k, .nilIface])) ∧ BW T W b w' (l ++ yb m) ∧ zZ b w w' := by
 obtain ⟨p, a, c, hp, hb, hr⟩ := h.opened
 have H := qI h
 have HR := qI hr
 have CC := qI (jx hT hp hb)
 have Ge : Hid (b < W.heap.size ∧ W.heap.size ≤ w.heap.size) := qI ⟨h.lt, h.kept.size⟩
 have Jd := qI (Zn m hm)
 have Je : Hid ((Lib.runeCells m).length = (yb m).length) := qI (by rw [Zn m hm, List.length_map])
 have hr4 : (yb m).length ≤ 4 := (xV m hm).2.2.1
 have HM : Hid ((m : Int) ≤ 1114111) := qI (by omega)
 clear h hp hb hr hm
 go_enter Tryz.func199, Tryz.ntmps199
 go_wp2_with (first
  | (go_at_call 84; refine CC.o.mono ?_; rintro e w1 ⟨rfl, hb1, hk1⟩; have c1 := zb (o := 1) (v := .slice a l.length c) hb1 rfl; have Gc := qI hb1; have Ga := qI hk1; clear hb1 hk1)
  | (go_at_call 227; refine (Any.utf8_AppendRune_plain Tryz.shAppendRune (by kernel_rfl) W.heap.size (.slice a l.length c) l.length (l.map bv) (m : Int) (by have := HM.o; omega) (by have := HM.o; omega) w1 (zk HR.o Ga.o (by intro g hg hx; have h1 := (HR.o.lt g hg).1; have h2 := Ge.o; simp at hx; omega)) (by omega) (by have h1 := Ge.o; have h2 := Ga.o.size; omega)).mono ?_; rintro e w2 ⟨v2, rfl, hown2, ob, hg2⟩; obtain ⟨a2, c2, rfl, -, -⟩ := (Slc.of_row hown2).form; obtain ⟨g1, g2, g3, g4⟩ := BW.wrote (l' := l ++ yb m) H.o HR.o Gc.o Ga.o (by rw [List.map_append, ← Jd.o]; exact hown2) (by rw [List.length_append, Je.o]) (((zc.refl _ _).alloc ob).grown hg2 (fun k e => .inl (by simp [e]))); have G3 := qI g3; have G4 := qI g4; obtain ⟨p5, v5, -, hb5, -⟩ := G3.o.blk; clear hown2 hg2 g3 g4))
 go_ret2
 exact ⟨⟨_, rfl⟩, G3.o, G4.o⟩
theorem YL {w : World} {g : Nat} (n : Nat) : zc [g] w (w.freeze ⟨g, 0, none⟩ n) := by
 have h := Lib.below_freeze (Below.refl 0 w) (p := ⟨g, 0, none⟩) (Nat.zero_le _) n
 refine ⟨h.os, h.tape, h.output, h.size, fun k hk hx => ?_⟩
 unfold World.freeze
 split
 ·rfl
 ·simp only [Array.getElem?_modify]
  rw [if_neg (by simp at hx; omega)]
theorem kn {T : Nat} {W w : World} {b : Nat} {l : List UInt8} (h : BW T W b w l) (hl : l.length ≤ 100000000) (h0 : l ≠ []) :
  Calls Tryz.prog 57 #[.pointer (some ⟨b, 0, none⟩)] w fun e w' => e = .returned (.string (zf l)) ∧ zc [b] W w' ∧ zZ b w w' := by
 obtain ⟨p, a, c, hp, hb, hr⟩ := h.opened
 have Ge : Hid (b < W.heap.size ∧ W.heap.size ≤ w.heap.size) := qI ⟨h.lt, h.kept.size⟩
 have Gb := qI h.kept
 have c1 := zb (o := 1) (v := .slice a l.length c) hb rfl
 have hl0 : l.length ≠ 0 := by simpa using h0
 obtain ⟨g, cap, cur, hv, hg, hbg, hnc, hcm, hcs, htake⟩ : ∃ g cap cur, (Value.slice a l.length c) = .slice (some ⟨g, 0, none⟩) l.length cap ∧ W.heap.size ≤ g ∧ w.heap[g]? = some (.cells cur 5 (0, 0)) ∧ l.length ≤ cap ∧ cap ≤ maxLen ∧ cur.size = cap * 1 ∧ cur.toList.take (l.length * 1) = l.map bv := by
  rcases hr.2 with ⟨_, hz⟩ | ⟨g, cap, cur, hv, r1, r2, r3, r4, r5, r6⟩
  ·exact absurd hz hl0
  ·exact ⟨g, cap, cur, hv, r1, r2, r3, r4, r5, r6⟩
 simp only [Value.slice.injEq] at hv
 obtain ⟨rfl, -, rfl⟩ := hv
 have hrow : ∀ j x, l[j]? = some x → w.drew.cell? ((⟨g, 0, none⟩ : Addr).add j) = some (.int .u8 x.toNat) := by
  intro j x hx
  have h2 := (Slc.of_row hr).2
  rcases h2 with ⟨h3, _⟩ | ⟨h3, _⟩ | ⟨g', o', cap', hv', _, _, hrow⟩
  ·cases h3
  ·exact absurd h3 hl0
  ·simp only [Value.slice.injEq, Option.some.injEq, Addr.mk.injEq] at hv'
   obtain ⟨⟨rfl, rfl, -⟩, -, -⟩ := hv'
   exact hrow.adds j (bv x) (by simp [hx])
 have hSD : ∀ W' : World, (Builtin.unsafeSliceData_ #[28] 120 #[.slice (some ⟨g, 0, none⟩) l.length c]).run Tryz.prog W' = .ok (.pointer (some ⟨g, 0, none⟩)) W' := fun W' => Lib.run_unsafeSliceData_row _ _ _ _ _ _ (by omega)
 have hUS : (Builtin.unsafeString_ #[120, 3] 9 #[.pointer (some ⟨g, 0, none⟩), .int .i64 l.length]).run Tryz.prog w.drew = .ok (.string (zf l)) (w.drew.freeze ⟨g, 0, none⟩ l.length) :=
  Lib.run_unsafeString_row w.drew 120 3 9 5 Tryz.underlying120 (by kernel_rfl) g cur.size (by have hg' : w.drew.heap[g]? = some (.cells cur 5 (0, 0)) := hbg; simp [World.shape?, hg']) l h0 (by omega) (by omega) hrow
 have HK : Hid (zc [g] w (w.drew.freeze ⟨g, 0, none⟩ l.length)) := qI ((zc.refl [g] w).drew.trans' (YL l.length))
 have HG : Hid (W.heap.size ≤ g ∧ kind w g = 5 + 2) := qI ⟨hg, vi hbg⟩
 have Gu := qI hSD
 have Gj := qI hUS
 have hgb : b ≠ g := by have := Ge.o; omega
 clear h hp hb hr hbg hnc hcm hcs htake hrow hl0 hSD hUS hg h0
 go_enter Tryz.func57, Tryz.ntmps57
 go_wp2_with fail
 refine zj (n := 12) (fun w' : World => w'.cell? ⟨b, 1, none⟩ = some (.slice (some ⟨g, 0, none⟩) l.length c)) 11 (by kernel_rfl) (by kernel_rfl) ?_
 change zS _ _ _ _ _ _ _ _ _ w.drew
 have hSS : (fun w' : World => w'.cell? ⟨b, 1, none⟩ = some (.slice (some ⟨g, 0, none⟩) l.length c)) w.drew := c1
 clear c1
 revert hSS Gj HK
 generalize w.drew = W2
 intro HK Gj hSS
 refine zu ?_
 intro O R hO hR
 have hQp : ∀ c a (d : Nat) v w, R (.panic c) (a.put (some d) v) w → R (.panic c) a w := by subst hR; exact fun _ _ _ _ _ h => h
 refine za (i := 0) (v := ?_) hO rfl rfl (by kernel_rfl) (by kernel_rfl) (by kernel_rfl) (by kernel_rfl) hQp (Or.inl ⟨by kernel_rfl, fun w hSw => ?_⟩) hSS ?_
 rotate_left
 ·go_simp; try with_reducible rfl
 try simp only [zA,zN,zB,zC,zD]
 refine za (i := 1) (v := ?_) hO rfl rfl (by kernel_rfl) (by kernel_rfl) (by kernel_rfl) (by kernel_rfl) hQp (Or.inl ⟨by kernel_rfl, fun w hSw => ?_⟩) hSS ?_
 rotate_left
 ·go_simp; try with_reducible rfl
 try simp only [zA,zN,zB,zC,zD]
 refine za (i := 2) (v := ?_) hO rfl rfl (by kernel_rfl) (by kernel_rfl) (by kernel_rfl) (by kernel_rfl) hQp (Or.inl ⟨by kernel_rfl, fun w hSw => ?_⟩) hSS ?_
 rotate_left
 ·go_simp; try with_reducible rfl
 try simp only [zA,zN,zB,zC,zD]
 refine za (i := 3) (v := ?_) hO rfl rfl (by kernel_rfl) (by kernel_rfl) (by kernel_rfl) (by kernel_rfl) hQp (Or.inl ⟨by kernel_rfl, fun w hSw => ?_⟩) hSS ?_
 rotate_left
 ·go_simp; try with_reducible rfl
 try simp only [zA,zN,zB,zC,zD]
 refine za (i := 5) (v := ?_) hO rfl rfl (by kernel_rfl) (by kernel_rfl) (by kernel_rfl) (by kernel_rfl) hQp (Or.inl ⟨by kernel_rfl, fun w hSw => ?_⟩) hSS ?_
 rotate_left
 ·go_simp; try with_reducible rfl
 try simp only [zA,zN,zB,zC,zD]
 refine za (i := 6) (v := ?_) hO rfl rfl (by kernel_rfl) (by kernel_rfl) (by kernel_rfl) (by kernel_rfl) hQp (Or.inl ⟨by kernel_rfl, fun w hSw => ?_⟩) hSS ?_
 rotate_left
 ·go_simp; try with_reducible rfl
 try simp only [zA,zN,zB,zC,zD]
 refine za (i := 7) (v := ?_) hO rfl rfl (by kernel_rfl) (by kernel_rfl) (by kernel_rfl) (by kernel_rfl) hQp (Or.inl ⟨by kernel_rfl, fun w hSw => ?_⟩) hSS ?_
 rotate_left
 ·go_simp; try with_reducible rfl
 try simp only [zA,zN,zB,zC,zD]
 refine za (i := 8) (v := ?_) hO rfl rfl (by kernel_rfl) (by kernel_rfl) (by kernel_rfl) (by kernel_rfl) hQp (Or.inl ⟨by kernel_rfl, fun w hSw => ?_⟩) hSS ?_
 rotate_left
 ·go_simp; try with_reducible rfl
 try simp only [zA,zN,zB,zC,zD]
 refine za (i := 9) (v := ?_) hO rfl rfl (by kernel_rfl) (by kernel_rfl) (by kernel_rfl) (by kernel_rfl) hQp (Or.inl ⟨by kernel_rfl, fun w hSw => ?_⟩) hSS ?_
 rotate_left
 ·go_simp; try with_reducible rfl
 try simp only [zA,zN,zB,zC,zD]
 have hSD := Gu.o
 refine za (i := 4) (v := ?_) hO rfl rfl (by kernel_rfl) (by kernel_rfl) (by kernel_rfl) (by kernel_rfl) hQp (Or.inl ⟨by kernel_rfl, fun w hSw => ?_⟩) hSS ?_
 rotate_left
 ·go_simp; try with_reducible rfl
 try simp only [zA,zN,zB,zC,zD]
 have hUS := Gj.o
 refine zd (i := 10) hO rfl (by kernel_rfl) (by kernel_rfl) (fun K hK => ?_)
 go_simp
 have hS2 : (fun w' : World => w'.cell? ⟨b, 1, none⟩ = some (.slice (some ⟨g, 0, none⟩) l.length c)) (W2.freeze ⟨g, 0, none⟩ l.length) := (YL l.length).cell hSS (by simpa using hgb)
 refine hK _ _ (.inr hS2) ?_
 clear hK K
 try simp only [zA,zN,zB,zC,zD]
 clear hSS
 have hSS := hS2
 clear hS2 hSD hUS
 refine zd (i := 11) hO rfl (by kernel_rfl) (by kernel_rfl) (fun K hK => ?_)
 go_simp
 refine hK _ _ (.inl rfl) ?_
 clear hK K
 try simp only [zA,zN,zB,zC,zD]
 refine zt hO (by kernel_rfl) ?_ _
 subst hR
 try clear hQp hO O
 go_wp2_with fail
 go_ret
 refine ⟨rfl, Gb.o.trans HK.o (fun i hi => by simp at hi; subst hi; exact .inr HG.o.1), zZ.of HK.o (fun i hi => by simp at hi; subst hi; exact .inr HG.o.2)⟩
theorem YJ {T : Nat} {w : World} {b : Nat} {p : Value} (hb : w.heap[b]? = some (.cells #[p, .slice none 0 0] T (0, 0))) :
  Calls Tryz.prog 57 #[.pointer (some ⟨b, 0, none⟩)] w fun e w' => e = .returned (.string (zf [])) ∧ zc [] w w' := by
 have c1 := zb (o := 1) (v := .slice none 0 0) hb rfl
 have hSD : ∀ W' : World, (Builtin.unsafeSliceData_ #[28] 120 #[.slice none 0 0]).run Tryz.prog W' = .ok (.pointer none) W' := fun W' => Lib.run_unsafeSliceData_nil _ _ _ _ _
 have hUS : (Builtin.unsafeString_ #[120, 3] 9 #[.pointer none, .int .i64 0]).run Tryz.prog w.drew = .ok (.string .empty) w.drew := Lib.run_unsafeString_none _ _ _ _ _
 have Gu := qI hSD
 have Gj := qI hUS
 have HK : Hid (zc [] w w.drew) := qI (zc.refl [] w).drew
 clear hb hSD hUS
 go_enter Tryz.func57, Tryz.ntmps57
 go_wp2_with fail
 refine zj (n := 12) (fun w' : World => w'.cell? ⟨b, 1, none⟩ = some (.slice none 0 0)) 11 (by kernel_rfl) (by kernel_rfl) ?_
 change zS _ _ _ _ _ _ _ _ _ w.drew
 have hSS : (fun w' : World => w'.cell? ⟨b, 1, none⟩ = some (.slice none 0 0)) w.drew := c1
 clear c1
 revert hSS Gj HK
 generalize w.drew = W2
 intro Gj HK hSS
 refine zu ?_
 intro O R hO hR
 have hQp : ∀ c a (d : Nat) v w, R (.panic c) (a.put (some d) v) w → R (.panic c) a w := by subst hR; exact fun _ _ _ _ _ h => h
 refine za (i := 0) (v := ?_) hO rfl rfl (by kernel_rfl) (by kernel_rfl) (by kernel_rfl) (by kernel_rfl) hQp (Or.inl ⟨by kernel_rfl, fun w hSw => ?_⟩) hSS ?_
 rotate_left
 ·go_simp; try with_reducible rfl
 try simp only [zA,zN,zB,zC,zD]
 refine za (i := 1) (v := ?_) hO rfl rfl (by kernel_rfl) (by kernel_rfl) (by kernel_rfl) (by kernel_rfl) hQp (Or.inl ⟨by kernel_rfl, fun w hSw => ?_⟩) hSS ?_
 rotate_left
 ·go_simp; try with_reducible rfl
 try simp only [zA,zN,zB,zC,zD]
 refine za (i := 2) (v := ?_) hO rfl rfl (by kernel_rfl) (by kernel_rfl) (by kernel_rfl) (by kernel_rfl) hQp (Or.inl ⟨by kernel_rfl, fun w hSw => ?_⟩) hSS ?_
 rotate_left
 ·go_simp; try with_reducible rfl
 try simp only [zA,zN,zB,zC,zD]
 refine za (i := 3) (v := ?_) hO rfl rfl (by kernel_rfl) (by kernel_rfl) (by kernel_rfl) (by kernel_rfl) hQp (Or.inl ⟨by kernel_rfl, fun w hSw => ?_⟩) hSS ?_
 rotate_left
 ·go_simp; try with_reducible rfl
 try simp only [zA,zN,zB,zC,zD]
 refine za (i := 5) (v := ?_) hO rfl rfl (by kernel_rfl) (by kernel_rfl) (by kernel_rfl) (by kernel_rfl) hQp (Or.inl ⟨by kernel_rfl, fun w hSw => ?_⟩) hSS ?_
 rotate_left
 ·go_simp; try with_reducible rfl
 try simp only [zA,zN,zB,zC,zD]
 refine za (i := 6) (v := ?_) hO rfl rfl (by kernel_rfl) (by kernel_rfl) (by kernel_rfl) (by kernel_rfl) hQp (Or.inl ⟨by kernel_rfl, fun w hSw => ?_⟩) hSS ?_
 rotate_left
 ·go_simp; try with_reducible rfl
 try simp only [zA,zN,zB,zC,zD]
 refine za (i := 7) (v := ?_) hO rfl rfl (by kernel_rfl) (by kernel_rfl) (by kernel_rfl) (by kernel_rfl) hQp (Or.inl ⟨by kernel_rfl, fun w hSw => ?_⟩) hSS ?_
 rotate_left
 ·go_simp; try with_reducible rfl
 try simp only [zA,zN,zB,zC,zD]
 refine za (i := 8) (v := ?_) hO rfl rfl (by kernel_rfl) (by kernel_rfl) (by kernel_rfl) (by kernel_rfl) hQp (Or.inl ⟨by kernel_rfl, fun w hSw => ?_⟩) hSS ?_
 rotate_left
 ·go_simp; try with_reducible rfl
 try simp only [zA,zN,zB,zC,zD]
 refine za (i := 9) (v := ?_) hO rfl rfl (by kernel_rfl) (by kernel_rfl) (by kernel_rfl) (by kernel_rfl) hQp (Or.inl ⟨by kernel_rfl, fun w hSw => ?_⟩) hSS ?_
 rotate_left
 ·go_simp; try with_reducible rfl
 try simp only [zA,zN,zB,zC,zD]
 have hSD := Gu.o
 refine za (i := 4) (v := ?_) hO rfl rfl (by kernel_rfl) (by kernel_rfl) (by kernel_rfl) (by kernel_rfl) hQp (Or.inl ⟨by kernel_rfl, fun w hSw => ?_⟩) hSS ?_
 rotate_left
 ·go_simp; try with_reducible rfl
 try simp only [zA,zN,zB,zC,zD]
 have hUS := Gj.o
 refine zd (i := 10) hO rfl (by kernel_rfl) (by kernel_rfl) (fun K hK => ?_)
 go_simp
 refine hK _ _ (.inr hSS) ?_
 clear hK K
 try simp only [zA,zN,zB,zC,zD]
 clear hSD hUS
 refine zd (i := 11) hO rfl (by kernel_rfl) (by kernel_rfl) (fun K hK => ?_)
 go_simp
 refine hK _ _ (.inl rfl) ?_
 clear hK K
 try simp only [zA,zN,zB,zC,zD]
 refine zt hO (by kernel_rfl) ?_ _
 subst hR
 try clear hQp hO O
 go_wp2_with fail
 go_ret
 exact ⟨rfl, HK.o⟩
open Go.Lib (decodeL)
structure yU (w : World) : Prop where
 utf : Lib.Utf8Tabs (Tryz.shDecode_ren.g 3) (Tryz.shDecode_ren.g 4) w
 case : Lib.CaseVar (Tryz.shToLower_ren.g 13) Lib.caseA w
 pow : Lib.TabIs Tryz.prog w "internal/strconv.uint64pow10" .u64 Lib.pow10Tab
theorem yU.kept0 {w w' : World} (h : yU w) (k : zc [] w w') : yU w' := by
 obtain ⟨h1, h2, h3⟩ := h
 refine ⟨⟨fun c hc => k.cell (h1.1 c hc) (by simp), fun i hi => ⟨k.cell (h1.2 i hi).1 (by simp), k.cell (h1.2 i hi).2 (by simp)⟩⟩, ?_, ?_⟩
 ·obtain ⟨R, oR, cap, q, t⟩ := h2
  exact ⟨R, oR, cap, k.cell q (by simp), fun i hi => by
   obtain ⟨a, b, c, d, e⟩ := t i hi
   exact ⟨k.cell a (by simp), k.cell b (by simp), k.cell c (by simp), k.cell d (by simp), k.cell e (by simp)⟩⟩
 ·have hs : (Tryz.prog.globalNamed "internal/strconv.uint64pow10").isSome = true := by kernel_rfl
  obtain ⟨g, hg⟩ := Option.isSome_iff_exists.1 hs
  exact Go.Joins.tab_stays hg h3 (k.below (Nat.le_refl _) (by simp)) (Nat.le_refl _)
theorem of_below {P : Program} {f : FuncId} {args : Array Value} {w : World} {r : Ending} (h : Calls P f args w fun e w' => e = r ∧ Below w.heap.size w w') : Calls P f args w fun e w' => e = r ∧ zc [] w w' :=
 h.mono fun _ _ ⟨h1, h2⟩ => ⟨h1, zc.of_below h2⟩
theorem Zl {P : Program} {f : FuncId} {args : Array Value} {w : World} {r : Ending} (h : Calls P f args w fun e w' => e = r ∧ w' = w) : Calls P f args w fun e w' => e = r ∧ w = w' :=
 h.mono fun _ _ ⟨h1, h2⟩ => ⟨h1, h2.symm⟩
theorem libValid {w : World} (ht : yU w) (s : ByteArray) (hs : s.size ≤ 281474976710656) : Calls Tryz.prog 213 #[.string s] w fun e w' => e = .returned (.bool (zX s)) ∧ zc [] w w' :=
 of_below (Any.utf8_ValidString Tryz.shValid s w (by omega) ht.utf)
theorem libDecode {w : World} (ht : yU w) (s : ByteArray) : Calls Tryz.prog 172 #[.string s] w fun e w' => e = .returned (.tuple #[.int .i32 (Lib.decodeGo s).1, .int .i64 (Lib.decodeGo s).2]) ∧ zc [] w w' :=
 of_below (Any.utf8_DecodeRuneInString Tryz.shDecode s w ht.utf)
theorem x5 (s : ByteArray) (c : Int) (w : World) : Calls Tryz.prog 116 #[.string s, .int .u8 c] w fun e w' => e = .returned (.int .i64 (Lib.indexByte s.data.toList c.toNat.toUInt8)) ∧ w = w' :=
 Zl (Any.strings_IndexByte Tryz.shIndexByte s c w)
theorem xB (s p : ByteArray) (w : World) : Calls Tryz.prog 88 #[.string s, .string p] w fun e w' => e = .returned (.bool (p.data.toList.isPrefixOf s.data.toList)) ∧ w = w' :=
 Zl (Any.strings_HasPrefix Tryz.shHasPrefix s p w)
theorem Zm (r : Int) (w : World) : Calls Tryz.prog 248 #[.int .i32 r] w fun e w' => e = .returned (.bool (Lib.validRune r)) ∧ w = w' :=
 Zl (Any.utf8_ValidRune Tryz.shValidRune r w)
theorem Kw (b : Bool) (w : World) : Calls Tryz.prog 93 #[.bool b] w fun e w' => e = .returned (.string (zf (Lib.formatBool b))) ∧ w = w' :=
 Zl (Any.strconv_FormatBool Tryz.shFormatBool b w)
theorem kept_grow {w : World} (n : Nat) (os : Array Obj) : zc [] w (Sort.grow (w.drewN n) os) :=
 ⟨rfl, rfl, rfl, by simp [Sort.grow], fun k hk _ => by
  show (w.heap ++ os)[k]? = w.heap[k]?
  rw [Array.getElem?_append_left hk]⟩
theorem Y7 {w : World} (ht : yU w) (n : Int) (h0 : -9223372036854775808 ≤ n) (h1 : n ≤ 9223372036854775807) : Calls Tryz.prog 76 #[.int .i64 n] w fun e w' => e = .returned (.string (zf (Lib.itoa n))) ∧ zc [] w w' :=
 (Any.strconv_Itoa Tryz.shItoa n h0 h1 w ht.pow).mono fun e w' ⟨h1, k, os, h2⟩ => ⟨h1, by rw [h2]; exact kept_grow k os⟩
theorem lowerExtra : Builder.Extra Tryz.prog Tryz.shToLower_ren := {
 sizeBuilder := by kernel_rfl
 liesBuilder := by kernel_rfl
 t5 := Tryz.underlying5
 a5 := Tryz.isAgg5
 z5 := Tryz.sizeOf5
 v5 := Tryz.zeroValue5
 infoByte := by kernel_rfl
 cellsByte := by kernel_rfl
 sizeByte := by kernel_rfl
 neB5 := by decide }
theorem libToLower {w : World} (ht : yU w) (s : ByteArray) (hs : s.size ≤ 1000000) : Calls Tryz.prog 263 #[.string s] w fun e w' => e = .returned (.string (zf (Lib.toLowerD s.data.toList))) ∧ zc [] w w' :=
 of_below (Any.strings_ToLower_any Tryz.shToLower lowerExtra s w (by omega) ht.case ht.utf)
theorem YD (s cs : ByteArray) (w : World) (h1 : cs.size ≤ 100) (h2 : ∀ (j : Nat) b, cs.data.toList[j]? = some b → b.toNat < 128) : Calls Tryz.prog 114 #[.string s, .string cs] w fun e w' => e = .returned (.string (zf (Lib.trimLeftS s.data.toList cs.data.toList))) ∧ zc [] w w' :=
 of_below (Any.strings_TrimLeft_laid Tryz.shTrimLeft (by kernel_rfl) s cs w (by omega) h2)
theorem libTrim (s cs : ByteArray) (w : World) (hs : s.size ≤ 281474976710656) (h1 : cs.size ≤ 100) (h2 : ∀ (j : Nat) b, cs.data.toList[j]? = some b → b.toNat < 128) : Calls Tryz.prog 266 #[.string s, .string cs] w fun e w' => e = .returned (.string (zf (Lib.trimS s.data.toList cs.data.toList))) ∧ zc [] w w' :=
 of_below (Any.strings_Trim_laid Tryz.shTrim (by kernel_rfl) s cs w (by omega) (by omega) h2)
theorem libEqual {w : World} {a b : Option Addr} {n m c d : Nat} {x y : List UInt8} (hx : yA w (.slice a n c) x) (hy : yA w (.slice b m d) y) :
  Calls Tryz.prog 44 #[.slice a n c, .slice b m d] w fun e w' => e = .returned (.bool (decide (x = y))) ∧ w = w' := by
 have c1 := yA.toStr hx
 have c2 := yA.toStr hy
 have HT : Hid (((zf x).toList == (zf y).toList) = decide (x = y)) := qI (by
  by_cases h : x = y
  ·rw [decide_eq_true h]; exact (qd (by rw [h])).1
  ·rw [decide_eq_false h]; exact (xW (fun e => h (strB_inj e))).1)
 clear hx hy
 have ht := HT.o
 revert ht
 generalize decide (x = y) = r
 intro ht
 go_enter Tryz.func44, Tryz.ntmps44
 go_wp2_with fail
 go_ret
 exact ⟨rfl, rfl⟩
theorem QN {w : World} (ht : yU w) (s : ByteArray) (hs : s.size ≤ 281474976710656) : Calls Tryz.prog 177 #[.string s] w fun e w' => e = .returned (.bool (zX s)) ∧ zc [] w w' := by
 have C := qI (libValid ht s hs)
 clear ht
 go_enter Tryz.func177, Tryz.ntmps177
 go_wp2_with (go_at_call 213; refine C.o.mono ?_; rintro e w2 ⟨rfl, hk2⟩)
 go_ret
 exact ⟨rfl, hk2⟩
theorem decodeGo_eq (s : ByteArray) : Lib.decodeGo s = if s.data.toList = [] then (65533, 0) else decodeL s.data.toList := by
 unfold Lib.decodeGo decodeL
 have e : s.size = s.data.toList.length := by simp
 have e2 : (⟨s.data.toList.toArray⟩ : ByteArray) = s := by cases s; simp
 rw [e2]
 by_cases h : s.data.toList = []
 ·rw [if_pos h, if_pos (by rw [e, h]; rfl)]
 ·rw [if_neg h, if_neg (by rw [e]; exact fun q => h (List.eq_nil_of_length_eq_zero q))]
theorem utfNext {w : World} (ht : yU w) (s : ByteArray) (hs : s.size ≤ 281474976710656) : Calls Tryz.prog 226 #[.string s] w fun e w' => e = .returned (.tuple #[.int .i64 (xR s.data.toList).1, .int .i64 (xR s.data.toList).2]) ∧ zc [] w w' := by
 have C := qI (libDecode ht s)
 have HD := qI (decodeGo_eq s)
 have HN : Hid ((xR s.data.toList = ((-1 : Int), 0) ∧ ((Lib.decodeGo s).2 = 0 ∨ ((Lib.decodeGo s).1 = 65533 ∧ (Lib.decodeGo s).2 = 1))) ∨ (xR s.data.toList = (((Lib.decodeGo s).1 : Int), (Lib.decodeGo s).2) ∧ (Lib.decodeGo s).1 ≤ 1114111 ∧ (Lib.decodeGo s).2 ≤ 4 ∧ ¬ ((Lib.decodeGo s).2 = 0) ∧ ¬ ((Lib.decodeGo s).1 = 65533 ∧ (Lib.decodeGo s).2 = 1))) := qI (by
  rw [HD.o]
  unfold xR
  by_cases h : s.data.toList = []
  ·rw [if_pos (.inl h), if_pos h]
   exact .inl ⟨rfl, .inl rfl⟩
  ·rw [if_neg h]
   by_cases hb : (decodeL s.data.toList).1 = 65533 ∧ (decodeL s.data.toList).2 = 1
   ·rw [if_pos (.inr hb)]
    exact .inl ⟨rfl, .inr hb⟩
   ·rw [if_neg (by rintro (q | q); exact h q; exact hb q)]
    have D := kB h hb
    have hp := D.pos
    have h4 := (JZ D).2
    have hv := D.valid
    exact .inr ⟨rfl, by omega, h4, by omega, hb⟩)
 clear ht
 revert C HN
 generalize xR s.data.toList = N
 generalize Lib.decodeGo s = p
 obtain ⟨r, k⟩ := p
 intro C HN
 simp only at C HN
 rcases HN.o with ⟨rfl, rfl | ⟨rfl, rfl⟩⟩ | ⟨rfl, h1, h2, h3, h4⟩
 ·go_enter Tryz.func226, Tryz.ntmps226
  go_wp2_with (go_at_call 172; refine C.o.mono ?_; rintro e w2 ⟨rfl, hk2⟩)
  go_ret2
  exact ⟨rfl, hk2⟩
 ·go_enter Tryz.func226, Tryz.ntmps226
  go_wp2_with (go_at_call 172; refine C.o.mono ?_; rintro e w2 ⟨rfl, hk2⟩)
  go_ret2
  exact ⟨rfl, hk2⟩
 ·have fk0 : ((k : Int) == 0) = false := (qE (a := k) (b := 0) h3).1
  have h1I : (r : Int) ≤ 1114111 := by omega
  have h3I : (0 : Int) < k := by omega
  by_cases hr : r = 65533
  ·have fr := (jZ hr).1
   have fk1 : ((k : Int) == 1) = false := (qE (a := k) (b := 1) (fun e => h4 ⟨hr, e⟩)).1
   have fr' : ((r : Int) == 65533) = true := fr
   clear h1 h2 h3 h4 hr fr
   go_enter Tryz.func226, Tryz.ntmps226
   go_wp2_with (go_at_call 172; refine C.o.mono ?_; rintro e w2 ⟨rfl, hk2⟩)
   go_ret2
   exact ⟨rfl, hk2⟩
  ·have fr := (qE hr).1
   have fr' : ((r : Int) == 65533) = false := fr
   clear h1 h2 h3 h4 hr fr
   go_enter Tryz.func226, Tryz.ntmps226
   go_wp2_with (go_at_call 172; refine C.o.mono ?_; rintro e w2 ⟨rfl, hk2⟩)
   go_ret2
   exact ⟨rfl, hk2⟩
theorem yA.at {w : World} {a : Option Addr} {c : Nat} {l : List UInt8} (h : yA w (.slice a l.length c) l) {k : Nat} (hk : k < l.length) : ∃ g o, a = some ⟨g, o, none⟩ ∧ w.cell? ⟨g, o + k, none⟩ = some (.int .u8 l[k].toNat) := by
 rcases h.2 with ⟨_, h0⟩ | ⟨h0, _⟩ | ⟨g, o, cap, hv, _, _, hrow⟩
 ·omega
 ·omega
 ·simp only [Value.slice.injEq] at hv
  exact ⟨g, o, hv.1, hrow.cells k (bv l[k]) (by simp [hk])⟩
def Zc (l : List UInt8) : List UInt8 := l.flatMap (fun c => [vG (c.toNat / 16), vG (c.toNat % 16)])
theorem hexL_snoc (l : List UInt8) (c : UInt8) : Zc (l ++ [c]) = (Zc l ++ [vG (c.toNat / 16)]) ++ [vG (c.toNat % 16)] := by simp [Zc]
theorem vX : ∀ (l : List UInt8), (Zc l).length = 2 * l.length
 | [] => rfl
 | c :: l => by
  have := vX l
  simp only [Zc, List.flatMap_cons, List.length_append, List.length_cons, List.length_nil] at *
  omega
theorem hexc : ∀ (k : Nat) (h : k < 16), (⟨#[48, 49, 50, 51, 52, 53, 54, 55, 56, 57, 97, 98, 99, 100, 101, 102]⟩ : ByteArray)[k]'h = vG k := by
 have h : ∀ k : Fin 16, (⟨#[48, 49, 50, 51, 52, 53, 54, 55, 56, 57, 97, 98, 99, 100, 101, 102]⟩ : ByteArray)[k.val]'k.isLt = vG k.val := by decide
 exact fun k hk => h ⟨k, hk⟩
theorem hex_any {w : World} {a : Option Addr} {c : Nat} {l : List UInt8} (h : yA w (.slice a l.length c) l) (hl : l.length ≤ 1000000) (h0 : l ≠ []) :
  Calls Tryz.prog 179 #[.slice a l.length c] w fun e w' => e = .returned (.string (zf (Zc l))) ∧ zc [] w w' := by
 have H := qI h
 obtain ⟨W0, Gk⟩ : ∃ W0, Hid (W0 = w.alloc (.cells #[.pointer none, .slice none 0 0] 70)) := ⟨_, qI rfl⟩
 have Gd : Hid (zc [] w W0) := qI (by rw [Gk.o]; exact (zc.refl _ _).alloc _)
 have Gv : Hid (BW 70 W0 w.heap.size W0 []) := qI (BW.new (by rw [Gk.o]; exact zp rfl))
 clear h
 go_enter Tryz.func179, Tryz.ntmps179
 go_wp2_with fail
 rw [← Gk.o]
 go_loopw [8] (fun i wr => ∃ k : Nat, i = .int .i64 k ∧ k ≤ l.length ∧ BW 70 W0 w.heap.size wr (Zc (l.take k))) (fun i _ => l.length - (intOf i).toNat)
 case atStart => exact ⟨0, rfl, Nat.zero_le _, Gv.o⟩
 case round =>
  obtain ⟨k, rfl, hk, hb⟩ := hrel
  have HB := qI hb
  have Gb : Hid (zc [] w wr) := qI (Gd.o.trans hb.kept (by intro i hi; simp at hi; subst hi; exact .inr (Nat.le_refl _)))
  clear hb
  by_cases hlt : k < l.length
  ·have hltI : (k : Int) < l.length := by omega
   obtain ⟨g, o, rfl, q0⟩ := yA.at (H.o.kept0 Gb.o) hlt
   have hx : (l[k].toNat : Int) ≤ 255 := by have := l[k].toNat_lt; omega
   have Gh : Hid (Zc (l.take (k + 1)) = (Zc (l.take k) ++ [vG (l[k].toNat / 16)]) ++ [vG (l[k].toNat % 16)]) := qI (by rw [List.take_succ_eq_append_getElem hlt, hexL_snoc])
   revert q0 hx Gh
   generalize l[k] = x
   intro q0 hx Gh
   have hlen : (Zc (l.take k)).length ≤ 50000000 := by rw [vX, List.length_take]; omega
   go_wp2_with fail
   refine (y9 yH HB.o (by omega) _).mono ?_
   rintro e w1 ⟨rfl, hb1, -⟩
   rw [hexc _ (by omega)] at hb1
   have Gc := qI hb1
   clear hb1
   go_wp2_with fail
   refine (y9 yH Gc.o (by rw [List.length_append]; simp only [List.length_cons, List.length_nil]; omega) _).mono ?_
   rintro e w2 ⟨rfl, hb2, -⟩
   rw [hexc _ (by omega), ← Gh.o] at hb2
   have Gw := qI hb2
   clear hb2
   go_wp2_with fail
   case roundEnd => exact ⟨⟨k + 1, by go_num, by omega, Gw.o⟩, by simp [intOf]; omega⟩
  ·obtain rfl : k = l.length := by omega
   have Gc : Hid (BW 70 W0 w.heap.size wr (Zc l)) := qI (by have := HB.o; rw [List.take_length] at this; exact this)
   have H0 := qI h0
   clear h0
   have hlen : (Zc l).length ≤ 50000000 := by rw [vX]; omega
   go_wp2_with (go_at_call 57; refine (kn Gc.o (by omega) (by intro e; have h1 := congrArg List.length e; rw [vX] at h1; simp only [List.length_nil] at h1; exact H0.o (List.eq_nil_of_length_eq_zero (by omega)))).mono ?_; rintro e w2 ⟨rfl, hk2, -⟩)
   go_ret
   exact ⟨rfl, Gd.o.trans hk2 (by intro i hi; simp at hi; subst hi; exact .inr (Nat.le_refl _))⟩
theorem wbyte_34 {T : Nat} (hT : Yr T) {W w : World} {b : Nat} {l : List UInt8} (h : BW T W b w l) (hl : l.length ≤ 100000000) :
  Calls Tryz.prog 98 #[.pointer (some ⟨b, 0, none⟩), .int .u8 34] w fun e w' => e = .returned .nilIface ∧ BW T W b w' (l ++ [34]) ∧ zZ b w w' := y9 hT h hl 34
theorem wbyte_92 {T : Nat} (hT : Yr T) {W w : World} {b : Nat} {l : List UInt8} (h : BW T W b w l) (hl : l.length ≤ 100000000) :
  Calls Tryz.prog 98 #[.pointer (some ⟨b, 0, none⟩), .int .u8 92] w fun e w' => e = .returned .nilIface ∧ BW T W b w' (l ++ [92]) ∧ zZ b w w' := y9 hT h hl 92
theorem quoteB_len (c : UInt8) : (yf c).length ≤ 6 := by
 unfold yf
 split
 ·simp
 ·split <;> simp
theorem quote_take (s : List UInt8) (k : Nat) : (((s.take k).flatMap yf)).length ≤ 6 * s.length := by
 have h : ∀ l : List UInt8, (l.flatMap yf).length ≤ 6 * l.length := by
  intro l
  induction l with
  | nil => simp
  | cons c l ih =>
   have := quoteB_len c
   simp only [List.flatMap_cons, List.length_append, List.length_cons]
   omega
 have h1 := h (s.take k)
 rw [List.length_take] at h1
 omega
theorem utfQuote {w : World} (ht : yU w) (s : ByteArray) (hs : s.size ≤ 1000000) (hv : zX s = true) :
  Calls Tryz.prog 138 #[.string s] w fun e w' => e = .returned (.tuple #[.string (zf (yr s.data.toList)), .int .i64 0]) ∧ zc [] w w' := by
 have CV := qI (QN ht s (by omega))
 rw [hv] at CV
 have HL : Hid (s.data.toList.length = s.size) := qI (by simp)
 clear ht hv
 go_enter Tryz.func138, Tryz.ntmps138
 go_wp2_with (go_at_call 177; refine CV.o.mono ?_; rintro e w1 ⟨rfl, hk1⟩; have Ga := qI hk1; clear hk1)
 obtain ⟨W0, Gk⟩ : ∃ W0, Hid (W0 = w1.alloc (.cells #[.pointer none, .slice none 0 0] 70)) := ⟨_, qI rfl⟩
 have Gd : Hid (zc [] w1 W0) := qI (by rw [Gk.o]; exact (zc.refl _ _).alloc _)
 have Gv : Hid (BW 70 W0 w1.heap.size W0 []) := qI (BW.new (by rw [Gk.o]; exact zp rfl))
 rw [← Gk.o]
 refine (wbyte_34 yH Gv.o (by simp)).mono ?_
 rintro e w2 ⟨rfl, hb2, -⟩
 have Gw := qI hb2
 clear hb2
 go_wp2_with fail
 go_loopw [13] (fun i wr => ∃ k : Nat, i = .int .i64 k ∧ k ≤ s.size ∧ BW 70 W0 w1.heap.size wr (34 :: (s.data.toList.take k).flatMap yf)) (fun i _ => s.size - (intOf i).toNat)
 case atStart => exact ⟨0, rfl, Nat.zero_le _, Gw.o⟩
 case round =>
  obtain ⟨k, rfl, hk, hb⟩ := hrel
  have HB := qI hb
  have Gb : Hid (zc [] w1 wr) := qI (Gd.o.trans hb.kept (by intro i hi; simp at hi; subst hi; exact .inr (Nat.le_refl _)))
  clear hb
  have hq : (34 :: (s.data.toList.take k).flatMap yf : List UInt8).length ≤ 6000001 := by
   have := quote_take s.data.toList k
   rw [HL.o] at this
   rw [List.length_cons]
   omega
  by_cases hlt : k < s.size
  ·have hltI : (k : Int) < s.size := by omega
   have hlt' : k < s.data.toList.length := by rw [HL.o]; exact hlt
   have Gh : Hid (34 :: (s.data.toList.take (k + 1)).flatMap yf = (34 :: (s.data.toList.take k).flatMap yf) ++ yf (s[k]'hlt)) := qI (by
    rw [List.take_succ_eq_append_getElem hlt', List.flatMap_append, List.cons_append]
    simp only [List.flatMap_cons, List.flatMap_nil, List.append_nil]
    rfl)
   have hx : ((s[k]'hlt).toNat : Int) ≤ 255 := by have := (s[k]'hlt).toNat_lt; omega
   clear hlt'
   revert hx Gh
   generalize 34 :: (s.data.toList.take k).flatMap yf = L at *
   generalize hsk : s[k]'hlt = x
   intro Gh hx
   by_cases h32 : x.toNat < 32
   ·have h32I : (x.toNat : Int) < 32 := by omega
    have HQ : Hid (yf x = [92, 117, 48, 48] ++ Zc [x]) := qI (by unfold yf; rw [if_pos h32]; rfl)
    have CH := qI (hex_any (w := wr.alloc (.cells #[.int .u8 x.toNat] 5)) (a := some ⟨wr.heap.size, 0, none⟩) (c := 1) (l := [x]) (J1 wr (bv x) 5 _ rfl) (by simp) (by simp))
    clear h32
    go_wp2_with (go_at_call 179; refine CH.o.mono ?_; rintro e w3 ⟨rfl, hk3⟩; have Jf := qI (((zc.refl [] wr).alloc (.cells #[.int .u8 x.toNat] 5)).then hk3); clear hk3)
    have Ja : Hid ((({ data := #[92, 117, 48, 48] } : ByteArray) ++ zf (Zc [x])).data.toList = [92, 117, 48, 48] ++ Zc [x]) := qI (by
     rw [ByteArray.data_append, Array.toList_append, zo])
    refine (qv yH (HB.o.stay Jf.o) (by omega) _ (by rw [← ByteArray.size_data, ← Array.length_toList, Ja.o, List.length_append, vX]; simp)).mono ?_
    rintro e w4 ⟨rfl, hb4, -⟩
    rw [Ja.o, ← HQ.o, ← Gh.o] at hb4
    have Gx := qI hb4
    clear hb4
    go_wp2_with fail
    case roundEnd => exact ⟨⟨k + 1, by go_num, by omega, Gx.o⟩, by simp [intOf]; omega⟩
   ·have h32I : ¬ (x.toNat : Int) < 32 := by omega
    by_cases hc : x = 34 ∨ x = 92
    ·have HQ : Hid (yf x = [92] ++ [x]) := qI (by unfold yf; rw [if_neg h32, if_pos hc]; rfl)
     have hg : ((x.toNat : Int) == 34) = true ∨ (((x.toNat : Int) == 34) = false ∧ ((x.toNat : Int) == 92) = true) := by
      rcases hc with rfl | rfl
      ·exact .inl rfl
      ·exact .inr ⟨rfl, rfl⟩
     clear hc h32
     rcases hg with g1 | ⟨g1, g2⟩
     all_goals
      go_wp2_with fail
      refine (wbyte_92 yH HB.o (by omega)).mono ?_
      rintro e w3 ⟨rfl, hb3, -⟩
      have Gs := qI hb3
      clear hb3
      go_wp2_with fail
      refine (y9 yH Gs.o (by rw [List.length_append]; simp only [List.length_cons, List.length_nil]; omega) x).mono ?_
      rintro e w4 ⟨rfl, hb4, -⟩
      have Gx := qI hb4
      clear hb4
      go_wp2_with fail
      case roundEnd => exact ⟨⟨k + 1, by go_num, by omega, by rw [Gh.o, HQ.o, ← List.append_assoc]; exact Gx.o⟩, by simp [intOf]; omega⟩
    ·have HQ : Hid (yf x = [x]) := qI (by unfold yf; rw [if_neg h32, if_neg hc])
     have hn : ∀ v : UInt8, x ≠ v → ((x.toNat : Int) == (v.toNat : Int)) = false := fun v hv => (qE (fun e => hv (UInt8.toNat_inj.1 e))).1
     have g1 : ((x.toNat : Int) == 34) = false := hn 34 (fun e => hc (.inl e))
     have g2 : ((x.toNat : Int) == 92) = false := hn 92 (fun e => hc (.inr e))
     clear hc h32 hn
     go_wp2_with fail
     refine (y9 yH HB.o (by omega) x).mono ?_
     rintro e w3 ⟨rfl, hb3, -⟩
     have Gs := qI hb3
     clear hb3
     go_wp2_with fail
     case roundEnd => exact ⟨⟨k + 1, by go_num, by omega, by rw [Gh.o, HQ.o]; exact Gs.o⟩, by simp [intOf]; omega⟩
  ·obtain rfl : k = s.size := by omega
   have HT : Hid ((34 :: (s.data.toList.take s.size).flatMap yf) ++ [34] = yr s.data.toList) := qI (by
    rw [List.take_of_length_le (by rw [HL.o]; exact Nat.le_refl _)]
    rfl)
   revert hq HB HT
   generalize 34 :: (s.data.toList.take s.size).flatMap yf = L
   intro HB hq HT
   go_wp2_with (first
    | (go_at_call 98; refine (wbyte_34 yH HB.o (by omega)).mono ?_; rintro e w3 ⟨rfl, hb3, -⟩; rw [HT.o] at hb3; have Gs := qI hb3; clear hb3)
    | (go_at_call 57; refine (kn Gs.o (by rw [← HT.o, List.length_append]; simp only [List.length_cons, List.length_nil]; omega) (by unfold yr; exact List.cons_ne_nil _ _)).mono ?_; rintro e w4 ⟨rfl, hk4, -⟩))
   go_ret2
   exact ⟨rfl, (Ga.o.then Gd.o).trans hk4 (by intro i hi; simp at hi; subst hi; exact .inr Ga.o.size)⟩
def jq {α : Type} (v : VS α) (m : Int) (s : ByteArray) (l k : Nat) : Prop :=
 (v.kind = 1 ∧ m = 0 ∧ s = ⟨#[]⟩ ∧ l = 0 ∧ k = 0) ∨ (v.kind = 2 ∧ (v.num = 0 ∨ v.num = 1) ∧ m = v.num ∧ s = ⟨#[]⟩ ∧ l = 0 ∧ k = 0) ∨
 (v.kind = 3 ∧ (-9007199254740991 ≤ v.num ∧ v.num ≤ 9007199254740991) ∧ m = v.num ∧ s = ⟨#[]⟩ ∧ l = 0 ∧ k = 0) ∨ (v.kind = 4 ∧ zX v.s = true ∧ m = 0 ∧ s = v.s ∧ l = 0 ∧ k = 0) ∨
 (v.kind = 5 ∧ m = 0 ∧ s = ⟨#[]⟩ ∧ l = v.l.length ∧ k = 0) ∨ (v.kind = 6 ∧ m = 0 ∧ s = ⟨#[]⟩ ∧ l = 0 ∧ k = v.m.length)
theorem xN {α : Type} (l : List α) : l.isEmpty = decide (l.length = 0) := by cases l <;> simp
theorem bare_own {α : Type} {v : VS α} {m : Int} {s : ByteArray} {l k : Nat} (h : jq v m s l k) :
  zE v = (decide (v.num = m) && decide (v.s = s) && decide (v.l.length = l) && decide (v.m.length = k) && (if v.kind = 6 then yB v.m else true)) := by
 unfold zE jP
 simp only [xN]
 rcases h with ⟨h1, rfl, rfl, rfl, rfl⟩ | ⟨h1, h2, rfl, rfl, rfl, rfl⟩ | ⟨h1, h2, rfl, rfl, rfl, rfl⟩ | ⟨h1, h2, rfl, rfl, rfl, rfl⟩ | ⟨h1, rfl, rfl, rfl, rfl⟩ | ⟨h1, rfl, rfl, rfl, rfl⟩
 ·rw [h1]; simp
 ·rw [h1]; simp [h2]
 ·rw [h1]; simp [h2]
 ·rw [h1]; simp [h2, Bool.and_assoc]
 ·rw [h1]; simp
 ·rw [h1]
  simp only [if_neg (show ¬ ((6 : Int) = 1) by decide), if_neg (show ¬ ((6 : Int) = 2) by decide), if_neg (show ¬ ((6 : Int) = 3) by decide), if_neg (show ¬ ((6 : Int) = 4) by decide), if_neg (show ¬ ((6 : Int) = 5) by decide), if_pos]
  cases yB v.m <;> cases decide (v.num = 0) <;> cases decide (v.s = ⟨#[]⟩) <;> cases decide (v.l.length = 0) <;> simp
def xL {α : Type} (r : α → Bool) : List ByteArray → List (ByteArray × α) → Bool
 | _, [] => true
 | seen, p :: t => zX p.1 && r p.2 && !(seen.any (fun k => decide (k = p.1))) && xL r (seen ++ [p.1]) t
theorem Qg {α : Type} (r : α → Bool) : ∀ (m : List (ByteArray × α)) (seen : List ByteArray), seen.Nodup →
  (xL r seen m = true ↔ (∀ p, p ∈ m → zX p.1 = true ∧ r p.2 = true) ∧ (seen ++ m.map (fun p => p.1)).Nodup)
 | [], seen, hs => by simp [xL, hs]
 | p :: t, seen, hs => by
  unfold xL
  rw [Bool.and_eq_true, Bool.and_eq_true, Bool.and_eq_true]
  by_cases hk : p.1 ∈ seen
  ·have h1 : (seen.any (fun k => decide (k = p.1))) = true := List.any_eq_true.2 ⟨p.1, hk, by simp⟩
   rw [h1]
   constructor
   ·rintro ⟨⟨_, h⟩, _⟩; simp at h
   ·rintro ⟨_, h⟩
    exact absurd hk (fun q => by
     have := (List.nodup_append.1 h).2.2 p.1 q p.1 (by simp)
     exact this rfl)
  ·have h1 : (seen.any (fun k => decide (k = p.1))) = false := by
    rw [List.any_eq_false]
    intro x hx e
    exact hk (by rw [decide_eq_true_iff] at e; rw [← e]; exact hx)
   have hs' : (seen ++ [p.1]).Nodup := by
    refine List.nodup_append.2 ⟨hs, by simp, ?_⟩
    intro a ha b hb e
    simp at hb
    exact hk (by rw [← hb, ← e]; exact ha)
   rw [h1, Qg r t (seen ++ [p.1]) hs']
   simp only [List.map_cons, List.append_assoc, List.cons_append, List.nil_append, Bool.not_false, and_true, List.mem_cons, forall_eq_or_imp]
   constructor
   ·rintro ⟨h2, h3, h4⟩; exact ⟨⟨h2, h3⟩, h4⟩
   ·rintro ⟨⟨h2, h3⟩, h4⟩; exact ⟨h2, h3, h4⟩
theorem pairsOk_all {α : Type} (r : α → Bool) (m : List (ByteArray × α)) : xL r [] m = (yB m && m.all (fun p => r p.2)) := by
 rw [Bool.eq_iff_iff, Qg r m [] List.nodup_nil, Bool.and_eq_true]
 unfold yB
 rw [Bool.and_eq_true, List.all_eq_true, List.all_eq_true, decide_eq_true_iff, List.nil_append]
 constructor
 ·rintro ⟨h1, h2⟩; exact ⟨⟨fun p hp => (h1 p hp).1, h2⟩, fun p hp => (h1 p hp).2⟩
 ·rintro ⟨⟨h1, h2⟩, h3⟩; exact ⟨fun p hp => ⟨h1 p hp, h3 p hp⟩, h2⟩
theorem right_bare {n : Nat} {v : VS (V n)} {m : Int} {s : ByteArray} {l k : Nat} (h : jq v m s l k) :
  zn (n + 1) v = (decide (v.num = m) && decide (v.s = s) && decide (v.l.length = l) && decide (v.m.length = k) && v.l.all (zn n) && xL (zn n) [] v.m) := by
 have e : zn (n + 1) v = (zE v && v.kids.all (zn n)) := rfl
 have ek : v.kids.all (zn n) = (v.l.all (zn n) && v.m.all (fun p => zn n p.2)) := by
  unfold VS.kids
  rw [List.all_append, List.all_map]
  rfl
 rw [e, bare_own h, ek, pairsOk_all]
 by_cases h6 : v.kind = 6
 ·rw [if_pos h6]
  cases yB v.m <;> cases v.l.all (zn n) <;> cases v.m.all (fun p => zn n p.2) <;> simp
 ·rw [if_neg h6]
  have hk : k = 0 := by
   rcases h with h | h | h | h | h | h
   ·exact h.2.2.2.2
   ·exact h.2.2.2.2.2
   ·exact h.2.2.2.2.2
   ·exact h.2.2.2.2.2
   ·exact h.2.2.2.2
   ·exact absurd h.1 h6
  subst hk
  by_cases hm : v.m.length = 0
  ·have := List.eq_nil_of_length_eq_zero hm
   rw [this]
   cases v.l.all (zn n) <;> simp [yB]
  ·simp [hm]
open Go.Maps (Keyed)
theorem keyStr : Keyed Tryz.prog 9 := Maps.string_keyed Tryz.underlying9
theorem sameStr (x y : List UInt8) : (Lit.string x).sameKey (.string y) = decide (x = y) := by
 by_cases h : x = y <;> simp [Lit.sameKey, h]
theorem keyOfStr (s : ByteArray) (hs : s.size ≤ 281474976710656) : keyOf Tryz.prog 9 (.string s) = some (.string s.data.toList) := Go.WideMaps.keyOf_string_mk (P := Tryz.prog) Tryz.underlying9 (by simp only [maxLen]; omega)
def xJ (w : World) (b : Nat) (seen : List ByteArray) : Prop :=
 ∃ n M, bN Tryz.prog w 9 b n M ∧ n ≤ seen.length ∧ ∀ s : ByteArray, M (.string s.data.toList) = if seen.any (fun k => decide (k = s)) = true then some (Value.bool true) else none
theorem seen_new {w : World} {b : Nat} (hb : w.heap.size = b) : xJ (w.alloc (.map #[] 0)) b [] := by
 subst hb
 exact ⟨0, _, mapAt_made _ w _, Nat.le_refl _, fun s => by simp⟩
theorem xJ.kept {w w' : World} {b : Nat} {seen : List ByteArray} {X : List Nat} (h : xJ w b seen) (k : zc X w w') (hb : b ∉ X) : xJ w' b seen := by
 obtain ⟨n, M, h1, h2, h3⟩ := h
 exact ⟨n, M, h1.kept k hb, h2, h3⟩
theorem xJ.kept0 {w w' : World} {b : Nat} {seen : List ByteArray} (h : xJ w b seen) (k : zc [] w w') : xJ w' b seen := h.kept k (by simp)
theorem xJ.look {w : World} {b : Nat} {seen : List ByteArray} (h : xJ w b seen) (s : ByteArray) (hs : s.size ≤ 281474976710656) :
  (Instr.lookup 176 (.map (some b)) (.string s) false).run Tryz.prog w = .ok (.bool (seen.any (fun k => decide (k = s)))) w := by
 obtain ⟨n, M, h1, h2, h3⟩ := h
 have h4 := (h1.lookup keyStr Tryz.underlying176 (z := .bool false) (Tryz.zeroValue4 w) (keyOfStr s hs)).2
 rw [h4, h3 s]
 cases seen.any (fun k => decide (k = s)) <;> rfl
theorem xJ.put {w : World} {b : Nat} {seen : List ByteArray} (h : xJ w b seen) (s : ByteArray) (hs : s.size ≤ 281474976710656) (hl : seen.length ≤ 100000000) :
  ∃ w', (Instr.mapUpdate 176 (.map (some b)) (.string s) (.bool true)).run Tryz.prog w = .ok () w' ∧ xJ w' b (seen ++ [s]) ∧ zc [b] w w' := by
 obtain ⟨n, M, h1, h2, h3⟩ := h
 obtain ⟨w', hr, h4, h5, _⟩ := h1.update keyStr Tryz.underlying176 (by simp only [maxLen]; omega) (keyOfStr s hs) (.bool true)
 refine ⟨w', hr, ⟨n + 1, _, h4, by rw [List.length_append]; simp; omega, fun t => ?_⟩, h5⟩
 show (if (Lit.string t.data.toList).sameKey (.string s.data.toList) = true then some (Value.bool true) else M (.string t.data.toList)) = _
 rw [sameStr, List.any_append]
 by_cases e : t = s
 ·subst e
  rw [if_pos (by simp), if_pos (by simp)]
 ·have h7 : t.data.toList ≠ s.data.toList := fun q => e (kA q)
  have h8 : [s].any (fun k => decide (k = t)) = false := by simp [Ne.symm e]
  rw [if_neg (by simpa using h7), h3 t, h8, Bool.or_false]
def jY : List ByteArray → List ByteArray → Bool
 | _, [] => true
 | seen, k :: t => !(seen.any (fun x => decide (x = k))) && zX k && jY (seen ++ [k]) t
theorem K4 : ∀ (l seen : List ByteArray), seen.Nodup → (jY seen l = true ↔ (∀ k, k ∈ l → zX k = true) ∧ (seen ++ l).Nodup)
 | [], seen, hs => by simp [jY, hs]
 | k :: t, seen, hs => by
  unfold jY
  rw [Bool.and_eq_true, Bool.and_eq_true]
  by_cases hk : k ∈ seen
  ·have h1 : (seen.any (fun x => decide (x = k))) = true := List.any_eq_true.2 ⟨k, hk, by simp⟩
   rw [h1]
   constructor
   ·rintro ⟨⟨h, _⟩, _⟩; simp at h
   ·rintro ⟨_, h⟩
    exact absurd rfl ((List.nodup_append.1 h).2.2 k hk k (by simp))
  ·have h1 : (seen.any (fun x => decide (x = k))) = false := by
    rw [List.any_eq_false]
    intro x hx e
    rw [decide_eq_true_iff] at e
    exact hk (e ▸ hx)
   have hs' : (seen ++ [k]).Nodup := by
    refine List.nodup_append.2 ⟨hs, by simp, ?_⟩
    intro a ha b hb e
    simp at hb
    exact hk (by rw [← hb, ← e]; exact ha)
   rw [h1, K4 t (seen ++ [k]) hs']
   simp only [List.append_assoc, List.cons_append, List.nil_append, Bool.not_false, true_and, List.mem_cons, forall_eq_or_imp]
   constructor
   ·rintro ⟨h2, h3, h4⟩; exact ⟨⟨h2, h3⟩, h4⟩
   ·rintro ⟨⟨h2, h3⟩, h4⟩; exact ⟨h2, h3, h4⟩
theorem keysGo_all {α : Type} (m : List (ByteArray × α)) : jY [] (m.map (fun p => p.1)) = yB m := by
 rw [Bool.eq_iff_iff, K4 _ [] List.nodup_nil]
 unfold yB
 rw [Bool.and_eq_true, List.all_eq_true, decide_eq_true_iff, List.nil_append]
 constructor
 ·rintro ⟨h1, h2⟩; exact ⟨fun p hp => h1 p.1 (List.mem_map.2 ⟨p, hp, rfl⟩), h2⟩
 ·rintro ⟨h1, h2⟩; exact ⟨fun k hk => by obtain ⟨p, hp, rfl⟩ := List.mem_map.1 hk; exact h1 p hp, h2⟩
theorem qm {w : World} {g : Nat} (hg : w.heap.size = g) (k m : Int) (s : ByteArray) (a b : Value) (t : Nat) : z8 (w.alloc (.cells #[.int .i64 k, .int .i64 m, .string s, a, b] t)) g k m s a b := by
 subst hg; exact yg w k m s a b t
theorem JN {α : Type} {l : List α} {k : Nat} (h : k < l.length) : l.drop k = l[k] :: l.drop (k + 1) := List.drop_eq_getElem_cons h
theorem ZC {α : Type} {r : α → α → Bool} {xs ys : List α} {k : Nat} (h : k < xs.length) (h' : k < ys.length) : eqL r (xs.drop k) (ys.drop k) = (r xs[k] ys[k] && eqL r (xs.drop (k + 1)) (ys.drop (k + 1))) := by
 rw [JN h, JN h']; rfl
theorem Y4 {α : Type} {r : α → α → Bool} {xs ys : List α} (h : xs.length = ys.length) : eqL r (xs.drop xs.length) (ys.drop xs.length) = true := by
 rw [List.drop_length, h, List.drop_length]; rfl
theorem ZA {α : Type} {r : α → α → Bool} : ∀ {xs ys : List α}, xs.length ≠ ys.length → eqL r xs ys = false
 | [], [], h => absurd rfl h
 | [], _ :: _, _ => rfl
 | _ :: _, [], _ => rfl
 | x :: xs, y :: ys, h => by
  show (r x y && eqL r xs ys) = false
  rw [ZA (fun e => h (by simp [e]))]
  simp
theorem eqV_eq {n : Nat} (a b : VS (V n)) : eqV (n + 1) a b = (decide (a.kind = b.kind) && decide (a.num = b.num) && decide (a.s = b.s) && eqL (eqV n) a.l b.l && eqL (fun p q => decide (p.1 = q.1) && eqV n p.2 q.2) a.m b.m) := rfl
def kO (n : Nat) : Prop := ∀ (va vb : V n) {S T : Nat → Prop} {w : World} {ca cb : List Value}, Rep n S w ca va → Rep n T w cb vb → zU n va →
    Calls Tryz.prog 18 #[.agg ca.toArray, .agg cb.toArray] w fun e w' => e = .returned (.bool (eqV n va vb)) ∧ zc [] w w'
theorem QF {n : Nat} (known : kO n) : kO (n + 1) := fun (va : VS (V n)) (vb : VS (V n)) {S} {T} {w} {ca} {cb} h h' hs => by
  have Jg := qI h
  have Jb := qI h'
  have Jc := qI hs
  obtain ⟨vl, vm, lcs, mcs, h⟩ := h
  obtain ⟨a, c, b, e, rfl, rfl, rfl⟩ := h.forms
  have H := qI h
  obtain ⟨vl', vm', lcs', mcs', h'⟩ := h'
  obtain ⟨a', c', b', e', rfl, rfl, rfl⟩ := h'.forms
  have H' := qI h'
  have IH := qI known
  have Gn := qI (eqV_eq va vb)
  obtain ⟨W2, Gf⟩ : ∃ W2, Hid (W2 = (w.alloc (.cells #[.int .i64 va.kind, .int .i64 va.num, .string va.s, .slice a va.l.length c, .slice b va.m.length e] 25)).alloc (.cells #[.int .i64 vb.kind, .int .i64 vb.num, .string vb.s, .slice a' vb.l.length c', .slice b' vb.m.length e'] 25)) := ⟨_, qI rfl⟩
  have Gd : Hid (zc [] w W2) := qI (by rw [Gf.o]; exact ((zc.refl [] w).alloc _).alloc _)
  have HB : Hid (z8 W2 w.heap.size va.kind va.num va.s (.slice a va.l.length c) (.slice b va.m.length e)) := qI (by rw [Gf.o]; exact (yg w _ _ _ _ _ _).kept0 ((zc.refl [] _).alloc _))
  have Gy : Hid (z8 W2 (w.heap.size + 1) vb.kind vb.num vb.s (.slice a' vb.l.length c') (.slice b' vb.m.length e')) := qI (by rw [Gf.o]; exact qm (by simp) _ _ _ _ _ _)
  have hlv : va.l.length ≤ 20000 := by have := hs.few; omega
  have hmv : va.m.length ≤ 20000 := by have := hs.few; omega
  obtain ⟨c0, c1, c2, c3, c4⟩ := HB.o
  obtain ⟨d0, d1, d2, d3, d4⟩ := Gy.o
  rw [Gf.o] at c0 c1 c2 c3 c4 d0 d1 d2 d3 d4
  clear h h' hs
  by_cases hkind : va.kind = vb.kind
  rotate_left
  ·obtain ⟨f1, f2⟩ := zy hkind
   have HF : Hid (eqV (n + 1) va vb = false) := qI (by rw [Gn.o]; simp [hkind])
   clear hkind
   go_enter Tryz.func18, Tryz.ntmps18
   go_wp2_with fail
   go_ret
   rw [HF.o, ← Gf.o]
   exact ⟨rfl, Gd.o⟩
  obtain ⟨fkind1, fkind2⟩ := yk hkind
  have Hhkind := qI hkind
  clear hkind
  by_cases hnum : va.num = vb.num
  rotate_left
  ·obtain ⟨f1, f2⟩ := zy hnum
   have HF : Hid (eqV (n + 1) va vb = false) := qI (by rw [Gn.o]; simp [hnum])
   clear hnum
   go_enter Tryz.func18, Tryz.ntmps18
   go_wp2_with fail
   go_ret
   rw [HF.o, ← Gf.o]
   exact ⟨rfl, Gd.o⟩
  obtain ⟨fnum1, fnum2⟩ := yk hnum
  have Hhnum := qI hnum
  clear hnum
  by_cases hstr : va.s = vb.s
  rotate_left
  ·obtain ⟨f1, f2⟩ := xW hstr
   have HF : Hid (eqV (n + 1) va vb = false) := qI (by rw [Gn.o]; simp [hstr])
   clear hstr
   go_enter Tryz.func18, Tryz.ntmps18
   go_wp2_with fail
   go_ret
   rw [HF.o, ← Gf.o]
   exact ⟨rfl, Gd.o⟩
  obtain ⟨fstr1, fstr2⟩ := qd hstr
  have Hhstr := qI hstr
  clear hstr
  by_cases hll : va.l.length = vb.l.length
  rotate_left
  ·obtain ⟨f1, f2⟩ := qE hll
   have HF : Hid (eqV (n + 1) va vb = false) := qI (by rw [Gn.o, ZA hll]; simp)
   clear hll
   go_enter Tryz.func18, Tryz.ntmps18
   go_wp2_with fail
   go_ret
   rw [HF.o, ← Gf.o]
   exact ⟨rfl, Gd.o⟩
  obtain ⟨fll1, fll2⟩ := jZ hll
  have Hhll := qI hll
  clear hll
  by_cases hml : va.m.length = vb.m.length
  rotate_left
  ·obtain ⟨f1, f2⟩ := qE hml
   have HF : Hid (eqV (n + 1) va vb = false) := qI (by rw [Gn.o, ZA hml]; simp)
   clear hml
   go_enter Tryz.func18, Tryz.ntmps18
   go_wp2_with fail
   go_ret
   rw [HF.o, ← Gf.o]
   exact ⟨rfl, Gd.o⟩
  obtain ⟨fml1, fml2⟩ := jZ hml
  have Hhml := qI hml
  clear hml
  have Gt : Hid (eqV (n + 1) va vb = (eqL (eqV n) va.l vb.l && eqL (fun p q => decide (p.1 = q.1) && eqV n p.2 q.2) va.m vb.m)) := qI (by rw [Gn.o]; simp [Hhkind.o, Hhnum.o, Hhstr.o])
  have hlI : (vb.l.length : Int) ≤ 20000 := by have := Hhll.o; omega
  go_enter Tryz.func18, Tryz.ntmps18
  go_wp2_with fail
  rw [← Gf.o]
  clear c0 c1 c2 c3 c4 d0 d1 d2 d3 d4 fkind1 fkind2 fnum1 fnum2 fstr1 fstr2 fll1 fll2 fml1 fml2
  go_loopw [5] (fun i wr => ∃ k : Nat, i = .int .i64 k ∧ k ≤ va.l.length ∧ eqL (eqV n) (va.l.drop k) (vb.l.drop k) = eqL (eqV n) va.l vb.l ∧ zc [] W2 wr) (fun i _ => va.l.length - (intOf i).toNat)
  case atStart => exact ⟨0, rfl, Nat.zero_le _, rfl, zc.refl _ _⟩
  case round =>
   obtain ⟨k, rfl, hk, hg, hkr⟩ := hrel
   have HG := qI hg
   have Gg := qI hkr
   have Gb := qI (Gd.o.trans' hkr)
   obtain ⟨c0, c1, c2, c3, c4⟩ := HB.o.kept0 hkr
   obtain ⟨d0, d1, d2, d3, d4⟩ := Gy.o.kept0 hkr
   clear hg hkr
   by_cases hlt : k < va.l.length
   ·have hltI : (k : Int) < va.l.length := by omega
    have hltI' : (k : Int) < vb.l.length := by have := Hhll.o; omega
    have hlt' : k < vb.l.length := by omega
    obtain ⟨g, o, cap, kd, nm, st, a1, b1, he, q0, q1, q2, q3, q4, hr⟩ := H.o.at_l Gb.o k hlt
    simp only [Value.slice.injEq] at he
    obtain ⟨rfl, -, rfl⟩ := he
    obtain ⟨g', o', cap', kd', nm', st', a1', b1', he, p0, p1, p2, p3, p4, hr'⟩ := H'.o.at_l Gb.o k hlt'
    simp only [Value.slice.injEq] at he
    obtain ⟨rfl, -, rfl⟩ := he
    have HR := qI hr
    have Gp := qI hr'
    have Gq := qI (Jc.o.kid (xr (List.getElem_mem hlt)))
    have CL : ∀ z : Ext wr, Calls Tryz.prog 18 #[.agg #[.int .i64 kd, .int .i64 nm, .string st, a1, b1], .agg #[.int .i64 kd', .int .i64 nm', .string st', a1', b1']] z.w fun e w' => e = .returned (.bool (eqV n va.l[k] vb.l[k])) ∧ zc [] z.w w' := fun z => IH.o _ _ (HR.o.kept0 z.k) (Gp.o.kept0 z.k) Gq.o
    have HD := qI (ZC (r := eqV n) hlt hlt')
    clear hr hr'
    revert CL HD
    generalize eqV n va.l[k] vb.l[k] = r
    intro CL HD
    have E0 := zv c3
    have E1 := zv d3
    have E2 := zv q0
    have E3 := zv q1
    have E4 := zv q2
    have E5 := zv q3
    have E6 := zv q4
    have E7 := zv p0
    have E8 := zv p1
    have E9 := zv p2
    have E10 := zv p3
    have E11 := zv p4
    go_wp2_with fail
    refine zR wr (by kernel_rfl) (by kernel_rfl) (zc.refl _ _) ?_
    clear c0 c1 c2 c4 d0 d1 d2 d4 q0 q1 q2 q3 q4 p0 p1 p2 p3 p4 c3 d3
    repeat go_big_quiet_step ((go_at_call 18; exact ext_of (CL _)))
    refine wpQuiet_nil ?_
    intro w2 hk2
    cases r
    ·go_wp2_with fail
     go_ret
     rw [Gt.o, ← HG.o, HD.o]
     exact ⟨by simp, Gb.o.then hk2⟩
    ·go_wp2_with fail
     case roundEnd =>
      refine ⟨⟨k + 1, by go_num, by omega, ?_, Gg.o.then hk2⟩, by simp [intOf]; omega⟩
      rw [← HG.o, HD.o]
      simp
   ·obtain rfl : k = va.l.length := by omega
    have hnI : (vb.l.length : Int) ≤ (va.l.length : Int) := by have := Hhll.o; omega
    have Gl : Hid (eqV (n + 1) va vb = eqL (fun p q => decide (p.1 = q.1) && eqV n p.2 q.2) va.m vb.m) := qI (by rw [Gt.o, ← HG.o, Y4 Hhll.o]; simp)
    go_wp2_with fail
    clear HG Gb c0 c1 c2 c3 c4 d0 d1 d2 d3 d4
    go_loopw [6] (fun i wr2 => ∃ k : Nat, i = .int .i64 k ∧ k ≤ va.m.length ∧ eqL (fun p q => decide (p.1 = q.1) && eqV n p.2 q.2) (va.m.drop k) (vb.m.drop k) = eqL (fun p q => decide (p.1 = q.1) && eqV n p.2 q.2) va.m vb.m ∧ zc [] W2 wr2) (fun i _ => va.m.length - (intOf i).toNat)
    case atStart => exact ⟨0, rfl, Nat.zero_le _, rfl, Gg.o⟩
    case round =>
     obtain ⟨k, rfl, hk, hg, hkr⟩ := hrel
     clear Gg
     have HG := qI hg
     have Gg := qI hkr
     have Gb := qI (Gd.o.trans' hkr)
     obtain ⟨c0, c1, c2, c3, c4⟩ := HB.o.kept0 hkr
     obtain ⟨d0, d1, d2, d3, d4⟩ := Gy.o.kept0 hkr
     clear hg hkr
     by_cases hlt : k < va.m.length
     ·have hltI : (k : Int) < va.m.length := by omega
      have hltI' : (k : Int) < vb.m.length := by have := Hhml.o; omega
      have hlt' : k < vb.m.length := by omega
      obtain ⟨g, o, cap, kd, nm, st, a1, b1, he, q0, q1, q2, q3, q4, q5, hr⟩ := H.o.at_m Gb.o k hlt
      simp only [Value.slice.injEq] at he
      obtain ⟨rfl, -, rfl⟩ := he
      obtain ⟨g', o', cap', kd', nm', st', a1', b1', he, p0, p1, p2, p3, p4, p5, hr'⟩ := H'.o.at_m Gb.o k hlt'
      simp only [Value.slice.injEq] at he
      obtain ⟨rfl, -, rfl⟩ := he
      have HR := qI hr
      have Gp := qI hr'
      have Gq := qI (Jc.o.kid (xh (List.getElem_mem hlt)))
      have HD := qI (ZC (r := fun p q : ByteArray × V n => decide (p.1 = q.1) && eqV n p.2 q.2) hlt hlt')
      clear hr hr'
      revert q0 p0 HR Gp Gq HD
      generalize va.m[k] = x
      generalize vb.m[k] = y
      obtain ⟨key, x⟩ := x
      obtain ⟨key', y⟩ := y
      intro p0 q0 HR Gp Gq HD
      simp only at q0 p0 HR Gp Gq HD
      have CL : ∀ z : Ext wr, Calls Tryz.prog 18 #[.agg #[.int .i64 kd, .int .i64 nm, .string st, a1, b1], .agg #[.int .i64 kd', .int .i64 nm', .string st', a1', b1']] z.w fun e w' => e = .returned (.bool (eqV n x y)) ∧ zc [] z.w w' := fun z => IH.o _ _ (HR.o.kept0 z.k) (Gp.o.kept0 z.k) Gq.o
      have E0 := zv c4
      have E1 := zv d4
      have E2 := zv q0
      have E3 := zv q1
      have E4 := zv q2
      have E5 := zv q3
      have E6 := zv q4
      have E7 := zv q5
      have E8 := zv p0
      have E9 := zv p1
      have E10 := zv p2
      have E11 := zv p3
      have E12 := zv p4
      have E13 := zv p5
      by_cases hkey : key = key'
      ·obtain ⟨fk1, fk2⟩ := qd hkey
       have Gr : Hid (eqL (fun p q => decide (p.1 = q.1) && eqV n p.2 q.2) (va.m.drop k) (vb.m.drop k) = (eqV n x y && eqL (fun p q => decide (p.1 = q.1) && eqV n p.2 q.2) (va.m.drop (k + 1)) (vb.m.drop (k + 1)))) := qI (by rw [HD.o, decide_eq_true hkey, Bool.true_and])
       clear hkey HD
       revert CL Gr
       generalize eqV n x y = r
       intro CL Gr
       go_wp2_with fail
       refine zR wr (by kernel_rfl) (by kernel_rfl) (zc.refl _ _) ?_
       clear c0 c1 c2 c4 d0 d1 d2 d4 q0 q1 q2 q3 q4 q5 p0 p1 p2 p3 p4 p5 c3 d3
       repeat go_big_quiet_step ((go_at_call 18; exact ext_of (CL _)))
       refine wpQuiet_nil ?_
       intro w2 hk2
       cases r
       ·go_wp2_with fail
        go_ret
        rw [Gl.o, ← HG.o, Gr.o]
        exact ⟨by simp, Gb.o.then hk2⟩
       ·go_wp2_with fail
        case roundEnd =>
         refine ⟨⟨k + 1, by go_num, by omega, ?_, Gg.o.then hk2⟩, by simp [intOf]; omega⟩
         rw [← HG.o, Gr.o]
         simp
      ·obtain ⟨fk1, fk2⟩ := xW hkey
       have Gr : Hid (eqL (fun p q => decide (p.1 = q.1) && eqV n p.2 q.2) (va.m.drop k) (vb.m.drop k) = false) := qI (by rw [HD.o, decide_eq_false hkey]; simp)
       clear hkey HD CL
       go_wp2_with fail
       refine zR wr (by kernel_rfl) (by kernel_rfl) (zc.refl _ _) ?_
       clear c0 c1 c2 c4 d0 d1 d2 d4 q0 q1 q2 q3 q4 q5 p0 p1 p2 p3 p4 p5 c3 d3
       repeat go_big_quiet_step (fail)
       refine wpQuiet_nil ?_
       intro w2 hk2
       go_wp2_with fail
       go_ret
       rw [Gl.o, ← HG.o, Gr.o]
       exact ⟨rfl, Gb.o.then hk2⟩
     ·obtain rfl : k = va.m.length := by omega
      have hnI2 : (vb.m.length : Int) ≤ (va.m.length : Int) := by have := Hhml.o; omega
      go_wp2_with fail
      go_ret
      rw [Gl.o, ← HG.o, Y4 Hhml.o]
      exact ⟨rfl, Gb.o⟩
theorem vD : ∀ (n : Nat), kO n
 | 0 => fun v _ {_} {_} {_} {_} {_} h _ _ => h.elim
 | n + 1 => QF (vD n)
theorem exact_any : ∀ (n : Nat) (va vb : V n) {S T : Nat → Prop} {w : World} {ca cb : List Value}, Rep n S w ca va → Rep n T w cb vb → zU n va →
  Calls Tryz.prog 18 #[.agg ca.toArray, .agg cb.toArray] w fun e w' => e = .returned (.bool (eqV n va vb)) ∧ zc [] w w' := fun n => vD n
theorem YU {w : World} {b : Nat} {s : ByteArray} (hb : w.heap[b]? = some (.cells #[.string s] 9 (0, 0))) {i : Nat} (hi : i < s.size) :
  Calls Tryz.prog 267 #[.int .i64 i, .pointer (some ⟨b, 0, none⟩)] w fun e w' => e = .returned (.int .i64 (Lib.indexByte x7 (s.data.toList[i]'(by simpa using hi)))) ∧ w = w' := by
 have c0 := zb (o := 0) (v := .string s) hb rfl
 have hiI : (i : Int) < s.size := by omega
 have HX : Hid (s.data.toList[i]'(by simpa using hi) = s[i]'hi) := qI rfl
 rw [HX.o]
 clear hb HX
 go_enter Tryz.func267, Tryz.ntmps267
 go_wp2_with (go_at_call 116; refine (x5 _ _ _).mono ?_; rintro e w' ⟨rfl, rfl⟩)
 go_ret
 refine ⟨?_, rfl⟩
 simp [x7]
theorem qf {T : ByteArray} (h : T ≠ ⟨#[]⟩) : T.toList.isEmpty = false ∧ (!T.toList.isEmpty) = true := by
 have h1 := (xW h).1
 have e : (⟨#[]⟩ : ByteArray).toList = [] := by decide +kernel
 rw [e] at h1
 have h2 : T.toList.isEmpty = false := by
  cases h3 : T.toList with
  | nil => rw [h3] at h1; cases h1
  | cons a l => rfl
 rw [h2]
 exact ⟨rfl, rfl⟩
theorem YE : ∀ (l : List UInt8) (k : Nat) (h : 2 * k + 1 < l.length), ∃ h2 : k < (xA l).length, (xA l)[k] = UInt8.ofNat (hv l[2 * k] * 16 + hv l[2 * k + 1])
 | [], k, h => by simp at h
 | [_], k, h => by simp at h
 | a :: b :: r, 0, h => ⟨by simp [xA], rfl⟩
 | a :: b :: r, k + 1, h => by
  obtain ⟨h2, h3⟩ := YE r k (by simp only [List.length_cons] at h; omega)
  refine ⟨by simp only [xA, List.length_cons]; omega, ?_⟩
  have e1 : (a :: b :: r)[2 * (k + 1)] = r[2 * k]'(by simp only [List.length_cons] at h; omega) := by
   simp only [show 2 * (k + 1) = 2 * k + 1 + 1 by omega, List.getElem_cons_succ]
  have e2 : (a :: b :: r)[2 * (k + 1) + 1] = r[2 * k + 1]'(by simp only [List.length_cons] at h; omega) := by
   simp only [show 2 * (k + 1) + 1 = 2 * k + 1 + 1 + 1 by omega, List.getElem_cons_succ]
  rw [e1, e2, ← h3]
  rfl
theorem ZO : ∀ (j : Nat) b, (⟨#[48, 49, 50, 51, 52, 53, 54, 55, 56, 57, 97, 98, 99, 100, 101, 102]⟩ : ByteArray).data.toList[j]? = some b → b.toNat < 128 := by
 intro j b h
 have hm : b ∈ ([48, 49, 50, 51, 52, 53, 54, 55, 56, 57, 97, 98, 99, 100, 101, 102] : List UInt8) := List.mem_of_getElem? h
 have ha : ([48, 49, 50, 51, 52, 53, 54, 55, 56, 57, 97, 98, 99, 100, 101, 102] : List UInt8).all (fun b => decide (b.toNat < 128)) = true := by decide
 simpa using List.all_eq_true.1 ha b hm
theorem hex_join (x y : Nat) (hx : x < 16) (hy : y < 16) : Value.int .u8 (bits .or .i64 ((x : Int) * 16) (y : Int) % 256) = bv (UInt8.ofNat (x * 16 + y)) := by
 rw [bits_join .i64 32 (by decide) (fun n h0 h1 => by rw [IntKind.wrap_i64]; omega) 4 _ _ (by omega) (by omega) (by omega) (by omega) (by omega) (by omega)]
 unfold bv
 congr 1
theorem unhex_no (s : ByteArray) (hs : s.size ≤ 1000000) (h : s.size % 2 = 1 ∨ s.data.toList.all qi = false) (w : World) :
  Calls Tryz.prog 262 #[.string s] w fun e w' => e = .returned (.tuple #[.slice none 0 0, .int .i64 10]) ∧ zc [] w w' := by
 obtain ⟨W1, Gi⟩ : ∃ W1, Hid (W1 = w.alloc (.cells #[.string s] 9)) := ⟨_, qI rfl⟩
 have Ga : Hid (zc [] w W1) := qI (by rw [Gi.o]; exact (zc.refl [] w).alloc _)
 have Gc : Hid (W1.heap[w.heap.size]? = some (.cells #[.string s] 9 (0, 0))) := qI (by rw [Gi.o]; exact zp rfl)
 have c0 := zb (o := 0) (v := .string s) Gc.o rfl
 have HH := qI h
 have hsI : (s.size : Int) ≤ 1000000 := by omega
 clear h
 by_cases ho : s.size % 2 = 1
 ·have ft : ((s.size : Int).tmod 2) = 1 := by rw [Int.tmod_eq_emod_of_nonneg (by omega)]; omega
  clear ho
  go_enter Tryz.func262, Tryz.ntmps262
  go_wp2_with fail
  rw [← Gi.o]
  go_ret2
  exact ⟨rfl, Ga.o⟩
 ·have ft : ((s.size : Int).tmod 2) = 0 := by rw [Int.tmod_eq_emod_of_nonneg (by omega)]; omega
  have hne : zf (Lib.trimS s.data.toList x7) ≠ ⟨#[]⟩ := fun e => by
   have h1 : Lib.trimS s.data.toList x7 = [] := by rw [← zo (Lib.trimS _ _), e]
   rw [JC] at h1
   have h2 : s.data.toList.all (x7.contains ·) = s.data.toList.all qi := by congr 1; funext c; exact Q0 c
   rw [h2] at h1
   rcases HH.o with h | h
   ·exact ho h
   ·rw [h] at h1; cases h1
  have CT := qI (libTrim s ⟨#[48, 49, 50, 51, 52, 53, 54, 55, 56, 57, 97, 98, 99, 100, 101, 102]⟩ W1 (by omega) (by decide) ZO)
  rw [show (⟨#[48, 49, 50, 51, 52, 53, 54, 55, 56, 57, 97, 98, 99, 100, 101, 102]⟩ : ByteArray).data.toList = x7 from rfl] at CT
  obtain ⟨g1, g2⟩ := qf hne
  clear ho hne
  revert CT g1 g2
  generalize zf (Lib.trimS s.data.toList x7) = T
  intro CT g1 g2
  go_enter Tryz.func262, Tryz.ntmps262
  go_wp2_with fail
  rw [← Gi.o]
  refine CT.o.mono ?_
  rintro e w2 ⟨rfl, hk2⟩
  go_wp2_with fail
  go_ret2
  exact ⟨rfl, Ga.o.then hk2⟩
theorem unhex_yes (s : ByteArray) (hs : s.size ≤ 1000000) (he : s.size % 2 = 0) (ha : s.data.toList.all qi = true) (w : World) :
  Calls Tryz.prog 262 #[.string s] w fun e w' => (∃ a c, e = .returned (.tuple #[.slice a (xA s.data.toList).length c, .int .i64 0]) ∧ w'.ownsRow w.heap.size 5 1 (.slice a (xA s.data.toList).length c) (xA s.data.toList).length ((xA s.data.toList).map bv)) ∧ zc [] w w' := by
 obtain ⟨W1, Gi⟩ : ∃ W1, Hid (W1 = w.alloc (.cells #[.string s] 9)) := ⟨_, qI rfl⟩
 have Ga : Hid (zc [] w W1) := qI (by rw [Gi.o]; exact (zc.refl [] w).alloc _)
 have Jh : Hid (W1.heap.size = w.heap.size + 1) := qI (by rw [Gi.o]; simp)
 have Gc : Hid (W1.heap[w.heap.size]? = some (.cells #[.string s] 9 (0, 0))) := qI (by rw [Gi.o]; exact zp rfl)
 have c0 := zb (o := 0) (v := .string s) Gc.o rfl
 have HL : Hid (s.data.toList.length = s.size) := qI (by simp)
 have HA : Hid (∀ i (h : i < s.data.toList.length), qi s.data.toList[i] = true) := qI (fun i h => List.all_eq_true.1 ha _ (List.getElem_mem h))
 have hsI : (s.size : Int) ≤ 1000000 := by omega
 have ft : ((s.size : Int).tmod 2) = 0 := by rw [Int.tmod_eq_emod_of_nonneg (by omega)]; omega
 have hnil : Lib.trimS s.data.toList x7 = [] := by
  rw [JC, ← ha]
  congr 1
  funext c
  exact Q0 c
 have CT := qI (libTrim s ⟨#[48, 49, 50, 51, 52, 53, 54, 55, 56, 57, 97, 98, 99, 100, 101, 102]⟩ W1 (by omega) (by decide) ZO)
 rw [show (⟨#[48, 49, 50, 51, 52, 53, 54, 55, 56, 57, 97, 98, 99, 100, 101, 102]⟩ : ByteArray).data.toList = x7 from rfl, hnil, show zf [] = ⟨#[]⟩ from rfl] at CT
 have HP := qI (QP s.data.toList)
 have Ji := qI (YE s.data.toList)
 have HE := qI he
 clear hnil ha he
 go_enter Tryz.func262, Tryz.ntmps262
 go_wp2_with fail
 rw [← Gi.o]
 refine CT.o.mono ?_
 rintro e w2 ⟨rfl, hk2⟩
 have Jj := qI hk2
 clear hk2 c0
 go_wp2_with fail
 go_loopw [5, 6] (fun out i wr => ∃ (k : Nat) (a : Option Addr) (c : Nat), i = .int .i64 (2 * k : Nat) ∧ 2 * k ≤ s.size ∧ out = .slice a k c ∧ wr.ownsRow W1.heap.size 5 1 (.slice a k c) k (((xA s.data.toList).take k).map bv) ∧ zc [] W1 wr) (fun _ i _ => s.size - (intOf i).toNat)
 case atStart => exact ⟨0, none, 0, rfl, Nat.zero_le _, rfl, World.ownsRow_nil _ _ _ _, Jj.o⟩
 case round =>
  obtain ⟨k, a, c, rfl, hk, rfl, hrow, hkr⟩ := hrel
  have Gm := qI hrow
  have Gg := qI hkr
  clear hrow hkr
  have hb := Gg.o.heap Gc.o (by simp)
  have HB := qI hb
  have c0 := zb (o := 0) (v := .string s) hb rfl
  clear hb
  by_cases hlt : 2 * k < s.size
  ·have h2 : 2 * k + 1 < s.size := by have := HE.o; omega
   have hl1 : 2 * k < s.data.toList.length := by rw [HL.o]; omega
   have hl2 : 2 * k + 1 < s.data.toList.length := by rw [HL.o]; omega
   obtain ⟨i1, i2, i3⟩ := yF _ (HA.o _ hl1)
   obtain ⟨j1, j2, j3⟩ := yF _ (HA.o _ hl2)
   obtain ⟨p1, p2⟩ := Ji.o k hl2
   have CA := qI (YU HB.o hlt)
   have CB := qI (YU HB.o h2)
   rw [i1] at CA
   rw [j1] at CB
   have HN : Hid ((xA s.data.toList).take (k + 1) = (xA s.data.toList).take k ++ [UInt8.ofNat (hv s.data.toList[2 * k] * 16 + hv s.data.toList[2 * k + 1])]) := qI (by rw [List.take_succ_eq_append_getElem p1, p2])
   have hltI : (2 : Int) * k < s.size := by omega
   have Jk : Hid (2 * k + 1 < s.size) := qI h2
   clear i1 i3 j1 j3 p1 p2
   revert CA CB HN i2 j2
   generalize hv s.data.toList[2 * k] = x
   generalize hv s.data.toList[2 * k + 1] = y
   intro i2 j2 CA CB HN
   clear hl1 hl2
   have i2I : (x : Int) < 16 := by omega
   have j2I : (y : Int) < 16 := by omega
   have ek : ((2 * k : Nat) : Int) = 2 * (k : Int) := by omega
   go_wp2_with fail
   rw [← ek]
   refine CA.o.mono ?_
   rintro e w3 ⟨rfl, rfl⟩
   have ek1 : ((2 * k + 1 : Nat) : Int) = 2 * (k : Int) + 1 := by omega
   go_wp2_with fail
   rw [← ek1]
   refine CB.o.mono ?_
   rintro e w4 ⟨rfl, rfl⟩
   go_wp2_with (at_builtin; refine yj Z8 (v := .slice a k c) (n := k) (zk Gm.o ((zc.refl [] wr).alloc _) (by simp)) (J1 wr _ _ _ rfl) (by simp [Value.oneCell']) (by simp only [maxLen]; omega) (by omega) (by have := Gg.o.size; simp; omega) rfl _ _ rfl rfl rfl ?_; intro v2 w5 hown hk5 _ hb5; obtain ⟨a5, c5, rfl, -, -⟩ := (Slc.of_row hown).form; have Gz := qI hown; have Jl := qI hk5; clear hown hk5 hb5)
   case roundEnd =>
    refine ⟨⟨k + 1, _, _, congrArg (Value.int .i64) (by omega), by have := Jk.o; omega, rfl, ?_, (Gg.o.alloc _).trans Jl.o (fun i hi => .inr (Gm.o.lt i (Option.mem_toList.1 hi)).1)⟩, by simp [intOf]; omega⟩
    have h9 := Gz.o
    rw [hex_join x y (by omega) (by omega)] at h9
    rw [HN.o, List.map_append]
    exact h9
  ·have HT : Hid ((xA s.data.toList).take k = xA s.data.toList ∧ k = (xA s.data.toList).length) := qI (by
    have h1 := HP.o
    have h2 := HL.o
    have h3 := HE.o
    exact ⟨List.take_of_length_le (by omega), by omega⟩)
   have hltI : (s.size : Int) ≤ 2 * k := by omega
   have ek : ((2 * k : Nat) : Int) = 2 * (k : Int) := by omega
   go_wp2_with fail
   go_ret2
   have h9 := Gm.o
   rw [HT.o.1, HT.o.2] at h9
   refine ⟨⟨a, c, congrArg (fun m : Nat => Ending.returned (Value.tuple #[.slice a m c, .int .i64 0])) HT.o.2, yN h9 (fun g hg => by have := (h9.lt g hg).1; have := Jh.o; omega)⟩, Ga.o.then Gg.o⟩
def kf (l : List UInt8) : Int := match qx l with | none => -1 | some n => n
theorem four_short {l : List UInt8} (h : l.length < 6) : qx l = none := by
 match l, h with
 | [], _ => rfl
 | [_], _ => rfl
 | [_, _], _ => rfl
 | [_, _, _], _ => rfl
 | [_, _, _, _], _ => rfl
 | [_, _, _, _, _], _ => rfl
 | _ :: _ :: _ :: _ :: _ :: _ :: _, h => simp only [List.length_cons] at h; omega
theorem six_of {l : List UInt8} (h : 6 ≤ l.length) : ∃ x y a b c d r, l = x :: y :: a :: b :: c :: d :: r := by
 match l, h with
 | x :: y :: a :: b :: c :: d :: r, _ => exact ⟨x, y, a, b, c, d, r, rfl⟩
theorem pair_no (a b : Int) (ha : -1 ≤ a ∧ a ≤ 1114111) (hb : -1 ≤ b ∧ b ≤ 1114111) (h : a < 55296 ∨ 56320 ≤ a ∨ b < 56320 ∨ 57344 ≤ b) (w : World) :
  Calls Tryz.prog 250 #[.int .i32 a, .int .i32 b] w fun e w' => e = .returned (.int .i32 (-1)) ∧ w = w' := by
 obtain ⟨ha1, ha2⟩ := ha
 obtain ⟨hb1, hb2⟩ := hb
 by_cases h1 : a < 55296
 ·go_enter Tryz.func250, Tryz.ntmps250
  go_wp2_with fail
  go_ret
  exact ⟨rfl, rfl⟩
 by_cases h2 : 56320 ≤ a
 ·go_enter Tryz.func250, Tryz.ntmps250
  go_wp2_with fail
  go_ret
  exact ⟨rfl, rfl⟩
 by_cases h3 : b < 56320
 ·go_enter Tryz.func250, Tryz.ntmps250
  go_wp2_with fail
  go_ret
  exact ⟨rfl, rfl⟩
 ·have h4 : 57344 ≤ b := by omega
  go_enter Tryz.func250, Tryz.ntmps250
  go_wp2_with fail
  go_ret
  exact ⟨rfl, rfl⟩
theorem pair_yes (a b : Int) (h1 : 55296 ≤ a) (h2 : a < 56320) (h3 : 56320 ≤ b) (h4 : b < 57344) (w : World) :
  Calls Tryz.prog 250 #[.int .i32 a, .int .i32 b] w fun e w' => e = .returned (.int .i32 (65536 + (a - 55296) * 1024 + (b - 56320))) ∧ w = w' := by
 have HE : Hid (65536 + (a - 55296) * 1024 + (b - 56320) = 65536 + (a - 55296) * 1024 + b - 56320) := qI (by omega)
 go_enter Tryz.func250, Tryz.ntmps250
 go_wp2_with fail
 go_ret
 rw [HE.o]
 exact ⟨rfl, rfl⟩
theorem gPow : Tryz.prog.globalNamed "internal/strconv.uint64pow10" = some 1 := by kernel_rfl
theorem first_eq : Rows.laid_unicode_utf8_first = Lib.firstData := Pinned.utf8First_eq
theorem ranges_eq : Rows.laid_unicode_CaseRanges = Lib.caseData := Pinned.caseRanges_eq
theorem accept_eq : Rows.laid_unicode_utf8_acceptRanges = Lib.acceptData := by kernel_rfl
theorem pow_eq : (Rows.laid_internal_strconv_uint64pow10 : DataW Unit) = Lib.tabData .u64 Lib.pow10Tab := by kernel_rfl
end Go.Proofs.YtpbphdkjjoipnaaGreatDoor

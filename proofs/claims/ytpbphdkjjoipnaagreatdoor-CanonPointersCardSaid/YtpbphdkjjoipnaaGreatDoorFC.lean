/- Parts of one proof, merged: XKA XKB XKC XK3A XK3B XK3C XKG XKM XKN XKO XKP XKQ XSp. -/
import Derived.Test.YtpbphdkjjoipnaaGreatDoorFA
import Derived.Deep.DeepCutAuto
import Derived.Deep.CutBlock
import Derived.Test.YtpbphdkjjoipnaaGreatDoorFB
import Derived.WalkSpells
import Derived.IntWalk
import Derived.Laws.BytesArg
import Derived.Laws.Cover1
import Derived.Shelf.SlSortCmp.NoneTotal
import Derived.Deep.MidRow
set_option linter.all false
set_option maxHeartbeats 12800000
set_option maxRecDepth 10000
set_option linter.unusedVariables false
set_option linter.unusedSimpArgs false
set_option linter.unnecessarySimpa false
namespace Go.Proofs.YtpbphdkjjoipnaaGreatDoor
open Go.RowKit
structure BoxAt (w : World) (g : Nat) (k m : Int) (s : ByteArray) (a b : Value) : Prop where
 c0 : w.cell? ⟨g, 0, none⟩ = some (.int .i64 k)
 c1 : w.cell? ⟨g, 1, none⟩ = some (.int .i64 m)
 c2 : w.cell? ⟨g, 2, none⟩ = some (.string s)
 c3 : w.cell? ⟨g, 3, none⟩ = some a
 c4 : w.cell? ⟨g, 4, none⟩ = some b
theorem box_at (w : World) (k m : Int) (s : ByteArray) (a b : Value) (t : Nat) : BoxAt (w.alloc (.cells #[.int .i64 k, .int .i64 m, .string s, a, b] t)) w.heap.size k m s a b := by
 have hb := heap_alloc_new w (.cells #[.int .i64 k, .int .i64 m, .string s, a, b] t)
 exact ⟨cell_head hb rfl, cell_head hb rfl, cell_head hb rfl, cell_head hb rfl, cell_head hb rfl⟩
theorem BoxAt.kept {w w' : World} {g : Nat} {k m : Int} {s : ByteArray} {a b : Value} (h : BoxAt w g k m s a b) {X : List Nat} (hk : Kept X w w') (hX : g ∉ X) : BoxAt w' g k m s a b :=
 ⟨hk.cell h.c0 hX, hk.cell h.c1 hX, hk.cell h.c2 hX, hk.cell h.c3 hX, hk.cell h.c4 hX⟩
theorem BoxAt.kept0 {w w' : World} {g : Nat} {k m : Int} {s : ByteArray} {a b : Value} (h : BoxAt w g k m s a b) (hk : Kept [] w w') : BoxAt w' g k m s a b := h.kept hk (by simp)
def BB : Nat := 1125899906842624
theorem tyVals : SliceTy Tryz.prog 22 25 5 80 (.agg #[.int .i64 0, .int .i64 0, .string ByteArray.empty, .slice none 0 0, .slice none 0 0]) := ⟨Tryz.underlying22, by kernel_rfl, by kernel_rfl, by decide⟩
theorem tyPairs : SliceTy Tryz.prog 23 60 6 96 (.agg #[.string ByteArray.empty, .int .i64 0, .int .i64 0, .string ByteArray.empty, .slice none 0 0, .slice none 0 0]) := ⟨Tryz.underlying23, by kernel_rfl, by kernel_rfl, by decide⟩
theorem Rep.one {n : Nat} {S : Nat → Prop} {w : World} {cs : List Value} {v : V n} (h : Rep n S w cs v) : ∀ u ∈ cs, u.oneCell' = true := by
 match n, v, h with
 | n + 1, v, h =>
  obtain ⟨vl, vm, lcs, mcs, h⟩ := h
  obtain ⟨a, c, b, d, _, _, rfl⟩ := h.forms
  intro u hu
  simp only [List.mem_cons, List.not_mem_nil, or_false] at hu
  rcases hu with rfl | rfl | rfl | rfl | rfl <;> rfl
theorem All2.mem_left {α β : Type} {R : α → β → Prop} {xs : List α} {ys : List β} (h : All2 R xs ys) {x : α} (hx : x ∈ xs) : ∃ y, y ∈ ys ∧ R x y := by
 obtain ⟨j, hj, rfl⟩ := List.getElem_of_mem hx
 have hj' : j < ys.length := by rw [← h.1]; exact hj
 exact ⟨ys[j], List.getElem_mem hj', h.2 j _ _ (List.getElem?_eq_getElem hj) (List.getElem?_eq_getElem hj')⟩
theorem All2.map_both {α β γ δ : Type} {R : α → β → Prop} {Q : γ → δ → Prop} {f : α → γ} {g : β → δ} {xs : List α} {ys : List β} (h : All2 R xs ys) (hf : ∀ x y, R x y → Q (f x) (g y)) : All2 Q (xs.map f) (ys.map g) := by
 refine ⟨by simp [h.1], ?_⟩
 intro j x z hx hz
 rw [List.getElem?_map, Option.map_eq_some_iff] at hx hz
 obtain ⟨x, hx, rfl⟩ := hx
 obtain ⟨y, hy, rfl⟩ := hz
 exact hf x y (h.2 j x y hx hy)
theorem own_new {t size g base : Nat} (W : World) (hg : W.heap.size = g) (hb : base ≤ g) : (W.alloc (.cells #[] t)).ownsRow base t size (.slice (some ⟨g, 0, none⟩) 0 0) 0 [] := by
 subst hg
 exact World.ownsRow_made W #[] 0 hb (by decide) (by simp)
def kidsC (lcs : List (List Value)) (mcs : List (ByteArray × List Value)) : List (List Value) := lcs ++ mcs.map (fun p => p.2)
section
variable {n : Nat} {S : Nat → Prop} {w : World} {cs : List Value} {v : VS (V n)} {vl vm : Value} {lcs : List (List Value)} {mcs : List (ByteArray × List Value)}
theorem RepOne.kids (h : RepOne (Rep n S w) S w cs v vl vm lcs mcs) : All2 (Rep n S w) (kidsC lcs mcs) v.kids :=
 h.alll.app (h.allm.map_both fun _ _ r => r.2)
end
def ValsAt (n : Nat) (w : World) (x : Value) (vs : List (V n)) : Prop := ∃ lcs, Slc w 5 x vs.length lcs.flatten ∧ All2 (Rep n (fun _ => True) w) lcs vs
theorem Slc.at5 {w : World} {x : Value} {m : Nat} {lcs : List (List Value)} (h : Slc w 5 x m lcs.flatten) (h5 : ∀ c, c ∈ lcs → c.length = 5) {j : Nat} (hj : j < lcs.length) {k i : Int} {s : ByteArray} {a b : Value} (e : lcs[j] = [.int .i64 k, .int .i64 i, .string s, a, b]) :
  ∃ g o cap, x = .slice (some ⟨g, o, none⟩) m cap ∧ w.cell? ⟨g, o + j * 5, none⟩ = some (.int .i64 k) ∧ w.cell? ⟨g, o + j * 5 + 1, none⟩ = some (.int .i64 i) ∧ w.cell? ⟨g, o + j * 5 + 2, none⟩ = some (.string s) ∧ w.cell? ⟨g, o + j * 5 + 3, none⟩ = some a ∧ w.cell? ⟨g, o + j * 5 + 4, none⟩ = some b := by
 have hl := flat_len lcs h5
 have hm := h.1
 rcases h.2 with ⟨_, h0⟩ | ⟨h0, _⟩ | ⟨g, o, cap, hsv, _, _, hrow⟩
 ·omega
 ·omega
 have hc : ∀ i, i < 5 → lcs.flatten[j * 5 + i]? = lcs[j][i]? := fun i hi => flat_get lcs j i h5 hj hi
 rw [e] at hc
 refine ⟨g, o, cap, hsv, ?_, ?_, ?_, ?_, ?_⟩
 ·exact hrow.cells (j * 5 + 0) _ (hc 0 (by decide))
 all_goals rw [Nat.add_assoc]
 ·exact hrow.cells (j * 5 + 1) _ (hc 1 (by decide))
 ·exact hrow.cells (j * 5 + 2) _ (hc 2 (by decide))
 ·exact hrow.cells (j * 5 + 3) _ (hc 3 (by decide))
 ·exact hrow.cells (j * 5 + 4) _ (hc 4 (by decide))
theorem ValsAt.kept0 {n : Nat} {w w' : World} {x : Value} {vs : List (V n)} (h : ValsAt n w x vs) (k : Kept [] w w') : ValsAt n w' x vs := by
 obtain ⟨lcs, h1, h2⟩ := h
 exact ⟨lcs, h1.kept0 k, h2.mono fun _ _ _ r => r.kept0 k⟩
theorem ValsAt.at {n : Nat} {w : World} {x : Value} {vs : List (V n)} (h : ValsAt n w x vs) {j : Nat} (hj : j < vs.length) : ∃ g o cap k i s a b, x = .slice (some ⟨g, o, none⟩) vs.length cap ∧ w.cell? ⟨g, o + j * 5, none⟩ = some (.int .i64 k) ∧ w.cell? ⟨g, o + j * 5 + 1, none⟩ = some (.int .i64 i) ∧ w.cell? ⟨g, o + j * 5 + 2, none⟩ = some (.string s) ∧ w.cell? ⟨g, o + j * 5 + 3, none⟩ = some a ∧ w.cell? ⟨g, o + j * 5 + 4, none⟩ = some b ∧ Rep n (fun _ => True) w [.int .i64 k, .int .i64 i, .string s, a, b] vs[j] := by
 obtain ⟨lcs, h1, h2⟩ := h
 have hj' : j < lcs.length := by rw [h2.1]; exact hj
 have hr := h2.2 j _ _ (List.getElem?_eq_getElem hj') (List.getElem?_eq_getElem hj)
 obtain ⟨k, i, s, a, b, e⟩ := hr.five
 obtain ⟨g, o, cap, q, q0, q1, q2, q3, q4⟩ := h1.at5 (fun c hc => by obtain ⟨y, _, r⟩ := h2.mem_left hc; exact r.len) hj' e
 rw [e] at hr
 exact ⟨g, o, cap, k, i, s, a, b, q, q0, q1, q2, q3, q4, hr⟩
theorem take_map_succ {α β : Type} (f : α → β) (l : List α) (k : Nat) (h : k < l.length) : (l.take (k + 1)).map f = (l.take k).map f ++ [f l[k]] := by
 rw [List.take_succ_eq_append_getElem h, List.map_append]; rfl
theorem depth_le' : ∀ (n : Nat) (v : V n), depthV n v ≤ n
 | 0, v => nomatch v
 | n + 1, (v : VS (V n)) => by
  show 1 + maxL (v.kids.map (depthV n)) ≤ n + 1
  have : maxL (v.kids.map (depthV n)) ≤ n := maxL_le.2 (fun x hx => by
   obtain ⟨y, _, rfl⟩ := List.mem_map.1 hx
   exact depth_le' n y)
  omega
theorem Small.few {n : Nat} {v : VS (V n)} (h : Small (n + 1) v) : v.l.length + v.m.length ≤ 20000 := by
 have := kids_few v; have := h.1; omega
theorem ret_bool {a b : Bool} (h : a = b) : Ending.returned (.bool a) = .returned (.bool b) := by rw [h]
theorem ext_list (s : ByteArray) (i j : Nat) (hj : j ≤ s.size) : (s.extract i j).data.toList = (s.data.toList.take j).drop i := by
 rw [ByteArray.data_extract, Array.toList_extract, List.extract_eq_take_drop, List.drop_take]
theorem ext_from (s : ByteArray) (i : Nat) : (s.extract i s.size).data.toList = s.data.toList.drop i := by
 rw [ext_list s i s.size (Nat.le_refl _), List.take_of_length_le (by simp)]
theorem int_ne {a b : Int} (h : a ≠ b) : (a == b) = false ∧ (a != b) = true := by simp [h]
theorem nat_ne {a b : Nat} (h : a ≠ b) : ((a : Int) == (b : Int)) = false ∧ ((a : Int) != (b : Int)) = true := int_ne (by omega)
theorem toList_inj {a b : ByteArray} (h : a.toList = b.toList) : a = b := by
 rw [ByteArray.toList_eq, ByteArray.toList_eq] at h
 cases a; cases b
 simp only [ByteArray.mk.injEq] at *
 exact Array.toList_inj.1 h
theorem str_ne {a b : ByteArray} (h : a ≠ b) : (a.toList == b.toList) = false ∧ (a.toList != b.toList) = true := by
 have : a.toList ≠ b.toList := fun e => h (toList_inj e)
 simp [this]
theorem str_eq {a b : ByteArray} (h : a = b) : (a.toList == b.toList) = true ∧ (a.toList != b.toList) = false := by
 subst h; simp
theorem int_eq {a b : Int} (h : a = b) : (a == b) = true ∧ (a != b) = false := by simp [h]
theorem nat_eq {a b : Nat} (h : a = b) : ((a : Int) == (b : Int)) = true ∧ ((a : Int) != (b : Int)) = false := by simp [h]
theorem bv_nat (n : Nat) (h : n < 256) : bv (UInt8.ofNat n) = .int .u8 n := by
 unfold bv
 congr 1
 have : (UInt8.ofNat n).toNat = n := by simp [UInt8.toNat_ofNat']; omega
 rw [this]
def bytesZ (c : Int) : List Value :=
 if c < 128 then [.int .u8 c] else if c < 2048 then [.int .u8 (192 + c / 64), .int .u8 (128 + c % 64)]
 else if c < 65536 then [.int .u8 (224 + c / 4096), .int .u8 (128 + c / 64 % 64), .int .u8 (128 + c % 64)]
 else [.int .u8 (240 + c / 262144), .int .u8 (128 + c / 4096 % 64), .int .u8 (128 + c / 64 % 64), .int .u8 (128 + c % 64)]
theorem bytesZ_rune (m : Nat) (hm : m < 55296 ∨ (57344 ≤ m ∧ m ≤ 1114111)) : bytesZ m = (runeB m).map bv := by
 rw [encode_eq m hm]
 unfold bytesZ
 by_cases h1 : m < 128
 ·rw [if_pos h1, if_pos (by omega)]
  simp only [List.map_cons, List.map_nil]
  rw [bv_nat _ (by omega)]
 rw [if_neg h1, if_neg (by omega)]
 by_cases h2 : m < 2048
 ·rw [if_pos h2, if_pos (by omega)]
  simp only [List.map_cons, List.map_nil]
  rw [bv_nat _ (by omega), bv_nat _ (by omega)]
  rfl
 rw [if_neg h2, if_neg (by omega)]
 by_cases h3 : m < 65536
 ·rw [if_pos h3, if_pos (by omega)]
  simp only [List.map_cons, List.map_nil]
  rw [bv_nat _ (by omega), bv_nat _ (by omega), bv_nat _ (by omega)]
  rfl
 ·rw [if_neg h3, if_neg (by omega)]
  simp only [List.map_cons, List.map_nil]
  rw [bv_nat _ (by omega), bv_nat _ (by omega), bv_nat _ (by omega), bv_nat _ (by omega)]
  rfl
open Go.Lib (decodeL)
theorem strB_size (l : List UInt8) : (strB l).size = l.length := by simp [strB, ByteArray.size]
theorem Bytes.toStr {w : World} {v : Value} {l : List UInt8} (h : Bytes w v l) : (convert 28 9 v).run Tryz.prog w = .ok (.string (strB l)) w := by
 rcases h.2 with ⟨rfl, h0⟩ | ⟨h0, ad, cap, rfl, hm⟩ | ⟨g, o, cap, rfl, hc, hm, hr⟩
 ·have : l = [] := List.eq_nil_of_length_eq_zero h0
  subst this
  have h1 := run_convert_bytes_nil (P := Tryz.prog) w 28 5 Tryz.underlying28 Tryz.underlying5 0 0 9 Tryz.underlying9
  have e1 : strB [] = ByteArray.empty := by rfl
  rw [e1]
  exact h1
 ·have : l = [] := List.eq_nil_of_length_eq_zero h0
  subst this
  have h1 := run_convert_bytes_string (P := Tryz.prog) w 28 9 5 (some ad) 0 cap Tryz.underlying28 Tryz.underlying5 Tryz.underlying9
  rw [h1]
  rfl
 ·have h1 := run_convert_bytes_arg (P := Tryz.prog) w 28 5 Tryz.underlying28 Tryz.underlying5 g o l.length cap (l.map fun b => (b.toNat : Int)) (by simp) (fun i hi => by
   rw [hr.at (by simpa using hi)]
   simp [bv, List.getD_eq_getElem?_getD, hi]) 9 Tryz.underlying9
  have e2 : strOfNums (l.map fun b => (b.toNat : Int)) = strB l := by
   unfold strOfNums strB
   rw [List.map_map]
   have e3 : ((fun n : Int => UInt8.ofNat n.toNat) ∘ fun b : UInt8 => (b.toNat : Int)) = id := funext fun b => by simp
   rw [e3, List.map_id]
  rw [← e2]
  exact h1
def valA (k m : Int) (s : ByteArray) (a b : Value) : Array Value := #[.int .i64 k, .int .i64 m, .string s, a, b]
structure CloneL {n : Nat} (W : World) (b3 : Nat) (v : VS (V n)) (k : Nat) (wr : World) (vl : Value) (lcs : List (List Value)) : Prop where
 blk : wr.heap[b3]? = some (.cells (valA v.kind v.num v.s vl (.slice none 0 0)) 25 (0, 0))
 row : wr.ownsRow W.heap.size 25 5 vl k lcs.flatten
 all : All2 (Rep n (fun g => W.heap.size ≤ g ∧ vl.ownBlock ≠ some g) wr) lcs (v.l.take k)
 kept : Kept [b3] W wr
structure CloneM {n : Nat} (W : World) (b3 : Nat) (v : VS (V n)) (vl : Value) (k : Nat) (wr : World) (vm : Value) (mcs : List (ByteArray × List Value)) : Prop where
 blk : wr.heap[b3]? = some (.cells (valA v.kind v.num v.s vl vm) 25 (0, 0))
 row : wr.ownsRow W.heap.size 60 6 vm k (pairCs mcs)
 all : All2 (pairR (Rep n (fun g => W.heap.size ≤ g ∧ vm.ownBlock ≠ some g) wr)) mcs (v.m.take k)
 kept : Kept [b3] W wr
def OwnRep : (n : Nat) → Nat → World → List Value → V n → Prop
 | 0, _, _, _, _ => False
 | n + 1, B, w, cs, (v : VS (V n)) => ∃ vl vm lcs mcs, cs = [.int .i64 v.kind, .int .i64 v.num, .string v.s, vl, vm] ∧
     w.ownsRow B 25 5 vl v.l.length lcs.flatten ∧ All2 (Rep n (fun g => B ≤ g ∧ vl.ownBlock ≠ some g ∧ vm.ownBlock ≠ some g) w) lcs v.l ∧
     w.ownsRow B 60 6 vm v.m.length (pairCs mcs) ∧ All2 (pairR (Rep n (fun g => B ≤ g ∧ vl.ownBlock ≠ some g ∧ vm.ownBlock ≠ some g) w)) mcs v.m ∧
     (Lit.int .i64 v.kind).wf = true ∧ (Lit.int .i64 v.num).wf = true
theorem OwnRep.rep : ∀ {n : Nat} {B : Nat} {w : World} {cs : List Value} {v : V n}, OwnRep n B w cs v → Rep n (fun g => B ≤ g) w cs v
 | 0, _, _, _, _, h => h.elim
 | n + 1, B, w, cs, v, h => by
  obtain ⟨vl, vm, lcs, mcs, h1, h2, h3, h4, h5, h6, h7⟩ := h
  exact ⟨vl, vm, lcs, mcs, {
   cells := h1
   slcl := Slc.of_row h2
   alll := h3.mono fun _ _ _ r => r.mono (fun _ _ q => q.1)
   slcm := Slc.of_row h4
   allm := h5.mono fun _ _ _ r => ⟨r.1, r.2.mono (fun _ _ q => q.1)⟩
   inl := fun g hg => (h2.lt g (own_of_vblk hg)).1
   inm := fun g hg => (h4.lt g (own_of_vblk hg)).1
   wfk := h6
   wfn := h7 }⟩
theorem All2.snoc {α β : Type} {R : α → β → Prop} {xs : List α} {ys : List β} {x : α} {y : β} (h : All2 R xs ys) (hr : R x y) : All2 R (xs ++ [x]) (ys ++ [y]) := h.app ((All2.nil R).cons hr)
def clone_anyKnown (n : Nat) : Prop := ∀ (v : V n) {S : Nat → Prop} {w : World} {cs : List Value}, Rep n S w cs v → Small n v →
    Calls Tryz.prog 60 #[.agg cs.toArray] w fun e w' => (∃ cs' : List Value, e = .returned (.agg cs'.toArray) ∧ OwnRep n w.heap.size w' cs' v) ∧ Kept [] w w'
theorem clone_any_step {n : Nat} (known : clone_anyKnown n) : clone_anyKnown (n + 1) := fun (v : VS (V n)) {S} {w} {cs} h hs => by
  have Jl := qI h
  have Jb := qI hs
  obtain ⟨vl, vm, lcs, mcs, h⟩ := h
  obtain ⟨a, c, b, e, rfl, rfl, rfl⟩ := h.forms
  have H := qI h
  have IH := qI known
  have hlv : v.l.length ≤ 20000 := by have := hs.few; omega
  have hmv : v.m.length ≤ 20000 := by have := hs.few; omega
  obtain ⟨W0, Gk⟩ : ∃ W0, Hid (W0 = ((w.alloc (.cells #[.int .i64 v.kind, .int .i64 v.num, .string v.s, .slice a v.l.length c, .slice b v.m.length e] 25)).alloc (.cells #[.int .i64 0, .int .i64 0, .string ⟨#[]⟩, .slice none 0 0, .slice none 0 0] 25)).alloc (.cells #[.int .i64 v.kind, .int .i64 v.num, .string v.s, .slice none 0 0, .slice none 0 0] 25)) := ⟨_, qI rfl⟩
  have Jc : Hid (W0.heap.size = w.heap.size + 3) := qI (by rw [Gk.o]; simp)
  have Jj : Hid (Kept [] w W0) := qI (by rw [Gk.o]; exact (((Kept.refl [] w).alloc _).alloc _).alloc _)
  have Jz : Hid (W0.heap[w.heap.size]? = some (.cells (valA v.kind v.num v.s (.slice a v.l.length c) (.slice b v.m.length e)) 25 (0, 0))) := qI (by
   rw [Gk.o]; exact (((Kept.refl [] _).alloc _).alloc _).heap (block_alloc rfl) (by simp))
  have Jk : Hid (W0.heap[w.heap.size + 1]? = some (.cells #[.int .i64 0, .int .i64 0, .string ⟨#[]⟩, .slice none 0 0, .slice none 0 0] 25 (0, 0))) := qI (by
   rw [Gk.o]; exact ((Kept.refl [] _).alloc _).heap (block_alloc (by simp)) (by simp))
  have Ma : Hid (W0.heap[w.heap.size + 1 + 1]? = some (.cells (valA v.kind v.num v.s (.slice none 0 0) (.slice none 0 0)) 25 (0, 0))) := qI (by
   rw [Gk.o]; exact block_alloc (by simp))
  obtain ⟨c0, c1, c2, c3, c4⟩ := box_at w v.kind v.num v.s (.slice a v.l.length c) (.slice b v.m.length e) 25
  clear h hs
  go_enter Tryz.func60, Tryz.ntmps60
  go_wp2_with fail
  rw [← Gk.o]
  clear c0 c1 c2 c3 c4
  go_loopw [14] (fun i wr => ∃ (k : Nat) (vl : Value) (lcs' : List (List Value)), i = .int .i64 k ∧ k ≤ v.l.length ∧ CloneL W0 (w.heap.size + 1 + 1) v k wr vl lcs') (fun i _ => v.l.length - (intOf i).toNat)
  case atStart =>
   exact ⟨0, .slice none 0 0, [], rfl, Nat.zero_le _, {
    blk := Ma.o
    row := World.ownsRow_nil _ _ _ _
    all := All2.nil _
    kept := Kept.refl _ _ }⟩
  case round =>
   obtain ⟨k, vk, lk, rfl, hk, hc⟩ := hrel
   have HC := qI hc
   have Jd : Hid (Kept [] w wr) := qI (Jj.o.trans hc.kept (by intro i hi; simp at hi; subst hi; exact .inr (by omega)))
   clear hc
   by_cases hlt : k < v.l.length
   ·have hltI : (k : Int) < v.l.length := by omega
    obtain ⟨g, o, cap, kd, nm, st, a1, b1, he, q0, q1, q2, q3, q4, hr⟩ := H.o.at_l Jd.o k hlt
    simp only [Value.slice.injEq] at he
    obtain ⟨rfl, -, rfl⟩ := he
    obtain ⟨ak, ck, rfl, -, -⟩ := (Slc.of_row HC.o.row).form
    obtain ⟨p1, i1, d1, p2, i2, d2, rfl, rfl⟩ := hr.sl
    have HR := qI hr
    have Gt := qI (Jb.o.kid (mem_l (List.getElem_mem hlt)))
    have hb3 := HC.o.blk
    have f3 := cell_head (o := 3) hb3 rfl
    clear hr hb3
    go_wp2_with fail
    have g3 := ((Kept.refl [] wr).alloc (.cells #[.int .i64 kd, .int .i64 nm, .string st, .slice p1 i1 d1, .slice p2 i2 d2] 25)).cell f3 (by simp)
    obtain ⟨e0, e1, e2, e3, e4⟩ := box_at wr kd nm st (.slice p1 i1 d1) (.slice p2 i2 d2) 25
    have Gq := qI ((Kept.refl [] wr).alloc (.cells #[.int .i64 kd, .int .i64 nm, .string st, .slice p1 i1 d1, .slice p2 i2 d2] 25))
    have HE := qI (box_at wr kd nm st (.slice p1 i1 d1) (.slice p2 i2 d2) 25)
    have hlt3 := HC.o.row.lt
    have hb3l : w.heap.size + 1 + 1 < wr.heap.size := lt_of_block HC.o.blk
    have Gr := qI hlt3
    clear hlt3 e0 e1 e2 e3 e4 q0 q1 q2 q3 q4
    refine wp_region_last' (n := 8) (fun w' : World => w'.cell? ⟨w.heap.size + 1 + 1, 3, none⟩ = some (.slice ak k ck) ∧ BoxAt w' wr.heap.size kd nm st (.slice p1 i1 d1) (.slice p2 i2 d2)) 7 (by kernel_rfl) (by kernel_rfl) ?_
    have hSS : (fun w' : World => w'.cell? ⟨w.heap.size + 1 + 1, 3, none⟩ = some (.slice ak k ck) ∧ BoxAt w' wr.heap.size kd nm st (.slice p1 i1 d1) (.slice p2 i2 d2)) ((wr.alloc (.cells #[.int .i64 kd, .int .i64 nm, .string st, .slice p1 i1 d1, .slice p2 i2 d2] 25)).drew) := ⟨g3, HE.o.kept0 (Kept.refl _ _).drew⟩
    have Gj : Hid (Kept [] wr ((wr.alloc (.cells #[.int .i64 kd, .int .i64 nm, .string st, .slice p1 i1 d1, .slice p2 i2 d2] 25)).drew)) := qI Gq.o.drew
    have Gc : Hid (((wr.alloc (.cells #[.int .i64 kd, .int .i64 nm, .string st, .slice p1 i1 d1, .slice p2 i2 d2] 25)).drew).heap.size = wr.heap.size + 1) := qI (by simp)
    change wpAnyT _ _ _ _ _ _ _ _ _ ((wr.alloc (.cells #[.int .i64 kd, .int .i64 nm, .string st, .slice p1 i1 d1, .slice p2 i2 d2] 25)).drew)
    clear HE Gq g3
    revert hSS Gj Gc
    generalize (wr.alloc (.cells #[.int .i64 kd, .int .i64 nm, .string st, .slice p1 i1 d1, .slice p2 i2 d2] 25)).drew = W2
    intro hSS Gj Gc
    refine wpAnyT_start ?_
    intro O R hO hR
    have hQp : ∀ c a (d : Nat) v w, R (.panic c) (a.put (some d) v) w → R (.panic c) a w := by subst hR; exact fun _ _ _ _ _ h => h
    refine wpAnyT_take' (i := 0) (v := ?_) hO rfl rfl (by kernel_rfl) (by kernel_rfl) (by kernel_rfl) (by kernel_rfl) hQp (Or.inl ⟨by kernel_rfl, fun w hSw => ?_⟩) hSS ?_
    rotate_left
    ·go_simp; try with_reducible rfl
    try simp only [zA,zN,zB,zC,zD]
    refine wpAnyT_take' (i := 1) (v := ?_) hO rfl rfl (by kernel_rfl) (by kernel_rfl) (by kernel_rfl) (by kernel_rfl) hQp (Or.inl ⟨by kernel_rfl, fun w hSw => ?_⟩) hSS ?_
    rotate_left
    ·have s3 := hSw.1; go_simp; try with_reducible rfl
    try simp only [zA,zN,zB,zC,zD]
    refine wpAnyT_take' (i := 2) (v := ?_) hO rfl rfl (by kernel_rfl) (by kernel_rfl) (by kernel_rfl) (by kernel_rfl) hQp (Or.inl ⟨by kernel_rfl, fun w hSw => ?_⟩) hSS ?_
    rotate_left
    ·obtain ⟨s0, s1, s2, s3, s4⟩ := hSw.2; go_simp; try with_reducible rfl
    try simp only [zA,zN,zB,zC,zD]
    refine wpAnyT_one' (i := 3) hO rfl (by kernel_rfl) (by kernel_rfl) (fun K hK => ?_)
    go_simp
    refine Calls.mono (IH.o v.l[k] (HR.o.kept0 Gj.o) Gt.o) ?_
    rintro e w3 ⟨⟨cs', rfl, hown⟩, hk3⟩
    have hrep := hown.rep
    obtain ⟨k3, m3, s3, l3, r3, rfl⟩ := hrep.five
    obtain ⟨p3, i3, d3, p4, i4, d4, rfl, rfl⟩ := hrep.sl
    have Ge := qI hrep
    have Gd := qI (Gj.o.trans' hk3)
    have hS3 : (fun w' : World => w'.cell? ⟨w.heap.size + 1 + 1, 3, none⟩ = some (.slice ak k ck) ∧ BoxAt w' wr.heap.size kd nm st (.slice p1 i1 d1) (.slice p2 i2 d2)) w3 := ⟨hk3.cell hSS.1 (by simp), hSS.2.kept0 hk3⟩
    have hsz3 := hk3.size
    clear hown hrep hk3
    refine hK _ _ (.inr hS3) ?_
    clear hK K
    try simp only [zA,zN,zB,zC,zD]
    clear hSS
    have hSS := hS3
    clear hS3
    refine wpAnyT_one' (i := 4) hO rfl (by kernel_rfl) (by kernel_rfl) (fun K hK => ?_)
    go_simp
    have Gb := qI ((Kept.refl [] w3).alloc (.cells #[.int .i64 k3, .int .i64 m3, .string s3, .slice p3 i3 d3, .slice p4 i4 d4] 25))
    have Gg := qI (slc_new w3 [.int .i64 k3, .int .i64 m3, .string s3, .slice p3 i3 d3, .slice p4 i4 d4] 5 1 25 w3.heap.size rfl rfl (by decide))
    have hS4 : (fun w' : World => w'.cell? ⟨w.heap.size + 1 + 1, 3, none⟩ = some (.slice ak k ck) ∧ BoxAt w' wr.heap.size kd nm st (.slice p1 i1 d1) (.slice p2 i2 d2)) (w3.alloc (.cells #[.int .i64 k3, .int .i64 m3, .string s3, .slice p3 i3 d3, .slice p4 i4 d4] 25)) := ⟨Gb.o.cell hSS.1 (by simp), hSS.2.kept0 Gb.o⟩
    have Gh : Hid ((w3.alloc (.cells #[.int .i64 k3, .int .i64 m3, .string s3, .slice p3 i3 d3, .slice p4 i4 d4] 25)).heap.size = w3.heap.size + 1) := qI (by simp)
    refine hK _ _ (.inr hS4) ?_
    clear hK K
    try simp only [zA,zN,zB,zC,zD]
    clear hSS
    have hSS := hS4
    clear hS4
    revert hSS Gb Gg Gh
    generalize w3.alloc (.cells #[.int .i64 k3, .int .i64 m3, .string s3, .slice p3 i3 d3, .slice p4 i4 d4] 25) = w4
    intro Gb Gg Gh hSS
    have Gl := qI (row_kept HC.o.row (Gd.o.trans' Gb.o) (by simp))
    have Gu := qI hsz3
    clear hsz3
    refine wpAnyT_one' (i := 5) hO rfl (by kernel_rfl) (by kernel_rfl) (fun K hK => ?_)
    refine oper_append tyVals Gl.o Gg.o Ge.o.one (by simp only [maxLen]; omega) (by omega) (by have h1 := (Gd.o.trans' Gb.o).size; have h2 := HC.o.kept.size; omega) (.tmp 19) (.tmp 22) rfl rfl rfl ?_
    intro b5 d5 w5 hown5 hk5 hg5
    have hS5 : (fun w' : World => w'.cell? ⟨w.heap.size + 1 + 1, 3, none⟩ = some (.slice ak k ck) ∧ BoxAt w' wr.heap.size kd nm st (.slice p1 i1 d1) (.slice p2 i2 d2)) w5 := by
     refine ⟨hk5.cell hSS.1 (by intro hx; have := (Gr.o _ (Option.mem_toList.1 hx)).1; have h2 := Jc.o; simp at this; omega), hSS.2.kept hk5 (by intro hx; have := (Gr.o _ (Option.mem_toList.1 hx)).2; omega)⟩
    refine hK _ _ (.inr hS5) ?_
    clear hK K
    try simp only [zA,zN,zB,zC,zD]
    clear hSS
    have hSS := hS5
    clear hS5
    have Gf := qI hown5
    have Gm := qI hk5
    have Jm := qI hg5
    clear hown5 hk5 hg5
    refine wpAnyT_one' (i := 6) hO rfl (by kernel_rfl) (by kernel_rfl) (fun K hK => ?_)
    go_simp
    refine hK _ _ (.inr hSS) ?_
    clear hK K
    try simp only [zA,zN,zB,zC,zD]
    have Gv : Hid (w5.heap[w.heap.size + 1 + 1]? = some (.cells (valA v.kind v.num v.s (.slice ak k ck) (.slice none 0 0)) 25 (0, 0))) := qI (Gm.o.heap ((Gd.o.trans' Gb.o).heap HC.o.blk (by simp)) (by intro hx; have := (Gr.o _ (Option.mem_toList.1 hx)).1; have h2 := Jc.o; omega))
    have hc5 := cell_head (o := 3) Gv.o rfl
    have hf5 := free_head (o := 3) Gv.o
    refine wpAnyT_one' (i := 7) hO rfl (by kernel_rfl) (by kernel_rfl) (fun K hK => ?_)
    go_simp
    refine hK _ _ (.inl rfl) ?_
    clear hK K
    try simp only [zA,zN,zB,zC,zD]
    refine wpAnyT_done' hO (by kernel_rfl) ?_ _
    subst hR
    try clear hQp hO O
    clear hc5 hf5 hSS
    go_wp2_with fail
    case roundEnd =>
     have hz := Jc.o
     have hz2 := Gc.o
     have hz3 := Gu.o
     have hz4 := Gh.o
     have hlo := Gr.o
     have KX : Kept ((w.heap.size + 1 + 1) :: (Value.slice ak k ck).ownBlock.toList) w4 (w5.setCell ⟨w.heap.size + 1 + 1, 3, none⟩ (.slice b5 (k + 1) d5)) := (Gm.o.mono (Y := (w.heap.size + 1 + 1) :: (Value.slice ak k ck).ownBlock.toList) (fun i hi => List.mem_cons_of_mem _ hi)).setCell (p := ⟨w.heap.size + 1 + 1, 3, none⟩) (.inl (List.mem_cons_self ..)) _
     have hz5 : ∀ g, (Value.slice b5 (k + 1) d5).ownBlock = some g → (Value.slice ak k ck).ownBlock = some g ∨ g = w4.heap.size := fun g hg => by
      rcases Jm.o with h | h
      ·exact .inl (by rw [← h]; exact hg)
      ·exact .inr (by rw [hg] at h; exact Option.some.inj h)
     refine ⟨⟨k + 1, _, lk ++ [[.int .i64 k3, .int .i64 m3, .string s3, .slice p3 i3 d3, .slice p4 i4 d4]], by go_num, by omega, {
      blk := block_setCell Gv.o rfl
      row := ?_
      all := ?_
      kept := ?_ }⟩, by simp [intOf]; omega⟩
     ·rw [List.flatten_append]
      simp only [List.flatten_cons, List.flatten_nil, List.append_nil]
      exact row_kept Gf.o ((Kept.refl [w.heap.size + 1 + 1] w5).setCell (.inl (by simp)) _) (by
       intro g hg hx
       simp at hx
       have := (Gf.o.lt g hg).1
       omega)
     ·rw [List.take_succ_eq_append_getElem hlt]
      refine All2.snoc (HC.o.all.mono fun c y _ r => r.move ((Gd.o.trans' Gb.o).mono (Y := (w.heap.size + 1 + 1) :: (Value.slice ak k ck).ownBlock.toList) (by simp) |>.trans' KX) ?_) ((Ge.o).move ((Gb.o.mono (Y := (w.heap.size + 1 + 1) :: (Value.slice ak k ck).ownBlock.toList) (by simp)).trans' KX) ?_)
      ·intro g hg ⟨h1, h2⟩
       refine ⟨?_, h1, ?_⟩
       ·intro hx
        rcases List.mem_cons.1 hx with rfl | hx
        ·omega
        ·exact h2 (Option.mem_toList.1 hx)
       ·intro h3
        rcases hz5 g h3 with h4 | h4
        ·exact h2 h4
        ·have := (Gd.o.trans' Gb.o).size; omega
      ·intro g hg h1
       have hz0 := HC.o.kept.size
       refine ⟨?_, by omega, ?_⟩
       ·intro hx
        rcases List.mem_cons.1 hx with rfl | hx
        ·omega
        ·have := (hlo g (Option.mem_toList.1 hx)).2; omega
       ·intro h3
        rcases hz5 g h3 with h4 | h4
        ·have := (hlo g h4).2; omega
        ·omega
     ·exact ((HC.o.kept.then (Gd.o.trans' Gb.o)).trans Gm.o (fun i hi => .inr (hlo i (Option.mem_toList.1 hi)).1)).setCell (.inl (by simp)) _
   ·obtain rfl : k = v.l.length := by omega
    obtain ⟨WL, rfl⟩ : ∃ x, x = wr := ⟨_, rfl⟩
    have Gw := qI HC.o
    have Je := qI Jd.o
    have Gi : Hid (w.heap.size + 3 ≤ WL.heap.size) := qI (by have h1 := HC.o.kept.size; have h2 := Jc.o; omega)
    have Mb : Hid (WL.heap[w.heap.size]? = some (.cells (valA v.kind v.num v.s (.slice a v.l.length c) (.slice b v.m.length e)) 25 (0, 0))) := qI (HC.o.kept.heap Jz.o (by simp; omega))
    obtain ⟨vL, rfl⟩ : ∃ x, x = vk := ⟨_, rfl⟩
    obtain ⟨lL, rfl⟩ : ∃ x, x = lk := ⟨_, rfl⟩
    have hb4 := cell_head (o := 4) (v := .slice b v.m.length e) Mb.o rfl
    go_wp2_with fail
    clear hb4 HC Jd
    go_loopw [29] (fun i wr => ∃ (k : Nat) (vm : Value) (mc : List (ByteArray × List Value)), i = .int .i64 k ∧ k ≤ v.m.length ∧ CloneM WL (w.heap.size + 1 + 1) v vL k wr vm mc) (fun i _ => v.m.length - (intOf i).toNat)
    case atStart =>
     exact ⟨0, .slice none 0 0, [], rfl, Nat.zero_le _, {
      blk := Gw.o.blk
      row := World.ownsRow_nil _ _ _ _
      all := All2.nil _
      kept := Kept.refl _ _ }⟩
    case round =>
     obtain ⟨k, vk, lk, rfl, hk, hc⟩ := hrel
     have HC := qI hc
     have Jd : Hid (Kept [] w wr) := qI (Je.o.trans hc.kept (by intro i hi; simp at hi; subst hi; exact .inr (by omega)))
     clear hc
     by_cases hlt : k < v.m.length
     ·have hltI : (k : Int) < v.m.length := by omega
      obtain ⟨g, o, cap, kd, nm, st, a1, b1, he, q0, q1, q2, q3, q4, q5, hr⟩ := H.o.at_m Jd.o k hlt
      simp only [Value.slice.injEq] at he
      obtain ⟨rfl, -, rfl⟩ := he
      obtain ⟨ak, ck, rfl, -, -⟩ := (Slc.of_row HC.o.row).form
      obtain ⟨p1, i1, d1, p2, i2, d2, rfl, rfl⟩ := hr.sl
      have HR := qI hr
      have Gt := qI (Jb.o.kid (mem_m (List.getElem_mem hlt)))
      have hb3 := HC.o.blk
      have f3 := cell_head (o := 4) hb3 rfl
      clear hr hb3
      generalize hkey : v.m[k].1 = key at q0
      have Jn := qI hkey
      clear hkey
      go_wp2_with fail
      have g3 := ((Kept.refl [] wr).alloc (.cells #[.string key, .int .i64 kd, .int .i64 nm, .string st, .slice p1 i1 d1, .slice p2 i2 d2] 60)).cell f3 (by simp)
      have Gq := qI ((Kept.refl [] wr).alloc (.cells #[.string key, .int .i64 kd, .int .i64 nm, .string st, .slice p1 i1 d1, .slice p2 i2 d2] 60))
      have HE := qI (pbox_at (w := wr) rfl key kd nm st (.slice p1 i1 d1) (.slice p2 i2 d2) 60)
      have hlt3 := HC.o.row.lt
      have hb3l : w.heap.size + 1 + 1 < wr.heap.size := lt_of_block HC.o.blk
      have Gr := qI hlt3
      clear hlt3 q0 q1 q2 q3 q4 q5
      refine wp_region_last' (n := 12) (fun w' : World => w'.cell? ⟨w.heap.size + 1 + 1, 4, none⟩ = some (.slice ak k ck) ∧ PBoxAt w' wr.heap.size key kd nm st (.slice p1 i1 d1) (.slice p2 i2 d2)) 11 (by kernel_rfl) (by kernel_rfl) ?_
      have hSS : (fun w' : World => w'.cell? ⟨w.heap.size + 1 + 1, 4, none⟩ = some (.slice ak k ck) ∧ PBoxAt w' wr.heap.size key kd nm st (.slice p1 i1 d1) (.slice p2 i2 d2)) ((wr.alloc (.cells #[.string key, .int .i64 kd, .int .i64 nm, .string st, .slice p1 i1 d1, .slice p2 i2 d2] 60)).drew) := ⟨g3, HE.o.kept0 (Kept.refl _ _).drew⟩
      have Gj : Hid (Kept [] wr ((wr.alloc (.cells #[.string key, .int .i64 kd, .int .i64 nm, .string st, .slice p1 i1 d1, .slice p2 i2 d2] 60)).drew)) := qI Gq.o.drew
      have Gc : Hid (((wr.alloc (.cells #[.string key, .int .i64 kd, .int .i64 nm, .string st, .slice p1 i1 d1, .slice p2 i2 d2] 60)).drew).heap.size = wr.heap.size + 1) := qI (by simp)
      change wpAnyT _ _ _ _ _ _ _ _ _ ((wr.alloc (.cells #[.string key, .int .i64 kd, .int .i64 nm, .string st, .slice p1 i1 d1, .slice p2 i2 d2] 60)).drew)
      clear HE Gq g3
      revert hSS Gj Gc
      generalize (wr.alloc (.cells #[.string key, .int .i64 kd, .int .i64 nm, .string st, .slice p1 i1 d1, .slice p2 i2 d2] 60)).drew = W2
      intro hSS Gj Gc
      refine wpAnyT_start ?_
      intro O R hO hR
      have hQp : ∀ c a (d : Nat) v w, R (.panic c) (a.put (some d) v) w → R (.panic c) a w := by subst hR; exact fun _ _ _ _ _ h => h
      refine wpAnyT_take' (i := 0) (v := ?_) hO rfl rfl (by kernel_rfl) (by kernel_rfl) (by kernel_rfl) (by kernel_rfl) hQp (Or.inl ⟨by kernel_rfl, fun w hSw => ?_⟩) hSS ?_
      rotate_left
      ·go_simp; try with_reducible rfl
      try simp only [zA,zN,zB,zC,zD]
      refine wpAnyT_take' (i := 1) (v := ?_) hO rfl rfl (by kernel_rfl) (by kernel_rfl) (by kernel_rfl) (by kernel_rfl) hQp (Or.inl ⟨by kernel_rfl, fun w hSw => ?_⟩) hSS ?_
      rotate_left
      ·have s3 := hSw.1; go_simp; try with_reducible rfl
      try simp only [zA,zN,zB,zC,zD]
      refine wpAnyT_take' (i := 2) (v := ?_) hO rfl rfl (by kernel_rfl) (by kernel_rfl) (by kernel_rfl) (by kernel_rfl) hQp (Or.inl ⟨by kernel_rfl, fun w hSw => ?_⟩) hSS ?_
      rotate_left
      ·obtain ⟨s0, s1, s2, s3, s4, s5⟩ := hSw.2; go_simp; try with_reducible rfl
      try simp only [zA,zN,zB,zC,zD]
      refine wpAnyT_take' (i := 3) (v := ?_) hO rfl rfl (by kernel_rfl) (by kernel_rfl) (by kernel_rfl) (by kernel_rfl) hQp (Or.inl ⟨by kernel_rfl, fun w hSw => ?_⟩) hSS ?_
      rotate_left
      ·obtain ⟨s0, s1, s2, s3, s4, s5⟩ := hSw.2; go_simp; try with_reducible rfl
      try simp only [zA,zN,zB,zC,zD]
      refine wpAnyT_take' (i := 4) (v := ?_) hO rfl rfl (by kernel_rfl) (by kernel_rfl) (by kernel_rfl) (by kernel_rfl) hQp (Or.inl ⟨by kernel_rfl, fun w hSw => ?_⟩) hSS ?_
      rotate_left
      ·obtain ⟨s0, s1, s2, s3, s4, s5⟩ := hSw.2; go_simp; try with_reducible rfl
      try simp only [zA,zN,zB,zC,zD]
      refine wpAnyT_take' (i := 5) (v := ?_) hO rfl rfl (by kernel_rfl) (by kernel_rfl) (by kernel_rfl) (by kernel_rfl) hQp (Or.inl ⟨by kernel_rfl, fun w hSw => ?_⟩) hSS ?_
      rotate_left
      ·obtain ⟨s0, s1, s2, s3, s4, s5⟩ := hSw.2; go_simp; try with_reducible rfl
      try simp only [zA,zN,zB,zC,zD]
      refine wpAnyT_one' (i := 6) hO rfl (by kernel_rfl) (by kernel_rfl) (fun K hK => ?_)
      go_simp
      refine Calls.mono (IH.o v.m[k].2 (HR.o.kept0 Gj.o) Gt.o) ?_
      rintro e w3 ⟨⟨cs', rfl, hown⟩, hk3⟩
      have hrep := hown.rep
      obtain ⟨k3, m3, s3, l3, r3, rfl⟩ := hrep.five
      obtain ⟨p3, i3, d3, p4, i4, d4, rfl, rfl⟩ := hrep.sl
      have Ge := qI hrep
      have Gd := qI (Gj.o.trans' hk3)
      have hS3 : (fun w' : World => w'.cell? ⟨w.heap.size + 1 + 1, 4, none⟩ = some (.slice ak k ck) ∧ PBoxAt w' wr.heap.size key kd nm st (.slice p1 i1 d1) (.slice p2 i2 d2)) w3 := ⟨hk3.cell hSS.1 (by simp), hSS.2.kept0 hk3⟩
      have hsz3 := hk3.size
      clear hown hrep hk3
      refine hK _ _ (.inr hS3) ?_
      clear hK K
      try simp only [zA,zN,zB,zC,zD]
      clear hSS
      have hSS := hS3
      clear hS3
      refine wpAnyT_one' (i := 7) hO rfl (by kernel_rfl) (by kernel_rfl) (fun K hK => ?_)
      go_simp
      refine hK _ _ (.inr hSS) ?_
      clear hK K
      try simp only [zA,zN,zB,zC,zD]
      refine wpAnyT_one' (i := 8) hO rfl (by kernel_rfl) (by kernel_rfl) (fun K hK => ?_)
      go_simp
      have Gb := qI ((Kept.refl [] w3).alloc (.cells #[.string key, .int .i64 k3, .int .i64 m3, .string s3, .slice p3 i3 d3, .slice p4 i4 d4] 60))
      have Gg := qI (slc_new w3 [.string key, .int .i64 k3, .int .i64 m3, .string s3, .slice p3 i3 d3, .slice p4 i4 d4] 6 1 60 w3.heap.size rfl rfl (by decide))
      have hS4 : (fun w' : World => w'.cell? ⟨w.heap.size + 1 + 1, 4, none⟩ = some (.slice ak k ck) ∧ PBoxAt w' wr.heap.size key kd nm st (.slice p1 i1 d1) (.slice p2 i2 d2)) (w3.alloc (.cells #[.string key, .int .i64 k3, .int .i64 m3, .string s3, .slice p3 i3 d3, .slice p4 i4 d4] 60)) := ⟨Gb.o.cell hSS.1 (by simp), hSS.2.kept0 Gb.o⟩
      have Gh : Hid ((w3.alloc (.cells #[.string key, .int .i64 k3, .int .i64 m3, .string s3, .slice p3 i3 d3, .slice p4 i4 d4] 60)).heap.size = w3.heap.size + 1) := qI (by simp)
      refine hK _ _ (.inr hS4) ?_
      clear hK K
      try simp only [zA,zN,zB,zC,zD]
      clear hSS
      have hSS := hS4
      clear hS4
      revert hSS Gb Gg Gh
      generalize w3.alloc (.cells #[.string key, .int .i64 k3, .int .i64 m3, .string s3, .slice p3 i3 d3, .slice p4 i4 d4] 60) = w4
      intro Gb Gg Gh hSS
      have Gl := qI (row_kept HC.o.row (Gd.o.trans' Gb.o) (by simp))
      have Gu := qI hsz3
      clear hsz3
      refine wpAnyT_one' (i := 9) hO rfl (by kernel_rfl) (by kernel_rfl) (fun K hK => ?_)
      refine oper_append tyPairs Gl.o Gg.o (by intro u hu; rcases List.mem_cons.1 hu with rfl | hu <;> first | rfl | exact Ge.o.one u hu) (by simp only [maxLen]; omega) (by omega) (by have h1 := (Gd.o.trans' Gb.o).size; have h2 := HC.o.kept.size; omega) (.tmp 34) (.tmp 41) rfl rfl rfl ?_
      intro b5 d5 w5 hown5 hk5 hg5
      have hS5 : (fun w' : World => w'.cell? ⟨w.heap.size + 1 + 1, 4, none⟩ = some (.slice ak k ck) ∧ PBoxAt w' wr.heap.size key kd nm st (.slice p1 i1 d1) (.slice p2 i2 d2)) w5 := by
       refine ⟨hk5.cell hSS.1 (by intro hx; have := (Gr.o _ (Option.mem_toList.1 hx)).1; have h2 := Gi.o; simp at this; omega), hSS.2.kept hk5 (by intro hx; have := (Gr.o _ (Option.mem_toList.1 hx)).2; omega)⟩
      refine hK _ _ (.inr hS5) ?_
      clear hK K
      try simp only [zA,zN,zB,zC,zD]
      clear hSS
      have hSS := hS5
      clear hS5
      have Gf := qI hown5
      have Gm := qI hk5
      have Jm := qI hg5
      clear hown5 hk5 hg5
      refine wpAnyT_one' (i := 10) hO rfl (by kernel_rfl) (by kernel_rfl) (fun K hK => ?_)
      go_simp
      refine hK _ _ (.inr hSS) ?_
      clear hK K
      try simp only [zA,zN,zB,zC,zD]
      have Gv : Hid (w5.heap[w.heap.size + 1 + 1]? = some (.cells (valA v.kind v.num v.s vL (.slice ak k ck)) 25 (0, 0))) := qI (Gm.o.heap ((Gd.o.trans' Gb.o).heap HC.o.blk (by simp)) (by intro hx; have := (Gr.o _ (Option.mem_toList.1 hx)).1; have h2 := Gi.o; omega))
      have hc5 := cell_head (o := 4) Gv.o rfl
      have hf5 := free_head (o := 4) Gv.o
      refine wpAnyT_one' (i := 11) hO rfl (by kernel_rfl) (by kernel_rfl) (fun K hK => ?_)
      go_simp
      refine hK _ _ (.inl rfl) ?_
      clear hK K
      try simp only [zA,zN,zB,zC,zD]
      refine wpAnyT_done' hO (by kernel_rfl) ?_ _
      subst hR
      try clear hQp hO O
      clear hc5 hf5 hSS
      go_wp2_with fail
      case roundEnd =>
       have hz := Gi.o
       have hz2 := Gc.o
       have hz3 := Gu.o
       have hz4 := Gh.o
       have hlo := Gr.o
       have KX : Kept ((w.heap.size + 1 + 1) :: (Value.slice ak k ck).ownBlock.toList) w4 (w5.setCell ⟨w.heap.size + 1 + 1, 4, none⟩ (.slice b5 (k + 1) d5)) := (Gm.o.mono (Y := (w.heap.size + 1 + 1) :: (Value.slice ak k ck).ownBlock.toList) (fun i hi => List.mem_cons_of_mem _ hi)).setCell (p := ⟨w.heap.size + 1 + 1, 4, none⟩) (.inl (List.mem_cons_self ..)) _
       have hz5 : ∀ g, (Value.slice b5 (k + 1) d5).ownBlock = some g → (Value.slice ak k ck).ownBlock = some g ∨ g = w4.heap.size := fun g hg => by
        rcases Jm.o with h | h
        ·exact .inl (by rw [← h]; exact hg)
        ·exact .inr (by rw [hg] at h; exact Option.some.inj h)
       refine ⟨⟨k + 1, _, lk ++ [(key, [.int .i64 k3, .int .i64 m3, .string s3, .slice p3 i3 d3, .slice p4 i4 d4])], by go_num, by omega, {
        blk := block_setCell Gv.o rfl
        row := ?_
        all := ?_
        kept := ?_ }⟩, by simp [intOf]; omega⟩
       ·rw [show pairCs (lk ++ [(key, [.int .i64 k3, .int .i64 m3, .string s3, .slice p3 i3 d3, .slice p4 i4 d4])]) = pairCs lk ++ [.string key, .int .i64 k3, .int .i64 m3, .string s3, .slice p3 i3 d3, .slice p4 i4 d4] by simp [pairCs, pairC]]
        exact row_kept Gf.o ((Kept.refl [w.heap.size + 1 + 1] w5).setCell (.inl (by simp)) _) (by
         intro g hg hx
         simp at hx
         have := (Gf.o.lt g hg).1
         omega)
       ·rw [List.take_succ_eq_append_getElem hlt]
        refine All2.snoc (HC.o.all.mono fun c y _ r => ⟨r.1, r.2.move ((Gd.o.trans' Gb.o).mono (Y := (w.heap.size + 1 + 1) :: (Value.slice ak k ck).ownBlock.toList) (by simp) |>.trans' KX) ?_⟩) ⟨Jn.o.symm, (Ge.o).move ((Gb.o.mono (Y := (w.heap.size + 1 + 1) :: (Value.slice ak k ck).ownBlock.toList) (by simp)).trans' KX) ?_⟩
        ·intro g hg ⟨h1, h2⟩
         refine ⟨?_, h1, ?_⟩
         ·intro hx
          rcases List.mem_cons.1 hx with rfl | hx
          ·omega
          ·exact h2 (Option.mem_toList.1 hx)
         ·intro h3
          rcases hz5 g h3 with h4 | h4
          ·exact h2 h4
          ·have := (Gd.o.trans' Gb.o).size; omega
        ·intro g hg h1
         have hz0 := HC.o.kept.size
         refine ⟨?_, by omega, ?_⟩
         ·intro hx
          rcases List.mem_cons.1 hx with rfl | hx
          ·omega
          ·have := (hlo g (Option.mem_toList.1 hx)).2; omega
         ·intro h3
          rcases hz5 g h3 with h4 | h4
          ·have := (hlo g h4).2; omega
          ·omega
       ·exact ((HC.o.kept.then (Gd.o.trans' Gb.o)).trans Gm.o (fun i hi => .inr (hlo i (Option.mem_toList.1 hi)).1)).setCell (.inl (by simp)) _
     ·obtain rfl : k = v.m.length := by omega
      have hbc := HC.o.blk
      have d0 := cell_head (o := 0) (v := .int .i64 v.kind) hbc rfl
      have d1 := cell_head (o := 1) (v := .int .i64 v.num) hbc rfl
      have d2 := cell_head (o := 2) (v := .string v.s) hbc rfl
      have d3 := cell_head (o := 3) (v := vL) hbc rfl
      have d4 := cell_head (o := 4) (v := vk) hbc rfl
      have hbr := HC.o.kept.heap (Gw.o.kept.heap Jk.o (by simp)) (by simp)
      obtain ⟨aL, cL, rfl, -, -⟩ := (Slc.of_row Gw.o.row).form
      obtain ⟨aM, cM, rfl, -, -⟩ := (Slc.of_row HC.o.row).form
      have r0 := cell_head (o := 0) (v := .int .i64 0) hbr rfl
      have r1 := cell_head (o := 1) (v := .int .i64 0) hbr rfl
      have r2 := cell_head (o := 2) (v := .string ⟨#[]⟩) hbr rfl
      have r3 := cell_head (o := 3) (v := .slice none 0 0) hbr rfl
      have r4 := cell_head (o := 4) (v := .slice none 0 0) hbr rfl
      have s0 := free_head (o := 0) hbr
      have s1 := free_head (o := 1) hbr
      have s2 := free_head (o := 2) hbr
      have s3 := free_head (o := 3) hbr
      have s4 := free_head (o := 4) hbr
      clear hbc hbr
      go_wp2_with fail
      have KF : Kept [w.heap.size + 1] wr (((((wr.setCell ⟨w.heap.size + 1, 0, none⟩ (.int .i64 v.kind)).setCell ⟨w.heap.size + 1, 1, none⟩ (.int .i64 v.num)).setCell ⟨w.heap.size + 1, 2, none⟩ (.string v.s)).setCell ⟨w.heap.size + 1, 3, none⟩ (.slice aL v.l.length cL)).setCell ⟨w.heap.size + 1, 4, none⟩ (.slice aM v.m.length cM)) :=
       (((((Kept.refl _ _).setCell (p := ⟨w.heap.size + 1, 0, none⟩) (.inl (by simp)) _).setCell (p := ⟨w.heap.size + 1, 1, none⟩) (.inl (by simp)) _).setCell (p := ⟨w.heap.size + 1, 2, none⟩) (.inl (by simp)) _).setCell (p := ⟨w.heap.size + 1, 3, none⟩) (.inl (by simp)) _).setCell (p := ⟨w.heap.size + 1, 4, none⟩) (.inl (by simp)) _
      have hbf := block_setCell (v := .slice aM v.m.length cM) (i := 4) (block_setCell (v := .slice aL v.l.length cL) (i := 3) (block_setCell (v := .string v.s) (i := 2) (block_setCell (v := .int .i64 v.num) (i := 1) (block_setCell (v := .int .i64 v.kind) (i := 0) (HC.o.kept.heap (Gw.o.kept.heap Jk.o (by simp)) (by simp)) rfl) rfl) rfl) rfl) rfl
      have x0 := cell_head (o := 0) (v := .int .i64 v.kind) hbf rfl
      have x1 := cell_head (o := 1) (v := .int .i64 v.num) hbf rfl
      have x2 := cell_head (o := 2) (v := .string v.s) hbf rfl
      have x3 := cell_head (o := 3) (v := .slice aL v.l.length cL) hbf rfl
      have x4 := cell_head (o := 4) (v := .slice aM v.m.length cM) hbf rfl
      clear hbf d0 d1 d2 d3 d4 r0 r1 r2 r3 r4 s0 s1 s2 s3 s4
      revert KF x0 x1 x2 x3 x4
      generalize ((((wr.setCell ⟨w.heap.size + 1, 0, none⟩ (.int .i64 v.kind)).setCell ⟨w.heap.size + 1, 1, none⟩ (.int .i64 v.num)).setCell ⟨w.heap.size + 1, 2, none⟩ (.string v.s)).setCell ⟨w.heap.size + 1, 3, none⟩ (.slice aL v.l.length cL)).setCell ⟨w.heap.size + 1, 4, none⟩ (.slice aM v.m.length cM) = WF
      intro KF x0 x1 x2 x3 x4
      have hzl := Gi.o
      have hz0 := Jc.o
      have hLlt := Gw.o.row.lt
      have hMlt := HC.o.row.lt
      have hkl := HC.o.kept.size
      have KLM : Kept [w.heap.size + 1, w.heap.size + 1 + 1] WL WF := (HC.o.kept.mono (by simp)).trans' (KF.mono (by simp))
      refine bodyPost_ret (v := .agg #[.int .i64 v.kind, .int .i64 v.num, .string v.s, .slice aL v.l.length cL, .slice aM v.m.length cM]) (by simp [results, Tryz.results60, go_sem, x0, x1, x2, x3, x4]) rfl ⟨⟨[.int .i64 v.kind, .int .i64 v.num, .string v.s, .slice aL v.l.length cL, .slice aM v.m.length cM], rfl, _, _, lL, lk, rfl, ?_, ?_, ?_, ?_, H.o.wfk, H.o.wfn⟩, ?_⟩
      ·exact row_base (row_kept Gw.o.row KLM (fun g hg hx => by have := hLlt g hg; simp at hx; omega)) (fun g hg => by have := hLlt g hg; omega)
      ·have h1 := Gw.o.all
       rw [List.take_length] at h1
       exact h1.mono fun _ _ _ r => r.move KLM (fun g hg ⟨h2, h3⟩ => ⟨by simp; omega, by omega, h3, fun h4 => by have := (hMlt g h4).1; omega⟩)
      ·exact row_base (row_kept HC.o.row KF (fun g hg hx => by have := hMlt g hg; simp at hx; omega)) (fun g hg => by have := hMlt g hg; omega)
      ·have h1 := HC.o.all
       rw [List.take_length] at h1
       exact h1.mono fun _ _ _ r => ⟨r.1, r.2.move KF (fun g hg ⟨h2, h3⟩ => ⟨by simp; omega, by omega, fun h4 => by have := (hLlt g h4).2; omega, h3⟩)⟩
      ·exact Je.o.trans KLM (fun i hi => by simp at hi; omega)
theorem clone_any_known : ∀ (n : Nat), clone_anyKnown n
 | 0 => fun v {_} {_} {_} h _ => h.elim
 | n + 1 => clone_any_step (clone_any_known n)
theorem clone_any : ∀ (n : Nat) (v : V n) {S : Nat → Prop} {w : World} {cs : List Value}, Rep n S w cs v → Small n v →
  Calls Tryz.prog 60 #[.agg cs.toArray] w fun e w' => (∃ cs' : List Value, e = .returned (.agg cs'.toArray) ∧ OwnRep n w.heap.size w' cs' v) ∧ Kept [] w w' := fun n => clone_any_known n
open Go.Sort (grow flatK size_flatK get_flatK putRowK HoldsK)
theorem bytesLess_eq : ∀ (l m : List UInt8), Op.bytesLess l m = decide (l < m)
 | [], [] => by simp [Op.bytesLess]
 | _ :: _, [] => by simp [Op.bytesLess]
 | [], _ :: _ => by simp [Op.bytesLess]
 | a :: x, b :: y => by
  have ih := bytesLess_eq x y
  unfold Op.bytesLess
  rw [ih, Bool.eq_iff_iff]
  simp only [Bool.or_eq_true, Bool.and_eq_true, decide_eq_true_eq, beq_iff_eq, List.cons_lt_cons_iff]
theorem All2.perm {α β : Type} {R : α → β → Prop} : ∀ {xs xs' : List α} {ys : List β}, All2 R xs ys → xs'.Perm xs → ∃ ys', ys'.Perm ys ∧ All2 R xs' ys' := by
 intro xs xs' ys h hp
 induction hp generalizing ys with
 | nil => exact ⟨ys, List.Perm.refl _, h⟩
 | cons x _ ih =>
  match ys, h with
  | [], h => exact absurd h.1 (by simp)
  | y :: ys, h =>
   obtain ⟨zs, h1, h2⟩ := ih (ys := ys) ⟨by simpa using h.1, fun j a b ha hb => h.2 (j + 1) a b (by simpa using ha) (by simpa using hb)⟩
   exact ⟨y :: zs, h1.cons y, h2.cons (h.2 0 _ _ rfl rfl)⟩
 | swap x z l =>
  match ys, h with
  | [], h => exact absurd h.1 (by simp)
  | [_], h => exact absurd h.1 (by simp)
  | y1 :: y2 :: ys, h =>
   refine ⟨y2 :: y1 :: ys, List.Perm.swap .., ?_⟩
   have h0 : All2 R l ys := ⟨by simpa using h.1, fun j a b ha hb => h.2 (j + 2) a b (by simpa using ha) (by simpa using hb)⟩
   exact All2.cons (h.2 1 _ _ rfl rfl) (All2.cons (h.2 0 _ _ rfl rfl) h0)
 | trans _ _ ih1 ih2 =>
  obtain ⟨z1, p1, h1⟩ := ih2 h
  obtain ⟨z2, p2, h2⟩ := ih1 h1
  exact ⟨z2, p2.trans p1, h2⟩
theorem flat_set {size : Nat} (ls : List (List Value)) (i : Nat) (c : List Value) (h : ∀ x, x ∈ ls → x.length = size) (hc : c.length = size) (j : Nat) :
  (ls.set i c).flatten[j]? = if i < ls.length ∧ i * size ≤ j ∧ j < i * size + size then c[j - i * size]? else ls.flatten[j]? := by
 induction ls generalizing i j with
 | nil => simp
 | cons x ls ih =>
  have hx := h x (List.mem_cons_self ..)
  cases i with
  | zero =>
   simp only [List.set_cons_zero, List.flatten_cons, Nat.zero_mul, Nat.zero_le, true_and, Nat.zero_add, Nat.sub_zero, List.length_cons, Nat.zero_lt_succ]
   by_cases hj : j < size
   ·rw [if_pos hj, List.getElem?_append_left (by omega)]
   ·rw [if_neg hj, List.getElem?_append_right (by omega), List.getElem?_append_right (by omega), hc, hx]
  | succ i =>
   simp only [List.set_cons_succ, List.flatten_cons, List.length_cons]
   have e : (i + 1) * size = i * size + size := by rw [Nat.add_mul, Nat.one_mul]
   by_cases hj : j < size
   ·rw [List.getElem?_append_left (by omega), List.getElem?_append_left (by omega), if_neg (by omega)]
   ·rw [List.getElem?_append_right (by omega), List.getElem?_append_right (by omega), ih i (fun y hy => h y (List.mem_cons_of_mem _ hy)), hx, e]
    by_cases q : i < ls.length ∧ i * size ≤ j - size ∧ j - size < i * size + size
    ·rw [if_pos q, if_pos (by omega), show j - (i * size + size) = j - size - i * size by omega]
    ·rw [if_neg q, if_neg (by omega)]
theorem row_stored {w : World} {base e size n : Nat} {v : Value} {ls : List (List Value)} {i g : Nat} {c : List Value} (h : w.ownsRow base e size v n ls.flatten) (hls : ∀ x, x ∈ ls → x.length = size) (hv : v.ownBlock = some g) (hn : ls.length = n) (hi : i < n) (hc : c.length = size) :
  (w.setCells g (i * size) c).ownsRow base e size v n (ls.set i c).flatten ∧ w.there g (i * size) size ∧ Kept [g] w (w.setCells g (i * size) c) := by
 obtain ⟨h1, h2⟩ := h
 rcases h2 with ⟨rfl, _⟩ | ⟨g', cap, cur, rfl, hb, hh, hcap, hm, hs, ht⟩
 ·simp [Value.ownBlock] at hv
 ·simp [Value.ownBlock] at hv
  subst hv
  have hfl := flat_len ls hls
  have hsz : (i + 1) * size ≤ cap * size := Nat.mul_le_mul_right size (by omega)
  rw [Nat.add_mul, Nat.one_mul] at hsz
  have hnc : n * size ≤ cap * size := Nat.mul_le_mul_right size hcap
  have hin : (i + 1) * size ≤ n * size := Nat.mul_le_mul_right size (by omega)
  rw [Nat.add_mul, Nat.one_mul] at hin
  obtain ⟨cur', q1, q2, q3⟩ := setCells_at g' c (i * size) w cur hh
  refine ⟨⟨?_, .inr ⟨g', cap, cur', rfl, hb, q1, hcap, hm, by rw [q2]; exact hs, ?_⟩⟩, ?_, setCells_kept _ _ _ _⟩
  ·rw [flat_len (size := size) _ (fun x hx => by
    rcases List.mem_or_eq_of_mem_set hx with hx | rfl
    ·exact hls x hx
    ·exact hc), List.length_set, hn]
  ·apply List.ext_getElem?
   intro j
   rw [flat_set ls i c hls hc, List.getElem?_take]
   by_cases hj : j < n * size
   ·rw [if_pos hj, Array.getElem?_toList, q3 j (by omega), hc]
    by_cases q : i * size ≤ j ∧ j < i * size + size
    ·rw [if_pos q, if_pos ⟨by omega, q⟩]
    ·rw [if_neg q, if_neg (fun q' => q q'.2), ← ht, List.getElem?_take, if_pos hj, Array.getElem?_toList]
   ·rw [if_neg hj, if_neg (by omega), List.getElem?_eq_none (by rw [hfl, hn]; omega)]
  ·intro j hj
   have hl : i * size + j < cur.size := by omega
   have hcell : w.cell? ⟨g', i * size + j, none⟩ = some cur[i * size + j] := cell_head hh (by simp [hl])
   exact ⟨by rw [hcell]; rfl, free_head hh⟩
section
variable {α : Type} [Inhabited α]
theorem sort_world (enc : α → List Value) (k : Nat) {w : World} {g e : Nat} {cur : Array Value} (hh : w.heap[g]? = some (.cells cur e (0, 0))) (m : Nat) (d : Array α) (os : Array Obj) (hs : d.size * k ≤ cur.size) :
  Kept [g] w (sortWorldK enc k w g 0 m d os) ∧ ∃ cur', (sortWorldK enc k w g 0 m d os).heap[g]? = some (.cells cur' e (0, 0)) ∧ cur'.size = cur.size ∧ ∀ t, t < cur.size → cur'[t]? = if t < d.size * k then some (enc d[t / k]!)[t % k]! else cur[t]? := by
 have hg := lt_of_block hh
 have h0 : ∀ j, (sortWorldK enc k w g 0 m d os).heap[j]? = if j < w.heap.size then (w.heap.modify g (Sort.onCells (Sort.putCells id 0 (flatK enc k d))))[j]? else os[j - w.heap.size]? := by
  intro j
  show ((w.heap.modify g (Sort.onCells (Sort.putCells id 0 (flatK enc k d)))) ++ os)[j]? = _
  rw [Array.getElem?_append, Array.size_modify]
 refine ⟨⟨rfl, rfl, rfl, ?_, ?_⟩, Sort.putCells id 0 (flatK enc k d) cur, ?_, by simp [Sort.putCells], ?_⟩
 ·show w.heap.size ≤ ((w.heap.modify g (Sort.onCells (Sort.putCells id 0 (flatK enc k d)))) ++ os).size
  rw [Array.size_append, Array.size_modify]; omega
 ·intro j hj hx
  rw [h0, if_pos hj, Array.getElem?_modify, if_neg (by simp at hx; omega)]
 ·rw [h0, if_pos hg, Array.getElem?_modify, if_pos rfl, hh]
  rfl
 ·intro t ht
  simp only [Sort.putCells, Array.getElem?_mapIdx, Nat.zero_le, true_and, Nat.zero_add, Nat.sub_zero, size_flatK, id]
  rw [Array.getElem?_eq_getElem ht]
  by_cases q : t < d.size * k
  ·rw [if_pos q, Option.map_some, if_pos q, get_flatK enc k d t q]
  ·rw [if_neg q, Option.map_some, if_neg q]
end
def cmpZ (a b : ByteArray) : Int := if ltB a b = true then -1 else if ltB b a = true then 1 else 0
theorem less_eq (a b : ByteArray) : Op.bytesLess a.toList b.toList = ltB a b := by
 rw [ByteArray.toList_eq, ByteArray.toList_eq, bytesLess_eq]
 rfl
theorem compare_any (a b : ByteArray) (w : World) : Calls Tryz.prog 109 #[.string a, .string b] w fun e w' => e = .returned (.int .i64 (cmpZ a b)) ∧ w = w' := by
 by_cases h1 : ltB a b = true
 ·have f1 : Op.bytesLess a.toList b.toList = true := by rw [less_eq]; exact h1
  have HF : Hid (cmpZ a b = -1) := qI (by unfold cmpZ; rw [if_pos h1])
  clear h1
  go_enter Tryz.func109, Tryz.ntmps109
  go_wp2
  go_ret
  rw [HF.o]
  exact ⟨rfl, rfl⟩
 have f1 : Op.bytesLess a.toList b.toList = false := by rw [less_eq]; simpa using h1
 by_cases h2 : ltB b a = true
 ·have hne : a ≠ b := fun e => by subst e; exact h1 h2
  have f2 := (str_ne hne).1
  have HF : Hid (cmpZ a b = 1) := qI (by unfold cmpZ; rw [if_neg h1, if_pos h2])
  clear h1 h2 hne
  go_enter Tryz.func109, Tryz.ntmps109
  go_wp2
  go_ret
  rw [HF.o]
  exact ⟨rfl, rfl⟩
 ·have he : a = b := ltB_none h1 h2
  have f2 := (str_eq he).1
  have HF : Hid (cmpZ a b = 0) := qI (by unfold cmpZ; rw [if_neg h1, if_neg h2])
  clear h1 h2 he
  go_enter Tryz.func109, Tryz.ntmps109
  go_wp2
  go_ret
  rw [HF.o]
  exact ⟨rfl, rfl⟩
structure PC where
 key : ByteArray
 k : Int
 m : Int
 s : ByteArray
 p : Option Addr
 i : Nat
 c : Nat
 q : Option Addr
 j : Nat
 d : Nat
instance pcInh : Inhabited PC := ⟨⟨⟨#[]⟩, 0, 0, ⟨#[]⟩, none, 0, 0, none, 0, 0⟩⟩
def PC.cs (x : PC) : List Value := [.int .i64 x.k, .int .i64 x.m, .string x.s, .slice x.p x.i x.c, .slice x.q x.j x.d]
def PC.enc (x : PC) : List Value := .string x.key :: x.cs
def PC.cf (x y : PC) : Int := cmpZ x.key y.key
theorem PC.enc_len (x : PC) : x.enc.length = 6 := rfl
theorem PC.enc_one (x : PC) : ∀ v ∈ x.enc, v.oneCell' = true := by
 intro v hv
 simp only [PC.enc, PC.cs, List.mem_cons, List.not_mem_nil, or_false] at hv
 rcases hv with rfl | rfl | rfl | rfl | rfl | rfl <;> rfl
theorem byKey_any (x y : PC) (w : World) : Calls Tryz.prog 113 #[.agg x.enc.toArray, .agg y.enc.toArray] w fun e w' => e = .returned (.int .i64 (x.cf y)) ∧ w' = grow (w.drewN 0) #[.cells x.enc.toArray 60, .cells y.enc.toArray 60] := by
 obtain ⟨key, k, m, s, p, i, c, q, j, d⟩ := x
 obtain ⟨key', k', m', s', p', i', c', q', j', d'⟩ := y
 have HW : Hid (grow (w.drewN 0) #[.cells #[.string key, .int .i64 k, .int .i64 m, .string s, .slice p i c, .slice q j d] 60, .cells #[.string key', .int .i64 k', .int .i64 m', .string s', .slice p' i' c', .slice q' j' d'] 60] = (w.alloc (.cells #[.string key, .int .i64 k, .int .i64 m, .string s, .slice p i c, .slice q j d] 60)).alloc (.cells #[.string key', .int .i64 k', .int .i64 m', .string s', .slice p' i' c', .slice q' j' d'] 60)) := qI (by
  rw [Sort.alloc_eq_grow, Sort.alloc_eq_grow, Sort.grow_grow]; rfl)
 show Calls Tryz.prog 113 #[.agg #[.string key, .int .i64 k, .int .i64 m, .string s, .slice p i c, .slice q j d], .agg #[.string key', .int .i64 k', .int .i64 m', .string s', .slice p' i' c', .slice q' j' d']] w fun e w' => e = .returned (.int .i64 (cmpZ key key')) ∧ w' = grow (w.drewN 0) #[.cells #[.string key, .int .i64 k, .int .i64 m, .string s, .slice p i c, .slice q j d] 60, .cells #[.string key', .int .i64 k', .int .i64 m', .string s', .slice p' i' c', .slice q' j' d'] 60]
 rw [HW.o]
 go_enter Tryz.func113, Tryz.ntmps113
 go_wp2_with (go_at_call 109; refine (compare_any key key' _).mono ?_; rintro e w2 ⟨rfl, rfl⟩)
 go_ret
 exact ⟨rfl, rfl⟩
theorem ltOf_key (x y : PC) : ltOf PC.cf x y = ltB x.key y.key := by
 unfold ltOf PC.cf cmpZ
 by_cases h1 : ltB x.key y.key = true
 ·rw [if_pos h1, h1]; rfl
 ·rw [if_neg h1]
  have h1' : ltB x.key y.key = false := by simpa using h1
  rw [h1']
  split <;> rfl
theorem swo_keys : Sort.SWO (ltOf PC.cf) := by
 have e := ltOf_key
 refine ⟨fun x => ?_, fun x y z h1 h2 => ?_, fun x y z h1 h2 => ?_⟩
 ·rw [e]; unfold ltB; simp
 ·rw [e] at h1 h2 ⊢
  unfold ltB at *
  rw [decide_eq_true_iff] at *
  exact List.lt_trans h1 h2
 ·rw [e] at h1 h2 ⊢
  unfold ltB at *
  rw [decide_eq_false_iff_not] at *
  rw [List.not_lt] at *
  exact List.le_trans h2 h1
theorem agg_pair (w : World) : (isAgg 60).run Tryz.prog w = .ok true w := Tryz.isAgg60 w
theorem size_pair (w : World) : (Go.sizeOf 60).run Tryz.prog w = .ok 6 w := Tryz.sizeOf60 w
theorem enter_byKey : ∀ (args : Array Value) (w : World), (callFunc 113 args).run Tryz.prog w = .ok (.enter 113 args) w := enters_of Tryz.func113 (by kernel_rfl) rfl
theorem enc_get (ds : List PC) (t : Nat) (h : t < ds.length * 6) : (ds.flatMap PC.enc)[t]? = some (((ds[t / 6]'(by omega)).enc)[t % 6]!) := by
 have h1 : ds.flatMap PC.enc = (ds.map PC.enc).flatten := by simp [List.flatMap]
 have h2 := flat_get (size := 6) (ds.map PC.enc) (t / 6) (t % 6) (by intro c hc; obtain ⟨x, _, rfl⟩ := List.mem_map.1 hc; rfl) (by simp; omega) (by omega)
 have e : t / 6 * 6 + t % 6 = t := by omega
 rw [e] at h2
 rw [h1, h2, List.getElem_map]
 have hl : t % 6 < (ds[t / 6]'(by omega)).enc.length := by rw [PC.enc_len]; omega
 rw [List.getElem?_eq_getElem hl]
 congr 1
 exact (getElem!_pos (ds[t / 6]'(by omega)).enc (t % 6) hl).symm
theorem enc_length (ds : List PC) : (ds.flatMap PC.enc).length = ds.length * 6 := by
 induction ds with
 | nil => rfl
 | cons x ds ih => rw [List.flatMap_cons, List.length_append, ih, PC.enc_len, List.length_cons]; omega
theorem sortPairs_any {w : World} {B g n cap : Nat} {ms : List PC} (hrow : w.ownsRow B 60 6 (.slice (some ⟨g, 0, none⟩) n cap) n (ms.flatMap PC.enc)) (hn : ms.length = n) (h63 : n ≤ 1000000) :
  Calls Tryz.prog 112 #[.slice (some ⟨g, 0, none⟩) n cap, .func (.func 113) #[] #[]] w fun e w' =>
   e = .returned (.tuple #[]) ∧ ∃ ds : List PC, ds.Perm ms ∧ ds.Pairwise (fun x y => ltB y.key x.key = false) ∧ w'.ownsRow B 60 6 (.slice (some ⟨g, 0, none⟩) n cap) n (ds.flatMap PC.enc) ∧ Kept [g] w w' := by
 subst hn
 obtain ⟨hl, hr⟩ := hrow
 obtain ⟨cur, hb, hh, hc, hm, hs, ht⟩ : ∃ cur, B ≤ g ∧ w.heap[g]? = some (.cells cur 60 (0, 0)) ∧ ms.length ≤ cap ∧ cap ≤ maxLen ∧ cur.size = cap * 6 ∧ cur.toList.take (ms.length * 6) = ms.flatMap PC.enc := by
  rcases hr with ⟨h, _⟩ | ⟨g', cap', cur, hv, r1, r2, r3, r4, r5, r6⟩
  ·cases h
  ·simp only [Value.slice.injEq, Option.some.injEq, Addr.mk.injEq, and_true, true_and] at hv
   obtain ⟨rfl, rfl⟩ := hv
   exact ⟨cur, r1, r2, r3, r4, r5, r6⟩
 have hmc : ms.length * 6 ≤ cap * 6 := Nat.mul_le_mul_right 6 hc
 have hH : HoldsK PC.enc 6 w g 0 ms.toArray := by
  intro j hj
  rw [size_flatK] at hj
  have hj' : j < ms.length * 6 := by simpa using hj
  rw [get_flatK _ _ _ _ hj, Nat.zero_add]
  have h1 : cur[j]? = some ((ms[j / 6]'(by omega)).enc[j % 6]!) := by
   rw [← enc_get ms j hj', ← ht, List.getElem?_take, if_pos hj', Array.getElem?_toList]
  refine ⟨?_, free_head hh⟩
  rw [cell_head hh h1]
  have h2 : j / 6 < ms.toArray.size := by simp; omega
  rw [getElem!_pos ms.toArray (j / 6) h2]
  simp
 have hcmp : CmpLays Tryz.prog 113 #[] PC.enc 6 PC.cf g 0 ms.toArray.size w := by
  intro m os dk _ x y
  exact (byKey_any x y _).mono fun e w' ⟨h1, h2⟩ => ⟨h1, 0, _, h2⟩
 refine (AnyQ.slices_SortFunc Tryz.shSort 6 agg_pair size_pair PC.enc PC.enc_len PC.enc_one PC.cf swo_keys 113 #[] g 0 cap ms.toArray w enter_byKey hcmp hH (lt_of_block hh) (by simp; omega)).mono ?_
 rintro e w' ⟨rfl, d', m, os, hp, hsrt, rfl⟩
 obtain ⟨p1, _, p3⟩ := hp
 have hsz : d'.size = ms.length := by simpa using p1
 obtain ⟨q1, cur', q2, q3, q4⟩ := sort_world PC.enc 6 hh m d' os (by rw [hsz, hs]; exact hmc)
 have hperm : d'.toList.Perm ms := by
  have h1 : (d'.extract 0 ms.toArray.size) = d' := by rw [← p1]; exact Array.extract_size
  have h2 : (ms.toArray.extract 0 ms.toArray.size) = ms.toArray := Array.extract_size
  rw [h1, h2] at p3
  simpa using p3
 refine ⟨rfl, d'.toList, hperm, ?_, ⟨?_, .inr ⟨g, cap, cur', rfl, hb, q2, hc, hm, by rw [q3]; exact hs, ?_⟩⟩, q1⟩
 ·rw [List.pairwise_iff_getElem]
  intro i j hi hj hij
  have hi' : i < d'.size := by simpa using hi
  have hj' : j < d'.size := by simpa using hj
  have h1 := hsrt i j (Nat.zero_le _) hij (by rw [← p1]; exact hj')
  rw [getElem!_pos d' i hi', getElem!_pos d' j hj'] at h1
  have h2 : ltOf PC.cf d'[j] d'[i] = ltB d'[j].key d'[i].key := ltOf_key _ _
  rw [h2] at h1
  simpa using h1
 ·rw [enc_length, Array.length_toList, hsz]
 ·apply List.ext_getElem?
  intro t
  rw [List.getElem?_take]
  by_cases h1 : t < ms.length * 6
  ·rw [if_pos h1, Array.getElem?_toList, q4 t (by omega), if_pos (by rw [hsz]; exact h1), enc_get d'.toList t (by rw [Array.length_toList, hsz]; exact h1)]
   have h2 : t / 6 < d'.size := by omega
   rw [getElem!_pos d' (t / 6) h2]
   simp
  ·rw [if_neg h1, List.getElem?_eq_none (by rw [enc_length, Array.length_toList, hsz]; omega)]
theorem row_cells {w : World} {base e size n o g : Nat} {v : Value} {xs c : List Value} (h : w.ownsRow base e size v n xs) (hv : v.ownBlock = some g) (ho : o + c.length ≤ n * size) :
  (∃ ys, (w.setCells g o c).ownsRow base e size v n ys ∧ ys.length = xs.length ∧ ∀ j, ys[j]? = if o ≤ j ∧ j < o + c.length then c[j - o]? else xs[j]?) ∧ w.there g o c.length ∧ Kept [g] w (w.setCells g o c) := by
 obtain ⟨h1, h2⟩ := h
 rcases h2 with ⟨rfl, _⟩ | ⟨g', cap, cur, rfl, hb, hh, hcap, hm, hs, ht⟩
 ·simp [Value.ownBlock] at hv
 ·simp [Value.ownBlock] at hv
  subst hv
  have hnc : n * size ≤ cap * size := Nat.mul_le_mul_right size hcap
  obtain ⟨cur', q1, q2, q3⟩ := setCells_at g' c o w cur hh
  have hget : ∀ j, (cur'.toList.take (n * size))[j]? = if o ≤ j ∧ j < o + c.length then c[j - o]? else xs[j]? := by
   intro j
   rw [List.getElem?_take]
   by_cases hj : j < n * size
   ·rw [if_pos hj, Array.getElem?_toList, q3 j (by omega)]
    by_cases q : o ≤ j ∧ j < o + c.length
    ·rw [if_pos q, if_pos q]
    ·rw [if_neg q, if_neg q, ← ht, List.getElem?_take, if_pos hj, Array.getElem?_toList]
   ·rw [if_neg hj, if_neg (by omega), List.getElem?_eq_none (by omega)]
  have hlen : (cur'.toList.take (n * size)).length = n * size := by rw [List.length_take, Array.length_toList, q2, hs]; omega
  refine ⟨⟨cur'.toList.take (n * size), ⟨hlen, .inr ⟨g', cap, cur', rfl, hb, q1, hcap, hm, by rw [q2]; exact hs, rfl⟩⟩, by rw [hlen, h1], hget⟩, ?_, setCells_kept _ _ _ _⟩
  intro j hj
  have hl : o + j < cur.size := by omega
  have hcell : w.cell? ⟨g', o + j, none⟩ = some cur[o + j] := cell_head hh (by simp [hl])
  exact ⟨by rw [hcell]; rfl, free_head hh⟩
theorem take_set {α β : Type} (f : α → β) (g : α → β) (l : List α) (k : Nat) (h : k < l.length) : ((l.take k).map f ++ (l.drop k).map g).set k (f l[k]) = (l.take (k + 1)).map f ++ (l.drop (k + 1)).map g := by
 rw [take_map_succ f l k h, List.drop_eq_getElem_cons h, List.map_cons, List.set_append]
 have e : ((l.take k).map f).length = k := by simp; omega
 rw [if_neg (by omega), e, Nat.sub_self, List.set_cons_zero, List.append_assoc]
 rfl
theorem mixed_get {α β : Type} (f : α → β) (g : α → β) (l : List α) (k : Nat) (h : k < l.length) : ((l.take k).map f ++ (l.drop k).map g)[k]? = some (g l[k]) := by
 have e : ((l.take k).map f).length = k := by simp; omega
 rw [List.getElem?_append_right (by omega), e, Nat.sub_self, List.drop_eq_getElem_cons h]
 rfl
theorem right_nodup {n : Nat} {v : VS (V n)} (h : rightV (n + 1) v = true) : (v.m.map (fun p => p.1)).Nodup := by
 rcases own_cases (right_own h) with q | q | q | q | q | q
 ·rw [q.2.2.2.2]; exact List.nodup_nil
 ·rw [q.2.2.2.2]; exact List.nodup_nil
 ·rw [q.2.2.2.2]; exact List.nodup_nil
 ·rw [q.2.2.2.2]; exact List.nodup_nil
 ·rw [q.2.2.2]; exact List.nodup_nil
 ·have := q.2.2.2.2
  unfold keysOk at this
  rw [Bool.and_eq_true, decide_eq_true_iff] at this
  exact this.2
theorem pcs_of {n : Nat} {S : Nat → Prop} {w : World} : ∀ {mcs : List (ByteArray × List Value)} {ms : List (ByteArray × V n)}, All2 (pairR (Rep n S w)) mcs ms → ∃ ds : List PC, mcs = ds.map (fun x => (x.key, x.cs)) ∧ pairCs mcs = ds.flatMap PC.enc := by
 intro mcs
 induction mcs with
 | nil => intro ms _; exact ⟨[], rfl, rfl⟩
 | cons p mcs ih =>
  intro ms h
  match ms, h with
  | [], h => exact absurd h.1 (by simp)
  | q :: ms, h =>
   obtain ⟨ds, h1, h2⟩ := ih (ms := ms) ⟨by simpa using h.1, fun j a b ha hb => h.2 (j + 1) a b (by simpa using ha) (by simpa using hb)⟩
   have hr := (h.2 0 p q rfl rfl).2
   obtain ⟨key, cs⟩ := p
   obtain ⟨k, m, s, a, b, e⟩ := hr.five
   simp only at e
   subst e
   obtain ⟨p1, i, c, q1, j, d, rfl, rfl⟩ := hr.sl
   refine ⟨⟨key, k, m, s, p1, i, c, q1, j, d⟩ :: ds, by rw [List.map_cons, h1]; rfl, ?_⟩
   rw [List.flatMap_cons, ← h2]
   rfl
theorem Slc.at6 {w : World} {x : Value} {m : Nat} {ms : List (ByteArray × List Value)} (h : Slc w 6 x m (pairCs ms)) (h6 : ∀ c, c ∈ ms.map pairC → c.length = 6) {j : Nat} (hj : j < ms.length) {k i : Int} {s : ByteArray} {a b : Value} (e : ms[j].2 = [.int .i64 k, .int .i64 i, .string s, a, b]) :
  ∃ g o cap, x = .slice (some ⟨g, o, none⟩) m cap ∧ w.cell? ⟨g, o + j * 6, none⟩ = some (.string ms[j].1) ∧ w.cell? ⟨g, o + j * 6 + 1, none⟩ = some (.int .i64 k) ∧ w.cell? ⟨g, o + j * 6 + 2, none⟩ = some (.int .i64 i) ∧ w.cell? ⟨g, o + j * 6 + 3, none⟩ = some (.string s) ∧ w.cell? ⟨g, o + j * 6 + 4, none⟩ = some a ∧ w.cell? ⟨g, o + j * 6 + 5, none⟩ = some b := by
 rw [pairCs_flat] at h
 have hl := flat_len (ms.map pairC) h6
 rw [List.length_map] at hl
 have hm := h.1
 rcases h.2 with ⟨_, h0⟩ | ⟨h0, _⟩ | ⟨g, o, cap, hsv, _, _, hrow⟩
 ·omega
 ·omega
 have hc : ∀ i, i < 6 → (ms.map pairC).flatten[j * 6 + i]? = (pairC ms[j])[i]? := fun i hi => by
  rw [flat_get (ms.map pairC) j i h6 (by simpa using hj) hi, List.getElem_map]
 have e2 : pairC ms[j] = [.string ms[j].1, .int .i64 k, .int .i64 i, .string s, a, b] := by
  show Value.string ms[j].1 :: ms[j].2 = _
  rw [e]
 rw [e2] at hc
 refine ⟨g, o, cap, hsv, ?_, ?_, ?_, ?_, ?_, ?_⟩
 ·exact hrow.cells (j * 6 + 0) _ (hc 0 (by decide))
 all_goals rw [Nat.add_assoc]
 ·exact hrow.cells (j * 6 + 1) _ (hc 1 (by decide))
 ·exact hrow.cells (j * 6 + 2) _ (hc 2 (by decide))
 ·exact hrow.cells (j * 6 + 3) _ (hc 3 (by decide))
 ·exact hrow.cells (j * 6 + 4) _ (hc 4 (by decide))
 ·exact hrow.cells (j * 6 + 5) _ (hc 5 (by decide))
theorem pair_set {ms : List (ByteArray × List Value)} (h6 : ∀ c, c ∈ ms.map pairC → c.length = 6) {k : Nat} (hk : k < ms.length) {c ys : List Value} (hc : c.length = 5)
  (hy : ∀ j, ys[j]? = if k * 6 + 1 ≤ j ∧ j < k * 6 + 1 + c.length then c[j - (k * 6 + 1)]? else (pairCs ms)[j]?) : ys = pairCs (ms.set k (ms[k].1, c)) := by
 apply List.ext_getElem?
 intro j
 rw [hy j, pairCs_flat, pairCs_flat, List.map_set, flat_set (size := 6) (ms.map pairC) k (pairC (ms[k].1, c)) h6 (by simp [pairC, hc]), List.length_map, hc]
 by_cases q : k * 6 + 1 ≤ j ∧ j < k * 6 + 1 + 5
 ·rw [if_pos q, if_pos ⟨hk, by omega, by omega⟩]
  show _ = (Value.string ms[k].1 :: c)[j - k * 6]?
  rw [show j - k * 6 = (j - (k * 6 + 1)) + 1 by omega, List.getElem?_cons_succ]
 ·rw [if_neg q]
  by_cases q2 : j = k * 6
  ·subst q2
   rw [if_pos ⟨hk, by omega, by omega⟩, Nat.sub_self]
   have := flat_get (size := 6) (ms.map pairC) k 0 h6 (by simpa using hk) (by decide)
   rw [Nat.add_zero] at this
   rw [this, List.getElem_map]
   rfl
  ·rw [if_neg (by omega)]
structure SortL {n : Nat} (B : Nat) (W2 : World) (v : VS (V n)) (vl vm : Value) (k : Nat) (wr : World) (ls : List (List Value)) : Prop where
 row : wr.ownsRow B 25 5 vl v.l.length ls.flatten
 all : All2 (Rep n (fun g => B ≤ g ∧ vl.ownBlock ≠ some g ∧ vm.ownBlock ≠ some g) wr) ls ((v.l.take k).map (sortV n) ++ (v.l.drop k).map id)
 kept : Kept vl.ownBlock.toList W2 wr
structure SortM {n : Nat} (B : Nat) (W2 : World) (v : VS (V n)) (vl vm : Value) (k : Nat) (wr : World) (ms : List (ByteArray × List Value)) : Prop where
 row : wr.ownsRow B 60 6 vm v.m.length (pairCs ms)
 all : All2 (pairR (Rep n (fun g => B ≤ g ∧ vl.ownBlock ≠ some g ∧ vm.ownBlock ≠ some g) wr)) ms ((v.m.take k).map (fun p => (p.1, sortV n p.2)) ++ (v.m.drop k).map id)
 kept : Kept vm.ownBlock.toList W2 wr
theorem Rep.conv {n : Nat} {S : Nat → Prop} {w : World} {cs : List Value} {v : V n} (h : Rep n S w cs v) : ∃ k m s p i c q j d, cs = [.int .i64 k, .int .i64 m, .string s, .slice p i c, .slice q j d] := by
 obtain ⟨k, m, s, a, b, rfl⟩ := h.five
 obtain ⟨p, i, c, q, j, d, rfl, rfl⟩ := h.sl
 exact ⟨k, m, s, p, i, c, q, j, d, rfl⟩
theorem sortAny {w : World} {B n cap : Nat} {a : Option Addr} {ms : List PC} (hrow : w.ownsRow B 60 6 (.slice a n cap) n (ms.flatMap PC.enc)) (h63 : n ≤ 1000000) :
  Calls Tryz.prog 112 #[.slice a n cap, .func (.func 113) #[] #[]] w fun e w' =>
   e = .returned (.tuple #[]) ∧ ∃ ds : List PC, ds.Perm ms ∧ ds.Pairwise (fun x y => ltB y.key x.key = false) ∧ w'.ownsRow B 60 6 (.slice a n cap) n (ds.flatMap PC.enc) ∧ Kept (Value.slice a n cap).ownBlock.toList w w' := by
 have hl : ms.length = n := by have := hrow.1; rw [enc_length] at this; omega
 cases a with
 | none =>
  have h0 : n = 0 ∧ cap = 0 := by
   rcases hrow.2 with ⟨h, h1⟩ | ⟨g, cap', cur, hv, _⟩
   ·simp only [Value.slice.injEq] at h; exact ⟨h.2.1, h.2.2⟩
   ·simp only [Value.slice.injEq] at hv; cases hv.1
  obtain ⟨rfl, rfl⟩ := h0
  have : ms = [] := List.eq_nil_of_length_eq_zero hl
  subst this
  exact (AnyF.slices_SortFunc_none Tryz.shSort none 0 _ w).mono fun e w' ⟨h1, h2⟩ => ⟨h1, [], List.Perm.refl _, List.Pairwise.nil, by rw [h2]; exact hrow, by rw [h2]; exact Kept.refl _ _⟩
 | some ad =>
  have had : ∃ g, ad = ⟨g, 0, none⟩ := by
   rcases hrow.2 with ⟨h, h1⟩ | ⟨g, cap', cur, hv, _⟩
   ·simp only [Value.slice.injEq] at h; cases h.1
   ·simp only [Value.slice.injEq, Option.some.injEq] at hv; exact ⟨g, hv.1⟩
  obtain ⟨g, rfl⟩ := had
  exact (sortPairs_any hrow hl h63).mono fun e w' ⟨h1, ds, h2, h3, h4, h5⟩ => ⟨h1, ds, h2, h3, h4, by simpa [Value.ownBlock] using h5⟩
theorem sorted_pairs {n : Nat} {R : List Value → V n → Prop} {ds ms : List PC} {xs : List (ByteArray × V n)} (h : All2 (pairR R) (ms.map (fun x => (x.key, x.cs))) xs) (hp : ds.Perm ms) (hs : ds.Pairwise (fun x y => ltB y.key x.key = false)) (hn : (xs.map (fun p => p.1)).Nodup) :
  All2 (pairR R) (ds.map (fun x => (x.key, x.cs))) (xs.mergeSort leK) := by
 obtain ⟨ys, h1, h2⟩ := h.perm (hp.map _)
 have hkeys : ∀ i (hi : i < ds.length) (hi' : i < ys.length), ys[i].1 = ds[i].key := fun i hi hi' => by
  have := (h2.2 i _ ys[i] (List.getElem?_eq_getElem (by simpa using hi)) (List.getElem?_eq_getElem hi')).1
  simpa using this.symm
 have hlen : ds.length = ys.length := by simpa using h2.1
 have hsrt : ys.Pairwise (fun x y => leK x y = true) := by
  rw [List.pairwise_iff_getElem]
  intro i j hi hj hij
  have h3 := (List.pairwise_iff_getElem.1 hs) i j (by omega) (by omega) hij
  unfold ltB at h3
  rw [decide_eq_false_iff_not, List.not_lt] at h3
  unfold leK
  rw [decide_eq_true_iff, hkeys i (by omega) hi, hkeys j (by omega) hj]
  exact h3
 have hnd : (ys.map (fun p => p.1)).Nodup := (h1.map (fun p : ByteArray × V n => p.1)).nodup_iff.2 hn
 have he : ys = xs.mergeSort leK := sorted_unique (h1.trans (List.mergeSort_perm xs leK).symm) hsrt (List.pairwise_mergeSort leK_trans leK_total xs) hnd
 rw [← he]
 exact h2
def sorted_anyKnown (n : Nat) : Prop := ∀ (v : V n) {S : Nat → Prop} {w : World} {cs : List Value}, Rep n S w cs v → Small n v → rightV n v = true →
    Calls Tryz.prog 77 #[.agg cs.toArray] w fun e w' => (∃ cs' : List Value, e = .returned (.agg cs'.toArray) ∧ OwnRep n w.heap.size w' cs' (sortV n v)) ∧ Kept [] w w'
theorem sorted_any_step {n : Nat} (known : sorted_anyKnown n) : sorted_anyKnown (n + 1) := fun (v : VS (V n)) {S} {w} {cs} h hs hrt => by
  have Jb := qI hs
  have Jw := qI hrt
  have Mc := qI (right_nodup hrt)
  have IH := qI known
  have hlv : v.l.length ≤ 20000 := by have := hs.few; omega
  have hmv : v.m.length ≤ 20000 := by have := hs.few; omega
  obtain ⟨kd, nm, st, a, ca, ea, b, cb, eb, rfl⟩ := h.conv
  obtain ⟨W0, Gk⟩ : ∃ W0, Hid (W0 = (w.alloc (.cells #[.int .i64 kd, .int .i64 nm, .string st, .slice a ca ea, .slice b cb eb] 25)).alloc (.cells #[.int .i64 0, .int .i64 0, .string ⟨#[]⟩, .slice none 0 0, .slice none 0 0] 25)) := ⟨_, qI rfl⟩
  have Gs : Hid (W0.heap.size = w.heap.size + 2) := qI (by rw [Gk.o]; simp)
  have Jj : Hid (Kept [] w W0) := qI (by rw [Gk.o]; exact ((Kept.refl [] w).alloc _).alloc _)
  have Jk : Hid (W0.heap[w.heap.size + 1]? = some (.cells #[.int .i64 0, .int .i64 0, .string ⟨#[]⟩, .slice none 0 0, .slice none 0 0] 25 (0, 0))) := qI (by
   rw [Gk.o]; exact block_alloc (by simp))
  have CC := qI (clone_any (n + 1) v (h.kept0 Jj.o) hs)
  clear h hs hrt
  go_enter Tryz.func77, Tryz.ntmps77
  go_wp2_with fail
  rw [← Gk.o]
  refine CC.o.mono ?_
  rintro e w1 ⟨⟨cs', rfl, hown⟩, hk1⟩
  have Jl := qI hown.rep
  obtain ⟨vl, vm, lcs, mcs, rfl, hrl, hal, hrm, ham, hwk, hwn⟩ := hown
  obtain ⟨al, cl, rfl, -, -⟩ := (Slc.of_row hrl).form
  obtain ⟨am, cm, rfl, -, -⟩ := (Slc.of_row hrm).form
  have Jf := qI hrl
  have Md := qI hal
  have Ja := qI hrm
  have Me := qI ham
  have Jx := qI (And.intro hwk hwn)
  have Gq := qI hk1
  clear hrl hal hrm ham hwk hwn hk1 CC
  obtain ⟨W2, Jg⟩ : ∃ W2, Hid (W2 = w1.alloc (.cells #[.int .i64 v.kind, .int .i64 v.num, .string v.s, .slice al v.l.length cl, .slice am v.m.length cm] 25)) := ⟨_, qI rfl⟩
  have Gj : Hid (Kept [] w1 W2) := qI (by rw [Jg.o]; exact (Kept.refl [] w1).alloc _)
  have Jo : Hid (BoxAt W2 w1.heap.size v.kind v.num v.s (.slice al v.l.length cl) (.slice am v.m.length cm)) := qI (by rw [Jg.o]; exact box_at _ _ _ _ _ _ _)
  have Gc : Hid (W2.heap.size = w1.heap.size + 1) := qI (by rw [Jg.o]; simp)
  obtain ⟨c0, c1, c2, c3, c4⟩ := Jo.o
  rw [Jg.o] at c0 c1 c2 c3 c4
  go_wp2_with fail
  rw [← Jg.o]
  clear c0 c1 c2 c3 c4
  have Mf : Hid (SortL W0.heap.size W2 v (.slice al v.l.length cl) (.slice am v.m.length cm) 0 W2 lcs) := qI {
   row := row_kept Jf.o Gj.o (by simp)
   all := by simpa using Md.o.mono fun _ _ _ r => r.kept0 Gj.o
   kept := Kept.refl _ _ }
  go_loopw [11] (fun i wr => ∃ (k : Nat) (ls : List (List Value)), i = .int .i64 k ∧ k ≤ v.l.length ∧ SortL W0.heap.size W2 v (.slice al v.l.length cl) (.slice am v.m.length cm) k wr ls) (fun i _ => v.l.length - (intOf i).toNat)
  case atStart => exact ⟨0, _, rfl, Nat.zero_le _, Mf.o⟩
  case round =>
   obtain ⟨k, ls, rfl, hk, hsl⟩ := hrel
   have Ga := qI hsl
   clear hsl
   by_cases hlt : k < v.l.length
   ·have hltI : (k : Int) < v.l.length := by omega
    obtain ⟨g, rfl, hgB, hgl⟩ : ∃ g, al = some ⟨g, 0, none⟩ ∧ W0.heap.size ≤ g ∧ g < w1.heap.size := by
     rcases Jf.o.2 with ⟨_, h0⟩ | ⟨g, cap, cur, hv, r1, r2, _⟩
     ·omega
     ·simp only [Value.slice.injEq] at hv
      exact ⟨g, hv.1, r1, lt_of_block r2⟩
    have hlsl : ls.length = v.l.length := by rw [Ga.o.all.1]; simp; omega
    have hk' : k < ls.length := by omega
    have hrep := Ga.o.all.2 k ls[k] v.l[k] (List.getElem?_eq_getElem hk') (mixed_get (sortV n) id v.l k hlt)
    obtain ⟨xk, xm, xs, xp, xi, xc, xq, xj, xd, ex⟩ := hrep.conv
    obtain ⟨g', o', cap', hsv, q0, q1, q2, q3, q4⟩ := (Slc.of_row Ga.o.row).at5 (fun c hc => by obtain ⟨y, _, r⟩ := Ga.o.all.mem_left hc; exact r.len) hk' ex
    simp only [Value.slice.injEq, Option.some.injEq, Addr.mk.injEq, and_true, true_and] at hsv
    obtain ⟨⟨rfl, rfl⟩, -⟩ := hsv
    rw [ex] at hrep
    have Jp := qI hrep
    have Jh : Hid (Kept [g] W2 wr) := qI (by have := Ga.o.kept; simpa [Value.ownBlock] using this)
    have hgne : g ≠ w1.heap.size := by omega
    have y3 := (Jo.o.kept Jh.o (by simpa using Ne.symm hgne)).c3
    have Gt := qI (Jb.o.kid (mem_l (List.getElem_mem hlt)))
    have Jq := qI (right_kid Jw.o (mem_l (List.getElem_mem hlt)))
    clear hrep
    rw [Nat.zero_add] at q0 q1 q2 q3 q4
    go_wp2_with fail
    refine wp_region_last' (n := 11) (fun w' : World => w'.cell? ⟨w1.heap.size, 3, none⟩ = some (.slice (some ⟨g, 0, none⟩) v.l.length cl) ∧ w'.cell? ⟨g, k * 5, none⟩ = some (.int .i64 xk) ∧ w'.cell? ⟨g, k * 5 + 1, none⟩ = some (.int .i64 xm) ∧ w'.cell? ⟨g, k * 5 + 2, none⟩ = some (.string xs) ∧ w'.cell? ⟨g, k * 5 + 3, none⟩ = some (.slice xp xi xc) ∧ w'.cell? ⟨g, k * 5 + 4, none⟩ = some (.slice xq xj xd)) 10 (by kernel_rfl) (by kernel_rfl) ?_
    change wpAnyT _ _ _ _ _ _ _ _ _ wr.drew
    have hSS : (fun w' : World => w'.cell? ⟨w1.heap.size, 3, none⟩ = some (.slice (some ⟨g, 0, none⟩) v.l.length cl) ∧ w'.cell? ⟨g, k * 5, none⟩ = some (.int .i64 xk) ∧ w'.cell? ⟨g, k * 5 + 1, none⟩ = some (.int .i64 xm) ∧ w'.cell? ⟨g, k * 5 + 2, none⟩ = some (.string xs) ∧ w'.cell? ⟨g, k * 5 + 3, none⟩ = some (.slice xp xi xc) ∧ w'.cell? ⟨g, k * 5 + 4, none⟩ = some (.slice xq xj xd)) wr.drew := ⟨y3, q0, q1, q2, q3, q4⟩
    have Gn : Hid (Kept [] wr wr.drew) := qI (Kept.refl _ _).drew
    clear y3 q0 q1 q2 q3 q4
    revert hSS Gn
    generalize wr.drew = WD
    intro hSS Gn
    refine wpAnyT_start ?_
    intro O R hO hR
    have hQp : ∀ c a (d : Nat) v w, R (.panic c) (a.put (some d) v) w → R (.panic c) a w := by subst hR; exact fun _ _ _ _ _ h => h
    refine wpAnyT_take' (i := 0) (v := ?_) hO rfl rfl (by kernel_rfl) (by kernel_rfl) (by kernel_rfl) (by kernel_rfl) hQp (Or.inl ⟨by kernel_rfl, fun w hSw => ?_⟩) hSS ?_
    rotate_left
    ·obtain ⟨s0, s1, s2, s3, s4, s5⟩ := hSw; go_simp; try with_reducible rfl
    try simp only [zA,zN,zB,zC,zD]
    refine wpAnyT_take' (i := 1) (v := ?_) hO rfl rfl (by kernel_rfl) (by kernel_rfl) (by kernel_rfl) (by kernel_rfl) hQp (Or.inl ⟨by kernel_rfl, fun w hSw => ?_⟩) hSS ?_
    rotate_left
    ·obtain ⟨s0, s1, s2, s3, s4, s5⟩ := hSw; go_simp; try with_reducible rfl
    try simp only [zA,zN,zB,zC,zD]
    refine wpAnyT_take' (i := 2) (v := ?_) hO rfl rfl (by kernel_rfl) (by kernel_rfl) (by kernel_rfl) (by kernel_rfl) hQp (Or.inl ⟨by kernel_rfl, fun w hSw => ?_⟩) hSS ?_
    rotate_left
    ·obtain ⟨s0, s1, s2, s3, s4, s5⟩ := hSw; go_simp; try with_reducible rfl
    try simp only [zA,zN,zB,zC,zD]
    refine wpAnyT_take' (i := 3) (v := ?_) hO rfl rfl (by kernel_rfl) (by kernel_rfl) (by kernel_rfl) (by kernel_rfl) hQp (Or.inl ⟨by kernel_rfl, fun w hSw => ?_⟩) hSS ?_
    rotate_left
    ·obtain ⟨s0, s1, s2, s3, s4, s5⟩ := hSw; go_simp; try with_reducible rfl
    try simp only [zA,zN,zB,zC,zD]
    refine wpAnyT_take' (i := 4) (v := ?_) hO rfl rfl (by kernel_rfl) (by kernel_rfl) (by kernel_rfl) (by kernel_rfl) hQp (Or.inl ⟨by kernel_rfl, fun w hSw => ?_⟩) hSS ?_
    rotate_left
    ·obtain ⟨s0, s1, s2, s3, s4, s5⟩ := hSw; go_simp; try with_reducible rfl
    try simp only [zA,zN,zB,zC,zD]
    refine wpAnyT_take' (i := 5) (v := ?_) hO rfl rfl (by kernel_rfl) (by kernel_rfl) (by kernel_rfl) (by kernel_rfl) hQp (Or.inl ⟨by kernel_rfl, fun w hSw => ?_⟩) hSS ?_
    rotate_left
    ·obtain ⟨s0, s1, s2, s3, s4, s5⟩ := hSw; go_simp; try with_reducible rfl
    try simp only [zA,zN,zB,zC,zD]
    refine wpAnyT_take' (i := 6) (v := ?_) hO rfl rfl (by kernel_rfl) (by kernel_rfl) (by kernel_rfl) (by kernel_rfl) hQp (Or.inl ⟨by kernel_rfl, fun w hSw => ?_⟩) hSS ?_
    rotate_left
    ·obtain ⟨s0, s1, s2, s3, s4, s5⟩ := hSw; go_simp; try with_reducible rfl
    try simp only [zA,zN,zB,zC,zD]
    refine wpAnyT_take' (i := 7) (v := ?_) hO rfl rfl (by kernel_rfl) (by kernel_rfl) (by kernel_rfl) (by kernel_rfl) hQp (Or.inl ⟨by kernel_rfl, fun w hSw => ?_⟩) hSS ?_
    rotate_left
    ·obtain ⟨s0, s1, s2, s3, s4, s5⟩ := hSw; go_simp; try with_reducible rfl
    try simp only [zA,zN,zB,zC,zD]
    refine wpAnyT_one' (i := 8) hO rfl (by kernel_rfl) (by kernel_rfl) (fun K hK => ?_)
    go_simp
    refine Calls.mono (IH.o v.l[k] (Jp.o.kept0 Gn.o) Gt.o Jq.o) ?_
    rintro e w3 ⟨⟨c3, rfl, hown3⟩, hk3⟩
    have Gx := qI hown3.rep
    have Gd := qI (Gn.o.then hk3)
    have hS3 : (fun w' : World => w'.cell? ⟨w1.heap.size, 3, none⟩ = some (.slice (some ⟨g, 0, none⟩) v.l.length cl) ∧ w'.cell? ⟨g, k * 5, none⟩ = some (.int .i64 xk) ∧ w'.cell? ⟨g, k * 5 + 1, none⟩ = some (.int .i64 xm) ∧ w'.cell? ⟨g, k * 5 + 2, none⟩ = some (.string xs) ∧ w'.cell? ⟨g, k * 5 + 3, none⟩ = some (.slice xp xi xc) ∧ w'.cell? ⟨g, k * 5 + 4, none⟩ = some (.slice xq xj xd)) w3 := ⟨hk3.cell hSS.1 (by simp), hk3.cell hSS.2.1 (by simp), hk3.cell hSS.2.2.1 (by simp), hk3.cell hSS.2.2.2.1 (by simp), hk3.cell hSS.2.2.2.2.1 (by simp), hk3.cell hSS.2.2.2.2.2 (by simp)⟩
    have Gy : Hid (wr.heap.size ≤ WD.heap.size ∧ WD.heap.size ≤ w3.heap.size) := qI ⟨Gn.o.size, hk3.size⟩
    clear hown3 hk3
    refine hK _ _ (.inr hS3) ?_
    clear hK K
    try simp only [zA,zN,zB,zC,zD]
    clear hSS
    have hSS := hS3
    clear hS3
    refine wpAnyT_one' (i := 9) hO rfl (by kernel_rfl) (by kernel_rfl) (fun K hK => ?_)
    go_simp
    refine hK _ _ (.inr hSS) ?_
    clear hK K
    try simp only [zA,zN,zB,zC,zD]
    have hlen3 : c3.length = 5 := Gx.o.len
    have hls5 : ∀ x, x ∈ ls → x.length = 5 := fun c hc => by obtain ⟨y, _, r⟩ := Ga.o.all.mem_left hc; exact r.len
    obtain ⟨hro, hth, hkg⟩ := row_stored (i := k) (g := g) (c := c3) (row_kept Ga.o.row Gd.o (by simp)) hls5 rfl hlsl hlt hlen3
    have Jr := qI hro
    have Gz := qI hkg
    clear hro hkg hls5
    refine wpAnyT_one' (i := 10) hO rfl (by kernel_rfl) (by kernel_rfl) (fun K hK => ?_)
    refine wp_store_mid 25 (.tmp 23) (.tmp 22) rfl g (k * 5) c3.toArray rfl rfl (by rw [List.size_toArray, hlen3]; exact hth) (by rw [List.size_toArray, hlen3]; kernel_rfl) (all_oneCell_toArray Gx.o.one) ?_
    refine hK _ _ (.inl rfl) ?_
    clear hK K
    try simp only [zA,zN,zB,zC,zD]
    refine wpAnyT_done' hO (by kernel_rfl) ?_ _
    subst hR
    try clear hQp hO O
    clear hth hSS hlen3
    go_wp2_with fail
    case roundEnd =>
     have hzW := Gs.o
     have hz2 := Gc.o
     have hzx := Jh.o.size
     have hzd := Gy.o
     refine ⟨⟨k + 1, ls.set k c3, by go_num, by omega, {
      row := Jr.o
      all := ?_
      kept := ?_ }⟩, by simp [intOf]; omega⟩
     ·rw [← take_set (sortV n) id v.l k hlt]
      refine All2.set (Ga.o.all.mono fun c y _ r => r.move ((Gd.o.mono (by simp)).trans' Gz.o) ?_) k (Gx.o.move Gz.o ?_)
      ·intro i hi ⟨h1, h2, h3⟩
       exact ⟨by intro hx; simp at hx; subst hx; exact h2 rfl, h1, h2, h3⟩
      ·intro i hi h1
       have hmlt := Ja.o.lt
       refine ⟨by intro hx; simp at hx; omega, by omega, ?_, ?_⟩
       ·intro hx; simp [Value.ownBlock] at hx; omega
       ·intro hx; have := (hmlt i hx).2; omega
     ·have h1 := (Ga.o.kept.then Gd.o).trans Gz.o (by intro i hi; simp at hi; subst hi; exact .inl (by simp [Value.ownBlock]))
      exact h1
   ·obtain rfl : k = v.l.length := by omega
    obtain ⟨WL, rfl⟩ : ∃ x, x = wr := ⟨_, rfl⟩
    obtain ⟨lsF, rfl⟩ : ∃ x, x = ls := ⟨_, rfl⟩
    have Gp := qI Ga.o
    have hblk : Hid (∀ i, i ∈ (Value.slice al v.l.length cl).ownBlock.toList → W0.heap.size ≤ i ∧ i < w1.heap.size ∧ kind w1 i = 25 + 2) := qI fun i hi => ⟨(Jf.o.lt i (Option.mem_toList.1 hi)).1, (Jf.o.lt i (Option.mem_toList.1 hi)).2, row_kind Jf.o (Option.mem_toList.1 hi)⟩
    have hmblk : Hid (∀ i, (Value.slice am v.m.length cm).ownBlock = some i → W0.heap.size ≤ i ∧ i < w1.heap.size ∧ kind w1 i = 60 + 2) := qI fun i hi => ⟨(Ja.o.lt i hi).1, (Ja.o.lt i hi).2, row_kind Ja.o hi⟩
    have Js : Hid (Kept (Value.slice al v.l.length cl).ownBlock.toList w1 WL) := qI ((Gj.o.mono (by simp)).trans' Gp.o.kept)
    have Gi : Hid (W2.heap.size ≤ WL.heap.size) := qI Gp.o.kept.size
    have hb3l := Jo.o.kept Gp.o.kept (by intro hx; have := hblk.o _ hx; omega)
    have Ji := qI hb3l
    have Jt : Hid (SortM W0.heap.size WL v (.slice al v.l.length cl) (.slice am v.m.length cm) 0 WL mcs) := qI {
     row := row_kept Ja.o Js.o (fun i hi hx => by have h1 := (hmblk.o i hi).2.2; have h2 := (hblk.o i hx).2.2; rw [h1] at h2; exact absurd h2 (by decide))
     all := by simpa using Me.o.mono fun _ _ _ r => ⟨r.1, r.2.move Js.o (fun i hi ⟨h1, h2, h3⟩ => ⟨fun hx => h2 (Option.mem_toList.1 hx), h1, h2, h3⟩)⟩
     kept := Kept.refl _ _ }
    obtain ⟨c0, c1, c2, c3, c4⟩ := hb3l
    clear Ga
    go_wp2_with fail
    clear c0 c1 c2 c3 c4
    go_loopw [28] (fun i wr => ∃ (k : Nat) (ms : List (ByteArray × List Value)), i = .int .i64 k ∧ k ≤ v.m.length ∧ SortM W0.heap.size WL v (.slice al v.l.length cl) (.slice am v.m.length cm) k wr ms) (fun i _ => v.m.length - (intOf i).toNat)
    case atStart => exact ⟨0, _, rfl, Nat.zero_le _, Jt.o⟩
    case round =>
     obtain ⟨k, ls, rfl, hk, hsl⟩ := hrel
     have Ga := qI hsl
     clear hsl
     by_cases hlt : k < v.m.length
     ·have hltI : (k : Int) < v.m.length := by omega
      obtain ⟨g, rfl, hgB, hgl⟩ : ∃ g, am = some ⟨g, 0, none⟩ ∧ W0.heap.size ≤ g ∧ g < w1.heap.size := by
       rcases Ja.o.2 with ⟨_, h0⟩ | ⟨g, cap, cur, hv, r1, r2, _⟩
       ·omega
       ·simp only [Value.slice.injEq] at hv
        exact ⟨g, hv.1, r1, lt_of_block r2⟩
      have hlsl : ls.length = v.m.length := by rw [Ga.o.all.1]; simp; omega
      have hk' : k < ls.length := by omega
      have hpr := Ga.o.all.2 k ls[k] v.m[k] (List.getElem?_eq_getElem hk') (mixed_get (fun p : ByteArray × V n => (p.1, sortV n p.2)) id v.m k hlt)
      obtain ⟨xk, xm, xs, xp, xi, xc, xq, xj, xd, ex⟩ := hpr.2.conv
      have h66 : ∀ c, c ∈ ls.map pairC → c.length = 6 := fun c hc => by
       obtain ⟨p, hp, rfl⟩ := List.mem_map.1 hc
       obtain ⟨y, _, r⟩ := Ga.o.all.mem_left hp
       simp [pairC, r.2.len]
      obtain ⟨g', o', cap', hsv, -, q0, q1, q2, q3, q4⟩ := (Slc.of_row Ga.o.row).at6 h66 hk' ex
      simp only [Value.slice.injEq, Option.some.injEq, Addr.mk.injEq, and_true, true_and] at hsv
      obtain ⟨⟨rfl, rfl⟩, -⟩ := hsv
      have hrep := hpr.2
      rw [ex] at hrep
      have Jp := qI hrep
      have Ju := qI hpr.1
      have Jh : Hid (Kept [g] WL wr) := qI (by have := Ga.o.kept; simpa [Value.ownBlock] using this)
      have hgne : g ≠ w1.heap.size := by omega
      have y3 := (Ji.o.kept Jh.o (by simpa using Ne.symm hgne)).c4
      have Gt := qI (Jb.o.kid (mem_m (List.getElem_mem hlt)))
      have Jq := qI (right_kid Jw.o (mem_m (List.getElem_mem hlt)))
      have H66 := qI h66
      clear hrep hpr h66
      rw [Nat.zero_add] at q0 q1 q2 q3 q4
      go_wp2_with fail
      refine wp_region_last' (n := 13) (fun w' : World => w'.cell? ⟨w1.heap.size, 4, none⟩ = some (.slice (some ⟨g, 0, none⟩) v.m.length cm) ∧ w'.cell? ⟨g, k * 6 + 1, none⟩ = some (.int .i64 xk) ∧ w'.cell? ⟨g, k * 6 + 2, none⟩ = some (.int .i64 xm) ∧ w'.cell? ⟨g, k * 6 + 3, none⟩ = some (.string xs) ∧ w'.cell? ⟨g, k * 6 + 4, none⟩ = some (.slice xp xi xc) ∧ w'.cell? ⟨g, k * 6 + 5, none⟩ = some (.slice xq xj xd)) 12 (by kernel_rfl) (by kernel_rfl) ?_
      change wpAnyT _ _ _ _ _ _ _ _ _ wr.drew
      have hSS : (fun w' : World => w'.cell? ⟨w1.heap.size, 4, none⟩ = some (.slice (some ⟨g, 0, none⟩) v.m.length cm) ∧ w'.cell? ⟨g, k * 6 + 1, none⟩ = some (.int .i64 xk) ∧ w'.cell? ⟨g, k * 6 + 2, none⟩ = some (.int .i64 xm) ∧ w'.cell? ⟨g, k * 6 + 3, none⟩ = some (.string xs) ∧ w'.cell? ⟨g, k * 6 + 4, none⟩ = some (.slice xp xi xc) ∧ w'.cell? ⟨g, k * 6 + 5, none⟩ = some (.slice xq xj xd)) wr.drew := ⟨y3, q0, q1, q2, q3, q4⟩
      have Gn : Hid (Kept [] wr wr.drew) := qI (Kept.refl _ _).drew
      clear y3 q0 q1 q2 q3 q4
      revert hSS Gn
      generalize wr.drew = WD
      intro hSS Gn
      refine wpAnyT_start ?_
      intro O R hO hR
      have hQp : ∀ c a (d : Nat) v w, R (.panic c) (a.put (some d) v) w → R (.panic c) a w := by subst hR; exact fun _ _ _ _ _ h => h
      refine wpAnyT_take' (i := 0) (v := ?_) hO rfl rfl (by kernel_rfl) (by kernel_rfl) (by kernel_rfl) (by kernel_rfl) hQp (Or.inl ⟨by kernel_rfl, fun w hSw => ?_⟩) hSS ?_
      rotate_left
      ·obtain ⟨s0, s1, s2, s3, s4, s5⟩ := hSw; go_simp; try with_reducible rfl
      try simp only [zA,zN,zB,zC,zD]
      refine wpAnyT_take' (i := 1) (v := ?_) hO rfl rfl (by kernel_rfl) (by kernel_rfl) (by kernel_rfl) (by kernel_rfl) hQp (Or.inl ⟨by kernel_rfl, fun w hSw => ?_⟩) hSS ?_
      rotate_left
      ·obtain ⟨s0, s1, s2, s3, s4, s5⟩ := hSw; go_simp; try with_reducible rfl
      try simp only [zA,zN,zB,zC,zD]
      refine wpAnyT_take' (i := 2) (v := ?_) hO rfl rfl (by kernel_rfl) (by kernel_rfl) (by kernel_rfl) (by kernel_rfl) hQp (Or.inl ⟨by kernel_rfl, fun w hSw => ?_⟩) hSS ?_
      rotate_left
      ·obtain ⟨s0, s1, s2, s3, s4, s5⟩ := hSw; go_simp; try with_reducible rfl
      try simp only [zA,zN,zB,zC,zD]
      refine wpAnyT_take' (i := 3) (v := ?_) hO rfl rfl (by kernel_rfl) (by kernel_rfl) (by kernel_rfl) (by kernel_rfl) hQp (Or.inl ⟨by kernel_rfl, fun w hSw => ?_⟩) hSS ?_
      rotate_left
      ·obtain ⟨s0, s1, s2, s3, s4, s5⟩ := hSw; go_simp; try with_reducible rfl
      try simp only [zA,zN,zB,zC,zD]
      refine wpAnyT_take' (i := 4) (v := ?_) hO rfl rfl (by kernel_rfl) (by kernel_rfl) (by kernel_rfl) (by kernel_rfl) hQp (Or.inl ⟨by kernel_rfl, fun w hSw => ?_⟩) hSS ?_
      rotate_left
      ·obtain ⟨s0, s1, s2, s3, s4, s5⟩ := hSw; go_simp; try with_reducible rfl
      try simp only [zA,zN,zB,zC,zD]
      refine wpAnyT_take' (i := 5) (v := ?_) hO rfl rfl (by kernel_rfl) (by kernel_rfl) (by kernel_rfl) (by kernel_rfl) hQp (Or.inl ⟨by kernel_rfl, fun w hSw => ?_⟩) hSS ?_
      rotate_left
      ·obtain ⟨s0, s1, s2, s3, s4, s5⟩ := hSw; go_simp; try with_reducible rfl
      try simp only [zA,zN,zB,zC,zD]
      refine wpAnyT_take' (i := 6) (v := ?_) hO rfl rfl (by kernel_rfl) (by kernel_rfl) (by kernel_rfl) (by kernel_rfl) hQp (Or.inl ⟨by kernel_rfl, fun w hSw => ?_⟩) hSS ?_
      rotate_left
      ·obtain ⟨s0, s1, s2, s3, s4, s5⟩ := hSw; go_simp; try with_reducible rfl
      try simp only [zA,zN,zB,zC,zD]
      refine wpAnyT_take' (i := 7) (v := ?_) hO rfl rfl (by kernel_rfl) (by kernel_rfl) (by kernel_rfl) (by kernel_rfl) hQp (Or.inl ⟨by kernel_rfl, fun w hSw => ?_⟩) hSS ?_
      rotate_left
      ·obtain ⟨s0, s1, s2, s3, s4, s5⟩ := hSw; go_simp; try with_reducible rfl
      try simp only [zA,zN,zB,zC,zD]
      refine wpAnyT_take' (i := 8) (v := ?_) hO rfl rfl (by kernel_rfl) (by kernel_rfl) (by kernel_rfl) (by kernel_rfl) hQp (Or.inl ⟨by kernel_rfl, fun w hSw => ?_⟩) hSS ?_
      rotate_left
      ·obtain ⟨s0, s1, s2, s3, s4, s5⟩ := hSw; go_simp; try with_reducible rfl
      try simp only [zA,zN,zB,zC,zD]
      refine wpAnyT_one' (i := 9) hO rfl (by kernel_rfl) (by kernel_rfl) (fun K hK => ?_)
      go_simp
      refine Calls.mono (IH.o v.m[k].2 (Jp.o.kept0 Gn.o) Gt.o Jq.o) ?_
      rintro e w3 ⟨⟨c3, rfl, hown3⟩, hk3⟩
      have Gx := qI hown3.rep
      have Gd := qI (Gn.o.then hk3)
      have hS3 : (fun w' : World => w'.cell? ⟨w1.heap.size, 4, none⟩ = some (.slice (some ⟨g, 0, none⟩) v.m.length cm) ∧ w'.cell? ⟨g, k * 6 + 1, none⟩ = some (.int .i64 xk) ∧ w'.cell? ⟨g, k * 6 + 2, none⟩ = some (.int .i64 xm) ∧ w'.cell? ⟨g, k * 6 + 3, none⟩ = some (.string xs) ∧ w'.cell? ⟨g, k * 6 + 4, none⟩ = some (.slice xp xi xc) ∧ w'.cell? ⟨g, k * 6 + 5, none⟩ = some (.slice xq xj xd)) w3 := ⟨hk3.cell hSS.1 (by simp), hk3.cell hSS.2.1 (by simp), hk3.cell hSS.2.2.1 (by simp), hk3.cell hSS.2.2.2.1 (by simp), hk3.cell hSS.2.2.2.2.1 (by simp), hk3.cell hSS.2.2.2.2.2 (by simp)⟩
      have Gy : Hid (wr.heap.size ≤ WD.heap.size ∧ WD.heap.size ≤ w3.heap.size) := qI ⟨Gn.o.size, hk3.size⟩
      clear hown3 hk3
      refine hK _ _ (.inr hS3) ?_
      clear hK K
      try simp only [zA,zN,zB,zC,zD]
      clear hSS
      have hSS := hS3
      clear hS3
      refine wpAnyT_one' (i := 10) hO rfl (by kernel_rfl) (by kernel_rfl) (fun K hK => ?_)
      go_simp
      refine hK _ _ (.inr hSS) ?_
      clear hK K
      try simp only [zA,zN,zB,zC,zD]
      refine wpAnyT_one' (i := 11) hO rfl (by kernel_rfl) (by kernel_rfl) (fun K hK => ?_)
      go_simp
      refine hK _ _ (.inr hSS) ?_
      clear hK K
      try simp only [zA,zN,zB,zC,zD]
      have hlen3 : c3.length = 5 := Gx.o.len
      have hbnd : k * 6 + 1 + c3.length ≤ v.m.length * 6 := by rw [hlen3]; omega
      obtain ⟨⟨ys, hro, -, hys⟩, hth, hkg⟩ := row_cells (g := g) (o := k * 6 + 1) (c := c3) (row_kept Ga.o.row Gd.o (by simp)) rfl hbnd
      have hye := pair_set H66.o hk' hlen3 hys
      subst hye
      have Jr := qI hro
      have Gz := qI hkg
      clear hro hkg hys hbnd
      refine wpAnyT_one' (i := 12) hO rfl (by kernel_rfl) (by kernel_rfl) (fun K hK => ?_)
      refine wp_store_mid 25 (.tmp 42) (.tmp 40) rfl g (k * 6 + 1) c3.toArray rfl rfl (by rw [List.size_toArray]; exact hth) (by rw [List.size_toArray, hlen3]; kernel_rfl) (all_oneCell_toArray Gx.o.one) ?_
      refine hK _ _ (.inl rfl) ?_
      clear hK K
      try simp only [zA,zN,zB,zC,zD]
      refine wpAnyT_done' hO (by kernel_rfl) ?_ _
      subst hR
      try clear hQp hO O
      clear hth hSS hlen3
      go_wp2_with fail
      case roundEnd =>
       have hzW := Gs.o
       have hz2 := Gc.o
       have hzl := Gi.o
       have hzx := Jh.o.size
       have hzd := Gy.o
       refine ⟨⟨k + 1, ls.set k (ls[k].1, c3), by go_num, by omega, {
        row := Jr.o
        all := ?_
        kept := ?_ }⟩, by simp [intOf]; omega⟩
       ·rw [← take_set (fun p : ByteArray × V n => (p.1, sortV n p.2)) id v.m k hlt]
        refine All2.set (Ga.o.all.mono fun c y _ r => ⟨r.1, r.2.move ((Gd.o.mono (by simp)).trans' Gz.o) ?ga⟩) k ⟨Ju.o, Gx.o.move Gz.o ?gb⟩
        case ga =>
         intro i hi ⟨h1, h2, h3⟩
         exact ⟨by intro hx; simp at hx; subst hx; exact h3 rfl, h1, h2, h3⟩
        case gb =>
         intro i hi h1
         refine ⟨by intro hx; simp at hx; omega, by omega, ?_, ?_⟩
         ·intro hx; have := hblk.o i (Option.mem_toList.2 hx); omega
         ·intro hx; simp [Value.ownBlock] at hx; omega
       ·exact (Ga.o.kept.then Gd.o).trans Gz.o (by intro i hi; simp at hi; subst hi; exact .inl (by simp [Value.ownBlock]))
     ·obtain rfl : k = v.m.length := by omega
      obtain ⟨ds0, hls, henc⟩ := pcs_of Ga.o.all
      have CS := qI (sortAny (ms := ds0) (by rw [← henc]; exact Ga.o.row) (by omega))
      have Mg := qI hls
      have hb3f := Ji.o.kept Ga.o.kept (by intro hx; have := hmblk.o _ (Option.mem_toList.1 hx); omega)
      have Jv := qI hb3f
      have c4 := hb3f.c4
      clear hls henc hb3f
      go_wp2_with fail
      refine CS.o.mono ?_
      rintro e w5 ⟨rfl, ds, hdp, hds, hrow5, hk5⟩
      have Mh := qI hdp
      have Mi := qI hds
      have Mj := qI hrow5
      have Gm := qI hk5
      clear hdp hds hrow5 hk5 c4
      obtain ⟨c0, c1, c2, c3, c4⟩ := Jv.o.kept Gm.o (by intro hx; have := hmblk.o _ (Option.mem_toList.1 hx); omega)
      have Jy : Hid (Kept ((Value.slice al v.l.length cl).ownBlock.toList ++ (Value.slice am v.m.length cm).ownBlock.toList) w1 w5) := qI (((Js.o.mono (fun i hi => List.mem_append_left _ hi)).trans' (Ga.o.kept.mono (fun i hi => List.mem_append_right _ hi))).trans' (Gm.o.mono (fun i hi => List.mem_append_right _ hi)))
      have hbr : w5.heap[w.heap.size + 1]? = some (.cells #[.int .i64 0, .int .i64 0, .string ⟨#[]⟩, .slice none 0 0, .slice none 0 0] 25 (0, 0)) := Jy.o.heap (Gq.o.heap Jk.o (by simp)) (by
       intro hx
       have hz := Gs.o
       rcases List.mem_append.1 hx with hx | hx
       ·have := hblk.o _ hx; omega
       ·have := hmblk.o _ (Option.mem_toList.1 hx); omega)
      have Mk := qI hbr
      have r0 := cell_head (o := 0) (v := .int .i64 0) hbr rfl
      have r1 := cell_head (o := 1) (v := .int .i64 0) hbr rfl
      have r2 := cell_head (o := 2) (v := .string ⟨#[]⟩) hbr rfl
      have r3 := cell_head (o := 3) (v := .slice none 0 0) hbr rfl
      have r4 := cell_head (o := 4) (v := .slice none 0 0) hbr rfl
      have s0 := free_head (o := 0) hbr
      have s1 := free_head (o := 1) hbr
      have s2 := free_head (o := 2) hbr
      have s3 := free_head (o := 3) hbr
      have s4 := free_head (o := 4) hbr
      clear hbr
      go_wp2_with fail
      have hbf := block_setCell (v := .slice am v.m.length cm) (i := 4) (block_setCell (v := .slice al v.l.length cl) (i := 3) (block_setCell (v := .string v.s) (i := 2) (block_setCell (v := .int .i64 v.num) (i := 1) (block_setCell (v := .int .i64 v.kind) (i := 0) Mk.o rfl) rfl) rfl) rfl) rfl
      have KF : Kept [w.heap.size + 1] w5 (((((w5.setCell ⟨w.heap.size + 1, 0, none⟩ (.int .i64 v.kind)).setCell ⟨w.heap.size + 1, 1, none⟩ (.int .i64 v.num)).setCell ⟨w.heap.size + 1, 2, none⟩ (.string v.s)).setCell ⟨w.heap.size + 1, 3, none⟩ (.slice al v.l.length cl)).setCell ⟨w.heap.size + 1, 4, none⟩ (.slice am v.m.length cm)) :=
       (((((Kept.refl _ _).setCell (p := ⟨w.heap.size + 1, 0, none⟩) (.inl (by simp)) _).setCell (p := ⟨w.heap.size + 1, 1, none⟩) (.inl (by simp)) _).setCell (p := ⟨w.heap.size + 1, 2, none⟩) (.inl (by simp)) _).setCell (p := ⟨w.heap.size + 1, 3, none⟩) (.inl (by simp)) _).setCell (p := ⟨w.heap.size + 1, 4, none⟩) (.inl (by simp)) _
      have x0 := cell_head (o := 0) (v := .int .i64 v.kind) hbf rfl
      have x1 := cell_head (o := 1) (v := .int .i64 v.num) hbf rfl
      have x2 := cell_head (o := 2) (v := .string v.s) hbf rfl
      have x3 := cell_head (o := 3) (v := .slice al v.l.length cl) hbf rfl
      have x4 := cell_head (o := 4) (v := .slice am v.m.length cm) hbf rfl
      clear hbf c0 c1 c2 c3 c4 r0 r1 r2 r3 r4 s0 s1 s2 s3 s4
      revert KF x0 x1 x2 x3 x4
      generalize ((((w5.setCell ⟨w.heap.size + 1, 0, none⟩ (.int .i64 v.kind)).setCell ⟨w.heap.size + 1, 1, none⟩ (.int .i64 v.num)).setCell ⟨w.heap.size + 1, 2, none⟩ (.string v.s)).setCell ⟨w.heap.size + 1, 3, none⟩ (.slice al v.l.length cl)).setCell ⟨w.heap.size + 1, 4, none⟩ (.slice am v.m.length cm) = WF
      intro KF x0 x1 x2 x3 x4
      have hz0 := Gs.o
      have hz1 := Gq.o.size
      have hz2 := Gj.o.size
      have hzL := Gi.o
      have hzr := Ga.o.kept.size
      have hsame : ∀ i, (Value.slice am v.m.length cm).ownBlock = some i → (Value.slice al v.l.length cl).ownBlock ≠ some i := fun i hi hx => by
       have h1 := (hmblk.o i hi).2.2
       have h2 := (hblk.o i (Option.mem_toList.2 hx)).2.2
       rw [h1] at h2
       exact absurd h2 (by decide)
      have hne : ∀ i, W0.heap.size ≤ i → (Value.slice am v.m.length cm).ownBlock ≠ some i → i ∉ (Value.slice am v.m.length cm).ownBlock.toList ++ [w.heap.size + 1] := fun i h1 h2 hx => by
       rcases List.mem_append.1 hx with hx | hx
       ·exact h2 (Option.mem_toList.1 hx)
       ·simp at hx; omega
      have K5F : Kept ((Value.slice am v.m.length cm).ownBlock.toList ++ [w.heap.size + 1]) wr WF := (Gm.o.mono (fun i hi => List.mem_append_left _ hi)).trans' (KF.mono (fun i hi => List.mem_append_right _ hi))
      have KLF : Kept ((Value.slice am v.m.length cm).ownBlock.toList ++ [w.heap.size + 1]) WL WF := (Ga.o.kept.mono (fun i hi => List.mem_append_left _ hi)).trans' K5F
      have hall : All2 (pairR (Rep n (fun g => W0.heap.size ≤ g ∧ (Value.slice al v.l.length cl).ownBlock ≠ some g ∧ (Value.slice am v.m.length cm).ownBlock ≠ some g) wr)) (ds0.map (fun x => (x.key, x.cs))) (v.m.map (pairMap (sortV n))) := by
       have h1 := Ga.o.all
       rw [List.take_length, List.drop_length, List.map_nil, List.append_nil, Mg.o] at h1
       exact h1
      have hsp := sorted_pairs hall Mh.o Mi.o (by rw [List.map_map]; exact Mc.o)
      have hdl : (ds.map (fun x => (x.key, x.cs))).length = v.m.length := by rw [hsp.1, List.length_mergeSort, List.length_map]
      have hpe : pairCs (ds.map (fun x => (x.key, x.cs))) = ds.flatMap PC.enc := by
       unfold pairCs
       rw [List.flatMap_map]
       rfl
      have hown : OwnRep (n + 1) w.heap.size WF [.int .i64 v.kind, .int .i64 v.num, .string v.s, .slice al v.l.length cl, .slice am v.m.length cm] (sortV (n + 1) v) := by
       rw [sortV_eq]
       refine ⟨_, _, lsF, ds.map (fun x => (x.key, x.cs)), rfl, ?h1, ?h2, ?h3, ?h4, Jx.o.1, Jx.o.2⟩
       case h1 =>
        simp only [List.length_map]
        exact row_base (row_kept Gp.o.row KLF (fun i hi => hne i ((hblk.o i (Option.mem_toList.2 hi)).1) (fun hx => hsame i hx hi))) (fun i hi => by have := (hblk.o i (Option.mem_toList.2 hi)).1; omega)
       case h2 =>
        have h1 := Gp.o.all
        rw [List.take_length, List.drop_length, List.map_nil, List.append_nil] at h1
        exact h1.mono fun _ _ _ r => r.move KLF (fun i _ ⟨q1, q2, q3⟩ => ⟨hne i q1 q3, by omega, q2, q3⟩)
       case h3 =>
        simp only [List.length_mergeSort, List.length_map]
        rw [hpe]
        exact row_base (row_kept Mj.o KF (fun i hi hx => by have := (hmblk.o i hi).1; simp at hx; omega)) (fun i hi => by have := (hmblk.o i hi).1; omega)
       case h4 =>
        exact hsp.mono fun _ _ _ r => ⟨r.1, r.2.move K5F (fun i _ ⟨q1, q2, q3⟩ => ⟨hne i q1 q3, by omega, q2, q3⟩)⟩
      have hkw : Kept [] w WF := ((Jj.o.then Gq.o).trans Jy.o (fun i hi => by
       rcases List.mem_append.1 hi with hi | hi
       ·have := (hblk.o i hi).1; exact .inr (by omega)
       ·have := (hmblk.o i (Option.mem_toList.1 hi)).1; exact .inr (by omega))).trans KF (fun i hi => by simp at hi; exact .inr (by omega))
      exact bodyPost_ret (v := .agg #[.int .i64 v.kind, .int .i64 v.num, .string v.s, .slice al v.l.length cl, .slice am v.m.length cm]) (by simp [results, Tryz.results77, go_sem, x0, x1, x2, x3, x4]) rfl ⟨⟨_, rfl, hown⟩, hkw⟩
theorem sorted_any_known : ∀ (n : Nat), sorted_anyKnown n
 | 0 => fun v {_} {_} {_} h _ _ => h.elim
 | n + 1 => sorted_any_step (sorted_any_known n)
theorem sorted_any : ∀ (n : Nat) (v : V n) {S : Nat → Prop} {w : World} {cs : List Value}, Rep n S w cs v → Small n v → rightV n v = true →
  Calls Tryz.prog 77 #[.agg cs.toArray] w fun e w' => (∃ cs' : List Value, e = .returned (.agg cs'.toArray) ∧ OwnRep n w.heap.size w' cs' (sortV n v)) ∧ Kept [] w w' := fun n => sorted_any_known n
section
variable {P : Program} {ops : Array Oper} {Q : Exit → Act → World → Prop} {md : Region.Mode} {S : World → Prop} {L : Nat}
end
theorem slc_tail {P : Program} {t e size bytes : Nat} {z : Value} (T : SliceTy P t e size bytes z) {w : World} {v : Value} {n : Nat} {xs : List Value} (h : Slc w size v n xs) (k : Nat) (hk : k ≤ n) :
  ∃ a c, (∀ W, (Instr.slice t v (some (.int .i64 k)) none none).run P W = .ok (.slice a (n - k) c) W) ∧ Slc w size (.slice a (n - k) c) (n - k) (xs.drop (k * size)) := by
 obtain ⟨v', -, h3, -, h4, -⟩ := h.cut T k n hk (Nat.le_refl _)
 obtain ⟨a, c, rfl, -, -⟩ := h4.form
 refine ⟨a, c, h3 rfl, ?_⟩
 have e2 : List.take ((n - k) * size) (List.drop (k * size) xs) = List.drop (k * size) xs := List.take_of_length_le (by rw [List.length_drop, h.1, Nat.sub_mul]; exact Nat.le_refl _)
 rw [e2] at h4
 exact h4
theorem pairCs_drop : ∀ (l : List (ByteArray × List Value)) (k : Nat), (∀ p, p ∈ l → p.2.length = 5) → (pairCs l).drop (k * 6) = pairCs (l.drop k)
 | _, 0, _ => by simp
 | [], k + 1, _ => by simp [pairCs]
 | p :: t, k + 1, h => by
  have hp : (pairC p).length = 6 := by simp [pairC, h p (List.mem_cons_self ..)]
  rw [List.drop_succ_cons]
  show List.drop ((k + 1) * 6) (pairC p ++ pairCs t) = pairCs (t.drop k)
  rw [List.drop_append, List.drop_eq_nil_of_le (by omega), hp, show (k + 1) * 6 - 6 = k * 6 by omega, pairCs_drop t k (fun q hq => h q (List.mem_cons_of_mem _ hq)), List.nil_append]
theorem All2.take {α β : Type} {R : α → β → Prop} {xs : List α} {ys : List β} (h : All2 R xs ys) (k : Nat) : All2 R (xs.take k) (ys.take k) := by
 refine ⟨by rw [List.length_take, List.length_take, h.1], fun j x y hx hy => ?_⟩
 rw [List.getElem?_take] at hx hy
 split at hx
 ·rename_i hj
  rw [if_pos hj] at hy
  exact h.2 j x y hx hy
 ·cases hx
theorem All2.drop {α β : Type} {R : α → β → Prop} {xs : List α} {ys : List β} (h : All2 R xs ys) (k : Nat) : All2 R (xs.drop k) (ys.drop k) := by
 refine ⟨by rw [List.length_drop, List.length_drop, h.1], fun j x y hx hy => ?_⟩
 rw [List.getElem?_drop] at hx hy
 exact h.2 (k + j) x y hx hy
structure InsL {n : Nat} (W : World) (b3 : Nat) (v : VS (V n)) (k : Nat) (wr : World) (vl : Value) (lcs : List (List Value)) : Prop where
 blk : wr.heap[b3]? = some (.cells (valA v.kind v.num v.s vl (.slice none 0 0)) 25 (0, 0))
 row : wr.ownsRow W.heap.size 25 5 vl k lcs.flatten
 all : All2 (Rep n (fun g => W.heap.size ≤ g ∧ vl.ownBlock ≠ some g) wr) lcs ((v.l.take k).map (sortV n))
 kept : Kept [b3] W wr
structure InsM {n : Nat} (W : World) (b3 : Nat) (v : VS (V n)) (vl : Value) (k : Nat) (wr : World) (vm : Value) (mcs : List (ByteArray × List Value)) (ms : List (ByteArray × V n)) : Prop where
 blk : wr.heap[b3]? = some (.cells (valA v.kind v.num v.s vl vm) 25 (0, 0))
 row : wr.ownsRow W.heap.size 60 6 vm ms.length (pairCs mcs)
 all : All2 (pairR (Rep n (fun g => W.heap.size ≤ g ∧ vm.ownBlock ≠ some g) wr)) mcs ms
 kept : Kept [b3] W wr
 ord : ms.Pairwise (fun x y => leK x y = true)
 perm : ms.Perm ((v.m.take k).map (pairMap (sortV n)))
 lim : ms.length = k
end Go.Proofs.YtpbphdkjjoipnaaGreatDoor

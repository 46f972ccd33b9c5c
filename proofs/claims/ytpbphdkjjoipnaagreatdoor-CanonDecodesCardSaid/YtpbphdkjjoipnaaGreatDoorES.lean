/- Parts of one proof, merged: XQF XQG. -/
import Derived.Test.YtpbphdkjjoipnaaGreatDoorER
import Derived.Test.YtpbphdkjjoipnaaGreatDoorEK
set_option linter.all false
set_option maxHeartbeats 12800000
set_option maxRecDepth 10000
set_option linter.unusedVariables false
set_option linter.unusedSimpArgs false
set_option linter.unnecessarySimpa false
namespace Go.Proofs.YtpbphdkjjoipnaaGreatDoor
open Go.RowKit
def AnsV (d p : Nat) (S : ByteArray) (Z : PX) (Bc : Nat) (cs : List Value) (w' : World) : Prop :=
 match Z with
 | .inl x => QS w' p S 4097 (.inl x)
 | .inr (s, c) => match pValue d s c with
  | .inl x => QS w' p S 4097 (.inl x)
  | .inr (v, r, c') => QS w' p S 4096 (.inr (r, c')) ∧ OwnRep d Bc w' cs v
theorem qval_any {d p : Nat} {S : ByteArray} {w : World} {Z : PX} (IH : QValKnown d) (h : QS w p S 4096 Z) (hS : S.size ≤ 262144) :
  Calls Tryz.prog 71 #[.pointer (some ⟨p, 0, none⟩), .int .i64 d] w fun e w' => ∃ cs : List Value, e = .returned (.agg cs.toArray) ∧ Shape cs ∧ Kept [p] w w' ∧ AnsV d p S Z w.heap.size cs w' := by
 match Z, h with
 | .inl x, h => exact (qvalue_bad h hS d).mono fun e w' ⟨h1, h2, h3⟩ => ⟨[.int .i64 0, .int .i64 0, .string ⟨#[]⟩, .slice none 0 0, .slice none 0 0], h1, ⟨_, _, _, _, _, _, _, _, _, rfl⟩, h3, h2⟩
 | .inr (s, c), h => exact IH h hS
def dupX {α : Type} (l : List (ByteArray × α)) (K : ByteArray) (Y : PX) : PX := if l.any (fun q => decide (q.1 = K)) = true then failX 53 Y else Y
theorem failX_twice (e e' : Int) (Y : PX) : failX e (failX e' Y) = failX e' Y := by cases Y <;> rfl
theorem dupX_snoc_eq {α : Type} {l : List (ByteArray × α)} {K : ByteArray} {Y : PX} {q : ByteArray × α} (h : q.1 = K) : dupX (l ++ [q]) K Y = failX 53 (dupX l K Y) := by
 unfold dupX
 rw [List.any_append]
 have : [q].any (fun q => decide (q.1 = K)) = true := by simp [h]
 rw [this, Bool.or_true, if_pos rfl]
 split
 ·rw [failX_twice]
 ·rfl
theorem dupX_snoc_ne {α : Type} {l : List (ByteArray × α)} {K : ByteArray} {Y : PX} {q : ByteArray × α} (h : q.1 ≠ K) : dupX (l ++ [q]) K Y = dupX l K Y := by
 unfold dupX
 rw [List.any_append]
 have : [q].any (fun q => decide (q.1 = K)) = false := by simp [h]
 rw [this, Bool.or_false]
theorem pair_state {d : Nat} (s : List UInt8) (c : Nat) (acc : List (ByteArray × V d)) :
  (∃ x, needX [58] (skipX (dupX acc (strB (litS (.inr (skipB s, c)))) (litX (.inr (skipB s, c))))) = .inl x ∧ pairStep (pValue d) s c acc = .inl x) ∨
  ∃ s2, needX [58] (skipX (dupX acc (strB (litS (.inr (skipB s, c)))) (litX (.inr (skipB s, c))))) = .inr (s2, c) ∧ pairStep (pValue d) s c acc = (match pValue d s2 c with | .inl e => .inl e | .inr (v, r, c') => .inr (acc ++ [(strB (litS (.inr (skipB s, c))), v)], r, c')) := by
 unfold pairStep
 cases hu : unqL (skipB s) with
 | inl e =>
  rw [(litX_bad hu).1]
  refine .inl ⟨e, ?_, rfl⟩
  unfold dupX
  split <;> rfl
 | inr y =>
  obtain ⟨k, r⟩ := y
  rw [(litX_ok hu).1, (litX_ok hu).2]
  by_cases ha : acc.any (fun p => decide (p.1 = strB k)) = true
  ·refine .inl ⟨53, ?_, if_pos ha⟩
   unfold dupX
   rw [if_pos ha]
   rfl
  ·have e1 : dupX acc (strB k) (.inr (r, c)) = .inr (r, c) := by unfold dupX; rw [if_neg ha]
   rw [e1, show skipX (.inr (r, c)) = .inr (skipB r, c) from rfl]
   simp only
   rw [if_neg ha]
   by_cases h58 : (skipB r).head? = some 58
   ·refine .inr ⟨(skipB r).tail, ?_, by
     rw [if_pos h58]
     first
     | done
     | (cases pValue d (skipB r).tail c <;> rfl)⟩
    rw [needX_yes (by rw [eat_one, decide_eq_true h58])]
    show (Sum.inr ((skipB r).drop 1, c) : PX) = _
    rw [List.drop_one]
   ·exact .inl ⟨50, needX_no (by rw [eat_one, decide_eq_false h58]), if_neg h58⟩
structure QM (W : World) (bv p d : Nat) (acc : List (ByteArray × V d)) (w : World) (vm : Value) (mcs : List (ByteArray × List Value)) : Prop where
 kept : Kept [p, bv] W w
 blk : w.heap[bv]? = some (.cells (valA 6 0 ⟨#[]⟩ (.slice none 0 0) vm) 25 (0, 0))
 row : w.ownsRow W.heap.size 60 6 vm acc.length (pairCs mcs)
 all : All2 (pairR (Rep d (fun g => W.heap.size ≤ g ∧ vm.ownBlock ≠ some g) w)) mcs acc
section
variable {W w w' : World} {bv p d : Nat}
theorem QM.step {acc : List (ByteArray × V d)} {vm : Value} {mcs : List (ByteArray × List Value)} (h : QM W bv p d acc w vm mcs) (hp : p < W.heap.size) (hv : p ≠ bv) (k : Kept [p] w w') : QM W bv p d acc w' vm mcs :=
 ⟨h.kept.trans k (fun i hi => by simp at hi; exact .inl (by simp [hi])), k.heap h.blk (by simpa using hv.symm), row_kept h.row k (fun g hg hx => by simp at hx; have := (h.row.lt g hg).1; omega), h.all.mono fun _ _ _ r => ⟨r.1, r.2.move k (fun g _ q => ⟨fun hx => by simp at hx; omega, q⟩)⟩⟩
theorem QM.snoc {acc : List (ByteArray × V d)} {vm vm' : Value} {mcs : List (ByteArray × List Value)} {w5 w6 wF : World} {cs : List Value} {v : V d} {K : ByteArray} {Bc : Nat} (h : QM W bv p d acc w vm mcs) (hp : p < W.heap.size) (hv : bv < W.heap.size)
  (kw : Kept [p, bv] W wF) (hblk : wF.heap[bv]? = some (.cells (valA 6 0 ⟨#[]⟩ (.slice none 0 0) vm') 25 (0, 0))) (k5 : Kept [p] w w5) (k6 : Kept vm.ownBlock.toList w5 w6) (kF : Kept [bv] w6 wF)
  (hown : vm'.ownBlock = vm.ownBlock ∨ vm'.ownBlock = some w5.heap.size) (hrow : wF.ownsRow W.heap.size 60 6 vm' (acc.length + 1) (pairCs mcs ++ (.string K :: cs))) (hrep : Rep d (fun i => Bc ≤ i) w5 cs v) (hB : w.heap.size ≤ Bc) : QM W bv p d (acc ++ [(K, v)]) wF vm' (mcs ++ [(K, cs)]) := by
 have hz := h.kept.size
 have hz5 := k5.size
 have e1 : pairCs (mcs ++ [(K, cs)]) = pairCs mcs ++ (.string K :: cs) := by
  unfold pairCs
  rw [List.flatMap_append]
  simp [pairC]
 refine ⟨kw, hblk, by rw [List.length_append, e1]; exact hrow, All2.snoc (h.all.mono fun c y _ r => ⟨r.1, ?_⟩) ⟨rfl, ?_⟩⟩
 ·refine ((r.2.move (T := fun i => W.heap.size ≤ i ∧ vm.ownBlock ≠ some i ∧ i < w.heap.size) k5 (fun i hi q => ⟨fun hx => by simp at hx; omega, q.1, q.2, hi⟩)).move (T := fun i => W.heap.size ≤ i ∧ vm.ownBlock ≠ some i ∧ i < w.heap.size) k6 (fun i hi q => ⟨fun hx => q.2.1 (Option.mem_toList.1 hx), q⟩)).move kF (fun i hi q => ⟨fun hx => by simp at hx; omega, q.1, fun hx => ?_⟩)
  rcases hown with e | e
  ·exact q.2.1 (e.symm.trans hx)
  ·rw [e] at hx
   injection hx with hx
   omega
 ·refine (hrep.move (T := fun i => Bc ≤ i ∧ i < w5.heap.size) k6 (fun i hi q => ⟨fun hx => ?_, q, hi⟩)).move kF (fun i hi q => ⟨fun hx => by simp at hx; omega, by omega, fun hx => ?_⟩)
  ·have := (h.row.lt i (Option.mem_toList.1 hx)).2; omega
  ·rcases hown with e | e
   ·have := (h.row.lt i (e.symm.trans hx)).2; omega
   ·rw [e] at hx
    injection hx with hx
    omega
theorem QM.key {acc : List (ByteArray × V d)} {ak : Option Addr} {ck : Nat} {mcs : List (ByteArray × List Value)} (h : QM W bv p d acc w (.slice ak acc.length ck) mcs) {k : Nat} (hk : k < acc.length) : ∃ g o, ak = some ⟨g, o, none⟩ ∧ w.cell? ⟨g, o + k * 6, none⟩ = some (.string acc[k].1) := by
 have hk' : k < mcs.length := by rw [h.all.1]; exact hk
 have hr := h.all.2 k _ _ (List.getElem?_eq_getElem hk') (List.getElem?_eq_getElem hk)
 have h6 : ∀ c, c ∈ mcs.map pairC → c.length = 6 := by
  intro c hc
  obtain ⟨q, hq, rfl⟩ := List.mem_map.1 hc
  obtain ⟨y, -, hy⟩ := h.all.mem_left hq
  show (Value.string q.1 :: q.2).length = 6
  rw [List.length_cons, hy.2.len]
 have hc : (pairCs mcs)[k * 6 + 0]? = (pairC mcs[k])[0]? := by
  rw [pairCs_flat, flat_get (mcs.map pairC) k 0 h6 (by simpa using hk') (by decide), List.getElem_map]
 rcases (Slc.of_row h.row).2 with ⟨-, h0⟩ | ⟨h0, -⟩ | ⟨g, o, cap, e, -, -, hrow⟩
 ·omega
 ·omega
 ·simp only [Value.slice.injEq] at e
  refine ⟨g, o, e.1, hrow.cells (k * 6 + 0) _ ?_⟩
  rw [hc, ← hr.1]
  rfl
end
section
variable {w : World} {p d : Nat} {S : ByteArray} {s : List UInt8} {c f : Nat}
theorem qpairs_any (IH0 : QValKnown d) (hd : d ≤ 100) (hs : QS w p S 4096 (.inr (s, c))) (hS : S.size ≤ 262144) (hf : s.length < f) :
  Calls Tryz.prog 106 #[.pointer (some ⟨p, 0, none⟩), .int .i64 d] w fun e w' => QBoth d (asMap (pItems (pairStep (pValue d)) 125 f s c [])) p S w e w' := by
 have IH := @qI (QValKnown d) (by exact @IH0)
 obtain ⟨W0, Gr⟩ : ∃ W0, Hid (W0 = (w.alloc (.cells #[.int .i64 0, .int .i64 0, .string ⟨#[]⟩, .slice none 0 0, .slice none 0 0] 25)).alloc (.cells #[.int .i64 6, .int .i64 0, .string ⟨#[]⟩, .slice none 0 0, .slice none 0 0] 25)) := ⟨_, qI rfl⟩
 have Ge : Hid (W0.heap.size = w.heap.size + 2) := qI (by rw [Gr.o]; simp)
 have Ja : Hid (Kept [] w W0) := qI (by rw [Gr.o]; exact ((Kept.refl [] w).alloc _).alloc _)
 have Gc : Hid (p < w.heap.size) := qI hs.lt
 have Jh : Hid (ResAt W0 w.heap.size) := qI (by rw [Gr.o]; exact ((Kept.refl [] _).alloc _).heap (block_alloc rfl) (by simp))
 have Mc : Hid (W0.heap[w.heap.size + 1]? = some (.cells (valA 6 0 ⟨#[]⟩ (.slice none 0 0) (.slice none 0 0)) 25 (0, 0))) := qI (by rw [Gr.o]; exact block_alloc (by simp))
 have Md : Hid (QM W0 (w.heap.size + 1) p d [] W0 (.slice none 0 0) []) := qI ⟨Kept.refl _ _, Mc.o, World.ownsRow_nil _ _ _ _, All2.nil _⟩
 have CB := qI (qblanks_any (hs.kept0 Ja.o) hS)
 rw [show skipX (.inr (s, c)) = .inr (skipB s, c) from rfl] at CB
 have Gd : Hid (S.size ≤ 262144) := qI hS
 have Ga : Hid (p ≠ w.heap.size + 1 ∧ p < W0.heap.size ∧ w.heap.size + 1 < W0.heap.size) := qI (by have h1 := Gc.o; have h2 := Ge.o; omega)
 have HF := qI hf
 have hdI : (d : Int) ≤ 100 := by omega
 obtain ⟨R, hR⟩ : ∃ R, pItems (pairStep (pValue d)) 125 f s c [] = R := ⟨_, rfl⟩
 rw [hR]
 have Js := qI hR
 clear hs hf hS IH0 hd hR
 go_enter Tryz.func106, Tryz.ntmps106
 go_wp2_with fail
 rw [← Gr.o]
 refine CB.o.mono ?_
 rintro e w1 ⟨rfl, hq1, hk1⟩
 have Mz := qI hq1
 have Ya := qI hk1
 have Jt := qI (Md.o.step Ga.o.2.1 Ga.o.1 hk1)
 have CW := qI (qword_any hq1 Gd.o ⟨#[125]⟩ (by decide))
 rw [show (⟨#[125]⟩ : ByteArray).data.toList = [125] from rfl, (head_eats 125 (skipB s) c).1] at CW
 clear hq1 hk1
 by_cases h0 : (skipB s).head? = some 125
 ·have Gs : Hid (asMap R = .inr ((⟨6, 0, ⟨#[]⟩, [], []⟩ : VS (V d)), (skipB s).tail, c)) := qI (by rw [← Js.o]; unfold pItems; rw [if_pos h0]; rfl)
  rw [decide_eq_true h0, (head_eats 125 (skipB s) c).2.1 h0] at CW
  clear h0
  go_wp2_with fail
  refine CW.o.mono ?_
  rintro e w2 ⟨rfl, hq2, hk2⟩
  have Gt := qI hq2
  have Jb := qI (Jt.o.step Ga.o.2.1 Ga.o.1 hk2)
  have Gf := qI Jb.o.kept
  have HB := qI Jb.o.blk
  have Gi : Hid (∀ WF, Kept [w.heap.size] w2 WF → OwnRep (d + 1) w.heap.size WF [.int .i64 6, .int .i64 0, .string ⟨#[]⟩, .slice none 0 0, .slice none 0 0] (⟨6, 0, ⟨#[]⟩, [], []⟩ : VS (V d))) := qI (fun WF _ => ⟨_, _, [], [], rfl, World.ownsRow_nil _ _ _ _, All2.nil _, World.ownsRow_nil _ _ _ _, All2.nil _, rfl, rfl⟩)
  clear hq2 hk2
  have x0 := cell_head (o := 0) (v := .int .i64 6) HB.o rfl
  have x1 := cell_head (o := 1) (v := .int .i64 0) HB.o rfl
  have x2 := cell_head (o := 2) (v := .string ⟨#[]⟩) HB.o rfl
  have x3 := cell_head (o := 3) (v := .slice none 0 0) HB.o rfl
  have x4 := cell_head (o := 4) (v := .slice none 0 0) HB.o rfl
  have Gg := qI (Jh.o.kept Gf.o (by have h1 := Gc.o; have h2 := Ge.o; simp; omega))
  obtain ⟨⟨d0, d1, d2, d3, d4⟩, f0, f1, f2, f3, f4⟩ := Gg.o.facts
  go_wp2_with fail
  obtain ⟨WF, e⟩ : ∃ WF, WF = set5 w2 w.heap.size (.int .i64 6) (.int .i64 0) (.string ⟨#[]⟩) (.slice none 0 0) (.slice none 0 0) := ⟨_, rfl⟩
  obtain ⟨KF, y0, y1, y2, y3, y4⟩ := Gg.o.stored e
  unfold set5 at e
  rw [← e]
  have KK : Kept [p] w WF := by
   have h1 := Gc.o
   have h2 := Ge.o
   exact ((Ja.o.mono (Y := [p]) (by simp)).trans Gf.o (fun i hi => by simp at hi; rcases hi with h | h; exact .inl (by simp [h]); exact .inr (by omega))).trans KF (fun i hi => by simp at hi; exact .inr (by omega))
  have hown : OwnRep (d + 1) w.heap.size WF [.int .i64 6, .int .i64 0, .string ⟨#[]⟩, .slice none 0 0, .slice none 0 0] (⟨6, 0, ⟨#[]⟩, [], []⟩ : VS (V d)) := Gi.o _ KF
  exact bodyPost_ret (v := .agg #[.int .i64 6, .int .i64 0, .string ⟨#[]⟩, .slice none 0 0, .slice none 0 0]) (by simp [results, Tryz.results106, go_sem, y0, y1, y2, y3, y4]) rfl
   (qboth_ok (cs := [.int .i64 6, .int .i64 0, .string ⟨#[]⟩, .slice none 0 0, .slice none 0 0]) Gs.o ⟨_, _, _, _, _, _, _, _, _, rfl⟩ KK (Gt.o.kept KF (by have h1 := Gc.o; simp; omega)) hown)
 have Me : Hid (ItAt (pairStep (pValue d)) 125 R (skipB s) c []) := qI ⟨f, by have := skip_le s; have := HF.o; omega, by rw [← Js.o]; unfold pItems; rw [if_neg h0]⟩
 rw [decide_eq_false h0, (head_eats 125 (skipB s) c).2.2 h0] at CW
 clear h0
 go_wp2_with fail
 refine CW.o.mono ?_
 rintro e w2 ⟨rfl, hq2, hk2⟩
 have Mf := qI hq2
 have Jb := qI (Jt.o.step Ga.o.2.1 Ga.o.1 hk2)
 clear hq2 hk2
 go_wp2_with fail
 go_loopw [6, 7, 8] (fun _ _ _ wr => (∃ (s' : List UInt8) (c' : Nat) (acc : List (ByteArray × V d)) (vm : Value) (mcs : List (ByteArray × List Value)), QS wr p S 4096 (.inr (s', c')) ∧ acc.length ≤ c' ∧ ItAt (pairStep (pValue d)) 125 R s' c' acc ∧ QM W0 (w.heap.size + 1) p d acc wr vm mcs) ∨ ∃ (x : Int) (ka : Option Addr) (kn kc : Nat), QS wr p S 4097 (.inl x) ∧ R = .inl x ∧ Kept [p, w.heap.size + 1] W0 wr ∧ wr.heap[w.heap.size + 1]? = some (.cells (valA 6 0 ⟨#[]⟩ (.slice none 0 0) (.slice ka kn kc)) 25 (0, 0))) (fun _ _ _ wr => qMeas S p wr)
 case atStart => exact .inl ⟨_, _, [], _, _, Mf.o, Nat.zero_le _, Me.o, Jb.o⟩
 case round =>
  rcases hrel with ⟨s', c', acc, vl, mcs, hq, hac, hit, hj⟩ | ⟨x, ka, kn, kc, hq, hrx, hkw, hb⟩
  rotate_left
  ·obtain ⟨i, ci, h1, hi, hc, h2, h3⟩ := hq.open_bad
   obtain ⟨c0, c1, c2, c3, fz⟩ := h1.cells
   obtain ⟨g1, g2⟩ := int_ne (a := x) (b := 0) (by omega)
   have Gt := qI hq
   have Gf := qI hkw
   have HB := qI hb
   have Gs : Hid (asMap R = .inl x) := qI (by rw [hrx]; rfl)
   clear hq hkw hb hrx h1 hi hc h2 h3 fz c0 c1 c3
   have x0 := cell_head (o := 0) (v := .int .i64 6) HB.o rfl
   have x1 := cell_head (o := 1) (v := .int .i64 0) HB.o rfl
   have x2 := cell_head (o := 2) (v := .string ⟨#[]⟩) HB.o rfl
   have x3 := cell_head (o := 3) (v := .slice none 0 0) HB.o rfl
   have x4 := cell_head (o := 4) (v := .slice ka kn kc) HB.o rfl
   have Gg := qI (Jh.o.kept Gf.o (by have h1 := Gc.o; have h2 := Ge.o; simp; omega))
   obtain ⟨⟨d0, d1, d2, d3, d4⟩, f0, f1, f2, f3, f4⟩ := Gg.o.facts
   go_wp2_with fail
   obtain ⟨WF, e⟩ : ∃ WF, WF = set5 wr w.heap.size (.int .i64 6) (.int .i64 0) (.string ⟨#[]⟩) (.slice none 0 0) (.slice ka kn kc) := ⟨_, rfl⟩
   obtain ⟨KF, y0, y1, y2, y3, y4⟩ := Gg.o.stored e
   unfold set5 at e
   rw [← e]
   have KK : Kept [p] w WF := by
    have h1 := Gc.o
    have h2 := Ge.o
    exact ((Ja.o.mono (Y := [p]) (by simp)).trans Gf.o (fun i hi => by simp at hi; rcases hi with h | h; exact .inl (by simp [h]); exact .inr (by omega))).trans KF (fun i hi => by simp at hi; exact .inr (by omega))
   exact bodyPost_ret (v := .agg #[.int .i64 6, .int .i64 0, .string ⟨#[]⟩, .slice none 0 0, .slice ka kn kc]) (by simp [results, Tryz.results106, go_sem, y0, y1, y2, y3, y4]) rfl
    (qboth_bad (cs := [.int .i64 6, .int .i64 0, .string ⟨#[]⟩, .slice none 0 0, .slice ka kn kc]) Gs.o ⟨_, _, _, _, _, _, _, _, _, rfl⟩ KK (Gt.o.kept KF (by have h1 := Gc.o; simp; omega)))
  obtain ⟨ak, ck, rfl, -, -⟩ := (Slc.of_row hj.row).form
  have HM := qI (qmeas_ok hq)
  obtain ⟨i, h1, hi, hc, hr⟩ := hq.open_ok
  obtain ⟨c0, c1, c2, c3, fz⟩ := h1.cells
  have HQ := qI hq
  have HJ := qI hj
  have Gb := qI hit
  have Gu : Hid (acc.length ≤ c' ∧ c' ≤ 4096) := qI ⟨hac, hc⟩
  have CBL := qI (qblanks_any hq Gd.o)
  rw [show skipX (.inr (s', c')) = .inr (skipB s', c') from rfl] at CBL
  clear hq hj hit h1 hi hc hr fz c0 c1 c3 hac
  go_wp2_with fail
  clear c2
  refine CBL.o.mono ?_
  rintro e w3 ⟨rfl, hq3, hk3⟩
  have Yb := qI hq3
  have Mg := qI (HJ.o.step Ga.o.2.1 Ga.o.1 hk3)
  have Mh := qI hk3
  have CLT := qI (qliteral_any hq3 Gd.o)
  obtain ⟨i0, h1, hi, hc, hr⟩ := hq3.open_ok
  obtain ⟨c0, c1, c2, c3, fz⟩ := h1.cells
  have Mi : Hid (i0 ≤ S.size) := qI hi
  obtain ⟨KY, hK⟩ : ∃ KY, strB (litS (.inr (skipB s', c'))) = KY := ⟨_, rfl⟩
  obtain ⟨Y0, hY0⟩ : ∃ Y0, litX (.inr (skipB s', c')) = Y0 := ⟨_, rfl⟩
  have hps := pair_state (d := d) s' c' acc
  rw [hK, hY0] at CLT hps
  have Mj := qI hps
  clear hq3 hk3 h1 hi hc hr fz c0 c2 c3 hK hY0 hps
  go_wp2_with fail
  clear c1
  refine CLT.o.mono ?_
  rintro e w4 ⟨rfl, hq4, hk4⟩
  have Mk := qI hq4
  have Ml := qI (Mg.o.step Ga.o.2.1 Ga.o.1 hk4)
  have Mm := qI (Mh.o.trans' hk4)
  have hacI : (acc.length : Int) ≤ 4096 := by have := Gu.o; omega
  clear hq4 hk4
  go_wp2_with fail
  go_loopw [8] (fun ii wi => ∃ kk : Nat, ii = .int .i64 (kk : Int) ∧ kk ≤ acc.length ∧ QS wi p S 4096 (dupX (acc.take kk) KY Y0) ∧ QM W0 (w.heap.size + 1) p d acc wi (.slice ak acc.length ck) mcs ∧ Kept [p] wr wi) (fun ii _ => acc.length - (intOf ii).toNat)
  case atStart => exact ⟨0, rfl, Nat.zero_le _, Mk.o, Ml.o, Mm.o⟩
  case round =>
   obtain ⟨kk, rfl, hkk, hqi, hji, hki⟩ := hrel
   have Ji := qI hqi
   have Jc := qI hji
   have Jj := qI hki
   have x4 := cell_head (o := 4) (v := .slice ak acc.length ck) hji.blk rfl
   have hkkI : (kk : Int) ≤ acc.length := by omega
   clear hqi hji hki
   by_cases hlt : kk < acc.length
   ·have hltI : (kk : Int) < acc.length := by omega
    have Jd := qI hlt
    obtain ⟨g, o, rfl, hkey⟩ := Jc.o.key hlt
    have Je : Hid (acc.take (kk + 1) = acc.take kk ++ [acc[kk]]) := qI (List.take_succ_eq_append_getElem hlt)
    by_cases he : acc[kk].1 = KY
    ·obtain ⟨g1, g2⟩ := str_eq he
     have Jk : Hid (dupX (acc.take (kk + 1)) KY Y0 = failX 53 (dupX (acc.take kk) KY Y0)) := qI (by rw [Je.o]; exact dupX_snoc_eq he)
     have CF := qI (qfail_any Ji.o i0 53 Mi.o (by decide) (by decide))
     rw [← Jk.o] at CF
     clear he hkk Je
     revert hkey g1 g2
     generalize acc[kk].1 = kx
     intro hkey g1 g2
     clear hlt
     go_wp2_with fail
     refine CF.o.mono ?_
     rintro e w5 ⟨rfl, hq5, hk5⟩
     have Mn := qI (Jc.o.step Ga.o.2.1 Ga.o.1 hk5)
     have Mo := qI hq5
     have Mp := qI (Jj.o.trans' hk5)
     clear hq5 hk5
     go_wp2_with fail
     case roundEnd => exact ⟨⟨kk + 1, by go_num, Jd.o, Mo.o, Mn.o, Mp.o⟩, by have := Jd.o; simp [intOf]; omega⟩
    ·obtain ⟨g1, g2⟩ := str_ne he
     have Jk : Hid (dupX (acc.take (kk + 1)) KY Y0 = dupX (acc.take kk) KY Y0) := qI (by rw [Je.o]; exact dupX_snoc_ne he)
     clear he hkk Je
     revert hkey g1 g2
     generalize acc[kk].1 = kx
     intro hkey g1 g2
     clear hlt
     go_wp2_with fail
     case roundEnd => exact ⟨⟨kk + 1, by go_num, Jd.o, by rw [Jk.o]; exact Ji.o, Jc.o, Jj.o⟩, by have := Jd.o; simp [intOf]; omega⟩
   ·obtain rfl : kk = acc.length := by omega
    have Mq : Hid (QS wr p S 4096 (dupX acc KY Y0)) := qI (by have h9 := Ji.o; rw [List.take_length] at h9; exact h9)
    have hnlt : ¬ ((acc.length : Int) < acc.length) := by omega
    have CB2 := qI (qblanks_any Mq.o Gd.o)
    clear hlt hkk hkkI
    go_wp2_with fail
    clear x4 hnlt
    refine CB2.o.mono ?_
    rintro e w6 ⟨rfl, hq6, hk6⟩
    have Ju := qI (Jc.o.step Ga.o.2.1 Ga.o.1 hk6)
    have Yc := qI hq6
    have Jv := qI (Jj.o.trans' hk6)
    have CW6 := qI (qword_any hq6 Gd.o ⟨#[58]⟩ (by decide))
    rw [show (⟨#[58]⟩ : ByteArray).data.toList = [58] from rfl] at CW6
    clear hq6 hk6
    obtain ⟨Z, hZ⟩ : ∃ Z, needX [58] (skipX (dupX acc KY Y0)) = Z := ⟨_, rfl⟩
    have Mr : Hid ((∃ x, Z = .inl x ∧ pairStep (pValue d) s' c' acc = .inl x) ∨ ∃ s2, Z = .inr (s2, c') ∧ pairStep (pValue d) s' c' acc = (match pValue d s2 c' with | .inl e => .inl e | .inr (v, r, c') => .inr (acc ++ [(KY, v)], r, c'))) := qI (by rw [← hZ]; exact Mj.o)
    cases hz : eatB [58] (skipX (dupX acc KY Y0))
    case' true =>
     rw [hz] at CW6
     have Jf : Hid (eatX [58] (skipX (dupX acc KY Y0)) = Z) := qI (by rw [← hZ, needX_yes hz, eatX_yes hz])
     clear hz hZ
     go_wp2_with fail
     refine CW6.o.mono ?_
     rintro e w7 ⟨rfl, hq7, hk7⟩
     rw [Jf.o] at hq7
     have Jw := qI hq7
     have Gm := qI (Ju.o.step Ga.o.2.1 Ga.o.1 hk7)
     have Ms := qI (Jv.o.trans' hk7)
     clear hq7 hk7
     go_wp2_with fail
    case' false =>
     rw [hz] at CW6
     have Jf : Hid (failX 50 (eatX [58] (skipX (dupX acc KY Y0))) = Z) := qI (by rw [← hZ, needX_no hz, eatX_no hz])
     clear hz hZ
     go_wp2_with fail
     refine CW6.o.mono ?_
     rintro e w8 ⟨rfl, hq8, hk8⟩
     obtain ⟨i8, c8, e8, h1, hi8, hc8⟩ := hq8.places
     obtain ⟨z0, z1, z2, z3, fz⟩ := h1.cells
     have CF8 := qI (qfail_any hq8 i8 50 hi8 (by decide) (by decide))
     rw [Jf.o] at CF8
     have Jg := qI (Ju.o.step Ga.o.2.1 Ga.o.1 hk8)
     have Jl := qI (Jv.o.trans' hk8)
     clear hq8 hk8 h1 hi8 hc8 fz z0 z2 z3
     go_wp2_with fail
     clear z1
     refine CF8.o.mono ?_
     rintro e w7 ⟨rfl, hq7, hk7⟩
     have Jw := qI hq7
     have Gm := qI (Jg.o.step Ga.o.2.1 Ga.o.1 hk7)
     have Ms := qI (Jl.o.trans' hk7)
     clear hq7 hk7
     go_wp2_with fail
    all_goals
     clear Jf
     have Mt := qI Gm.o.blk
     refine wp_region_last' (n := 11) (fun w' : World => w'.heap[w.heap.size + 1]? = some (.cells (valA 6 0 ⟨#[]⟩ (.slice none 0 0) (.slice ak acc.length ck)) 25 (0, 0)) ∧ Kept [p, w.heap.size + 1] W0 w') 10 (by kernel_rfl) (by kernel_rfl) ?_
     change wpAnyT _ _ _ _ _ _ _ _ _ w7.drew
     have Gj : Hid (Kept [] w7 w7.drew) := qI (Kept.refl [] w7).drew
     have hSS : (fun w' : World => w'.heap[w.heap.size + 1]? = some (.cells (valA 6 0 ⟨#[]⟩ (.slice none 0 0) (.slice ak acc.length ck)) 25 (0, 0)) ∧ Kept [p, w.heap.size + 1] W0 w') w7.drew := ⟨Gj.o.heap Mt.o (by simp), Gm.o.kept.drew⟩
     revert hSS Gj
     generalize w7.drew = W3
     intro Gj hSS
     refine wpAnyT_start ?_
     intro O R hO hR
     have hQp : ∀ c a (d : Nat) v w, R (.panic c) (a.put (some d) v) w → R (.panic c) a w := by subst hR; exact fun _ _ _ _ _ h => h
     refine wpAnyT_take' (i := 0) (v := ?_) hO rfl rfl (by kernel_rfl) (by kernel_rfl) (by kernel_rfl) (by kernel_rfl) hQp (Or.inl ⟨by kernel_rfl, fun w hSw => ?_⟩) hSS ?_
     rotate_left
     ·go_simp; try with_reducible rfl
     try simp only [zA,zN,zB,zC,zD]
     refine wpAnyT_take' (i := 1) (v := ?_) hO rfl rfl (by kernel_rfl) (by kernel_rfl) (by kernel_rfl) (by kernel_rfl) hQp (Or.inl ⟨by kernel_rfl, fun w hSw => ?_⟩) hSS ?_
     rotate_left
     ·have s4 := cell_head (o := 4) (v := .slice ak acc.length ck) hSw.1 rfl; go_simp; try with_reducible rfl
     try simp only [zA,zN,zB,zC,zD]
     refine wpAnyT_take' (i := 2) (v := ?_) hO rfl rfl (by kernel_rfl) (by kernel_rfl) (by kernel_rfl) (by kernel_rfl) hQp (Or.inl ⟨by kernel_rfl, fun w hSw => ?_⟩) hSS ?_
     rotate_left
     ·go_simp; try with_reducible rfl
     try simp only [zA,zN,zB,zC,zD]
     refine wpAnyT_take' (i := 3) (v := ?_) hO rfl rfl (by kernel_rfl) (by kernel_rfl) (by kernel_rfl) (by kernel_rfl) hQp (Or.inl ⟨by kernel_rfl, fun w hSw => ?_⟩) hSS ?_
     rotate_left
     ·go_simp; try with_reducible rfl
     try simp only [zA,zN,zB,zC,zD]
     refine wpAnyT_take' (i := 4) (v := ?_) hO rfl rfl (by kernel_rfl) (by kernel_rfl) (by kernel_rfl) (by kernel_rfl) hQp (Or.inl ⟨by kernel_rfl, fun w hSw => ?_⟩) hSS ?_
     rotate_left
     ·go_simp; try with_reducible rfl
     try simp only [zA,zN,zB,zC,zD]
     refine wpAnyT_one' (i := 5) hO rfl (by kernel_rfl) (by kernel_rfl) (fun K hK => ?_)
     go_simp
     refine Calls.mono (qval_any IH.o (Jw.o.kept0 Gj.o) Gd.o) ?_
     rintro e w10 ⟨cs4, rfl, hsh, hk10, hans⟩
     obtain ⟨k5, m5, s5, p5, i5, c5, q5, j5, d5, rfl⟩ := hsh
     have Gv := qI hk10
     have Jm := qI hans
     have hS4 : (fun w' : World => w'.heap[w.heap.size + 1]? = some (.cells (valA 6 0 ⟨#[]⟩ (.slice none 0 0) (.slice ak acc.length ck)) 25 (0, 0)) ∧ Kept [p, w.heap.size + 1] W0 w') w10 := ⟨hk10.heap hSS.1 (by have := Ga.o.1; simp; omega), hSS.2.trans hk10 (fun i hi => by simp at hi; exact .inl (by simp [hi]))⟩
     refine hK _ _ (.inr hS4) ?_
     clear hK K
     try simp only [zA,zN,zB,zC,zD]
     clear hSS hk10 hans
     have hSS := hS4
     clear hS4
     have Gw := qI (row_kept (row_kept Gm.o.row Gj.o (by simp)) Gv.o (fun g hg hx => by simp at hx; have h1 := (Gm.o.row.lt g hg).1; have h2 := Ga.o.2.1; omega))
     refine wpAnyT_take' (i := 6) (v := ?_) hO rfl rfl (by kernel_rfl) (by kernel_rfl) (by kernel_rfl) (by kernel_rfl) hQp (Or.inl ⟨by kernel_rfl, fun w hSw => ?_⟩) hSS ?_
     rotate_left
     ·go_simp; try with_reducible rfl
     try simp only [zA,zN,zB,zC,zD]
     refine wpAnyT_one' (i := 7) hO rfl (by kernel_rfl) (by kernel_rfl) (fun K hK => ?_)
     go_simp
     have hS5 : (fun w' : World => w'.heap[w.heap.size + 1]? = some (.cells (valA 6 0 ⟨#[]⟩ (.slice none 0 0) (.slice ak acc.length ck)) 25 (0, 0)) ∧ Kept [p, w.heap.size + 1] W0 w') (w10.alloc (.cells #[.string KY, .int .i64 k5, .int .i64 m5, .string s5, .slice p5 i5 c5, .slice q5 j5 d5] 60)) := ⟨((Kept.refl [] w10).alloc _).heap hSS.1 (by simp), hSS.2.alloc _⟩
     have Gn : Hid (Kept [] w10 (w10.alloc (.cells #[.string KY, .int .i64 k5, .int .i64 m5, .string s5, .slice p5 i5 c5, .slice q5 j5 d5] 60))) := qI ((Kept.refl [] w10).alloc _)
     have Gk := qI (slc_new w10 [.string KY, .int .i64 k5, .int .i64 m5, .string s5, .slice p5 i5 c5, .slice q5 j5 d5] 6 1 60 w10.heap.size rfl rfl (by decide))
     have Gp := qI (row_kept Gw.o Gn.o (by simp))
     refine hK _ _ (.inr hS5) ?_
     clear hK K
     try simp only [zA,zN,zB,zC,zD]
     clear hSS
     have hSS := hS5
     clear hS5
     revert Gn Gk Gp hSS
     rw [show ([.string KY, .int .i64 k5, .int .i64 m5, .string s5, .slice p5 i5 c5, .slice q5 j5 d5] : List Value).toArray = #[.string KY, .int .i64 k5, .int .i64 m5, .string s5, .slice p5 i5 c5, .slice q5 j5 d5] from rfl]
     generalize w10.alloc (.cells #[.string KY, .int .i64 k5, .int .i64 m5, .string s5, .slice p5 i5 c5, .slice q5 j5 d5] 60) = w5
     intro Gn Gk Gp hSS
     refine wpAnyT_one' (i := 8) hO rfl (by kernel_rfl) (by kernel_rfl) (fun K hK => ?_)
     refine oper_append tyPairs Gp.o Gk.o (fun u hu => by simp only [List.mem_cons, List.not_mem_nil, or_false] at hu; rcases hu with rfl | rfl | rfl | rfl | rfl | rfl <;> rfl) (by have := Gu.o; simp only [maxLen]; omega) (by have := Gu.o; omega) hSS.2.size (.tmp 58) (.tmp 64) rfl rfl rfl ?_
     intro b7 d7 w6' hown6 hk6 hg6
     have Gh := qI hown6
     have Gx := qI hk6
     have Mu := qI hg6
     have hS6 : (fun w' : World => w'.heap[w.heap.size + 1]? = some (.cells (valA 6 0 ⟨#[]⟩ (.slice none 0 0) (.slice ak acc.length ck)) 25 (0, 0)) ∧ Kept [p, w.heap.size + 1] W0 w') w6' := ⟨hk6.heap hSS.1 (fun hx => by have h1 := (Gp.o.lt _ (Option.mem_toList.1 hx)).1; have h2 := Ga.o.2.2; omega), hSS.2.trans hk6 (fun i hi => .inr (Gp.o.lt i (Option.mem_toList.1 hi)).1)⟩
     refine hK _ _ (.inr hS6) ?_
     clear hK K
     try simp only [zA,zN,zB,zC,zD]
     clear hSS hown6 hk6 hg6
     have hSS := hS6
     have Jx := qI hS6
     clear hS6
     refine wpAnyT_take' (i := 9) (v := ?_) hO rfl rfl (by kernel_rfl) (by kernel_rfl) (by kernel_rfl) (by kernel_rfl) hQp (Or.inl ⟨by kernel_rfl, fun w hSw => ?_⟩) hSS ?_
     rotate_left
     ·go_simp; try with_reducible rfl
     try simp only [zA,zN,zB,zC,zD]
     have s3 := cell_head (o := 4) (v := .slice ak acc.length ck) hSS.1 rfl
     have s4 := free_head (o := 4) hSS.1
     refine wpAnyT_one' (i := 10) hO rfl (by kernel_rfl) (by kernel_rfl) (fun K hK => ?_)
     go_simp
     refine hK _ _ (.inl rfl) ?_
     clear hK K
     try simp only [zA,zN,zB,zC,zD]
     refine wpAnyT_done' hO (by kernel_rfl) ?_ _
     subst hR
     try clear hQp hO O
     clear s3 s4 hSS
     have hblk := block_setCell (i := 4) (v := .slice b7 (acc.length + 1) d7) Jx.o.1 (d := valA 6 0 ⟨#[]⟩ (.slice none 0 0) (.slice b7 (acc.length + 1) d7)) rfl
     have hkF := kept_set w6' (w.heap.size + 1) 4 (.slice b7 (acc.length + 1) d7)
     revert hblk hkF
     generalize w6'.setCell ⟨w.heap.size + 1, 4, none⟩ (.slice b7 (acc.length + 1) d7) = wF
     intro hblk hkF
     have Jy := qI hblk
     have Jn := qI hkF
     have Gy : Hid (Kept [p, w.heap.size + 1] W0 wF) := qI (Jx.o.2.trans hkF (fun i hi => by simp at hi; exact .inl (by simp [hi])))
     clear hblk hkF
     have Jo : Hid (∀ x : PX, ∀ B, QS w10 p S B x → QS wF p S B x) := qI (fun x B h => ((h.kept0 Gn.o).kept Gx.o (fun hx => by have h1 := (Gp.o.lt _ (Option.mem_toList.1 hx)).1; have h2 := Ga.o.2.1; omega)).kept Jn.o (by have := Ga.o.1; simp; omega))
     have hfin : (∃ x, QS wF p S 4097 (.inl x) ∧ R = .inl x) ∨ ∃ v r c2, QS wF p S 4096 (.inr (r, c2)) ∧ pairStep (pValue d) s' c' acc = .inr (acc ++ [(KY, v)], r, c2) ∧ OwnRep d W3.heap.size w10 [.int .i64 k5, .int .i64 m5, .string s5, .slice p5 i5 c5, .slice q5 j5 d5] v := by
      have hans := Jm.o
      unfold AnsV at hans
      rcases Mr.o with ⟨x, hz, hstep⟩ | ⟨s2, hz, hstep⟩
      ·rw [hz] at hans
       exact .inl ⟨x, Jo.o _ _ hans, Gb.o.bad hstep⟩
      ·rw [hz] at hans
       simp only at hans
       cases hv : pValue d s2 c' with
       | inl x =>
        rw [hv] at hans hstep
        exact .inl ⟨x, Jo.o _ _ hans, Gb.o.bad hstep⟩
       | inr y =>
        obtain ⟨v, r, c2⟩ := y
        rw [hv] at hans hstep
        exact .inr ⟨v, r, c2, Jo.o _ _ hans.1, hstep, hans.2⟩
     rcases hfin with ⟨x, hqf, hrx⟩ | ⟨v, r, c2, hqf, hstp, hown⟩
     ·have Jp := qI hqf
      have Gz := qI hrx
      have CW1 := qI (qword_any Jp.o Gd.o ⟨#[125]⟩ (by decide))
      clear hqf hrx
      go_wp2_with fail
      refine CW1.o.mono ?_
      rintro e w8 ⟨rfl, hq8, hk8⟩
      have CW2 := qI (qword_any hq8 Gd.o ⟨#[44]⟩ (by decide))
      rw [show eatB (⟨#[125]⟩ : ByteArray).data.toList (.inl x) = false from rfl]
      have Jl := qI hk8
      clear hq8 hk8
      go_wp2_with fail
      refine CW2.o.mono ?_
      rintro e w9 ⟨rfl, hq9, hk9⟩
      rw [show eatX (⟨#[44]⟩ : ByteArray).data.toList (eatX (⟨#[125]⟩ : ByteArray).data.toList (.inl x)) = .inl x from rfl] at hq9
      rw [show eatB (⟨#[44]⟩ : ByteArray).data.toList (eatX (⟨#[125]⟩ : ByteArray).data.toList (.inl x)) = false from rfl]
      have Mv := qI (Jl.o.trans' hk9)
      have Mw := qI hq9
      obtain ⟨i9, c9, h1, hi9, hc9, h2, h3⟩ := hq9.open_bad
      obtain ⟨z0, z1, z2, z3, fz⟩ := h1.cells
      have CF := qI (qfail_any Mw.o i9 50 hi9 (by decide) (by decide))
      clear hq9 hk9 h1 hi9 hc9 h2 h3 fz
      go_wp2_with fail
      clear z0 z1 z2 z3
      refine CF.o.mono ?_
      rintro e w11 ⟨rfl, hq11, hk11⟩
      go_wp2_with fail
      case roundEnd =>
       have hk := Mv.o.trans' hk11
       exact ⟨.inr ⟨x, b7, acc.length + 1, d7, hq11, Gz.o, Gy.o.trans hk (fun i hi => by simp at hi; exact .inl (by simp [hi])), hk.heap Jy.o (by have := Ga.o.1; simp; omega)⟩, by rw [qmeas_bad hq11, HM.o]; omega⟩
     ·have Jp := qI hqf
      have Gl := qI hstp
      have Jz := qI (pairStep_le hstp)
      have Jq : Hid ((acc ++ [(KY, v)]).length ≤ c2) := qI ((pairStep_st s' c' acc (acc ++ [(KY, v)]) r c2 Gu.o.2 hstp).2.2 Gu.o.1)
      have Ma : Hid (QM W0 (w.heap.size + 1) p d (acc ++ [(KY, v)]) wF (.slice b7 (acc.length + 1) d7) (mcs ++ [(KY, [.int .i64 k5, .int .i64 m5, .string s5, .slice p5 i5 c5, .slice q5 j5 d5])])) := qI (
       QM.snoc (w5 := w5) (w6 := w6') (Bc := W3.heap.size) Gm.o Ga.o.2.1 Ga.o.2.2 Gy.o Jy.o (((Gj.o.mono (by simp)).trans' Gv.o).then Gn.o) Gx.o Jn.o Mu.o
        (row_kept Gh.o Jn.o (fun g hg hx => by simp at hx; have h1 := (Gh.o.lt g hg).1; have h2 := Ga.o.2.2; omega)) (hown.rep.kept0 Gn.o) Gj.o.size)
      have CW1 := qI (qword_any Jp.o Gd.o ⟨#[125]⟩ (by decide))
      rw [show (⟨#[125]⟩ : ByteArray).data.toList = [125] from rfl, (head_eats 125 r c2).1] at CW1
      clear hqf hstp hown
      by_cases h93 : r.head? = some 125
      ·have Gz : Hid (R = .inr (acc ++ [(KY, v)], r.tail, c2)) := qI (Gb.o.done Gl.o h93)
       rw [decide_eq_true h93, (head_eats 125 r c2).2.1 h93] at CW1
       clear h93
       go_wp2_with fail
       refine CW1.o.mono ?_
       rintro e w8 ⟨rfl, hq8, hk8⟩
       have Gt := qI hq8
       have Gq := qI (Ma.o.step Ga.o.2.1 Ga.o.1 hk8)
       have Gf := qI Gq.o.kept
       have HB := qI Gq.o.blk
       have Gs : Hid (asMap R = .inr ((⟨6, 0, ⟨#[]⟩, [], acc ++ [(KY, v)]⟩ : VS (V d)), r.tail, c2)) := qI (by rw [Gz.o]; rfl)
       have Gi : Hid (∀ WF, Kept [w.heap.size] w8 WF → OwnRep (d + 1) w.heap.size WF [.int .i64 6, .int .i64 0, .string ⟨#[]⟩, .slice none 0 0, .slice b7 (acc.length + 1) d7] (⟨6, 0, ⟨#[]⟩, [], acc ++ [(KY, v)]⟩ : VS (V d))) := qI (fun WF KF => by
        have hz := Ge.o
        refine ⟨_, _, [], mcs ++ [(KY, [.int .i64 k5, .int .i64 m5, .string s5, .slice p5 i5 c5, .slice q5 j5 d5])], rfl, World.ownsRow_nil _ _ _ _, All2.nil _, ?_, ?_, rfl, rfl⟩
        ·exact row_base (row_kept Gq.o.row KF (fun g hg hx => by simp at hx; have := (Gq.o.row.lt g hg).1; omega)) (fun g hg => by have := (Gq.o.row.lt g hg).1; omega)
        ·exact Gq.o.all.mono fun _ _ _ q => ⟨q.1, q.2.move KF (fun g _ h => ⟨fun hx => by simp at hx; omega, by omega, by simp [Value.ownBlock], h.2⟩)⟩)
       clear hq8 hk8
       have x0 := cell_head (o := 0) (v := .int .i64 6) HB.o rfl
       have x1 := cell_head (o := 1) (v := .int .i64 0) HB.o rfl
       have x2 := cell_head (o := 2) (v := .string ⟨#[]⟩) HB.o rfl
       have x3 := cell_head (o := 3) (v := .slice none 0 0) HB.o rfl
       have x4 := cell_head (o := 4) (v := .slice b7 (acc.length + 1) d7) HB.o rfl
       have Gg := qI (Jh.o.kept Gf.o (by have h1 := Gc.o; have h2 := Ge.o; simp; omega))
       obtain ⟨⟨d0, d1, d2, d3, d4⟩, f0, f1, f2, f3, f4⟩ := Gg.o.facts
       go_wp2_with fail
       obtain ⟨WF, e⟩ : ∃ WF, WF = set5 w8 w.heap.size (.int .i64 6) (.int .i64 0) (.string ⟨#[]⟩) (.slice none 0 0) (.slice b7 (acc.length + 1) d7) := ⟨_, rfl⟩
       obtain ⟨KF, y0, y1, y2, y3, y4⟩ := Gg.o.stored e
       unfold set5 at e
       rw [← e]
       have KK : Kept [p] w WF := by
        have h1 := Gc.o
        have h2 := Ge.o
        exact ((Ja.o.mono (Y := [p]) (by simp)).trans Gf.o (fun i hi => by simp at hi; rcases hi with h | h; exact .inl (by simp [h]); exact .inr (by omega))).trans KF (fun i hi => by simp at hi; exact .inr (by omega))
       have hown : OwnRep (d + 1) w.heap.size WF [.int .i64 6, .int .i64 0, .string ⟨#[]⟩, .slice none 0 0, .slice b7 (acc.length + 1) d7] (⟨6, 0, ⟨#[]⟩, [], acc ++ [(KY, v)]⟩ : VS (V d)) := Gi.o _ KF
       exact bodyPost_ret (v := .agg #[.int .i64 6, .int .i64 0, .string ⟨#[]⟩, .slice none 0 0, .slice b7 (acc.length + 1) d7]) (by simp [results, Tryz.results106, go_sem, y0, y1, y2, y3, y4]) rfl
        (qboth_ok (cs := [.int .i64 6, .int .i64 0, .string ⟨#[]⟩, .slice none 0 0, .slice b7 (acc.length + 1) d7]) Gs.o ⟨_, _, _, _, _, _, _, _, _, rfl⟩ KK (Gt.o.kept KF (by have h1 := Gc.o; simp; omega)) hown)
      ·rw [decide_eq_false h93, (head_eats 125 r c2).2.2 h93] at CW1
       have H93 := qI h93
       clear h93
       go_wp2_with fail
       refine CW1.o.mono ?_
       rintro e w8 ⟨rfl, hq8, hk8⟩
       have Jg := qI (Ma.o.step Ga.o.2.1 Ga.o.1 hk8)
       have CW2 := qI (qword_any hq8 Gd.o ⟨#[44]⟩ (by decide))
       rw [show (⟨#[44]⟩ : ByteArray).data.toList = [44] from rfl, (head_eats 44 r c2).1] at CW2
       clear hq8 hk8
       by_cases h44 : r.head? = some 44
       ·rw [decide_eq_true h44, (head_eats 44 r c2).2.1 h44] at CW2
        have Jr := qI (Gb.o.next Gl.o H93.o h44 Jz.o.1)
        have Mx : Hid (r.tail.length < s'.length) := qI (by
         have h1 := Jz.o.1
         cases r with
         | nil => cases h44
         | cons q t => simp only [List.length_cons, List.tail_cons] at *; omega)
        clear h44
        go_wp2_with fail
        refine CW2.o.mono ?_
        rintro e w9 ⟨rfl, hq9, hk9⟩
        go_wp2_with fail
        case roundEnd => exact ⟨.inl ⟨_, _, _, _, _, hq9, Jq.o, Jr.o, Jg.o.step Ga.o.2.1 Ga.o.1 hk9⟩, by rw [qmeas_ok hq9, HM.o]; have := Mx.o; omega⟩
       ·rw [decide_eq_false h44, (head_eats 44 r c2).2.2 h44] at CW2
        have Gz : Hid (R = .inl 50) := qI (Gb.o.other Gl.o H93.o h44)
        clear h44
        go_wp2_with fail
        refine CW2.o.mono ?_
        rintro e w9 ⟨rfl, hq9, hk9⟩
        have My := qI (Jg.o.step Ga.o.2.1 Ga.o.1 hk9)
        obtain ⟨i9, h1, hi9, hc9, hr9⟩ := hq9.open_ok
        obtain ⟨z0, z1, z2, z3, fz⟩ := h1.cells
        have CF := qI (qfail_any hq9.wide i9 50 hi9 (by decide) (by decide))
        clear hq9 hk9 h1 hi9 hc9 hr9 fz
        go_wp2_with fail
        clear z0 z1 z2 z3
        refine CF.o.mono ?_
        rintro e w11 ⟨rfl, hq11, hk11⟩
        have Mb := qI (My.o.step Ga.o.2.1 Ga.o.1 hk11)
        go_wp2_with fail
        case roundEnd => exact ⟨.inr ⟨50, b7, acc.length + 1, d7, hq11, Gz.o, Mb.o.kept, Mb.o.blk⟩, by rw [qmeas_bad hq11, HM.o]; omega⟩
end
theorem heads_in (a : UInt8) : ([34, 91, 123, 45, 48, 49, 50, 51, 52, 53, 54, 55, 56, 57] : List UInt8).contains a = decide (a.toNat = 34 ∨ a.toNat = 91 ∨ a.toNat = 123 ∨ a.toNat = 45 ∨ (48 ≤ a.toNat ∧ a.toNat ≤ 57)) := by
 rw [Bool.eq_iff_iff, decide_eq_true_iff, List.contains_iff_mem]
 simp only [List.mem_cons, List.not_mem_nil, or_false, ← UInt8.toNat_inj]
 simp only [show (34 : UInt8).toNat = 34 from rfl, show (91 : UInt8).toNat = 91 from rfl, show (123 : UInt8).toNat = 123 from rfl, show (45 : UInt8).toNat = 45 from rfl, show (48 : UInt8).toNat = 48 from rfl, show (49 : UInt8).toNat = 49 from rfl, show (50 : UInt8).toNat = 50 from rfl, show (51 : UInt8).toNat = 51 from rfl, show (52 : UInt8).toNat = 52 from rfl, show (53 : UInt8).toNat = 53 from rfl, show (54 : UInt8).toNat = 54 from rfl, show (55 : UInt8).toNat = 55 from rfl, show (56 : UInt8).toNat = 56 from rfl, show (57 : UInt8).toNat = 57 from rfl]
 omega
theorem pre_head {b a : UInt8} {W t : List UInt8} (h : a.toNat ≠ b.toNat) : (b :: W).isPrefixOf (a :: t) = false := by
 have h1 : (b == a) = false := by
  rw [beq_eq_false_iff_ne]
  intro e
  exact h (by rw [e])
 show (b == a && W.isPrefixOf t) = false
 rw [h1]; rfl
theorem begins_class (r : List UInt8) (c : Nat) : ∃ z : Nat, nextB (.inr (r, c)) = z ∧
  ((z = 110 ∧ begins r = nullW.isPrefixOf r) ∨ (z = 116 ∧ begins r = trueW.isPrefixOf r) ∨ (z = 102 ∧ begins r = falseW.isPrefixOf r) ∨
   (z = 34 ∧ begins r = true) ∨ (z = 91 ∧ begins r = true) ∨ (z = 123 ∧ begins r = true) ∨ (z = 45 ∧ begins r = true) ∨
   ((48 ≤ z ∧ z ≤ 57) ∧ begins r = true) ∨
   (((z ≠ 110 ∧ z ≠ 116 ∧ z ≠ 102 ∧ z ≠ 34 ∧ z ≠ 91 ∧ z ≠ 123 ∧ z ≠ 45) ∧ z < 48) ∧ begins r = false) ∨
   (((z ≠ 110 ∧ z ≠ 116 ∧ z ≠ 102 ∧ z ≠ 34 ∧ z ≠ 91 ∧ z ≠ 123 ∧ z ≠ 45) ∧ 57 < z) ∧ begins r = false)) := by
 refine ⟨_, rfl, ?_⟩
 cases r with
 | nil => exact .inr (.inr (.inr (.inr (.inr (.inr (.inr (.inr (.inl ⟨(by decide : ((0 ≠ 110 ∧ 0 ≠ 116 ∧ 0 ≠ 102 ∧ 0 ≠ 34 ∧ 0 ≠ 91 ∧ 0 ≠ 123 ∧ 0 ≠ 45) ∧ 0 < 48)), rfl⟩))))))))
 | cons a t =>
  show (a.toNat = 110 ∧ _) ∨ (a.toNat = 116 ∧ _) ∨ (a.toNat = 102 ∧ _) ∨ (a.toNat = 34 ∧ _) ∨ (a.toNat = 91 ∧ _) ∨ (a.toNat = 123 ∧ _) ∨ (a.toNat = 45 ∧ _) ∨ ((48 ≤ a.toNat ∧ a.toNat ≤ 57) ∧ _) ∨ (((a.toNat ≠ 110 ∧ a.toNat ≠ 116 ∧ a.toNat ≠ 102 ∧ a.toNat ≠ 34 ∧ a.toNat ≠ 91 ∧ a.toNat ≠ 123 ∧ a.toNat ≠ 45) ∧ a.toNat < 48) ∧ _) ∨ (((a.toNat ≠ 110 ∧ a.toNat ≠ 116 ∧ a.toNat ≠ 102 ∧ a.toNat ≠ 34 ∧ a.toNat ≠ 91 ∧ a.toNat ≠ 123 ∧ a.toNat ≠ 45) ∧ 57 < a.toNat) ∧ _)
  have hb : begins (a :: t) = (nullW.isPrefixOf (a :: t) || trueW.isPrefixOf (a :: t) || falseW.isPrefixOf (a :: t) || decide (a.toNat = 34 ∨ a.toNat = 91 ∨ a.toNat = 123 ∨ a.toNat = 45 ∨ (48 ≤ a.toNat ∧ a.toNat ≤ 57))) := by
   rw [← heads_in]; rfl
  have n1 : a.toNat ≠ 110 → nullW.isPrefixOf (a :: t) = false := fun h => pre_head h
  have n2 : a.toNat ≠ 116 → trueW.isPrefixOf (a :: t) = false := fun h => pre_head h
  have n3 : a.toNat ≠ 102 → falseW.isPrefixOf (a :: t) = false := fun h => pre_head h
  have d0 : ¬ (a.toNat = 34 ∨ a.toNat = 91 ∨ a.toNat = 123 ∨ a.toNat = 45 ∨ (48 ≤ a.toNat ∧ a.toNat ≤ 57)) → decide (a.toNat = 34 ∨ a.toNat = 91 ∨ a.toNat = 123 ∨ a.toNat = 45 ∨ (48 ≤ a.toNat ∧ a.toNat ≤ 57)) = false := decide_eq_false
  have d1 : (a.toNat = 34 ∨ a.toNat = 91 ∨ a.toNat = 123 ∨ a.toNat = 45 ∨ (48 ≤ a.toNat ∧ a.toNat ≤ 57)) → decide (a.toNat = 34 ∨ a.toNat = 91 ∨ a.toNat = 123 ∨ a.toNat = 45 ∨ (48 ≤ a.toNat ∧ a.toNat ≤ 57)) = true := decide_eq_true
  by_cases h1 : a.toNat = 110
  ·refine .inl ⟨h1, ?_⟩
   rw [hb, n2 (by omega), n3 (by omega), d0 (by omega)]; simp
  by_cases h2 : a.toNat = 116
  ·refine .inr (.inl ⟨h2, ?_⟩)
   rw [hb, n1 h1, n3 (by omega), d0 (by omega)]; simp
  by_cases h3 : a.toNat = 102
  ·refine .inr (.inr (.inl ⟨h3, ?_⟩))
   rw [hb, n1 h1, n2 h2, d0 (by omega)]; simp
  rw [hb, n1 h1, n2 h2, n3 h3]
  by_cases h4 : a.toNat = 34 ∨ a.toNat = 91 ∨ a.toNat = 123 ∨ a.toNat = 45 ∨ (48 ≤ a.toNat ∧ a.toNat ≤ 57)
  ·rw [d1 h4]
   rcases h4 with h | h | h | h | h
   ·exact .inr (.inr (.inr (.inl ⟨h, rfl⟩)))
   ·exact .inr (.inr (.inr (.inr (.inl ⟨h, rfl⟩))))
   ·exact .inr (.inr (.inr (.inr (.inr (.inl ⟨h, rfl⟩)))))
   ·exact .inr (.inr (.inr (.inr (.inr (.inr (.inl ⟨h, rfl⟩))))))
   ·exact .inr (.inr (.inr (.inr (.inr (.inr (.inr (.inl ⟨h, rfl⟩)))))))
  ·rw [d0 h4]
   by_cases h5 : a.toNat < 48
   ·exact .inr (.inr (.inr (.inr (.inr (.inr (.inr (.inr (.inl ⟨⟨by omega, h5⟩, rfl⟩))))))))
   ·exact .inr (.inr (.inr (.inr (.inr (.inr (.inr (.inr (.inr ⟨⟨by omega, by omega⟩, rfl⟩))))))))
theorem next_head (r : List UInt8) (c : Nat) (a : UInt8) (ha : a.toNat ≠ 0) : r.head? = some a ↔ nextB (.inr (r, c)) = a.toNat := by
 cases r with
 | nil => exact ⟨fun h => (nomatch h), fun h => absurd h.symm ha⟩
 | cons b t =>
  show some b = some a ↔ b.toNat = a.toNat
  rw [UInt8.toNat_inj]
  exact ⟨fun h => by injection h, fun h => by rw [h]⟩
theorem set5_facts' {w WF : World} {r : Nat} {b0 b1 b2 b3 b4 : Value} (h : ResAt w r) (e : WF = set5 w r b0 b1 b2 b3 b4) : Kept [r] w WF ∧ WF.heap[r]? = some (.cells #[b0, b1, b2, b3, b4] 25 (0, 0)) := set5_facts h e
def QCut (D : Nat) (s : List UInt8) (c p : Nat) (S : ByteArray) (w : World) (r vb : Nat) (W3 wc : World) : Prop :=
 ∃ (k m : Int) (st : ByteArray) (pl : Option Addr) (il cl : Nat) (pm : Option Addr) (im cm : Nat) (X : PX),
  wc.heap[vb]? = some (.cells #[.int .i64 k, .int .i64 m, .string st, .slice pl il cl, .slice pm im cm] 25 (0, 0)) ∧ QS wc p S 4097 X ∧ Kept [p, vb] W3 wc ∧
  ∀ WF, QS WF p S 4097 (skipX X) → Kept [p, r] wc WF → QValAns D s c p S w (.returned (.agg #[.int .i64 k, .int .i64 m, .string st, .slice pl il cl, .slice pm im cm])) WF
section
variable {d D p c r vb : Nat} {S : ByteArray} {s : List UInt8} {w w0 w1 wc W3 : World} {k m : Int} {st : ByteArray} {pl pm : Option Addr} {il cl im cm : Nat}
theorem qcut_bad {x : Int} (hv : pValue D s c = .inl x) (hr : w.heap.size ≤ r) (hq : QS wc p S 4097 (.inl x)) (k0 : Kept [p] w wc) (k3 : Kept [p, vb] W3 wc)
  (hb : wc.heap[vb]? = some (.cells #[.int .i64 k, .int .i64 m, .string st, .slice pl il cl, .slice pm im cm] 25 (0, 0))) : QCut D s c p S w r vb W3 wc := by
 refine ⟨k, m, st, pl, il, cl, pm, im, cm, .inl x, hb, hq, k3, fun WF h1 h2 => ⟨[.int .i64 k, .int .i64 m, .string st, .slice pl il cl, .slice pm im cm], rfl, ⟨_, _, _, _, _, _, _, _, _, rfl⟩, k0.trans h2 (fun i hi => by simp at hi; rcases hi with rfl | rfl; exact .inl (by simp); exact .inr hr), ?_⟩⟩
 rw [hv]
 exact h1
theorem qcut_mk {R : Sum Int (VS (V d) × List UInt8 × Nat)} (h : QBoth d R p S w0 (.returned (.agg #[.int .i64 k, .int .i64 m, .string st, .slice pl il cl, .slice pm im cm])) w1)
  (hv : pValue (d + 1) s c = match (generalizing := false) R with | .inl e => .inl e | .inr (v, q, c') => .inr (v, skipB q, c')) (k0 : Kept [p] w w0) (hp : p < w.heap.size) (hr : w.heap.size ≤ r) (hrv : r < vb) (hv0 : vb < w0.heap.size) (k3 : Kept [p, vb] W3 w1) (kc : Kept [vb] w1 wc)
  (hb : wc.heap[vb]? = some (.cells #[.int .i64 k, .int .i64 m, .string st, .slice pl il cl, .slice pm im cm] 25 (0, 0))) : QCut (d + 1) s c p S w r vb W3 wc := by
 obtain ⟨cs, e1, e2, e3, e4⟩ := h
 have k3' : Kept [p, vb] W3 wc := k3.trans kc (fun i hi => by simp at hi; exact .inl (by simp [hi]))
 have ka : ∀ WF, Kept [p, r] wc WF → Kept [p, vb, r] w1 WF := fun WF h2 => (kc.mono (by simp)).trans h2 (fun i hi => by simp at hi; rcases hi with rfl | rfl <;> exact .inl (by simp))
 have kb : ∀ WF, Kept [p, r] wc WF → Kept [p] w WF := fun WF h2 => (k0.trans e3 (fun i hi => .inl hi)).trans (ka WF h2) (fun i hi => by simp at hi; rcases hi with rfl | rfl | rfl; exact .inl (by simp); exact .inr (by omega); exact .inr hr)
 cases R with
 | inl x =>
  refine ⟨k, m, st, pl, il, cl, pm, im, cm, .inl x, hb, QS.kept e4 kc (by simp; omega), k3', fun WF h1 h2 => ⟨cs, e1, e2, kb WF h2, ?_⟩⟩
  rw [hv]
  exact h1
 | inr y =>
  obtain ⟨v, q, c'⟩ := y
  refine ⟨k, m, st, pl, il, cl, pm, im, cm, .inr (q, c'), hb, (QS.kept e4.1 kc (by simp; omega)).wide, k3', fun WF h1 h2 => ⟨cs, e1, e2, kb WF h2, ?_⟩⟩
  rw [hv]
  refine ⟨QS.narrow h1 ?_, e4.2.move (ka WF h2) (fun g hg => by simp at hg; omega) (by omega)⟩
  obtain ⟨i, -, -, h5, -⟩ := QS.open_ok e4.1
  exact h5
end
end Go.Proofs.YtpbphdkjjoipnaaGreatDoor

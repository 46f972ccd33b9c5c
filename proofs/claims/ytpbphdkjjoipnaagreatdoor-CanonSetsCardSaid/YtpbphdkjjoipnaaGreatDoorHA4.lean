/- Parts of one proof, merged: XWH. -/
import Derived.Test.YtpbphdkjjoipnaaGreatDoorHA2
import Derived.Test.YtpbphdkjjoipnaaGreatDoorHZ
set_option linter.all false
set_option maxHeartbeats 12800000
set_option maxRecDepth 10000
set_option linter.unusedVariables false
set_option linter.unusedSimpArgs false
set_option linter.unnecessarySimpa false
namespace Go.Proofs.YtpbphdkjjoipnaaGreatDoor
open Go.Proofs.Tryz
open Go.RowKit
def GotS {m : Nat} (S : Nat → Prop) (r : Option (V m)) (e : Ending) (w' : World) : Prop := ∃ k i s p a b q c d, e = .returned (.tuple #[.agg #[.int .i64 k, .int .i64 i, .string s, .slice p a b, .slice q c d], .bool r.isSome]) ∧ ∀ y, r = some y → Rep m S w' [.int .i64 k, .int .i64 i, .string s, .slice p a b, .slice q c d] y
theorem gots_mono {m : Nat} {S T : Nat → Prop} {r : Option (V m)} {e : Ending} {w' : World} (h : GotS T r e w') (hT : ∀ g, T g → S g) : GotS S r e w' := by
 obtain ⟨k, i, s, p, a, b, q, c, d, e1, hr⟩ := h
 exact ⟨k, i, s, p, a, b, q, c, d, e1, fun y hy => (hr y hy).mono (fun g _ hg => hT g hg)⟩
theorem JO {w : World} {B e n cap g i : Nat} {lcs : List (List Value)} {a b c d f : Value} (h : w.ownsRow B e 5 (.slice (some ⟨g, 0, none⟩) n cap) n lcs.flatten) (h5 : ∀ z, z ∈ lcs → z.length = 5) (hi : lcs[i]? = some [a, b, c, d, f]) :
  w.cell? ⟨g, i * 5, none⟩ = some a ∧ w.cell? ⟨g, i * 5 + 1, none⟩ = some b ∧ w.cell? ⟨g, i * 5 + 2, none⟩ = some c ∧ w.cell? ⟨g, i * 5 + 3, none⟩ = some d ∧ w.cell? ⟨g, i * 5 + 4, none⟩ = some f := by
 have hr := (yx h).2.1
 have hil : i < lcs.length := (List.getElem?_eq_some_iff.1 hi).1
 have hg : lcs[i] = [a, b, c, d, f] := (List.getElem?_eq_some_iff.1 hi).2
 have hc : ∀ t z, t < 5 → [a, b, c, d, f][t]? = some z → w.cell? ⟨g, i * 5 + t, none⟩ = some z := fun t z ht hz => by
  have := hr.cells (i * 5 + t) z (by rw [yU lcs i t h5 hil ht, hg]; exact hz)
  rwa [Nat.zero_add] at this
 exact ⟨hc 0 a (by decide) rfl, hc 1 b (by decide) rfl, hc 2 c (by decide) rfl, hc 3 d (by decide) rfl, hc 4 f (by decide) rfl⟩
theorem bN {mcs : List (ByteArray × List Value)} (h5 : ∀ z, z ∈ mcs → z.2.length = 5) : ∀ z, z ∈ mcs.map zM → z.length = 6 := fun z hz => by
 obtain ⟨p, hp, rfl⟩ := List.mem_map.1 hz
 simp [zM, h5 p hp]
theorem KI {w : World} {B e n cap g i : Nat} {mcs : List (ByteArray × List Value)} {key : ByteArray} {a b c d f : Value} (h : w.ownsRow B e 6 (.slice (some ⟨g, 0, none⟩) n cap) n (zQ mcs)) (h5 : ∀ z, z ∈ mcs → z.2.length = 5) (hi : mcs[i]? = some (key, [a, b, c, d, f])) :
  w.cell? ⟨g, i * 6 + 1, none⟩ = some a ∧ w.cell? ⟨g, i * 6 + 1 + 1, none⟩ = some b ∧ w.cell? ⟨g, i * 6 + 1 + 2, none⟩ = some c ∧ w.cell? ⟨g, i * 6 + 1 + 3, none⟩ = some d ∧ w.cell? ⟨g, i * 6 + 1 + 4, none⟩ = some f := by
 have hr := (yx h).2.1
 rw [zP] at hr
 have hil : i < (mcs.map zM).length := by rw [List.length_map]; exact (List.getElem?_eq_some_iff.1 hi).1
 have hg : (mcs.map zM)[i] = [.string key, a, b, c, d, f] := by rw [List.getElem_map, (List.getElem?_eq_some_iff.1 hi).2]; rfl
 have hc : ∀ t z, t < 6 → [Value.string key, a, b, c, d, f][t]? = some z → w.cell? ⟨g, i * 6 + t, none⟩ = some z := fun t z ht hz => by
  have := hr.cells (i * 6 + t) z (by rw [yU _ i t (bN h5) hil ht, hg]; exact hz)
  rwa [Nat.zero_add] at this
 exact ⟨hc 1 a (by decide) rfl, hc 2 b (by decide) rfl, hc 3 c (by decide) rfl, hc 4 d (by decide) rfl, hc 5 f (by decide) rfl⟩
theorem Qe {w : World} {B e n cap g i : Nat} {mcs : List (ByteArray × List Value)} {key : ByteArray} {l5 c : List Value} (h : w.ownsRow B e 6 (.slice (some ⟨g, 0, none⟩) n cap) n (zQ mcs)) (h5 : ∀ z, z ∈ mcs → z.2.length = 5) (hi : mcs[i]? = some (key, l5)) (hc : c.length = 5) :
  (w.setCells g (i * 6 + 1) c).ownsRow B e 6 (.slice (some ⟨g, 0, none⟩) n cap) n (zQ (mcs.set i (key, c))) ∧ zb [g] w (w.setCells g (i * 6 + 1) c) := by
 obtain ⟨-, hr, cur, hb⟩ := yx h
 have hil := (List.getElem?_eq_some_iff.1 hi).1
 have hil' : i < (mcs.map zM).length := by rw [List.length_map]; exact hil
 have hg : (mcs.map zM)[i] = .string key :: l5 := by rw [List.getElem_map, (List.getElem?_eq_some_iff.1 hi).2]; rfl
 have hn : (mcs.map zM).length = n := by
  have h1 := h.1
  rw [zP, qD _ (bN h5)] at h1
  omega
 have hk : cur[i * 6]? = some (.string key) := by
  rw [zP] at hr
  have := hr.cells (i * 6 + 0) (.string key) (by rw [yU _ i 0 (bN h5) hil' (by decide), hg]; rfl)
  rwa [Nat.zero_add, Nat.add_zero, xP hb] at this
 have hs : w.setCells g (i * 6) (.string key :: c) = w.setCells g (i * 6 + 1) c := by
  show (w.setCell ⟨g, i * 6, none⟩ (.string key)).setCells g (i * 6 + 1) c = _
  rw [x5 hb hk]
 have h' := h
 rw [zP] at h'
 obtain ⟨r1, -, r3⟩ := yn (i := i) (g := g) (c := .string key :: c) h' (bN h5) rfl hn (by rw [← hn]; exact hil') (by simp [hc])
 rw [hs] at r1 r3
 refine ⟨?_, r3⟩
 rw [zP, List.map_set]
 exact r1
theorem ZS {n : Nat} {S : Nat → Prop} {w : World} {cs : List Value} {v : VS (V n)} {vl vm : Value} {lcs : List (List Value)} {mcs : List (ByteArray × List Value)} (h : ya (Rep n S w) S w cs v vl vm lcs mcs) : ∀ p, p ∈ mcs → p.2.length = 5 := by
 intro p hp
 obtain ⟨j, hj, rfl⟩ := List.getElem_of_mem hp
 exact (h.allm.2 j _ _ (List.getElem?_eq_getElem hj) (List.getElem?_eq_getElem (by rw [← h.allm.1]; exact hj))).2.len
theorem pairs_ones {n : Nat} {S : Nat → Prop} {w : World} {cs : List Value} {v : VS (V n)} {vl vm : Value} {lcs : List (List Value)} {mcs : List (ByteArray × List Value)} (h : ya (Rep n S w) S w cs v vl vm lcs mcs) : ∀ u ∈ zQ mcs, u.oneCell' = true := by
 intro u hu
 rw [zP, List.mem_flatten] at hu
 obtain ⟨l, hl, hu⟩ := hu
 obtain ⟨p, hp, rfl⟩ := List.mem_map.1 hl
 obtain ⟨j, hj, rfl⟩ := List.getElem_of_mem hp
 have hr := (h.allm.2 j _ _ (List.getElem?_eq_getElem hj) (List.getElem?_eq_getElem (by rw [← h.allm.1]; exact hj))).2
 rcases List.mem_cons.1 hu with rfl | hu
 ·rfl
 ·exact hr.one u hu
theorem ZU {m : Nat} {S : Nat → Prop} {r : Option (V m)} {e : Ending} {w' : World} (h : GotS S r e w') : ∃ k i s p a b q c d fl, e = .returned (.tuple #[.agg #[.int .i64 k, .int .i64 i, .string s, .slice p a b, .slice q c d], .bool fl]) ∧ fl = r.isSome ∧ ∀ y, r = some y → Rep m S w' [.int .i64 k, .int .i64 i, .string s, .slice p a b, .slice q c d] y := by
 obtain ⟨k, i, s, p, a, b, q, c, d, e1, hr⟩ := h
 exact ⟨k, i, s, p, a, b, q, c, d, _, e1, rfl, hr⟩
theorem kI {m : Nat} {S : Nat → Prop} {r : Option (V m)} {w' : World} {k i : Int} {s : ByteArray} {p q : Option Addr} {a b c d : Nat} {fl : Bool} (h : fl = r.isSome) (hr : ∀ y, r = some y → Rep m S w' [.int .i64 k, .int .i64 i, .string s, .slice p a b, .slice q c d] y) : GotS S r (.returned (.tuple #[.agg #[.int .i64 k, .int .i64 i, .string s, .slice p a b, .slice q c d], .bool fl])) w' := by
 subst h
 exact ⟨k, i, s, p, a, b, q, c, d, rfl, hr⟩
def KJ (k n : Nat) : Prop := ∀ (v : V n) (x : V k) {S : Nat → Prop} {w : World} {cs : List Value} {kx mx : Int} {sx : ByteArray} {px qx : Option Addr} {ix cx jx dx : Nat} {a : Option Addr} {kk c : Nat} {la : List ByteArray},
 Rep n S w cs v → Rep k S w [.int .i64 kx, .int .i64 mx, .string sx, .slice px ix cx, .slice qx jx dx] x → Slc w 1 (.slice a kk c) kk (zL la) → zZ n v → kk ≤ 1000000 →
 Calls Tryz.prog 62 #[.agg cs.toArray, .slice a kk c, .agg #[.int .i64 kx, .int .i64 mx, .string sx, .slice px ix cx, .slice qx jx dx]] w fun e w' => GotS (fun g => S g ∨ w.heap.size ≤ g) (yZ x n v (la.map (·.data.toList))) e w' ∧ zb [] w w'
theorem kJ {k n : Nat} {v : VS (V n)} {S T : Nat → Prop} {w wF : World} {cs : List Value} {vl vm : Value} {lcs : List (List Value)} {mcs : List (ByteArray × List Value)} (h : ya (Rep n S w) S w cs v vl vm lcs mcs) (q : zb [] w wF) (hT : ∀ g, S g → T g) :
  yc (Rep (k + n) T wF) lcs (v.l.map (zV k n)) ∧ yc (jj (Rep (k + n) T wF)) mcs (v.m.map (fun p => (p.1, zV k n p.2))) :=
 ⟨(h.alll.mono fun _ _ _ r => (r.kept0 q).mono (fun g _ hg => hT g hg)).map_right fun _ _ r => Rep.lift r, (h.allm.mono fun _ _ _ r => (⟨r.1, (r.2.kept0 q).mono (fun g _ hg => hT g hg)⟩ : jj (Rep n T wF) _ _)).map_right fun _ _ r => ⟨r.1, Rep.lift r.2⟩⟩
structure zae {n : Nat} (B o : Nat) (w : World) (v : VS (V n)) (lcs : List (List Value)) (mcs : List (ByteArray × List Value)) (b4 b5 : Option Addr) (c4 c5 : Nat) : Prop where
 blk : w.heap[o]? = some (.cells #[.int .i64 v.kind, .int .i64 v.num, .string v.s, .slice b4 v.l.length c4, .slice b5 v.m.length c5] 25 (0, 0))
 rowl : w.ownsRow B 25 5 (.slice b4 v.l.length c4) v.l.length lcs.flatten
 rowm : w.ownsRow B 60 6 (.slice b5 v.m.length c5) v.m.length (zQ mcs)
theorem zae.kept {n : Nat} {B o : Nat} {w w' : World} {v : VS (V n)} {lcs : List (List Value)} {mcs : List (ByteArray × List Value)} {b4 b5 : Option Addr} {c4 c5 : Nat} (h : zae B o w v lcs mcs b4 b5 c4 c5) (q : zb [] w w') : zae B o w' v lcs mcs b4 b5 c4 c5 :=
 ⟨q.heap h.blk (by simp), zh h.rowl q (by simp), zh h.rowm q (by simp)⟩
theorem zae.cells {n : Nat} {B o : Nat} {w : World} {v : VS (V n)} {lcs : List (List Value)} {mcs : List (ByteArray × List Value)} {b4 b5 : Option Addr} {c4 c5 : Nat} (h : zae B o w v lcs mcs b4 b5 c4 c5) : z6 w o v.kind v.num v.s (.slice b4 v.l.length c4) (.slice b5 v.m.length c5) :=
 ⟨za (o := 0) h.blk rfl, za (o := 1) h.blk rfl, za (o := 2) h.blk rfl, za (o := 3) h.blk rfl, za (o := 4) h.blk rfl⟩
set_option maxRecDepth 100000 in
theorem refSet_step {k n : Nat} (IH : KJ k n) : KJ k (n + 1) := fun (v : VS (V n)) (x : V k) {S0} {w} {cs} {kx} {mx} {sx} {px} {qx} {ix} {cx} {jx} {dx} {a} {kk} {c} {la} hr hx hsl hsm hk => by
 have hr := hr.move (T := fun g => S0 g ∧ g < w.heap.size) (zb.refl [] w) (fun g h1 h2 => ⟨by simp, h2, h1⟩)
 have hx := hx.move (T := fun g => S0 g ∧ g < w.heap.size) (zb.refl [] w) (fun g h1 h2 => ⟨by simp, h2, h1⟩)
 refine Calls.mono (R := fun e w' => GotS (fun g => (S0 g ∧ g < w.heap.size) ∨ w.heap.size ≤ g) (yZ x (n + 1) v (la.map (·.data.toList))) e w' ∧ zb [] w w') ?_ (fun e w' h => ⟨gots_mono h.1 (fun g hg => hg.imp (fun h => h.1) id), h.2⟩)
 obtain ⟨S, hS⟩ : ∃ S : Nat → Prop, S = fun g => S0 g ∧ g < w.heap.size := ⟨_, rfl⟩
 have hTT : (fun g => (S0 g ∧ g < w.heap.size) ∨ w.heap.size ≤ g) = (fun g => S g ∨ w.heap.size ≤ g) := by rw [hS]
 rw [hTT]
 rw [← hS] at hr hx
 have Jr : Hid (∀ g, S g → g < w.heap.size) := qI (fun g hg => by rw [hS] at hg; exact hg.2)
 clear hS hTT
 obtain ⟨T, hT⟩ : ∃ T : Nat → Prop, T = fun g => S g ∨ w.heap.size ≤ g := ⟨_, rfl⟩
 rw [← hT]
 have Gw : Hid (∀ g, S g → T g) := qI (fun g hg => by rw [hT]; exact .inl hg)
 have Gn : Hid (∀ g, w.heap.size ≤ g → T g) := qI (fun g hg => by rw [hT]; exact .inr hg)
 have Yk := qI hT
 clear hT
 obtain ⟨vl, vm, lcs, mcs, hr⟩ := hr.open_
 obtain ⟨pl, cl, pm, cm, rfl, rfl, rfl⟩ := hr.forms
 obtain ⟨W1, Jx⟩ : ∃ W1, Hid (W1 = ((w.alloc (.cells #[.int .i64 v.kind, .int .i64 v.num, .string v.s, .slice pl v.l.length cl, .slice pm v.m.length cm] 25)).alloc (.cells #[.int .i64 kx, .int .i64 mx, .string sx, .slice px ix cx, .slice qx jx dx] 25)).alloc (.cells #[.int .i64 0, .int .i64 0, .string ⟨#[]⟩, .slice none 0 0, .slice none 0 0] 25)) := ⟨_, qI rfl⟩
 have Gz : Hid (W1.heap.size = w.heap.size + 3) := qI (by rw [Jx.o]; simp)
 have Jh : Hid (zb [] w W1) := qI (by rw [Jx.o]; exact (((zb.refl [] w).alloc _).alloc _).alloc _)
 have Mi : Hid (z6 W1 w.heap.size v.kind v.num v.s (.slice pl v.l.length cl) (.slice pm v.m.length cm)) := qI (by rw [Jx.o]; exact ((yb _ _ _ _ _ _ _).kept0 ((zb.refl [] _).alloc _)).kept0 ((zb.refl [] _).alloc _))
 have Yb : Hid (z6 W1 (w.heap.size + 1) kx mx sx (.slice px ix cx) (.slice qx jx dx)) := qI (by
  rw [Jx.o]
  have h := yb (w.alloc (.cells #[.int .i64 v.kind, .int .i64 v.num, .string v.s, .slice pl v.l.length cl, .slice pm v.m.length cm] 25)) kx mx sx (.slice px ix cx) (.slice qx jx dx) 25
  rw [show (w.alloc (.cells #[.int .i64 v.kind, .int .i64 v.num, .string v.s, .slice pl v.l.length cl, .slice pm v.m.length cm] 25)).heap.size = w.heap.size + 1 by simp] at h
  exact h.kept0 ((zb.refl [] _).alloc _))
 have Ja : Hid (xh W1 (w.heap.size + 1 + 1)) := qI (by rw [Jx.o]; exact zn (by simp))
 have HR := qI hr
 have HX := qI hx
 have Mt := qI hsm
 have Yc := qI hk
 have hkI : (kk : Int) ≤ 1000000 := by omega
 have Yd := qI (bc hsl)
 cases la with
 | nil =>
  obtain rfl : kk = 0 := by have := Yd.o; simpa using this.symm
  obtain ⟨x0, x1, x2, x3, x4⟩ := Yb.o
  obtain ⟨⟨d0, d1, d2, d3, d4⟩, f0, f1, f2, f3, f4⟩ := Ja.o.facts
  clear hr hx hsl hsm hk
  go_enter func62, ntmps62
  go_upto_region 1 with fail
  rw [← Jx.o]
  go_wp2_with fail
  obtain ⟨WF, e⟩ : ∃ WF, WF = zy W1 (w.heap.size + 1 + 1) (.int .i64 kx) (.int .i64 mx) (.string sx) (.slice px ix cx) (.slice qx jx dx) := ⟨_, rfl⟩
  obtain ⟨KF, y0, y1, y2, y3, y4⟩ := Ja.o.stored e
  unfold zy at e
  rw [← e]
  have hkf : zb [] w WF := ((Jh.o.mono (Y := [w.heap.size + 1 + 1]) (by simp)).trans' KF).fresh (by simp; omega)
  exact bodyPost_ret (v := .tuple #[.agg #[.int .i64 kx, .int .i64 mx, .string sx, .slice px ix cx, .slice qx jx dx], .bool true]) (by simp [results, results62, go_sem, y0, y1, y2, y3, y4]) rfl ⟨⟨kx, mx, sx, px, ix, cx, qx, jx, dx, rfl, fun y hy => by
   have e : upK x (n + 1) = y := Option.some.inj hy
   subst e
   exact ((HX.o.kept0 hkf).mono (fun g _ hg => Gw.o g hg)).upK (n + 1)⟩, hkf⟩
 | cons s rest =>
  have hk1 : kk = rest.length + 1 := by have := Yd.o; simpa using this.symm
  have h0I : ¬ (kk : Int) = 0 := by omega
  obtain ⟨i1, i2⟩ := zt (a := (kk : Int)) (b := 0) h0I
  have hk0 : (0 : Int) < kk := by omega
  have hk0n : 0 < kk := by omega
  obtain ⟨gs, os, rfl, hgs⟩ := jQ hsl (k := 0) (by simp)
  have Ye : Hid (gs < w.heap.size) := qI (cell_lt hgs)
  clear hgs
  have Yf : Hid (∀ w1, zb [] w w1 → w1.cell? ⟨gs, os, none⟩ = some (.string s)) := qI (fun w1 q => by
   obtain ⟨g', o', e, h⟩ := jQ (hsl.kept0 q) (k := 0) (by simp)
   simp only [Option.some.injEq, Addr.mk.injEq, and_true] at e
   obtain ⟨rfl, rfl⟩ := e
   exact h)
  obtain ⟨a', c', hsc, hsl'⟩ := slc_tail bx hsl 1 (by omega)
  rw [show (zL (s :: rest)).drop (1 * 1) = zL rest from rfl] at hsl'
  have Mj := qI hk1
  have hsc2 : ∀ W, (Instr.slice 39 (.slice (some ⟨gs, os, none⟩) kk c) (some (.int .i64 1)) none none).run Tryz.prog W = .ok (.slice a' (kk - 1) c') W := hsc
  have Yg := qI hsl'
  have CP := qI (fun (w' : World) (q : zb [] w w') => place_any (hr.close.kept0 q) s (jM Mt.o))
  have hfew := jM hsm
  have Ji := qI hfew
  obtain ⟨WA, Mk⟩ : ∃ WA, Hid (WA = W1.alloc (.cells #[.int .i64 v.kind, .int .i64 v.num, .string v.s, .slice pl v.l.length cl, .slice pm v.m.length cm] 25)) := ⟨_, qI rfl⟩
  have Jb : Hid (WA.heap.size = w.heap.size + 4) := qI (by rw [Mk.o]; simp; have := Gz.o; omega)
  have Jj : Hid (zb [] W1 WA) := qI (by rw [Mk.o]; exact (zb.refl [] _).alloc _)
  have Gj : Hid (WA.heap[w.heap.size + 3]? = some (.cells #[.int .i64 v.kind, .int .i64 v.num, .string v.s, .slice pl v.l.length cl, .slice pm v.m.length cm] 25 (0, 0))) := qI (by rw [Mk.o]; exact zn Gz.o)
  have Gp := qI ((zb.refl [] WA).alloc (.cells #[] 25))
  have Js := qI (QD (t := 25) (size := 5) (g := WA.heap.size) (base := w.heap.size + 4) WA rfl (by have := Jb.o; omega))
  have Gk := qI ((hr.slcl.kept0 (Jh.o.then Jj.o)).kept0 Gp.o)
  have Ml := qI hr.ones
  have hlv := hfew.1
  have Gv : Hid (w.heap.size + 4 ≤ (WA.alloc (.cells #[] 25)).heap.size) := qI (by have := Jb.o; simp; omega)
  obtain ⟨x0, x1, x2, x3, x4⟩ := Mi.o
  clear hr hx hsl hsm hk hsl' hk1 hsc hfew
  go_enter func62, ntmps62
  go_upto_region 3 with fail
  rw [← Jx.o]
  go_upto_region 4 with fail
  simp only [Gz.o]
  rw [← Mk.o]
  clear x0 x1 x2 x3 x4
  obtain ⟨x0, x1, x2, x3, x4⟩ := (Mi.o.kept0 Jj.o).kept0 Gp.o
  go_upto_region 5 with (at_builtin; refine yo bj Js.o Gk.o Ml.o (by simp only [maxLen]; omega) (by omega) Gv.o rfl _ _ rfl rfl rfl ?_; intro v' w1 hown1 hk1 _ hb1; obtain ⟨b4, c4, rfl, -, -⟩ := (Slc.of_row hown1).form; have Jc := qI hown1; have Jy := qI hk1; clear hown1 hk1 hb1; have hbo := Jy.o.heap (Gp.o.heap Gj.o (by simp)) (by simp [Value.ownBlock]; have := Jb.o; omega); have y3 := za (o := 3) hbo rfl; have z3 := zc (o := 3) hbo; clear hbo)
  have Jk : Hid (zb [] WA w1) := qI (Gp.o.trans Jy.o (fun i hi => .inr (by simp [Value.ownBlock] at hi; omega)))
  have Mm : Hid (w1.heap[w.heap.size + 3]? = some (.cells #[.int .i64 v.kind, .int .i64 v.num, .string v.s, .slice pl v.l.length cl, .slice pm v.m.length cm] 25 (0, 0))) := qI (Jk.o.heap Gj.o (by simp))
  have hb4 := zf (i := 3) (v := .slice b4 v.l.length c4) Mm.o rfl
  have hk4 : zb [w.heap.size + 3] w1 (w1.setCell ⟨w.heap.size + 3, 3, none⟩ (.slice b4 v.l.length c4)) := (zb.refl [w.heap.size + 3] w1).setCell (.inl (by simp)) _
  have hr4 := zh Jc.o hk4 (fun i hi hx => by have := (Jc.o.lt i hi).1; simp at hx; omega)
  clear y3 z3 x0 x1 x2 x3 x4
  revert hb4 hk4 hr4
  generalize w1.setCell ⟨w.heap.size + 3, 3, none⟩ (.slice b4 v.l.length c4) = W4
  intro hb4 hk4 hr4
  have Mu := qI hb4
  have Jl : Hid (zb [] W1 W4) := qI ((((Jj.o.then Jk.o).mono (Y := [w.heap.size + 3]) (by simp)).trans' hk4).fresh (by simp; have := Gz.o; omega))
  have Mv := qI hr4
  have Jm : Hid (w.heap.size + 4 ≤ W4.heap.size) := qI (by have h1 := Jb.o; have h2 := Jk.o.size; have h3 := hk4.size; omega)
  clear hb4 hk4 hr4
  have Jd := qI ((zb.refl [] W4).alloc (.cells #[] 60))
  have Jt := qI (QD (t := 60) (size := 6) (g := W4.heap.size) (base := w.heap.size + 4) W4 rfl Jm.o)
  have Ju := qI ((HR.o.slcm.kept0 (Jh.o.then Jl.o)).kept0 Jd.o)
  have Jv := qI (pairs_ones HR.o)
  have hmv := Ji.o.2
  have Je : Hid (w.heap.size + 4 ≤ (W4.alloc (.cells #[] 60)).heap.size) := qI (by have := Jm.o; simp; omega)
  obtain ⟨x0, x1, x2, x3, x4⟩ := (Mi.o.kept0 Jl.o).kept0 Jd.o
  go_upto_region 6 with (at_builtin; refine yo kD Jt.o Ju.o Jv.o (by simp only [maxLen]; omega) (by omega) Je.o rfl _ _ rfl rfl rfl ?_; intro v' w5 hown5 hk5 _ hb5; obtain ⟨b5, c5, rfl, -, -⟩ := (Slc.of_row hown5).form; have Gb := qI hown5; have Jz := qI hk5; clear hown5 hk5 hb5; have hbo := Jz.o.heap (Jd.o.heap Mu.o (by simp)) (by simp [Value.ownBlock]; have := Jm.o; omega); have y4 := za (o := 4) hbo rfl; have z4 := zc (o := 4) hbo; clear hbo)
  have Jn : Hid (zb [] W4 w5) := qI (Jd.o.trans Jz.o (fun i hi => .inr (by simp [Value.ownBlock] at hi; omega)))
  have hb6 := zf (i := 4) (v := .slice b5 v.m.length c5) (Jn.o.heap Mu.o (by simp)) rfl
  have hk6 : zb [w.heap.size + 3] w5 (w5.setCell ⟨w.heap.size + 3, 4, none⟩ (.slice b5 v.m.length c5)) := (zb.refl [w.heap.size + 3] w5).setCell (.inl (by simp)) _
  have hr6 := zh Gb.o hk6 (fun i hi hx => by have := (Gb.o.lt i hi).1; simp at hx; omega)
  have hr7 := zh (zh Mv.o Jn.o (by simp)) hk6 (fun i hi hx => by have := (Mv.o.lt i hi).1; simp at hx; omega)
  clear y4 z4 x0 x1 x2 x3 x4
  revert hb6 hk6 hr6 hr7
  generalize w5.setCell ⟨w.heap.size + 3, 4, none⟩ (.slice b5 v.m.length c5) = W5
  intro hb6 hk6 hr6 hr7
  have Yh : Hid (zae (w.heap.size + 4) (w.heap.size + 3) W5 v lcs mcs b4 b5 c4 c5) := qI ⟨hb6, by simpa using hr7, by simpa using hr6⟩
  have Jo : Hid (zb [] W1 W5) := qI ((((Jl.o.then Jn.o).mono (Y := [w.heap.size + 3]) (by simp)).trans' hk6).fresh (by simp; have := Gz.o; omega))
  clear hb6 hk6 hr6 hr7 Js Gk Ml Gv Jt Ju Jv Je Jc Gb Jy Jz Mu Mm Gj Mv Jl Jn Jk Gp Jd Jj Mk Jb
  obtain ⟨x0, x1, x2, x3, x4⟩ := Mi.o.kept0 Jo.o
  have E0 := zu x0
  have E1 := zu x1
  have E2 := zu x2
  have E3 := zu x3
  have E4 := zu x4
  have ES := zu (Yf.o W5 (Jh.o.then Jo.o))
  have CPE : Hid (∀ z : Ext W5, Calls Tryz.prog 90 #[.agg #[.int .i64 v.kind, .int .i64 v.num, .string v.s, .slice pl v.l.length cl, .slice pm v.m.length cm], .string s] z.w fun e w' => e = .returned (.int .i64 (jA (zU v s.data.toList))) ∧ zb [] z.w w') := qI (fun z => CP.o _ ((Jh.o.then Jo.o).then z.k))
  clear x0 x1 x2 x3 x4
  obtain ⟨z, hz⟩ : ∃ z, jA (zU v s.data.toList) = z := ⟨_, rfl⟩
  rw [hz] at CPE
  refine yd W5 (by kernel_rfl) (by kernel_rfl) (zb.refl _ _) ?_
  repeat go_big_quiet_step ((go_at_call 90; exact ext_of (CPE.o _)))
  refine wpQuiet_nil ?_
  intro w2 hk2
  clear E0 E1 E2 E3 E4 ES
  have Gq := qI (Jo.o.then hk2)
  have Gx := qI (Jh.o.then Gq.o)
  have Gf := qI (Yh.o.kept hk2)
  have Ge : Hid (w.heap.size + 4 ≤ w2.heap.size) := qI (by have h1 := Jm.o; have h2 := Yh.o.blk; have h3 := lt_of_block h2; have h4 := hk2.size; omega)
  obtain ⟨x0, x1, x2, x3, x4⟩ := Mi.o.kept0 Gq.o
  obtain ⟨a0, a1, a2, a3, a4⟩ := Yb.o.kept0 Gq.o
  obtain ⟨y0, y1, y2, y3, y4⟩ := Gf.o.cells
  have qs := Yf.o w2 Gx.o
  clear hk2
  cases hpv : zU v s.data.toList with
  | none =>
   have Mn := qI hpv
   obtain rfl : z = -1 := by rw [← hz, hpv]; rfl
   clear hpv hz
   by_cases hre : rest = []
   rotate_left
   ·have hk1n : ¬ (kk : Int) = 1 := by
     have h1 := Mj.o
     have h2 : rest.length ≠ 0 := fun h => hre (List.eq_nil_of_length_eq_zero h)
     omega
    obtain ⟨j1, j2⟩ := zt (a := (kk : Int)) (b := 1) hk1n
    have HN : Hid (yZ x (n + 1) v ((s :: rest).map (·.data.toList)) = none) := qI (by
     rw [List.map_cons, bR Mn.o, if_neg (by simpa using hre)])
    clear hk1n hre
    have Jw := qI (Ja.o.kept Gq.o (by simp))
    obtain ⟨⟨d0, d1, d2, d3, d4⟩, f0, f1, f2, f3, f4⟩ := Jw.o.facts
    go_wp2_with fail
    obtain ⟨WF, e⟩ : ∃ WF, WF = zy w2 (w.heap.size + 1 + 1) (.int .i64 0) (.int .i64 0) (.string ⟨#[]⟩) (.slice none 0 0) (.slice none 0 0) := ⟨_, rfl⟩
    obtain ⟨KF, rc0, rc1, rc2, rc3, rc4⟩ := Jw.o.stored e
    unfold zy at e
    rw [← e]
    exact bodyPost_ret (v := .tuple #[.agg #[.int .i64 0, .int .i64 0, .string ⟨#[]⟩, .slice none 0 0, .slice none 0 0], .bool false]) (by simp [results, results62, go_sem, rc0, rc1, rc2, rc3, rc4]) rfl ⟨kI (congrArg Option.isSome HN.o).symm (fun y hy => by cases (HN.o.symm.trans hy)), ((Jh.o.mono (Y := [w.heap.size + 1 + 1]) (by simp)).trans' ((Gq.o.mono (by simp)).trans' KF)).fresh (by simp; omega)⟩
   subst hre
   have hk1n : (kk : Int) = 1 := by have h1 := Mj.o; simp at h1; omega
   obtain ⟨j1, j2⟩ := yg (a := (kk : Int)) (b := 1) hk1n
   have Ms : Hid (yZ x (n + 1) v (([s] : List ByteArray).map (·.data.toList)) = Qs x s.data.toList (n + 1) v) := qI (by
    rw [List.map_cons]; exact (bR Mn.o).trans (if_pos rfl))
   clear hk1n
   by_cases k6 : v.kind = 6
   ·obtain ⟨e1, e2⟩ := yg (a := v.kind) (b := 6) k6
    have Mo : Hid (yZ x (n + 1) v (([s] : List ByteArray).map (·.data.toList)) = some (⟨v.kind, v.num, v.s, v.l.map (zV k n), v.m.map (fun p => (p.1, zV k n p.2)) ++ [(s, upK x n)]⟩ : VS (V (k + n)))) := qI (by
     rw [Ms.o]
     show (if v.kind = 6 then _ else _) = _
     rw [if_pos k6]
     rfl)
    clear k6
    have Gy : Hid (∀ g, g ∈ (Value.slice b5 v.m.length c5).ownBlock.toList → w.heap.size + 4 ≤ g) := qI (fun g hg => (Gf.o.rowm.lt g (Option.mem_toList.1 hg)).1)
    have Yi : Hid (w.heap.size + 3 ∉ (Value.slice b5 v.m.length c5).ownBlock.toList) := qI (fun hx => by have := Gy.o _ hx; omega)
    have Mh : Hid (w.heap.size + 1 ∉ (Value.slice b5 v.m.length c5).ownBlock.toList) := qI (fun hx => by have := Gy.o _ hx; omega)
    have Yj : Hid (gs ∉ (Value.slice b5 v.m.length c5).ownBlock.toList) := qI (fun hx => by have := Gy.o _ hx; have := Ye.o; omega)
    go_upto_region 16 with fail
    refine zk (n := 11) (fun w' : World => zb (Value.slice b5 v.m.length c5).ownBlock.toList w2 w') 10 (by kernel_rfl) (by kernel_rfl) ?_
    change zR _ _ _ _ _ _ _ _ _ w2.drew
    have hSS : (fun w' : World => zb (Value.slice b5 v.m.length c5).ownBlock.toList w2 w') w2.drew := (zb.refl _ w2).drew
    have Gh : Hid (zb [] w2 w2.drew) := qI (zb.refl _ w2).drew
    revert hSS Gh
    generalize w2.drew = WD
    intro hSS Gh
    refine zx ?_
    intro O R hO hR
    have hQp : ∀ c a (d : Nat) v w, R (.panic c) (a.put (some d) v) w → R (.panic c) a w := by subst hR; exact fun _ _ _ _ _ h => h
    refine qT 0 ?_ hO rfl rfl (by kernel_rfl) hQp (fun w hSw => ?_) hSS ?_
    rotate_left
    ·go_simp; try with_reducible rfl
    try simp only [zA,zN,zB,zC,zD]
    refine qT 1 ?_ hO rfl rfl (by kernel_rfl) hQp (fun w hSw => ?_) hSS ?_
    rotate_left
    ·have s4 := hSw.cell y4 Yi.o; go_simp; try with_reducible rfl
    try simp only [zA,zN,zB,zC,zD]
    refine qT 2 ?_ hO rfl rfl (by kernel_rfl) hQp (fun w hSw => ?_) hSS ?_
    rotate_left
    ·go_simp; try with_reducible rfl
    try simp only [zA,zN,zB,zC,zD]
    refine qT 3 ?_ hO rfl rfl (by kernel_rfl) hQp (fun w hSw => ?_) hSS ?_
    rotate_left
    ·go_simp; try with_reducible rfl
    try simp only [zA,zN,zB,zC,zD]
    refine qT 4 ?_ hO rfl rfl (by kernel_rfl) hQp (fun w hSw => ?_) hSS ?_
    rotate_left
    ·have s0 := hSw.cell qs Yj.o; go_simp; try with_reducible rfl
    try simp only [zA,zN,zB,zC,zD]
    refine qT 5 ?_ hO rfl rfl (by kernel_rfl) hQp (fun w hSw => ?_) hSS ?_
    rotate_left
    ·have s0 := hSw.cell a0 Mh.o; have s1 := hSw.cell a1 Mh.o; have s2 := hSw.cell a2 Mh.o; have s3 := hSw.cell a3 Mh.o; have s4 := hSw.cell a4 Mh.o; go_simp; try with_reducible rfl
    try simp only [zA,zN,zB,zC,zD]
    refine qT 6 ?_ hO rfl rfl (by kernel_rfl) hQp (fun w hSw => ?_) hSS ?_
    rotate_left
    ·go_simp; try with_reducible rfl
    try simp only [zA,zN,zB,zC,zD]
    refine qO 7 hO rfl (by kernel_rfl) (fun K hK => ?_)
    go_simp
    have Gp : Hid (zb [] WD (WD.alloc (.cells #[.string s, .int .i64 kx, .int .i64 mx, .string sx, .slice px ix cx, .slice qx jx dx] 60))) := qI ((zb.refl [] WD).alloc _)
    have Gk := qI (yL WD [.string s, .int .i64 kx, .int .i64 mx, .string sx, .slice px ix cx, .slice qx jx dx] 6 1 60 WD.heap.size rfl rfl (by decide))
    have hS1 : (fun w' : World => zb (Value.slice b5 v.m.length c5).ownBlock.toList w2 w') (WD.alloc (.cells #[.string s, .int .i64 kx, .int .i64 mx, .string sx, .slice px ix cx, .slice qx jx dx] 60)) := hSS.then Gp.o
    refine hK _ _ (.inr hS1) ?_
    clear hK K
    try simp only [zA,zN,zB,zC,zD]
    clear hSS
    have hSS := hS1
    clear hS1
    revert hSS Gp Gk
    generalize WD.alloc (.cells #[.string s, .int .i64 kx, .int .i64 mx, .string sx, .slice px ix cx, .slice qx jx dx] 60) = w5
    intro Gp Gk hSS
    have Gc := qI (Gh.o.then Gp.o)
    have Ma := qI (zh Gf.o.rowm Gc.o (by simp))
    refine qO 8 hO rfl (by kernel_rfl) (fun K hK => ?_)
    refine yp kD Ma.o Gk.o (by intro z hz; simp only [List.mem_cons, List.not_mem_nil, or_false] at hz; rcases hz with rfl | rfl | rfl | rfl | rfl | rfl <;> rfl) (by have := Ji.o; simp only [maxLen]; omega) (by have := Ji.o; omega) (by have h1 := Gc.o.size; have h2 := Ge.o; omega) (.tmp 95) (.tmp 101) rfl rfl rfl ?_
    intro b6 d6 w6 hown6 hk6 hg6
    have Gb := qI hown6
    have Mw := qI hk6
    have hS1 : (fun w' : World => zb (Value.slice b5 v.m.length c5).ownBlock.toList w2 w') w6 := hSS.trans' hk6
    clear hown6 hk6 hg6
    refine hK _ _ (.inr hS1) ?_
    clear hK K
    try simp only [zA,zN,zB,zC,zD]
    clear hSS
    have hSS := hS1
    clear hS1
    refine qT 9 ?_ hO rfl rfl (by kernel_rfl) hQp (fun w hSw => ?_) hSS ?_
    rotate_left
    ·go_simp; try with_reducible rfl
    try simp only [zA,zN,zB,zC,zD]
    have Mp : Hid (w6.heap[w.heap.size + 3]? = some (.cells #[.int .i64 v.kind, .int .i64 v.num, .string v.s, .slice b4 v.l.length c4, .slice b5 v.m.length c5] 25 (0, 0))) := qI (hSS.heap Gf.o.blk (by intro hx; have := Gy.o _ hx; omega))
    have Mb := qI hSS
    have s4 := za (o := 4) Mp.o rfl
    have z4 := zc (o := 4) Mp.o
    refine qO 10 hO rfl (by kernel_rfl) (fun K hK => ?_)
    go_simp
    refine hK _ _ (.inl rfl) ?_
    clear hK K
    try simp only [zA,zN,zB,zC,zD]
    refine zv hO (by kernel_rfl) ?_ _
    subst hR
    try clear hQp hO O
    clear s4 z4 hSS
    have Jp : Hid (zb [w.heap.size + 3] w6 (w6.setCell ⟨w.heap.size + 3, 4, none⟩ (.slice b6 (v.m.length + 1) d6))) := qI ((zb.refl [w.heap.size + 3] w6).setCell (.inl (by simp)) _)
    have Gj := qI (zf (i := 4) (v := .slice b6 (v.m.length + 1) d6) Mp.o rfl)
    clear x0 x1 x2 x3 x4 a0 a1 a2 a3 a4 y0 y1 y2 y3 y4 qs
    revert Jp Gj
    generalize w6.setCell ⟨w.heap.size + 3, 4, none⟩ (.slice b6 (v.m.length + 1) d6) = wO
    intro Jp Gj
    have Jf : Hid (zb ((w.heap.size + 3) :: (Value.slice b5 v.m.length c5).ownBlock.toList) w2 wO) := qI ((Mb.o.mono (fun i hi => List.mem_cons_of_mem _ hi)).trans' (Jp.o.mono (by simp)))
    have y0 := za (o := 0) (v := .int .i64 v.kind) Gj.o rfl
    have y1 := za (o := 1) (v := .int .i64 v.num) Gj.o rfl
    have y2 := za (o := 2) (v := .string v.s) Gj.o rfl
    have y3 := za (o := 3) (v := .slice b4 v.l.length c4) Gj.o rfl
    have y4 := za (o := 4) (v := .slice b6 (v.m.length + 1) d6) Gj.o rfl
    have Gg : Hid (zb ((w.heap.size + 3) :: (Value.slice b5 v.m.length c5).ownBlock.toList) W1 wO) := qI ((Gq.o.mono (Y := (w.heap.size + 3) :: (Value.slice b5 v.m.length c5).ownBlock.toList) (by simp)).trans' Jf.o)
    have Gl := qI (Ja.o.kept Gg.o (by intro hx; rcases List.mem_cons.1 hx with h | h; (· omega); have := Gy.o _ h; omega))
    obtain ⟨⟨d0, d1, d2, d3, d4⟩, f0, f1, f2, f3, f4⟩ := Gl.o.facts
    go_wp2_with fail
    obtain ⟨WF, e⟩ : ∃ WF, WF = zy wO (w.heap.size + 1 + 1) (.int .i64 v.kind) (.int .i64 v.num) (.string v.s) (.slice b4 v.l.length c4) (.slice b6 (v.m.length + 1) d6) := ⟨_, rfl⟩
    obtain ⟨KF, rc0, rc1, rc2, rc3, rc4⟩ := Gl.o.stored e
    unfold zy at e
    rw [← e]
    have Gm := qI KF
    clear e KF
    have K2F : Hid (zb ((w.heap.size + 1 + 1) :: (w.heap.size + 3) :: (Value.slice b5 v.m.length c5).ownBlock.toList) w2 WF) := qI ((Jf.o.mono (fun i hi => List.mem_cons_of_mem _ hi)).trans' (Gm.o.mono (by simp)))
    have hkf : zb [] w WF := ((Gx.o.mono (Y := ((w.heap.size + 1 + 1) :: (w.heap.size + 3) :: (Value.slice b5 v.m.length c5).ownBlock.toList)) (by simp)).trans' K2F.o).fresh (fun g hg => by
     rcases List.mem_cons.1 hg with rfl | hg
     ·omega
     rcases List.mem_cons.1 hg with rfl | hg
     ·omega
     have := Gy.o _ hg
     omega)
    have Mc := qI hkf
    have hro : WF.ownsRow (w.heap.size + 4) 25 5 (.slice b4 v.l.length c4) v.l.length lcs.flatten := zh Gf.o.rowl K2F.o (fun g hg hx => by
     have h1 := (Gf.o.rowl.lt g hg).1
     rcases List.mem_cons.1 hx with rfl | hx
     ·omega
     rcases List.mem_cons.1 hx with rfl | hx
     ·omega
     exact bQ (yu Gf.o.rowl hg) (yu Gf.o.rowm (Option.mem_toList.1 hx)) (by decide) rfl)
    have hrn := zh Gb.o ((Jp.o.mono (Y := [w.heap.size + 3, w.heap.size + 1 + 1]) (by simp)).trans' (Gm.o.mono (Y := [w.heap.size + 3, w.heap.size + 1 + 1]) (by simp))) (fun g hg hx => by
     have := (Gb.o.lt g hg).1
     simp at hx
     omega)
    obtain ⟨hl, hm⟩ := kJ (k := k) (T := T) HR.o hkf Gw.o
    refine bodyPost_ret (v := .tuple #[.agg #[.int .i64 v.kind, .int .i64 v.num, .string v.s, .slice b4 v.l.length c4, .slice b6 (v.m.length + 1) d6], .bool true]) (by simp [results, results62, go_sem, rc0, rc1, rc2, rc3, rc4]) rfl ⟨kI ((congrArg Option.isSome Mo.o).symm) (fun y hy => ?_), hkf⟩
    obtain rfl := Option.some.inj (Mo.o.symm.trans hy)
    refine ⟨.slice b4 v.l.length c4, .slice b6 (v.m.length + 1) d6, lcs, mcs ++ [(s, [.int .i64 kx, .int .i64 mx, .string sx, .slice px ix cx, .slice qx jx dx])], {
     cells := rfl
     slcl := by
      have := Slc.of_row hro
      show Slc WF 5 _ (v.l.map _).length _
      rw [List.length_map]; exact this
     alll := hl
     slcm := by
      have h9 := Slc.of_row hrn
      show Slc WF 6 _ (v.m.map _ ++ _).length _
      rw [List.length_append, List.length_map, show zQ (mcs ++ [(s, [.int .i64 kx, .int .i64 mx, .string sx, .slice px ix cx, .slice qx jx dx])]) = zQ mcs ++ [.string s, .int .i64 kx, .int .i64 mx, .string sx, .slice px ix cx, .slice qx jx dx] by simp [zQ, zM]]; exact h9
     allm := yc.snoc hm ⟨rfl, ((HX.o.kept0 Mc.o).mono (fun g _ hg => Gw.o g hg)).upK n⟩
     inl := fun g hg => Gn.o g (by have := (hro.lt g (zz hg)).1; omega)
     inm := fun g hg => Gn.o g (by have := (hrn.lt g (zz hg)).1; omega)
     wfk := HR.o.wfk
     wfn := HR.o.wfn }⟩
   obtain ⟨e1, e2⟩ := zt (a := v.kind) (b := 6) k6
   by_cases k5 : v.kind = 5
   rotate_left
   ·obtain ⟨e3, e4⟩ := zt (a := v.kind) (b := 5) k5
    have HN : Hid (yZ x (n + 1) v (([s] : List ByteArray).map (·.data.toList)) = none) := qI (by
     rw [Ms.o]
     show (if v.kind = 6 then _ else if v.kind = 5 ∧ s.data.toList = [45] then _ else _) = none
     rw [if_neg k6, if_neg (fun h => k5 h.1)])
    clear k5 k6
    have Jw := qI (Ja.o.kept Gq.o (by simp))
    obtain ⟨⟨d0, d1, d2, d3, d4⟩, f0, f1, f2, f3, f4⟩ := Jw.o.facts
    go_wp2_with fail
    obtain ⟨WF, e⟩ : ∃ WF, WF = zy w2 (w.heap.size + 1 + 1) (.int .i64 0) (.int .i64 0) (.string ⟨#[]⟩) (.slice none 0 0) (.slice none 0 0) := ⟨_, rfl⟩
    obtain ⟨KF, rc0, rc1, rc2, rc3, rc4⟩ := Jw.o.stored e
    unfold zy at e
    rw [← e]
    exact bodyPost_ret (v := .tuple #[.agg #[.int .i64 0, .int .i64 0, .string ⟨#[]⟩, .slice none 0 0, .slice none 0 0], .bool false]) (by simp [results, results62, go_sem, rc0, rc1, rc2, rc3, rc4]) rfl ⟨kI (congrArg Option.isSome HN.o).symm (fun y hy => by cases (HN.o.symm.trans hy)), ((Jh.o.mono (Y := [w.heap.size + 1 + 1]) (by simp)).trans' ((Gq.o.mono (by simp)).trans' KF)).fresh (by simp; omega)⟩
   obtain ⟨e3, e4⟩ := yg (a := v.kind) (b := 5) k5
   by_cases hd : s = ⟨#[45]⟩
   rotate_left
   ·obtain ⟨l1, l2⟩ := xM hd
    have l3 : (s.toList == [45]) = false := by rw [ByteArray.toList_eq, beq_eq_false_iff_ne]; exact fun h => hd (qR h)
    have HN : Hid (yZ x (n + 1) v (([s] : List ByteArray).map (·.data.toList)) = none) := qI (by
     rw [Ms.o]
     show (if v.kind = 6 then _ else if v.kind = 5 ∧ s.data.toList = [45] then _ else _) = none
     rw [if_neg k6, if_neg (fun h => hd (qR h.2))])
    clear k5 k6 hd
    have Jw := qI (Ja.o.kept Gq.o (by simp))
    obtain ⟨⟨d0, d1, d2, d3, d4⟩, f0, f1, f2, f3, f4⟩ := Jw.o.facts
    go_wp2_with fail
    obtain ⟨WF, e⟩ : ∃ WF, WF = zy w2 (w.heap.size + 1 + 1) (.int .i64 0) (.int .i64 0) (.string ⟨#[]⟩) (.slice none 0 0) (.slice none 0 0) := ⟨_, rfl⟩
    obtain ⟨KF, rc0, rc1, rc2, rc3, rc4⟩ := Jw.o.stored e
    unfold zy at e
    rw [← e]
    exact bodyPost_ret (v := .tuple #[.agg #[.int .i64 0, .int .i64 0, .string ⟨#[]⟩, .slice none 0 0, .slice none 0 0], .bool false]) (by simp [results, results62, go_sem, rc0, rc1, rc2, rc3, rc4]) rfl ⟨kI (congrArg Option.isSome HN.o).symm (fun y hy => by cases (HN.o.symm.trans hy)), ((Jh.o.mono (Y := [w.heap.size + 1 + 1]) (by simp)).trans' ((Gq.o.mono (by simp)).trans' KF)).fresh (by simp; omega)⟩
   subst hd
   have Mo : Hid (yZ x (n + 1) v (([(⟨#[45]⟩ : ByteArray)] : List ByteArray).map (·.data.toList)) = some (⟨v.kind, v.num, v.s, v.l.map (zV k n) ++ [upK x n], v.m.map (fun p => (p.1, zV k n p.2))⟩ : VS (V (k + n)))) := qI (by
    rw [Ms.o]
    show (if v.kind = 6 then _ else if v.kind = 5 ∧ _ = [45] then _ else _) = _
    rw [if_neg k6, if_pos ⟨k5, rfl⟩]
    rfl)
   clear k5 k6
   have Gy : Hid (∀ g, g ∈ (Value.slice b4 v.l.length c4).ownBlock.toList → w.heap.size + 4 ≤ g) := qI (fun g hg => (Gf.o.rowl.lt g (Option.mem_toList.1 hg)).1)
   have Yi : Hid (w.heap.size + 3 ∉ (Value.slice b4 v.l.length c4).ownBlock.toList) := qI (fun hx => by have := Gy.o _ hx; omega)
   have Mh : Hid (w.heap.size + 1 ∉ (Value.slice b4 v.l.length c4).ownBlock.toList) := qI (fun hx => by have := Gy.o _ hx; omega)
   have Yj : Hid (gs ∉ (Value.slice b4 v.l.length c4).ownBlock.toList) := qI (fun hx => by have := Gy.o _ hx; have := Ye.o; omega)
   have Gp : Hid (zb [] w2 (w2.alloc (.cells #[.int .i64 kx, .int .i64 mx, .string sx, .slice px ix cx, .slice qx jx dx] 25))) := qI ((zb.refl [] w2).alloc _)
   have Gk := qI (yL w2 [.int .i64 kx, .int .i64 mx, .string sx, .slice px ix cx, .slice qx jx dx] 5 1 25 w2.heap.size rfl rfl (by decide))
   have Ma := qI (zh Gf.o.rowl Gp.o (by simp))
   have Mq : Hid (∀ u ∈ ([.int .i64 kx, .int .i64 mx, .string sx, .slice px ix cx, .slice qx jx dx] : List Value), u.oneCell' = true) := qI (by intro z hz; simp only [List.mem_cons, List.not_mem_nil, or_false] at hz; rcases hz with rfl | rfl | rfl | rfl | rfl <;> rfl)
   have Gv : Hid (w.heap.size + 4 ≤ (w2.alloc (.cells #[.int .i64 kx, .int .i64 mx, .string sx, .slice px ix cx, .slice qx jx dx] 25)).heap.size) := qI (by have h1 := Gp.o.size; have h2 := Ge.o; omega)
   have hlv := Ji.o.1
   obtain ⟨t0, t1, t2, t3, t4⟩ := Gf.o.cells.kept0 Gp.o
   go_upto_region 20 with (at_builtin; refine yo bj Ma.o Gk.o Mq.o (by simp only [maxLen]; omega) (by omega) Gv.o rfl _ _ rfl rfl rfl ?_; intro v' w6 hown6 hk6 _ hb6; obtain ⟨b6, d6, rfl, -, -⟩ := (Slc.of_row hown6).form; have Gb := qI hown6; have Mw := qI hk6; clear hown6 hk6 hb6; have hbo := Mw.o.heap (Gp.o.heap Gf.o.blk (by simp)) (by intro hx; have := Gy.o _ hx; omega); have s3 := za (o := 3) hbo rfl; have z3 := zc (o := 3) hbo; have Mp := qI hbo; clear hbo)
   have Mb : Hid (zb (Value.slice b4 v.l.length c4).ownBlock.toList w2 w6) := qI ((Gp.o.mono (Y := (Value.slice b4 v.l.length c4).ownBlock.toList) (by simp)).trans' Mw.o)
   clear s3 z3 t0 t1 t2 t3 t4
   have Jp : Hid (zb [w.heap.size + 3] w6 (w6.setCell ⟨w.heap.size + 3, 3, none⟩ (.slice b6 (v.l.length + 1) d6))) := qI ((zb.refl [w.heap.size + 3] w6).setCell (.inl (by simp)) _)
   have Gj := qI (zf (i := 3) (v := .slice b6 (v.l.length + 1) d6) Mp.o rfl)
   clear x0 x1 x2 x3 x4 a0 a1 a2 a3 a4 y0 y1 y2 y3 y4 qs
   revert Jp Gj
   generalize w6.setCell ⟨w.heap.size + 3, 3, none⟩ (.slice b6 (v.l.length + 1) d6) = wO
   intro Jp Gj
   have Jf : Hid (zb ((w.heap.size + 3) :: (Value.slice b4 v.l.length c4).ownBlock.toList) w2 wO) := qI ((Mb.o.mono (fun i hi => List.mem_cons_of_mem _ hi)).trans' (Jp.o.mono (by simp)))
   have y0 := za (o := 0) (v := .int .i64 v.kind) Gj.o rfl
   have y1 := za (o := 1) (v := .int .i64 v.num) Gj.o rfl
   have y2 := za (o := 2) (v := .string v.s) Gj.o rfl
   have y3 := za (o := 3) (v := .slice b6 (v.l.length + 1) d6) Gj.o rfl
   have y4 := za (o := 4) (v := .slice b5 v.m.length c5) Gj.o rfl
   have Gg : Hid (zb ((w.heap.size + 3) :: (Value.slice b4 v.l.length c4).ownBlock.toList) W1 wO) := qI ((Gq.o.mono (Y := (w.heap.size + 3) :: (Value.slice b4 v.l.length c4).ownBlock.toList) (by simp)).trans' Jf.o)
   have Gl := qI (Ja.o.kept Gg.o (by intro hx; rcases List.mem_cons.1 hx with h | h; (· omega); have := Gy.o _ h; omega))
   obtain ⟨⟨d0, d1, d2, d3, d4⟩, f0, f1, f2, f3, f4⟩ := Gl.o.facts
   go_wp2_with fail
   obtain ⟨WF, e⟩ : ∃ WF, WF = zy wO (w.heap.size + 1 + 1) (.int .i64 v.kind) (.int .i64 v.num) (.string v.s) (.slice b6 (v.l.length + 1) d6) (.slice b5 v.m.length c5) := ⟨_, rfl⟩
   obtain ⟨KF, rc0, rc1, rc2, rc3, rc4⟩ := Gl.o.stored e
   unfold zy at e
   rw [← e]
   have Gm := qI KF
   clear e KF
   have K2F : Hid (zb ((w.heap.size + 1 + 1) :: (w.heap.size + 3) :: (Value.slice b4 v.l.length c4).ownBlock.toList) w2 WF) := qI ((Jf.o.mono (fun i hi => List.mem_cons_of_mem _ hi)).trans' (Gm.o.mono (by simp)))
   have hkf : zb [] w WF := ((Gx.o.mono (Y := ((w.heap.size + 1 + 1) :: (w.heap.size + 3) :: (Value.slice b4 v.l.length c4).ownBlock.toList)) (by simp)).trans' K2F.o).fresh (fun g hg => by
    rcases List.mem_cons.1 hg with rfl | hg
    ·omega
    rcases List.mem_cons.1 hg with rfl | hg
    ·omega
    have := Gy.o _ hg
    omega)
   have Mc := qI hkf
   have hro : WF.ownsRow (w.heap.size + 4) 60 6 (.slice b5 v.m.length c5) v.m.length (zQ mcs) := zh Gf.o.rowm K2F.o (fun g hg hx => by
    have h1 := (Gf.o.rowm.lt g hg).1
    rcases List.mem_cons.1 hx with rfl | hx
    ·omega
    rcases List.mem_cons.1 hx with rfl | hx
    ·omega
    exact bQ (yu Gf.o.rowm hg) (yu Gf.o.rowl (Option.mem_toList.1 hx)) (by decide) rfl)
   have hrn := zh Gb.o ((Jp.o.mono (Y := [w.heap.size + 3, w.heap.size + 1 + 1]) (by simp)).trans' (Gm.o.mono (Y := [w.heap.size + 3, w.heap.size + 1 + 1]) (by simp))) (fun g hg hx => by
    have := (Gb.o.lt g hg).1
    simp at hx
    omega)
   obtain ⟨hl, hm⟩ := kJ (k := k) (T := T) HR.o hkf Gw.o
   refine bodyPost_ret (v := .tuple #[.agg #[.int .i64 v.kind, .int .i64 v.num, .string v.s, .slice b6 (v.l.length + 1) d6, .slice b5 v.m.length c5], .bool true]) (by simp [results, results62, go_sem, rc0, rc1, rc2, rc3, rc4]) rfl ⟨kI ((congrArg Option.isSome Mo.o).symm) (fun y hy => ?_), hkf⟩
   obtain rfl := Option.some.inj (Mo.o.symm.trans hy)
   refine ⟨.slice b6 (v.l.length + 1) d6, .slice b5 v.m.length c5, lcs ++ [[.int .i64 kx, .int .i64 mx, .string sx, .slice px ix cx, .slice qx jx dx]], mcs, {
    cells := rfl
    slcl := by
     have h9 := Slc.of_row hrn
     show Slc WF 5 _ (v.l.map _ ++ _).length _
     rw [List.length_append, List.length_map, List.flatten_append]; simpa using h9
    alll := yc.snoc hl (((HX.o.kept0 Mc.o).mono (fun g _ hg => Gw.o g hg)).upK n)
    slcm := by
     have := Slc.of_row hro
     show Slc WF 6 _ (v.m.map _).length _
     rw [List.length_map]; exact this
    allm := hm
    inl := fun g hg => Gn.o g (by have := (hrn.lt g (zz hg)).1; omega)
    inm := fun g hg => Gn.o g (by have := (hro.lt g (zz hg)).1; omega)
    wfk := HR.o.wfk
    wfn := HR.o.wfn }⟩
  | some i =>
   have Mn := qI hpv
   obtain rfl : z = (i : Int) := by rw [← hz, hpv]; rfl
   rcases xE hpv with ⟨k5, hi, hkid⟩ | ⟨k6, hi, hkid⟩
   ·obtain ⟨e1, e2⟩ := yg (a := v.kind) (b := 5) k5
    have Mr : Hid (v.kind = 5) := qI k5
    clear hpv hz k5
    obtain ⟨g1, o1, cg, kd, nm, st, va, vb, e9, q0, q1, q2, q3, q4, hrp, hlc⟩ := HR.o.at_lx Gx.o i hi
    simp only [Value.slice.injEq] at e9
    obtain ⟨rfl, -, rfl⟩ := e9
    obtain ⟨pa1, na1, ca1, pb1, nb1, cb1, rfl, rfl⟩ := hrp.sl
    have Md := qI hlc
    have Jq : Hid (yZ x (n + 1) v ((s :: rest).map (·.data.toList)) = (yZ x n v.l[i] (rest.map (·.data.toList))).map (ZP i v)) := qI (by rw [List.map_cons]; exact kY Mn.o hkid)
    have CA := qI (fun (w' : World) (q : zb [] w2 w') => IH v.l[i] x (hrp.kept0 q) (HX.o.kept0 (Gx.o.then q)) ((Yg.o.kept0 Gx.o).kept0 q) (Mt.o.kid (xY (List.getElem_mem hi))) (by have := Yc.o; omega))
    have hiI : (i : Int) < v.l.length := by omega
    have HI := qI hi
    obtain ⟨g4, rfl⟩ : ∃ g4, b4 = some ⟨g4, 0, none⟩ := by
     rcases Gf.o.rowl.2 with ⟨h, h1⟩ | ⟨g, cap, cur, hv, _⟩
     ·omega
     ·simp only [Value.slice.injEq] at hv; exact ⟨g, hv.1⟩
    have Gi : Hid (w.heap.size + 4 ≤ g4 ∧ g4 < w2.heap.size) := qI (Gf.o.rowl.lt g4 rfl)
    clear hrp hlc hkid
    go_upto_region 8 with fail
    refine xX (n := 15) (fun w' : World => zb [] w2 w') 14 (by kernel_rfl) (by kernel_rfl) ?_
    change yl _ _ _ _ _ _ _ _ _ w2.drew
    have hSS : (fun w' : World => zb [] w2 w') w2.drew := (zb.refl _ w2).drew
    have Gh : Hid (zb [] w2 w2.drew) := qI (zb.refl _ w2).drew
    revert hSS Gh
    generalize w2.drew = WD
    intro hSS Gh
    refine xC ?_
    intro O R hO hR
    have hQp : ∀ c a (d : Nat) v w, R (.panic c) (a.put (some d) v) w → R (.panic c) a w := by subst hR; exact fun _ _ _ _ _ h => h
    refine qU 0 ?_ hO rfl rfl (by kernel_rfl) hQp (fun w hSw => ?_) hSS ?_
    rotate_left
    ·go_simp; try with_reducible rfl
    try simp only [zA,zN,zB,zC,zD]
    refine qU 1 ?_ hO rfl rfl (by kernel_rfl) hQp (fun w hSw => ?_) hSS ?_
    rotate_left
    ·have s0 := hSw.cell x3 (by simp); go_simp; try with_reducible rfl
    try simp only [zA,zN,zB,zC,zD]
    refine qU 2 ?_ hO rfl rfl (by kernel_rfl) hQp (fun w hSw => ?_) hSS ?_
    rotate_left
    ·go_simp; try with_reducible rfl
    try simp only [zA,zN,zB,zC,zD]
    refine qU 3 ?_ hO rfl rfl (by kernel_rfl) hQp (fun w hSw => ?_) hSS ?_
    rotate_left
    ·go_simp; try with_reducible rfl
    try simp only [zA,zN,zB,zC,zD]
    refine qU 4 ?_ hO rfl rfl (by kernel_rfl) hQp (fun w hSw => ?_) hSS ?_
    rotate_left
    ·have s0 := hSw.cell q0 (by simp); have s1 := hSw.cell q1 (by simp); have s2 := hSw.cell q2 (by simp); have s3 := hSw.cell q3 (by simp); have s4 := hSw.cell q4 (by simp); go_simp; try with_reducible rfl
    try simp only [zA,zN,zB,zC,zD]
    refine qU 5 ?_ hO rfl rfl (by kernel_rfl) hQp (fun w hSw => ?_) hSS ?_
    rotate_left
    ·go_simp; try with_reducible rfl
    try simp only [zA,zN,zB,zC,zD]
    refine qU 6 ?_ hO rfl rfl (by kernel_rfl) hQp (fun w hSw => ?_) hSS ?_
    rotate_left
    ·go_simp; try with_reducible rfl
    try simp only [zA,zN,zB,zC,zD]
    refine qU 7 ?_ hO rfl rfl (by kernel_rfl) hQp (fun w hSw => ?_) hSS ?_
    rotate_left
    ·have s0 := hSw.cell a0 (by simp); have s1 := hSw.cell a1 (by simp); have s2 := hSw.cell a2 (by simp); have s3 := hSw.cell a3 (by simp); have s4 := hSw.cell a4 (by simp); go_simp; try with_reducible rfl
    try simp only [zA,zN,zB,zC,zD]
    refine yz (i := 8) (j := 12) hO rfl rfl (by kernel_rfl) (by kernel_rfl) (by kernel_rfl) (fun K hK => ?_) (fun K hK => ?_)
    ·go_simp
     refine Calls.mono (CA.o _ Gh.o) ?_
     rintro e w3 ⟨hg0, hk3⟩
     obtain ⟨k3, i3, s3, p3, n3, c3, u3, m3, l3, fl, rfl, hfl, hg3⟩ := ZU hg0
     have Gr : Hid (fl = (yZ x (n + 1) v ((s :: rest).map (·.data.toList))).isSome) := qI (by rw [Jq.o, Option.isSome_map]; exact hfl)
     clear hg0
     have Mx := qI hg3
     have hS1 : (fun w' : World => zb [] w2 w') w3 := hSS.then hk3
     clear hfl hg3
     refine hK _ _ (.inr (.inr hS1)) ?_
     clear hK K
     try simp only [zA,zN,zB,zC,zD]
     clear hSS
     have hSS := hS1
     clear hS1
     refine qU 9 ?_ hO rfl rfl (by kernel_rfl) hQp (fun w hSw => ?_) hSS ?_
     rotate_left
     ·go_simp; try with_reducible rfl
     try simp only [zA,zN,zB,zC,zD]
     refine qU 10 ?_ hO rfl rfl (by kernel_rfl) hQp (fun w hSw => ?_) hSS ?_
     rotate_left
     ·go_simp; try with_reducible rfl
     try simp only [zA,zN,zB,zC,zD]
     refine qU 11 ?_ hO rfl rfl (by kernel_rfl) hQp (fun w hSw => ?_) hSS ?_
     rotate_left
     ·go_simp; try with_reducible rfl
     try simp only [zA,zN,zB,zC,zD]
     refine qV 12 hO rfl (by kernel_rfl) (fun K hK => ?_)
     go_simp
     have hrt := yA w3
     have hks := (zb.refl [] w3).alloc (.cells #[.int .i64 0, .int .i64 0, .string ⟨#[]⟩, .slice none 0 0, .slice none 0 0] 25)
     have hS1 : (fun w' : World => zb [] w2 w') (w3.alloc (.cells #[.int .i64 0, .int .i64 0, .string ⟨#[]⟩, .slice none 0 0, .slice none 0 0] 25)) := hSS.then hks
     refine hK _ _ (.inr (.inr hS1)) ?_
     clear hK K
     try simp only [zA,zN,zB,zC,zD]
     clear hSS
     have hSS := hS1
     clear hS1
     revert hSS hrt hks
     generalize w3.alloc (.cells #[.int .i64 0, .int .i64 0, .string ⟨#[]⟩, .slice none 0 0, .slice none 0 0] 25) = w4
     intro hrt hks hSS
     have Jg := qI hrt
     have Me : Hid (w2.heap.size ≤ w3.heap.size) := qI (by have h1 := Gh.o.size; have h2 := hk3.size; omega)
     have Gs : Hid (∀ y, yZ x n v.l[i] (rest.map (·.data.toList)) = some y → Rep (k + n) (fun g => (S g ∨ w2.heap.size ≤ g) ∧ g ≠ w3.heap.size) w4 [.int .i64 k3, .int .i64 i3, .string s3, .slice p3 n3 c3, .slice u3 m3 l3] y) := qI (fun y hy => (Mx.o y hy).move hks (fun g hlt h => ⟨by simp, by
      have h1 := Gh.o.size
      rcases h with h | h
      ·exact .inl h
      ·exact .inr (by omega), by omega⟩))
     clear hrt hks hk3
     have Gt := qI hSS
     obtain ⟨⟨d0, d1, d2, d3', d4⟩, f0, f1, f2, f3', f4⟩ := Jg.o.facts
     refine qV 13 hO rfl (by kernel_rfl) (fun K hK => ?_)
     go_simp
     obtain ⟨w5, e⟩ : ∃ w5, w5 = zy w4 w3.heap.size (.int .i64 k3) (.int .i64 i3) (.string s3) (.slice p3 n3 c3) (.slice u3 m3 l3) := ⟨_, rfl⟩
     obtain ⟨KT, t0, t1, t2, t3, t4⟩ := Jg.o.stored e
     unfold zy at e
     rw [← e]
     have hS1 : (fun w' : World => zb [] w2 w') w5 := ((Gt.o.mono (Y := [w3.heap.size]) (by simp)).trans' KT).fresh (by have := Me.o; simp; omega)
     refine hK _ _ (.inr (.inr hS1)) ?_
     clear hK K
     try simp only [zA,zN,zB,zC,zD]
     clear hSS d0 d1 d2 d3' d4 f0 f1 f2 f3' f4 e
     have hSS := hS1
     clear hS1
     refine qV 14 hO rfl (by kernel_rfl) (fun K hK => ?_)
     go_simp
     refine hK _ _ (.inl rfl) ?_
     clear hK K
     try simp only [zA,zN,zB,zC,zD]
     refine zS hO (by kernel_rfl) ?_ _
     subst hR
     try clear hQp hO O
     have Mf := qI KT
     have Gc := qI hSS
     have Ga := qI (Gf.o.kept hSS)
     obtain ⟨r0, r1, r2, r3, r4⟩ := JO Ga.o.rowl (fun p hp => HR.o.five_l p hp) Md.o
     have rz0 := zc (o := i * 5) (yx Ga.o.rowl).2.2.choose_spec
     have rz1 := zc (o := i * 5 + 1) (yx Ga.o.rowl).2.2.choose_spec
     have rz2 := zc (o := i * 5 + 2) (yx Ga.o.rowl).2.2.choose_spec
     have rz3 := zc (o := i * 5 + 3) (yx Ga.o.rowl).2.2.choose_spec
     have rz4 := zc (o := i * 5 + 4) (yx Ga.o.rowl).2.2.choose_spec
     clear x0 x1 x2 x3 x4 a0 a1 a2 a3 a4 y0 y1 y2 y3 y4 q0 q1 q2 q3 q4 qs KT hSS
     obtain ⟨y0, y1, y2, y3, y4⟩ := Ga.o.cells
     go_upto_region 10 with fail
     change Code.wp _ _ _ _ (w5.setCells g4 (i * 5) [.int .i64 k3, .int .i64 i3, .string s3, .slice p3 n3 c3, .slice u3 m3 l3])
     obtain ⟨hrs, -, hks⟩ := yn (i := i) (g := g4) (c := [.int .i64 k3, .int .i64 i3, .string s3, .slice p3 n3 c3, .slice u3 m3 l3]) Ga.o.rowl (fun p hp => HR.o.five_l p hp) rfl HR.o.lens.1 HI.o rfl
     clear r0 r1 r2 r3 r4 rz0 rz1 rz2 rz3 rz4 y0 y1 y2 y3 y4 t0 t1 t2 t3 t4
     revert hrs hks
     generalize w5.setCells g4 (i * 5) [.int .i64 k3, .int .i64 i3, .string s3, .slice p3 n3 c3, .slice u3 m3 l3] = w6
     intro hrs hks
     have Mg := qI hrs
     have Gu := qI hks
     have Gd := Gu.o.heap Ga.o.blk (by have := Gi.o.1; simp; omega)
     have y0 := za (o := 0) (v := .int .i64 v.kind) Gd rfl
     have y1 := za (o := 1) (v := .int .i64 v.num) Gd rfl
     have y2 := za (o := 2) (v := .string v.s) Gd rfl
     have y3 := za (o := 3) (v := .slice (some ⟨g4, 0, none⟩) v.l.length c4) Gd rfl
     have y4 := za (o := 4) (v := .slice b5 v.m.length c5) Gd rfl
     clear hrs hks Gd
     have Gg : Hid (zb [g4] W1 w6) := qI (((Gq.o.then Gc.o).mono (Y := [g4]) (by simp)).trans' Gu.o)
     have Gl := qI (Ja.o.kept Gg.o (by have := Gi.o.1; simp; omega))
     obtain ⟨⟨d0, d1, d2, d3, d4⟩, f0, f1, f2, f3, f4⟩ := Gl.o.facts
     go_wp2_with fail
     obtain ⟨WF, e⟩ : ∃ WF, WF = zy w6 (w.heap.size + 1 + 1) (.int .i64 v.kind) (.int .i64 v.num) (.string v.s) (.slice (some ⟨g4, 0, none⟩) v.l.length c4) (.slice b5 v.m.length c5) := ⟨_, rfl⟩
     obtain ⟨KF, rc0, rc1, rc2, rc3, rc4⟩ := Gl.o.stored e
     unfold zy at e
     rw [← e]
     have Gm := qI KF
     clear e KF
     have K5F : Hid (zb [g4, w.heap.size + 1 + 1] w5 WF) := qI ((Gu.o.mono (Y := [g4, w.heap.size + 1 + 1]) (by simp)).trans' (Gm.o.mono (by simp)))
     have hkf : zb [] w WF := (((Gx.o.then Gc.o).mono (Y := [g4, w.heap.size + 1 + 1]) (by simp)).trans' K5F.o).fresh (fun g hg => by
      have := Gi.o.1
      simp at hg
      omega)
     have hro := zh Ga.o.rowm K5F.o (fun g hg hx => by
      have h1 := (Ga.o.rowm.lt g hg).1
      rcases List.mem_cons.1 hx with h2 | hx
      ·subst h2
       exact bQ (yu Ga.o.rowm hg) (yu Ga.o.rowl (g := g) rfl) (by decide) rfl
      ·simp at hx; omega)
     have hrn := zh Mg.o Gm.o (fun g hg hx => by
      have := Gi.o.1
      simp [Value.ownBlock] at hg hx
      omega)
     obtain ⟨hl, hm⟩ := kJ (k := k) (T := T) HR.o hkf Gw.o
     refine bodyPost_ret (v := .tuple #[.agg #[.int .i64 v.kind, .int .i64 v.num, .string v.s, .slice (some ⟨g4, 0, none⟩) v.l.length c4, .slice b5 v.m.length c5], .bool fl]) (by simp [results, results62, go_sem, rc0, rc1, rc2, rc3, rc4]) rfl ⟨kI (Gr.o) (fun y hy => ?_), hkf⟩
     have hy := Jq.o.symm.trans hy
     rw [Option.map_eq_some_iff] at hy
     obtain ⟨y', hy', rfl⟩ := hy
     have hrz : Rep (k + n) T WF [.int .i64 k3, .int .i64 i3, .string s3, .slice p3 n3 c3, .slice u3 m3 l3] y' := ((Gs.o y' hy').move ((Mf.o.mono (Y := [w3.heap.size, g4, w.heap.size + 1 + 1]) (by simp)).trans' (K5F.o.mono (by simp))) (fun g hlt h => ⟨by
      have h1 := Gi.o
      have h2 := Ge.o
      have h3 := Jr.o g
      intro hx
      rcases List.mem_cons.1 hx with hx | hx
      ·exact h.2 hx
      ·rcases h.1 with h | h
       ·have := h3 h; simp at hx; omega
       ·simp at hx; omega, by
      rcases h.1 with h | h
      ·exact Gw.o g h
      ·exact Gn.o g (by have := Ge.o; omega)⟩))
     unfold ZP y7
     rw [if_pos Mr.o]
     refine ⟨.slice (some ⟨g4, 0, none⟩) v.l.length c4, .slice b5 v.m.length c5, lcs.set i [.int .i64 k3, .int .i64 i3, .string s3, .slice p3 n3 c3, .slice u3 m3 l3], mcs, {
      cells := rfl
      slcl := by
       have h9 := Slc.of_row hrn
       show Slc WF 5 _ ((v.l.map _).set _ _).length _
       rw [List.length_set, List.length_map]; exact h9
      alll := hl.set i hrz
      slcm := by
       have := Slc.of_row hro
       show Slc WF 6 _ (v.m.map _).length _
       rw [List.length_map]; exact this
      allm := hm
      inl := fun g hg => Gn.o g (by have := (hrn.lt g (zz hg)).1; omega)
      inm := fun g hg => Gn.o g (by have := (hro.lt g (zz hg)).1; omega)
      wfk := HR.o.wfk
      wfn := HR.o.wfn }⟩
    ·go_simp
     have hrt := yA WD
     have hks := (zb.refl [] WD).alloc (.cells #[.int .i64 0, .int .i64 0, .string ⟨#[]⟩, .slice none 0 0, .slice none 0 0] 25)
     have hszE : (WD.alloc (.cells #[.int .i64 0, .int .i64 0, .string ⟨#[]⟩, .slice none 0 0, .slice none 0 0] 25)).heap.size = WD.heap.size + 1 := by simp
     have hS1 : (fun w' : World => zb [] w2 w') (WD.alloc (.cells #[.int .i64 0, .int .i64 0, .string ⟨#[]⟩, .slice none 0 0, .slice none 0 0] 25)) := hSS.then hks
     refine hK _ _ (.inr (.inr hS1)) ?_
     clear hK K
     try simp only [zA,zN,zB,zC,zD]
     clear hSS
     have hSS := hS1
     clear hS1
     revert hSS hrt hks hszE
     generalize WD.alloc (.cells #[.int .i64 0, .int .i64 0, .string ⟨#[]⟩, .slice none 0 0, .slice none 0 0] 25) = WE
     intro hrt hks hszE hSS
     have My := qI hks
     have Mz := qI hrt
     have Ya := qI hszE
     clear hrt hks hszE
     refine qV 8 hO rfl (by kernel_rfl) (fun K hK => ?_)
     go_simp
     refine Calls.mono (CA.o _ (Gh.o.then My.o)) ?_
     rintro e w4 ⟨hg0, hk3⟩
     obtain ⟨k3, i3, s3, p3, n3, c3, u3, m3, l3, fl, rfl, hfl, hg3⟩ := ZU hg0
     have Gr : Hid (fl = (yZ x (n + 1) v ((s :: rest).map (·.data.toList))).isSome) := qI (by rw [Jq.o, Option.isSome_map]; exact hfl)
     clear hg0
     have hS1 : (fun w' : World => zb [] w2 w') w4 := hSS.then hk3
     have Jg := qI (Mz.o.kept hk3 (by simp))
     have Me : Hid (w2.heap.size ≤ WD.heap.size) := qI Gh.o.size
     have Gs : Hid (∀ y, yZ x n v.l[i] (rest.map (·.data.toList)) = some y → Rep (k + n) (fun g => (S g ∨ w2.heap.size ≤ g) ∧ g ≠ WD.heap.size) w4 [.int .i64 k3, .int .i64 i3, .string s3, .slice p3 n3 c3, .slice u3 m3 l3] y) := qI (fun y hy => (hg3 y hy).move (zb.refl [] w4) (fun g hlt h => ⟨by simp, by
      have h1 := Gh.o.size
      have h2 := Ya.o
      have h3 := Jr.o g
      rcases h with h | h
      ·exact ⟨.inl h, by have := Jr.o g h; have := Ge.o; omega⟩
      ·exact ⟨.inr (by omega), by omega⟩⟩))
     clear hfl hg3 hk3
     refine hK _ _ (.inr (.inr hS1)) ?_
     clear hK K
     try simp only [zA,zN,zB,zC,zD]
     clear hSS
     have hSS := hS1
     clear hS1
     refine qU 9 ?_ hO rfl rfl (by kernel_rfl) hQp (fun w hSw => ?_) hSS ?_
     rotate_left
     ·go_simp; try with_reducible rfl
     try simp only [zA,zN,zB,zC,zD]
     refine qU 10 ?_ hO rfl rfl (by kernel_rfl) hQp (fun w hSw => ?_) hSS ?_
     rotate_left
     ·go_simp; try with_reducible rfl
     try simp only [zA,zN,zB,zC,zD]
     refine qU 11 ?_ hO rfl rfl (by kernel_rfl) hQp (fun w hSw => ?_) hSS ?_
     rotate_left
     ·go_simp; try with_reducible rfl
     try simp only [zA,zN,zB,zC,zD]
     have Gt := qI hSS
     obtain ⟨⟨d0, d1, d2, d3', d4⟩, f0, f1, f2, f3', f4⟩ := Jg.o.facts
     refine qV 13 hO rfl (by kernel_rfl) (fun K hK => ?_)
     go_simp
     obtain ⟨w5, e⟩ : ∃ w5, w5 = zy w4 WD.heap.size (.int .i64 k3) (.int .i64 i3) (.string s3) (.slice p3 n3 c3) (.slice u3 m3 l3) := ⟨_, rfl⟩
     obtain ⟨KT, t0, t1, t2, t3, t4⟩ := Jg.o.stored e
     unfold zy at e
     rw [← e]
     have hS1 : (fun w' : World => zb [] w2 w') w5 := ((Gt.o.mono (Y := [WD.heap.size]) (by simp)).trans' KT).fresh (by have := Me.o; simp; omega)
     refine hK _ _ (.inr (.inr hS1)) ?_
     clear hK K
     try simp only [zA,zN,zB,zC,zD]
     clear hSS d0 d1 d2 d3' d4 f0 f1 f2 f3' f4 e
     have hSS := hS1
     clear hS1
     refine qV 14 hO rfl (by kernel_rfl) (fun K hK => ?_)
     go_simp
     refine hK _ _ (.inl rfl) ?_
     clear hK K
     try simp only [zA,zN,zB,zC,zD]
     refine zS hO (by kernel_rfl) ?_ _
     subst hR
     try clear hQp hO O
     have Mf := qI KT
     have Gc := qI hSS
     have Ga := qI (Gf.o.kept hSS)
     obtain ⟨r0, r1, r2, r3, r4⟩ := JO Ga.o.rowl (fun p hp => HR.o.five_l p hp) Md.o
     have rz0 := zc (o := i * 5) (yx Ga.o.rowl).2.2.choose_spec
     have rz1 := zc (o := i * 5 + 1) (yx Ga.o.rowl).2.2.choose_spec
     have rz2 := zc (o := i * 5 + 2) (yx Ga.o.rowl).2.2.choose_spec
     have rz3 := zc (o := i * 5 + 3) (yx Ga.o.rowl).2.2.choose_spec
     have rz4 := zc (o := i * 5 + 4) (yx Ga.o.rowl).2.2.choose_spec
     clear x0 x1 x2 x3 x4 a0 a1 a2 a3 a4 y0 y1 y2 y3 y4 q0 q1 q2 q3 q4 qs KT hSS
     obtain ⟨y0, y1, y2, y3, y4⟩ := Ga.o.cells
     go_upto_region 10 with fail
     change Code.wp _ _ _ _ (w5.setCells g4 (i * 5) [.int .i64 k3, .int .i64 i3, .string s3, .slice p3 n3 c3, .slice u3 m3 l3])
     obtain ⟨hrs, -, hks⟩ := yn (i := i) (g := g4) (c := [.int .i64 k3, .int .i64 i3, .string s3, .slice p3 n3 c3, .slice u3 m3 l3]) Ga.o.rowl (fun p hp => HR.o.five_l p hp) rfl HR.o.lens.1 HI.o rfl
     clear r0 r1 r2 r3 r4 rz0 rz1 rz2 rz3 rz4 y0 y1 y2 y3 y4 t0 t1 t2 t3 t4
     revert hrs hks
     generalize w5.setCells g4 (i * 5) [.int .i64 k3, .int .i64 i3, .string s3, .slice p3 n3 c3, .slice u3 m3 l3] = w6
     intro hrs hks
     have Mg := qI hrs
     have Gu := qI hks
     have Gd := Gu.o.heap Ga.o.blk (by have := Gi.o.1; simp; omega)
     have y0 := za (o := 0) (v := .int .i64 v.kind) Gd rfl
     have y1 := za (o := 1) (v := .int .i64 v.num) Gd rfl
     have y2 := za (o := 2) (v := .string v.s) Gd rfl
     have y3 := za (o := 3) (v := .slice (some ⟨g4, 0, none⟩) v.l.length c4) Gd rfl
     have y4 := za (o := 4) (v := .slice b5 v.m.length c5) Gd rfl
     clear hrs hks Gd
     have Gg : Hid (zb [g4] W1 w6) := qI (((Gq.o.then Gc.o).mono (Y := [g4]) (by simp)).trans' Gu.o)
     have Gl := qI (Ja.o.kept Gg.o (by have := Gi.o.1; simp; omega))
     obtain ⟨⟨d0, d1, d2, d3, d4⟩, f0, f1, f2, f3, f4⟩ := Gl.o.facts
     go_wp2_with fail
     obtain ⟨WF, e⟩ : ∃ WF, WF = zy w6 (w.heap.size + 1 + 1) (.int .i64 v.kind) (.int .i64 v.num) (.string v.s) (.slice (some ⟨g4, 0, none⟩) v.l.length c4) (.slice b5 v.m.length c5) := ⟨_, rfl⟩
     obtain ⟨KF, rc0, rc1, rc2, rc3, rc4⟩ := Gl.o.stored e
     unfold zy at e
     rw [← e]
     have Gm := qI KF
     clear e KF
     have K5F : Hid (zb [g4, w.heap.size + 1 + 1] w5 WF) := qI ((Gu.o.mono (Y := [g4, w.heap.size + 1 + 1]) (by simp)).trans' (Gm.o.mono (by simp)))
     have hkf : zb [] w WF := (((Gx.o.then Gc.o).mono (Y := [g4, w.heap.size + 1 + 1]) (by simp)).trans' K5F.o).fresh (fun g hg => by
      have := Gi.o.1
      simp at hg
      omega)
     have hro := zh Ga.o.rowm K5F.o (fun g hg hx => by
      have h1 := (Ga.o.rowm.lt g hg).1
      rcases List.mem_cons.1 hx with h2 | hx
      ·subst h2
       exact bQ (yu Ga.o.rowm hg) (yu Ga.o.rowl (g := g) rfl) (by decide) rfl
      ·simp at hx; omega)
     have hrn := zh Mg.o Gm.o (fun g hg hx => by
      have := Gi.o.1
      simp [Value.ownBlock] at hg hx
      omega)
     obtain ⟨hl, hm⟩ := kJ (k := k) (T := T) HR.o hkf Gw.o
     refine bodyPost_ret (v := .tuple #[.agg #[.int .i64 v.kind, .int .i64 v.num, .string v.s, .slice (some ⟨g4, 0, none⟩) v.l.length c4, .slice b5 v.m.length c5], .bool fl]) (by simp [results, results62, go_sem, rc0, rc1, rc2, rc3, rc4]) rfl ⟨kI (Gr.o) (fun y hy => ?_), hkf⟩
     have hy := Jq.o.symm.trans hy
     rw [Option.map_eq_some_iff] at hy
     obtain ⟨y', hy', rfl⟩ := hy
     have hrz : Rep (k + n) T WF [.int .i64 k3, .int .i64 i3, .string s3, .slice p3 n3 c3, .slice u3 m3 l3] y' := ((Gs.o y' hy').move ((Mf.o.mono (Y := [WD.heap.size, g4, w.heap.size + 1 + 1]) (by simp)).trans' (K5F.o.mono (by simp))) (fun g hlt h => ⟨by
      have h1 := Gi.o
      have h2 := Ge.o
      have h3 := Jr.o g
      intro hx
      rcases List.mem_cons.1 hx with hx | hx
      ·exact h.2 hx
      ·rcases h.1 with h | h
       ·have := h3 h; simp at hx; omega
       ·simp at hx; omega, by
      rcases h.1 with h | h
      ·exact Gw.o g h
      ·exact Gn.o g (by have := Ge.o; omega)⟩))
     unfold ZP y7
     rw [if_pos Mr.o]
     refine ⟨.slice (some ⟨g4, 0, none⟩) v.l.length c4, .slice b5 v.m.length c5, lcs.set i [.int .i64 k3, .int .i64 i3, .string s3, .slice p3 n3 c3, .slice u3 m3 l3], mcs, {
      cells := rfl
      slcl := by
       have h9 := Slc.of_row hrn
       show Slc WF 5 _ ((v.l.map _).set _ _).length _
       rw [List.length_set, List.length_map]; exact h9
      alll := hl.set i hrz
      slcm := by
       have := Slc.of_row hro
       show Slc WF 6 _ (v.m.map _).length _
       rw [List.length_map]; exact this
      allm := hm
      inl := fun g hg => Gn.o g (by have := (hrn.lt g (zz hg)).1; omega)
      inm := fun g hg => Gn.o g (by have := (hro.lt g (zz hg)).1; omega)
      wfk := HR.o.wfk
      wfn := HR.o.wfn }⟩
   ·obtain ⟨e1, e2⟩ := zt (a := v.kind) (b := 5) (by omega)
    have Mr : Hid (¬ v.kind = 5) := qI (by omega)
    clear hpv hz k6
    obtain ⟨g1, o1, cg, kd, nm, st, va, vb, e9, -, q0, q1, q2, q3, q4, hrp, hlc⟩ := HR.o.at_mx Gx.o i hi
    simp only [Value.slice.injEq] at e9
    obtain ⟨rfl, -, rfl⟩ := e9
    obtain ⟨pa1, na1, ca1, pb1, nb1, cb1, rfl, rfl⟩ := hrp.sl
    have Md := qI hlc
    have Jq : Hid (yZ x (n + 1) v ((s :: rest).map (·.data.toList)) = (yZ x n v.m[i].2 (rest.map (·.data.toList))).map (ZP i v)) := qI (by rw [List.map_cons]; exact kY Mn.o hkid)
    have CA := qI (fun (w' : World) (q : zb [] w2 w') => IH v.m[i].2 x (hrp.kept0 q) (HX.o.kept0 (Gx.o.then q)) ((Yg.o.kept0 Gx.o).kept0 q) (Mt.o.kid (xV (List.getElem_mem hi))) (by have := Yc.o; omega))
    have hiI : (i : Int) < v.m.length := by omega
    have HI := qI hi
    obtain ⟨g4, rfl⟩ : ∃ g4, b5 = some ⟨g4, 0, none⟩ := by
     rcases Gf.o.rowm.2 with ⟨h, h1⟩ | ⟨g, cap, cur, hv, _⟩
     ·omega
     ·simp only [Value.slice.injEq] at hv; exact ⟨g, hv.1⟩
    have Gi : Hid (w.heap.size + 4 ≤ g4 ∧ g4 < w2.heap.size) := qI (Gf.o.rowm.lt g4 rfl)
    clear hrp hlc hkid
    go_upto_region 12 with fail
    refine xX (n := 16) (fun w' : World => zb [] w2 w') 15 (by kernel_rfl) (by kernel_rfl) ?_
    change yl _ _ _ _ _ _ _ _ _ w2.drew
    have hSS : (fun w' : World => zb [] w2 w') w2.drew := (zb.refl _ w2).drew
    have Gh : Hid (zb [] w2 w2.drew) := qI (zb.refl _ w2).drew
    revert hSS Gh
    generalize w2.drew = WD
    intro hSS Gh
    refine xC ?_
    intro O R hO hR
    have hQp : ∀ c a (d : Nat) v w, R (.panic c) (a.put (some d) v) w → R (.panic c) a w := by subst hR; exact fun _ _ _ _ _ h => h
    refine qU 0 ?_ hO rfl rfl (by kernel_rfl) hQp (fun w hSw => ?_) hSS ?_
    rotate_left
    ·go_simp; try with_reducible rfl
    try simp only [zA,zN,zB,zC,zD]
    refine qU 1 ?_ hO rfl rfl (by kernel_rfl) hQp (fun w hSw => ?_) hSS ?_
    rotate_left
    ·have s0 := hSw.cell x4 (by simp); go_simp; try with_reducible rfl
    try simp only [zA,zN,zB,zC,zD]
    refine qU 2 ?_ hO rfl rfl (by kernel_rfl) hQp (fun w hSw => ?_) hSS ?_
    rotate_left
    ·go_simp; try with_reducible rfl
    try simp only [zA,zN,zB,zC,zD]
    refine qU 3 ?_ hO rfl rfl (by kernel_rfl) hQp (fun w hSw => ?_) hSS ?_
    rotate_left
    ·go_simp; try with_reducible rfl
    try simp only [zA,zN,zB,zC,zD]
    refine qU 4 ?_ hO rfl rfl (by kernel_rfl) hQp (fun w hSw => ?_) hSS ?_
    rotate_left
    ·go_simp; try with_reducible rfl
    try simp only [zA,zN,zB,zC,zD]
    refine qU 5 ?_ hO rfl rfl (by kernel_rfl) hQp (fun w hSw => ?_) hSS ?_
    rotate_left
    ·have s0 := hSw.cell q0 (by simp); have s1 := hSw.cell q1 (by simp); have s2 := hSw.cell q2 (by simp); have s3 := hSw.cell q3 (by simp); have s4 := hSw.cell q4 (by simp); go_simp; try with_reducible rfl
    try simp only [zA,zN,zB,zC,zD]
    refine qU 6 ?_ hO rfl rfl (by kernel_rfl) hQp (fun w hSw => ?_) hSS ?_
    rotate_left
    ·go_simp; try with_reducible rfl
    try simp only [zA,zN,zB,zC,zD]
    refine qU 7 ?_ hO rfl rfl (by kernel_rfl) hQp (fun w hSw => ?_) hSS ?_
    rotate_left
    ·go_simp; try with_reducible rfl
    try simp only [zA,zN,zB,zC,zD]
    refine qU 8 ?_ hO rfl rfl (by kernel_rfl) hQp (fun w hSw => ?_) hSS ?_
    rotate_left
    ·have s0 := hSw.cell a0 (by simp); have s1 := hSw.cell a1 (by simp); have s2 := hSw.cell a2 (by simp); have s3 := hSw.cell a3 (by simp); have s4 := hSw.cell a4 (by simp); go_simp; try with_reducible rfl
    try simp only [zA,zN,zB,zC,zD]
    refine yz (i := 9) (j := 13) hO rfl rfl (by kernel_rfl) (by kernel_rfl) (by kernel_rfl) (fun K hK => ?_) (fun K hK => ?_)
    ·go_simp
     refine Calls.mono (CA.o _ Gh.o) ?_
     rintro e w3 ⟨hg0, hk3⟩
     obtain ⟨k3, i3, s3, p3, n3, c3, u3, m3, l3, fl, rfl, hfl, hg3⟩ := ZU hg0
     have Gr : Hid (fl = (yZ x (n + 1) v ((s :: rest).map (·.data.toList))).isSome) := qI (by rw [Jq.o, Option.isSome_map]; exact hfl)
     clear hg0
     have Mx := qI hg3
     have hS1 : (fun w' : World => zb [] w2 w') w3 := hSS.then hk3
     clear hfl hg3
     refine hK _ _ (.inr (.inr hS1)) ?_
     clear hK K
     try simp only [zA,zN,zB,zC,zD]
     clear hSS
     have hSS := hS1
     clear hS1
     refine qU 10 ?_ hO rfl rfl (by kernel_rfl) hQp (fun w hSw => ?_) hSS ?_
     rotate_left
     ·go_simp; try with_reducible rfl
     try simp only [zA,zN,zB,zC,zD]
     refine qU 11 ?_ hO rfl rfl (by kernel_rfl) hQp (fun w hSw => ?_) hSS ?_
     rotate_left
     ·go_simp; try with_reducible rfl
     try simp only [zA,zN,zB,zC,zD]
     refine qU 12 ?_ hO rfl rfl (by kernel_rfl) hQp (fun w hSw => ?_) hSS ?_
     rotate_left
     ·go_simp; try with_reducible rfl
     try simp only [zA,zN,zB,zC,zD]
     refine qV 13 hO rfl (by kernel_rfl) (fun K hK => ?_)
     go_simp
     have hrt := yA w3
     have hks := (zb.refl [] w3).alloc (.cells #[.int .i64 0, .int .i64 0, .string ⟨#[]⟩, .slice none 0 0, .slice none 0 0] 25)
     have hS1 : (fun w' : World => zb [] w2 w') (w3.alloc (.cells #[.int .i64 0, .int .i64 0, .string ⟨#[]⟩, .slice none 0 0, .slice none 0 0] 25)) := hSS.then hks
     refine hK _ _ (.inr (.inr hS1)) ?_
     clear hK K
     try simp only [zA,zN,zB,zC,zD]
     clear hSS
     have hSS := hS1
     clear hS1
     revert hSS hrt hks
     generalize w3.alloc (.cells #[.int .i64 0, .int .i64 0, .string ⟨#[]⟩, .slice none 0 0, .slice none 0 0] 25) = w4
     intro hrt hks hSS
     have Jg := qI hrt
     have Me : Hid (w2.heap.size ≤ w3.heap.size) := qI (by have h1 := Gh.o.size; have h2 := hk3.size; omega)
     have Gs : Hid (∀ y, yZ x n v.m[i].2 (rest.map (·.data.toList)) = some y → Rep (k + n) (fun g => (S g ∨ w2.heap.size ≤ g) ∧ g ≠ w3.heap.size) w4 [.int .i64 k3, .int .i64 i3, .string s3, .slice p3 n3 c3, .slice u3 m3 l3] y) := qI (fun y hy => (Mx.o y hy).move hks (fun g hlt h => ⟨by simp, by
      have h1 := Gh.o.size
      rcases h with h | h
      ·exact .inl h
      ·exact .inr (by omega), by omega⟩))
     clear hrt hks hk3
     have Gt := qI hSS
     obtain ⟨⟨d0, d1, d2, d3', d4⟩, f0, f1, f2, f3', f4⟩ := Jg.o.facts
     refine qV 14 hO rfl (by kernel_rfl) (fun K hK => ?_)
     go_simp
     obtain ⟨w5, e⟩ : ∃ w5, w5 = zy w4 w3.heap.size (.int .i64 k3) (.int .i64 i3) (.string s3) (.slice p3 n3 c3) (.slice u3 m3 l3) := ⟨_, rfl⟩
     obtain ⟨KT, t0, t1, t2, t3, t4⟩ := Jg.o.stored e
     unfold zy at e
     rw [← e]
     have hS1 : (fun w' : World => zb [] w2 w') w5 := ((Gt.o.mono (Y := [w3.heap.size]) (by simp)).trans' KT).fresh (by have := Me.o; simp; omega)
     refine hK _ _ (.inr (.inr hS1)) ?_
     clear hK K
     try simp only [zA,zN,zB,zC,zD]
     clear hSS d0 d1 d2 d3' d4 f0 f1 f2 f3' f4 e
     have hSS := hS1
     clear hS1
     refine qV 15 hO rfl (by kernel_rfl) (fun K hK => ?_)
     go_simp
     refine hK _ _ (.inl rfl) ?_
     clear hK K
     try simp only [zA,zN,zB,zC,zD]
     refine zS hO (by kernel_rfl) ?_ _
     subst hR
     try clear hQp hO O
     have Mf := qI KT
     have Gc := qI hSS
     have Ga := qI (Gf.o.kept hSS)
     obtain ⟨r0, r1, r2, r3, r4⟩ := KI Ga.o.rowm (fun p hp => ZS HR.o p hp) Md.o
     have rz0 := zc (o := i * 6 + 1) (yx Ga.o.rowm).2.2.choose_spec
     have rz1 := zc (o := i * 6 + 1 + 1) (yx Ga.o.rowm).2.2.choose_spec
     have rz2 := zc (o := i * 6 + 1 + 2) (yx Ga.o.rowm).2.2.choose_spec
     have rz3 := zc (o := i * 6 + 1 + 3) (yx Ga.o.rowm).2.2.choose_spec
     have rz4 := zc (o := i * 6 + 1 + 4) (yx Ga.o.rowm).2.2.choose_spec
     clear x0 x1 x2 x3 x4 a0 a1 a2 a3 a4 y0 y1 y2 y3 y4 q0 q1 q2 q3 q4 qs KT hSS
     obtain ⟨y0, y1, y2, y3, y4⟩ := Ga.o.cells
     go_upto_region 14 with fail
     change Code.wp _ _ _ _ (w5.setCells g4 (i * 6 + 1) [.int .i64 k3, .int .i64 i3, .string s3, .slice p3 n3 c3, .slice u3 m3 l3])
     obtain ⟨hrs, hks⟩ := Qe (c := [.int .i64 k3, .int .i64 i3, .string s3, .slice p3 n3 c3, .slice u3 m3 l3]) Ga.o.rowm (fun p hp => ZS HR.o p hp) Md.o rfl
     clear r0 r1 r2 r3 r4 rz0 rz1 rz2 rz3 rz4 y0 y1 y2 y3 y4 t0 t1 t2 t3 t4
     revert hrs hks
     generalize w5.setCells g4 (i * 6 + 1) [.int .i64 k3, .int .i64 i3, .string s3, .slice p3 n3 c3, .slice u3 m3 l3] = w6
     intro hrs hks
     have Mg := qI hrs
     have Gu := qI hks
     have Gd := Gu.o.heap Ga.o.blk (by have := Gi.o.1; simp; omega)
     have y0 := za (o := 0) (v := .int .i64 v.kind) Gd rfl
     have y1 := za (o := 1) (v := .int .i64 v.num) Gd rfl
     have y2 := za (o := 2) (v := .string v.s) Gd rfl
     have y3 := za (o := 3) (v := .slice b4 v.l.length c4) Gd rfl
     have y4 := za (o := 4) (v := .slice (some ⟨g4, 0, none⟩) v.m.length c5) Gd rfl
     clear hrs hks Gd
     have Gg : Hid (zb [g4] W1 w6) := qI (((Gq.o.then Gc.o).mono (Y := [g4]) (by simp)).trans' Gu.o)
     have Gl := qI (Ja.o.kept Gg.o (by have := Gi.o.1; simp; omega))
     obtain ⟨⟨d0, d1, d2, d3, d4⟩, f0, f1, f2, f3, f4⟩ := Gl.o.facts
     go_wp2_with fail
     obtain ⟨WF, e⟩ : ∃ WF, WF = zy w6 (w.heap.size + 1 + 1) (.int .i64 v.kind) (.int .i64 v.num) (.string v.s) (.slice b4 v.l.length c4) (.slice (some ⟨g4, 0, none⟩) v.m.length c5) := ⟨_, rfl⟩
     obtain ⟨KF, rc0, rc1, rc2, rc3, rc4⟩ := Gl.o.stored e
     unfold zy at e
     rw [← e]
     have Gm := qI KF
     clear e KF
     have K5F : Hid (zb [g4, w.heap.size + 1 + 1] w5 WF) := qI ((Gu.o.mono (Y := [g4, w.heap.size + 1 + 1]) (by simp)).trans' (Gm.o.mono (by simp)))
     have hkf : zb [] w WF := (((Gx.o.then Gc.o).mono (Y := [g4, w.heap.size + 1 + 1]) (by simp)).trans' K5F.o).fresh (fun g hg => by
      have := Gi.o.1
      simp at hg
      omega)
     have hro := zh Ga.o.rowl K5F.o (fun g hg hx => by
      have h1 := (Ga.o.rowl.lt g hg).1
      rcases List.mem_cons.1 hx with h2 | hx
      ·subst h2
       exact bQ (yu Ga.o.rowl hg) (yu Ga.o.rowm (g := g) rfl) (by decide) rfl
      ·simp at hx; omega)
     have hrn := zh Mg.o Gm.o (fun g hg hx => by
      have := Gi.o.1
      simp [Value.ownBlock] at hg hx
      omega)
     obtain ⟨hl, hm⟩ := kJ (k := k) (T := T) HR.o hkf Gw.o
     refine bodyPost_ret (v := .tuple #[.agg #[.int .i64 v.kind, .int .i64 v.num, .string v.s, .slice b4 v.l.length c4, .slice (some ⟨g4, 0, none⟩) v.m.length c5], .bool fl]) (by simp [results, results62, go_sem, rc0, rc1, rc2, rc3, rc4]) rfl ⟨kI (Gr.o) (fun y hy => ?_), hkf⟩
     have hy := Jq.o.symm.trans hy
     rw [Option.map_eq_some_iff] at hy
     obtain ⟨y', hy', rfl⟩ := hy
     have hrz : Rep (k + n) T WF [.int .i64 k3, .int .i64 i3, .string s3, .slice p3 n3 c3, .slice u3 m3 l3] y' := ((Gs.o y' hy').move ((Mf.o.mono (Y := [w3.heap.size, g4, w.heap.size + 1 + 1]) (by simp)).trans' (K5F.o.mono (by simp))) (fun g hlt h => ⟨by
      have h1 := Gi.o
      have h2 := Ge.o
      have h3 := Jr.o g
      intro hx
      rcases List.mem_cons.1 hx with hx | hx
      ·exact h.2 hx
      ·rcases h.1 with h | h
       ·have := h3 h; simp at hx; omega
       ·simp at hx; omega, by
      rcases h.1 with h | h
      ·exact Gw.o g h
      ·exact Gn.o g (by have := Ge.o; omega)⟩))
     unfold ZP y7
     rw [if_neg Mr.o]
     rw [vB _ i (v.m[i].1, zV k n v.m[i].2) (v.m[i].1, y') (by rw [List.getElem?_map, List.getElem?_eq_getElem HI.o]; rfl) rfl]
     refine ⟨.slice b4 v.l.length c4, .slice (some ⟨g4, 0, none⟩) v.m.length c5, lcs, mcs.set i (v.m[i].1, [.int .i64 k3, .int .i64 i3, .string s3, .slice p3 n3 c3, .slice u3 m3 l3]), {
      cells := rfl
      slcl := by
       have := Slc.of_row hro
       show Slc WF 5 _ (v.l.map _).length _
       rw [List.length_map]; exact this
      alll := hl
      slcm := by
       have h9 := Slc.of_row hrn
       show Slc WF 6 _ ((v.m.map _).set _ _).length _
       rw [List.length_set, List.length_map]; exact h9
      allm := hm.set i ⟨rfl, hrz⟩
      inl := fun g hg => Gn.o g (by have := (hro.lt g (zz hg)).1; omega)
      inm := fun g hg => Gn.o g (by have := (hrn.lt g (zz hg)).1; omega)
      wfk := HR.o.wfk
      wfn := HR.o.wfn }⟩
    ·go_simp
     have hrt := yA WD
     have hks := (zb.refl [] WD).alloc (.cells #[.int .i64 0, .int .i64 0, .string ⟨#[]⟩, .slice none 0 0, .slice none 0 0] 25)
     have hszE : (WD.alloc (.cells #[.int .i64 0, .int .i64 0, .string ⟨#[]⟩, .slice none 0 0, .slice none 0 0] 25)).heap.size = WD.heap.size + 1 := by simp
     have hS1 : (fun w' : World => zb [] w2 w') (WD.alloc (.cells #[.int .i64 0, .int .i64 0, .string ⟨#[]⟩, .slice none 0 0, .slice none 0 0] 25)) := hSS.then hks
     refine hK _ _ (.inr (.inr hS1)) ?_
     clear hK K
     try simp only [zA,zN,zB,zC,zD]
     clear hSS
     have hSS := hS1
     clear hS1
     revert hSS hrt hks hszE
     generalize WD.alloc (.cells #[.int .i64 0, .int .i64 0, .string ⟨#[]⟩, .slice none 0 0, .slice none 0 0] 25) = WE
     intro hrt hks hszE hSS
     have My := qI hks
     have Mz := qI hrt
     have Ya := qI hszE
     clear hrt hks hszE
     refine qV 9 hO rfl (by kernel_rfl) (fun K hK => ?_)
     go_simp
     refine Calls.mono (CA.o _ (Gh.o.then My.o)) ?_
     rintro e w4 ⟨hg0, hk3⟩
     obtain ⟨k3, i3, s3, p3, n3, c3, u3, m3, l3, fl, rfl, hfl, hg3⟩ := ZU hg0
     have Gr : Hid (fl = (yZ x (n + 1) v ((s :: rest).map (·.data.toList))).isSome) := qI (by rw [Jq.o, Option.isSome_map]; exact hfl)
     clear hg0
     have hS1 : (fun w' : World => zb [] w2 w') w4 := hSS.then hk3
     have Jg := qI (Mz.o.kept hk3 (by simp))
     have Me : Hid (w2.heap.size ≤ WD.heap.size) := qI Gh.o.size
     have Gs : Hid (∀ y, yZ x n v.m[i].2 (rest.map (·.data.toList)) = some y → Rep (k + n) (fun g => (S g ∨ w2.heap.size ≤ g) ∧ g ≠ WD.heap.size) w4 [.int .i64 k3, .int .i64 i3, .string s3, .slice p3 n3 c3, .slice u3 m3 l3] y) := qI (fun y hy => (hg3 y hy).move (zb.refl [] w4) (fun g hlt h => ⟨by simp, by
      have h1 := Gh.o.size
      have h2 := Ya.o
      have h3 := Jr.o g
      rcases h with h | h
      ·exact ⟨.inl h, by have := Jr.o g h; have := Ge.o; omega⟩
      ·exact ⟨.inr (by omega), by omega⟩⟩))
     clear hfl hg3 hk3
     refine hK _ _ (.inr (.inr hS1)) ?_
     clear hK K
     try simp only [zA,zN,zB,zC,zD]
     clear hSS
     have hSS := hS1
     clear hS1
     refine qU 10 ?_ hO rfl rfl (by kernel_rfl) hQp (fun w hSw => ?_) hSS ?_
     rotate_left
     ·go_simp; try with_reducible rfl
     try simp only [zA,zN,zB,zC,zD]
     refine qU 11 ?_ hO rfl rfl (by kernel_rfl) hQp (fun w hSw => ?_) hSS ?_
     rotate_left
     ·go_simp; try with_reducible rfl
     try simp only [zA,zN,zB,zC,zD]
     refine qU 12 ?_ hO rfl rfl (by kernel_rfl) hQp (fun w hSw => ?_) hSS ?_
     rotate_left
     ·go_simp; try with_reducible rfl
     try simp only [zA,zN,zB,zC,zD]
     have Gt := qI hSS
     obtain ⟨⟨d0, d1, d2, d3', d4⟩, f0, f1, f2, f3', f4⟩ := Jg.o.facts
     refine qV 14 hO rfl (by kernel_rfl) (fun K hK => ?_)
     go_simp
     obtain ⟨w5, e⟩ : ∃ w5, w5 = zy w4 WD.heap.size (.int .i64 k3) (.int .i64 i3) (.string s3) (.slice p3 n3 c3) (.slice u3 m3 l3) := ⟨_, rfl⟩
     obtain ⟨KT, t0, t1, t2, t3, t4⟩ := Jg.o.stored e
     unfold zy at e
     rw [← e]
     have hS1 : (fun w' : World => zb [] w2 w') w5 := ((Gt.o.mono (Y := [WD.heap.size]) (by simp)).trans' KT).fresh (by have := Me.o; simp; omega)
     refine hK _ _ (.inr (.inr hS1)) ?_
     clear hK K
     try simp only [zA,zN,zB,zC,zD]
     clear hSS d0 d1 d2 d3' d4 f0 f1 f2 f3' f4 e
     have hSS := hS1
     clear hS1
     refine qV 15 hO rfl (by kernel_rfl) (fun K hK => ?_)
     go_simp
     refine hK _ _ (.inl rfl) ?_
     clear hK K
     try simp only [zA,zN,zB,zC,zD]
     refine zS hO (by kernel_rfl) ?_ _
     subst hR
     try clear hQp hO O
     have Mf := qI KT
     have Gc := qI hSS
     have Ga := qI (Gf.o.kept hSS)
     obtain ⟨r0, r1, r2, r3, r4⟩ := KI Ga.o.rowm (fun p hp => ZS HR.o p hp) Md.o
     have rz0 := zc (o := i * 6 + 1) (yx Ga.o.rowm).2.2.choose_spec
     have rz1 := zc (o := i * 6 + 1 + 1) (yx Ga.o.rowm).2.2.choose_spec
     have rz2 := zc (o := i * 6 + 1 + 2) (yx Ga.o.rowm).2.2.choose_spec
     have rz3 := zc (o := i * 6 + 1 + 3) (yx Ga.o.rowm).2.2.choose_spec
     have rz4 := zc (o := i * 6 + 1 + 4) (yx Ga.o.rowm).2.2.choose_spec
     clear x0 x1 x2 x3 x4 a0 a1 a2 a3 a4 y0 y1 y2 y3 y4 q0 q1 q2 q3 q4 qs KT hSS
     obtain ⟨y0, y1, y2, y3, y4⟩ := Ga.o.cells
     go_upto_region 14 with fail
     change Code.wp _ _ _ _ (w5.setCells g4 (i * 6 + 1) [.int .i64 k3, .int .i64 i3, .string s3, .slice p3 n3 c3, .slice u3 m3 l3])
     obtain ⟨hrs, hks⟩ := Qe (c := [.int .i64 k3, .int .i64 i3, .string s3, .slice p3 n3 c3, .slice u3 m3 l3]) Ga.o.rowm (fun p hp => ZS HR.o p hp) Md.o rfl
     clear r0 r1 r2 r3 r4 rz0 rz1 rz2 rz3 rz4 y0 y1 y2 y3 y4 t0 t1 t2 t3 t4
     revert hrs hks
     generalize w5.setCells g4 (i * 6 + 1) [.int .i64 k3, .int .i64 i3, .string s3, .slice p3 n3 c3, .slice u3 m3 l3] = w6
     intro hrs hks
     have Mg := qI hrs
     have Gu := qI hks
     have Gd := Gu.o.heap Ga.o.blk (by have := Gi.o.1; simp; omega)
     have y0 := za (o := 0) (v := .int .i64 v.kind) Gd rfl
     have y1 := za (o := 1) (v := .int .i64 v.num) Gd rfl
     have y2 := za (o := 2) (v := .string v.s) Gd rfl
     have y3 := za (o := 3) (v := .slice b4 v.l.length c4) Gd rfl
     have y4 := za (o := 4) (v := .slice (some ⟨g4, 0, none⟩) v.m.length c5) Gd rfl
     clear hrs hks Gd
     have Gg : Hid (zb [g4] W1 w6) := qI (((Gq.o.then Gc.o).mono (Y := [g4]) (by simp)).trans' Gu.o)
     have Gl := qI (Ja.o.kept Gg.o (by have := Gi.o.1; simp; omega))
     obtain ⟨⟨d0, d1, d2, d3, d4⟩, f0, f1, f2, f3, f4⟩ := Gl.o.facts
     go_wp2_with fail
     obtain ⟨WF, e⟩ : ∃ WF, WF = zy w6 (w.heap.size + 1 + 1) (.int .i64 v.kind) (.int .i64 v.num) (.string v.s) (.slice b4 v.l.length c4) (.slice (some ⟨g4, 0, none⟩) v.m.length c5) := ⟨_, rfl⟩
     obtain ⟨KF, rc0, rc1, rc2, rc3, rc4⟩ := Gl.o.stored e
     unfold zy at e
     rw [← e]
     have Gm := qI KF
     clear e KF
     have K5F : Hid (zb [g4, w.heap.size + 1 + 1] w5 WF) := qI ((Gu.o.mono (Y := [g4, w.heap.size + 1 + 1]) (by simp)).trans' (Gm.o.mono (by simp)))
     have hkf : zb [] w WF := (((Gx.o.then Gc.o).mono (Y := [g4, w.heap.size + 1 + 1]) (by simp)).trans' K5F.o).fresh (fun g hg => by
      have := Gi.o.1
      simp at hg
      omega)
     have hro := zh Ga.o.rowl K5F.o (fun g hg hx => by
      have h1 := (Ga.o.rowl.lt g hg).1
      rcases List.mem_cons.1 hx with h2 | hx
      ·subst h2
       exact bQ (yu Ga.o.rowl hg) (yu Ga.o.rowm (g := g) rfl) (by decide) rfl
      ·simp at hx; omega)
     have hrn := zh Mg.o Gm.o (fun g hg hx => by
      have := Gi.o.1
      simp [Value.ownBlock] at hg hx
      omega)
     obtain ⟨hl, hm⟩ := kJ (k := k) (T := T) HR.o hkf Gw.o
     refine bodyPost_ret (v := .tuple #[.agg #[.int .i64 v.kind, .int .i64 v.num, .string v.s, .slice b4 v.l.length c4, .slice (some ⟨g4, 0, none⟩) v.m.length c5], .bool fl]) (by simp [results, results62, go_sem, rc0, rc1, rc2, rc3, rc4]) rfl ⟨kI (Gr.o) (fun y hy => ?_), hkf⟩
     have hy := Jq.o.symm.trans hy
     rw [Option.map_eq_some_iff] at hy
     obtain ⟨y', hy', rfl⟩ := hy
     have hrz : Rep (k + n) T WF [.int .i64 k3, .int .i64 i3, .string s3, .slice p3 n3 c3, .slice u3 m3 l3] y' := ((Gs.o y' hy').move ((Mf.o.mono (Y := [WD.heap.size, g4, w.heap.size + 1 + 1]) (by simp)).trans' (K5F.o.mono (by simp))) (fun g hlt h => ⟨by
      have h1 := Gi.o
      have h2 := Ge.o
      have h3 := Jr.o g
      intro hx
      rcases List.mem_cons.1 hx with hx | hx
      ·exact h.2 hx
      ·rcases h.1 with h | h
       ·have := h3 h; simp at hx; omega
       ·simp at hx; omega, by
      rcases h.1 with h | h
      ·exact Gw.o g h
      ·exact Gn.o g (by have := Ge.o; omega)⟩))
     unfold ZP y7
     rw [if_neg Mr.o]
     rw [vB _ i (v.m[i].1, zV k n v.m[i].2) (v.m[i].1, y') (by rw [List.getElem?_map, List.getElem?_eq_getElem HI.o]; rfl) rfl]
     refine ⟨.slice b4 v.l.length c4, .slice (some ⟨g4, 0, none⟩) v.m.length c5, lcs, mcs.set i (v.m[i].1, [.int .i64 k3, .int .i64 i3, .string s3, .slice p3 n3 c3, .slice u3 m3 l3]), {
      cells := rfl
      slcl := by
       have := Slc.of_row hro
       show Slc WF 5 _ (v.l.map _).length _
       rw [List.length_map]; exact this
      alll := hl
      slcm := by
       have h9 := Slc.of_row hrn
       show Slc WF 6 _ ((v.m.map _).set _ _).length _
       rw [List.length_set, List.length_map]; exact h9
      allm := hm.set i ⟨rfl, hrz⟩
      inl := fun g hg => Gn.o g (by have := (hro.lt g (zz hg)).1; omega)
      inm := fun g hg => Gn.o g (by have := (hrn.lt g (zz hg)).1; omega)
      wfk := HR.o.wfk
      wfn := HR.o.wfn }⟩
theorem ZX (k : Nat) : ∀ n, KJ k n
 | 0 => fun v {_} {_} {_} {_} {_} {_} {_} {_} {_} {_} {_} {_} {_} {_} {_} _ _ _ _ => nomatch v
 | n + 1 => refSet_step (ZX k n)
end Go.Proofs.YtpbphdkjjoipnaaGreatDoor

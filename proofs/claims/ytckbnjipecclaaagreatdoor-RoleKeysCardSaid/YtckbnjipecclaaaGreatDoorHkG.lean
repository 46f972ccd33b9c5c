/- Parts of one proof, merged: XJG XJH XK3C. -/
import Derived.Test.YtckbnjipecclaaaGreatDoorHkF
import Derived.Test.YtckbnjipecclaaaGreatDoorHkD
import Derived.Test.YtckbnjipecclaaaGreatDoorHkA
import Derived.Laws.BytesArg
set_option linter.all false
set_option maxHeartbeats 12800000
set_option maxRecDepth 10000
set_option linter.unusedVariables false
set_option linter.unusedSimpArgs false
set_option linter.unnecessarySimpa false
namespace Go.Proofs.YtckbnjipecclaaaGreatDoor
open Go.RowKit
def eatS : Nat → S8 → List UInt8 → S8 × List UInt8
 | 0, s, l => (s, l)
 | k + 1, s, l => if 64 ≤ l.length then eatS k (blockS s (l.take 64)) (l.drop 64) else (s, l)
def eatD (s : S8) (l : List UInt8) : S8 × List UInt8 := eatS l.length s l
theorem eatS_enough : ∀ (k : Nat) (s : S8) (l : List UInt8), l.length ≤ k → eatS k s l = eatS l.length s l
 | 0, s, l, h => by
  have : l = [] := List.eq_nil_of_length_eq_zero (by omega)
  subst this
  rfl
 | k + 1, s, l, h => by
  by_cases h64 : 64 ≤ l.length
  ·obtain ⟨m, hm⟩ : ∃ m, l.length = m + 1 := ⟨l.length - 1, by omega⟩
   rw [hm]
   simp only [eatS]
   rw [if_pos h64, if_pos h64, eatS_enough k _ _ (by simp; omega), eatS_enough m _ _ (by simp; omega)]
  ·obtain h0 | ⟨m, hm⟩ : l.length = 0 ∨ ∃ m, l.length = m + 1 := by
    cases hl : l.length with
    | zero => exact .inl rfl
    | succ m => exact .inr ⟨m, rfl⟩
   ·rw [h0]
    simp only [eatS]
    rw [if_neg h64]
   ·rw [hm]
    simp only [eatS]
    rw [if_neg h64, if_neg h64]
theorem eatD_more (s : S8) (l : List UInt8) (h : 64 ≤ l.length) : eatD s l = eatD (blockS s (l.take 64)) (l.drop 64) := by
 unfold eatD
 obtain ⟨m, hm⟩ : ∃ m, l.length = m + 1 := ⟨l.length - 1, by omega⟩
 rw [hm]
 simp only [eatS]
 rw [if_pos h, eatS_enough m _ _ (by simp; omega)]
theorem eatD_done (s : S8) (l : List UInt8) (h : l.length < 64) : eatD s l = (s, l) := by
 unfold eatD
 cases hl : l.length with
 | zero => rfl
 | succ m =>
  simp only [eatS]
  rw [if_neg (by omega)]
theorem eatD_len (s : S8) (l : List UInt8) : (eatD s l).2.length < 64 := by
 unfold eatD
 suffices h : ∀ (k : Nat) (s : S8) (l : List UInt8), l.length ≤ k → (eatS k s l).2.length < 64 from h _ s l (Nat.le_refl _)
 intro k
 induction k with
 | zero => intro s l h; simp only [eatS]; omega
 | succ k ih =>
  intro s l h
  simp only [eatS]
  split
  ·exact ih _ _ (by simp; omega)
  ·simp only; omega
def sliceLen : Value → Nat
 | .slice _ n _ => n
 | _ => 0
def S8.agg (s : S8) : Value := .agg #[.int .u32 s.a, .int .u32 s.b, .int .u32 s.c, .int .u32 s.d, .int .u32 s.e, .int .u32 s.f, .int .u32 s.g, .int .u32 s.h]
def putS (w : World) (p : Nat) (r : S8) : World := (((((((w.setCell ⟨p, 0, none⟩ (.int .u32 r.a)).setCell ⟨p, 1, none⟩ (.int .u32 r.b)).setCell ⟨p, 2, none⟩ (.int .u32 r.c)).setCell ⟨p, 3, none⟩ (.int .u32 r.d)).setCell ⟨p, 4, none⟩ (.int .u32 r.e)).setCell ⟨p, 5, none⟩ (.int .u32 r.f)).setCell ⟨p, 6, none⟩ (.int .u32 r.g)).setCell ⟨p, 7, none⟩ (.int .u32 r.h)
theorem putS_kept (w : World) (p : Nat) (r : S8) : Kept [p] w (putS w p r) := by
 unfold putS
 exact ((((((((Kept.refl [p] w).setCell (.inl (by simp)) _).setCell (.inl (by simp)) _).setCell (.inl (by simp)) _).setCell (.inl (by simp)) _).setCell (.inl (by simp)) _).setCell (.inl (by simp)) _).setCell (.inl (by simp)) _).setCell (.inl (by simp)) _
theorem HashAt.putS {w : World} {p : Nat} {s : S8} {v : Value} {n : Int} (h : HashAt w p s v n) (r : S8) : HashAt (putS w p r) p r v n := by
 unfold HashAt hashC at h ⊢
 unfold Go.Proofs.YtckbnjipecclaaaGreatDoor.putS
 have h1 := block_setCell (i := 0) (v := .int .u32 r.a) (d := #[.int .u32 r.a, .int .u32 s.b, .int .u32 s.c, .int .u32 s.d, .int .u32 s.e, .int .u32 s.f, .int .u32 s.g, .int .u32 s.h, v, .int .i64 n]) h rfl
 have h2 := block_setCell (i := 1) (v := .int .u32 r.b) (d := #[.int .u32 r.a, .int .u32 r.b, .int .u32 s.c, .int .u32 s.d, .int .u32 s.e, .int .u32 s.f, .int .u32 s.g, .int .u32 s.h, v, .int .i64 n]) h1 rfl
 have h3 := block_setCell (i := 2) (v := .int .u32 r.c) (d := #[.int .u32 r.a, .int .u32 r.b, .int .u32 r.c, .int .u32 s.d, .int .u32 s.e, .int .u32 s.f, .int .u32 s.g, .int .u32 s.h, v, .int .i64 n]) h2 rfl
 have h4 := block_setCell (i := 3) (v := .int .u32 r.d) (d := #[.int .u32 r.a, .int .u32 r.b, .int .u32 r.c, .int .u32 r.d, .int .u32 s.e, .int .u32 s.f, .int .u32 s.g, .int .u32 s.h, v, .int .i64 n]) h3 rfl
 have h5 := block_setCell (i := 4) (v := .int .u32 r.e) (d := #[.int .u32 r.a, .int .u32 r.b, .int .u32 r.c, .int .u32 r.d, .int .u32 r.e, .int .u32 s.f, .int .u32 s.g, .int .u32 s.h, v, .int .i64 n]) h4 rfl
 have h6 := block_setCell (i := 5) (v := .int .u32 r.f) (d := #[.int .u32 r.a, .int .u32 r.b, .int .u32 r.c, .int .u32 r.d, .int .u32 r.e, .int .u32 r.f, .int .u32 s.g, .int .u32 s.h, v, .int .i64 n]) h5 rfl
 have h7 := block_setCell (i := 6) (v := .int .u32 r.g) (d := #[.int .u32 r.a, .int .u32 r.b, .int .u32 r.c, .int .u32 r.d, .int .u32 r.e, .int .u32 r.f, .int .u32 r.g, .int .u32 s.h, v, .int .i64 n]) h6 rfl
 have h8 := block_setCell (i := 7) (v := .int .u32 r.h) (d := #[.int .u32 r.a, .int .u32 r.b, .int .u32 r.c, .int .u32 r.d, .int .u32 r.e, .int .u32 r.f, .int .u32 r.g, .int .u32 r.h, v, .int .i64 n]) h7 rfl
 exact h8
theorem HashAt.putV {w : World} {p : Nat} {s : S8} {v : Value} {n : Int} (h : HashAt w p s v n) (u : Value) : HashAt (w.setCell ⟨p, 8, none⟩ u) p s u n := block_setCell (d := hashC s u n) h rfl
theorem HashAt.putN {w : World} {p : Nat} {s : S8} {v : Value} {n : Int} (h : HashAt w p s v n) (m : Int) : HashAt (w.setCell ⟨p, 9, none⟩ (.int .i64 m)) p s v m := block_setCell (d := hashC s v m) h rfl
theorem KsAt.keptX {X : List Nat} {w w' : World} (h : KsAt w) (k : Kept X w w') (hx : 2 ∉ X) : KsAt w' := fun j v hv => k.cell (h j v hv) hx
structure Wrote (w w' : World) (p : Nat) (s : S8) (l : List UInt8) (n : Int) : Prop where
 hash : ∃ v', HashAt w' p s v' n ∧ Bytes w' v' l ∧ ∀ g, vblk v' = some g → w.heap.size ≤ g ∧ kind w' g = 5 + 2
 kept : Kept [p] w w'
 ks : KsAt w'
theorem Bytes.head {w : World} {a : Option Addr} {c : Nat} {l : List UInt8} (h : Bytes w (.slice a l.length c) l) (k : Nat) (hk : k ≤ l.length) : Bytes w (.slice a k c) (l.take k) := by
 have e : (l.take k).length = k := by rw [List.length_take]; omega
 unfold Bytes
 rw [e]
 refine ⟨by simp; omega, ?_⟩
 rcases h.2 with ⟨h1, h0⟩ | ⟨h0, a', cap, h1, hm⟩ | ⟨g, o, cap, h1, h2, h3, h4⟩
 ·simp only [Value.slice.injEq] at h1
  obtain ⟨rfl, -, rfl⟩ := h1
  obtain rfl : k = 0 := by omega
  exact .inl ⟨rfl, rfl⟩
 ·simp only [Value.slice.injEq] at h1
  obtain ⟨rfl, -, rfl⟩ := h1
  obtain rfl : k = 0 := by omega
  exact .inr (.inl ⟨rfl, _, _, rfl, hm⟩)
 ·simp only [Value.slice.injEq] at h1
  obtain ⟨rfl, -, rfl⟩ := h1
  refine .inr (.inr ⟨g, o, _, rfl, by omega, h3, ?_⟩)
  rw [List.map_take]
  exact h4.take k
theorem Bytes.tail {w : World} {a : Option Addr} {c : Nat} {l : List UInt8} (h : Bytes w (.slice a l.length c) l) (k : Nat) (hk : k ≤ l.length) : Bytes w (.slice (if c = k then a else a.map fun x => ⟨x.block, x.off + k, none⟩) (l.length - k) (c - k)) (l.drop k) ∧ ∀ g, vblk (.slice (if c = k then a else a.map fun x => ⟨x.block, x.off + k, none⟩) (l.length - k) (c - k)) = some g → vblk (.slice a l.length c) = some g := by
 have e : (l.drop k).length = l.length - k := List.length_drop
 unfold Bytes
 rw [e]
 rcases h.2 with ⟨h1, h0⟩ | ⟨h0, a', cap, h1, hm⟩ | ⟨g, o, cap, h1, h2, h3, h4⟩
 ·simp only [Value.slice.injEq] at h1
  obtain ⟨rfl, -, rfl⟩ := h1
  obtain rfl : k = 0 := by omega
  rw [h0]
  exact ⟨⟨by simp [h0], .inl ⟨rfl, rfl⟩⟩, by simp [vblk]⟩
 ·simp only [Value.slice.injEq] at h1
  obtain ⟨rfl, -, rfl⟩ := h1
  obtain rfl : k = 0 := by omega
  rw [h0]
  refine ⟨⟨by simp [h0], ?_⟩, by intro g hg; split at hg <;> simp [vblk] at hg⟩
  split
  ·exact .inr (.inl ⟨rfl, _, _, rfl, by omega⟩)
  ·exact .inr (.inl ⟨rfl, _, _, rfl, by omega⟩)
 ·simp only [Value.slice.injEq] at h1
  obtain ⟨rfl, -, rfl⟩ := h1
  refine ⟨⟨by simp, .inr (.inr ?_)⟩, fun g' hg' => ?_⟩
  ·by_cases hc : c = k
   ·rw [if_pos hc]
    have e2 : l.length - k = 0 := by omega
    exact ⟨g, o, _, rfl, by omega, by omega, ⟨by
     have : (l.drop k).map bv = [] := by rw [List.map_eq_nil_iff]; exact List.eq_nil_of_length_eq_zero (by rw [e, e2])
     rw [this]; simp, h4.lt⟩⟩
   ·rw [if_neg hc]
    refine ⟨g, o + k, _, rfl, by omega, by omega, ?_⟩
    rw [List.map_drop]
    exact h4.drop k
  ·obtain ⟨hpos, hob⟩ := vblk_len hg'
   have hgg : g' = g := by split at hob <;> simpa [Value.ownBlock, eq_comm] using hob
   subst hgg
   exact vblk_mk (by omega)
theorem Bytes.capL {w : World} {a : Option Addr} {c n : Nat} {l : List UInt8} (h : Bytes w (.slice a n c) l) : n ≤ c := by
 obtain ⟨a', c', h1, h2, -⟩ := h.form
 simp only [Value.slice.injEq] at h1
 obtain ⟨-, h3, rfl⟩ := h1
 omega
structure WRel (W1 : World) (p : Nat) (v : Value) (n : Int) (s0 : S8) (l0 : List UInt8) (x : Value) (wr : World) : Prop where
 some_ : ∃ a c rest s', x = .slice a rest.length c ∧ Bytes wr (.slice a rest.length c) rest ∧ (∀ g, vblk (.slice a rest.length c) = some g → g ≠ p) ∧ HashAt wr p s' v n ∧ eatD s' rest = eatD s0 l0 ∧ rest.length ≤ l0.length
 kept : Kept [p] W1 wr
theorem write_any (w : World) (p : Nat) (s : S8) (v b : Value) (l bs : List UInt8) (n : Int) (h : HashAt w p s v n) (hb : Bytes w v l) (hx : ∀ g, vblk v = some g → g ≠ p) (hbb : Bytes w b bs) (hxb : ∀ g, vblk b = some g → g ≠ p) (hll : l.length ≤ 64) (hl : bs.length ≤ 100000000000) (hn0 : 0 ≤ n) (hn1 : n ≤ 100000000000) (hks : KsAt w) (hpk : p ≠ 2) :
  Calls Tryz.prog 101 #[.pointer (some ⟨p, 0, none⟩), b] w fun e w' => e = .returned (.int .i64 bs.length) ∧ Wrote w w' p (eatD s (l ++ bs)).1 (eatD s (l ++ bs)).2 (n + bs.length) := by
 obtain ⟨av, cv, rfl, -, -⟩ := hb.form
 obtain ⟨ab, cb, rfl, -, -⟩ := hbb.form
 have HH := qI h
 have HB := qI hb
 have Jk := qI hbb
 have HX := qI hx
 have Jl := qI hxb
 have Gr := qI hks
 have Gt := qI hpk
 have Jf := qI hll
 have HL := qI hl
 have hlI : (bs.length : Int) ≤ 100000000000 := by omega
 have hllI : (l.length : Int) ≤ 64 := by omega
 have x9 := h.c.2.2.2.2.2.2.2.2.2
 have y9 := free_head (o := 9) h
 have Jm := qI hn1
 have Jn := qI hn0
 have hwr : wrap64 (n + bs.length) = n + bs.length := by unfold wrap64; omega
 have Jg : Hid ((l ++ bs).length = l.length + bs.length) := qI List.length_append
 obtain ⟨l9, Gu⟩ : ∃ l9, Hid (l9 = l ++ bs) := ⟨_, qI rfl⟩
 rw [← Gu.o] at Jg ⊢
 obtain ⟨W1, Gd⟩ : ∃ W1, Hid (W1 = w.setCell ⟨p, 9, none⟩ (.int .i64 (n + bs.length))) := ⟨_, qI rfl⟩
 have Gb : Hid (Kept [p] w W1) := qI (by rw [Gd.o]; exact (Kept.refl _ w).setCell (.inl (by simp)) _)
 have Gs : Hid (HashAt W1 p s (.slice av l.length cv) (n + bs.length)) := qI (by rw [Gd.o]; exact HH.o.putN _)
 have Jo : Hid (Bytes W1 (.slice av l.length cv) l) := qI (hb.kept Gb.o (fun g hg => by simpa using hx g hg))
 have Gi : Hid (Bytes W1 (.slice ab bs.length cb) bs) := qI (hbb.kept Gb.o (fun g hg => by simpa using hxb g hg))
 have Gj : Hid (KsAt W1) := qI (hks.keptX Gb.o (by simpa using Ne.symm hpk))
 have Jp : Hid (p < W1.heap.size) := qI Gs.o.lt
 have Gv : Hid (w.heap.size ≤ W1.heap.size) := qI Gb.o.size
 clear hb hx hbb hxb hks hpk hll hl hn1 hn0 HB Jk Gr Jm Jn
 go_enter Tryz.func101, Tryz.ntmps101
 go_upto_region 5 with fail
 rw [← Gd.o]
 clear x9 y9
 have x8 := Gs.o.c.2.2.2.2.2.2.2.2.1
 rcases Nat.eq_zero_or_pos l.length with h0 | h0
 case' inl =>
  have e0 : Hid (l9 = bs) := qI (by rw [Gu.o, List.eq_nil_of_length_eq_zero h0]; rfl)
  have h0I : (l.length : Int) ≤ 0 := by omega
  clear h0
  go_wp2_with fail
  have Jh : Hid (WRel W1 p (.slice av l.length cv) (n + bs.length) s l9 (.slice ab bs.length cb) W1) := qI ⟨⟨_, _, bs, s, rfl, Gi.o, Jl.o, Gs.o, by rw [e0.o], by rw [e0.o]; exact Nat.le_refl _⟩, Kept.refl _ _⟩
 case' inr =>
  have h0I : (0 : Int) < l.length := by omega
  have hrow : Row (W1.alloc (.cells #[.slice av l.length cv, .slice ab bs.length cb] 82)) W1.heap.size 0 [.slice av l.length cv, .slice ab bs.length cb] := row_new W1 _ _
  have hka := (Kept.refl [] W1).alloc (.cells #[.slice av l.length cv, .slice ab bs.length cb] 82)
  have CC := qI (concat2 W1.heap.size 2 _ _ l bs _ hrow (Jo.o.kept0 hka) (Gi.o.kept0 hka) (by have := HL.o; have := Jf.o; unfold lim; omega))
  rw [← Gu.o] at CC
  have Gw := qI hka
  clear hrow hka
  go_wp2_with (go_at_call 135; refine CC.o.mono ?_; rintro e w2 ⟨v2, rfl, hnb, hk2⟩; obtain ⟨a2, c2, rfl, -, -⟩ := hnb.1.form; have Ge := qI hnb; have Gg := qI hk2; clear hnb hk2 x8)
  have Jh : Hid (WRel W1 p (.slice av l.length cv) (n + bs.length) s l9 (.slice a2 l9.length c2) w2) := qI ⟨⟨_, _, l9, s, rfl, Ge.o.1, fun g hg => by
   have h1 := (Ge.o.2 g hg).1
   have h2 := Jp.o
   have h3 := Gw.o.size
   omega, (Gs.o.kept Gw.o (by simp)).kept Gg.o (by simp), rfl, Nat.le_refl _⟩, ((Gw.o.then Gg.o).mono (by simp))⟩
 all_goals
  go_loopw [5] (fun x wr => WRel W1 p (.slice av l.length cv) (n + bs.length) s l9 x wr) (fun x _ => sliceLen x)
  case atStart => exact Jh.o
  case round =>
   obtain ⟨⟨a, c, rest, s', rfl, hb, hx, hh, he, hlen⟩, hk⟩ := hrel
   have hlI : (rest.length : Int) ≤ 200000000000 := by have := Jg.o; have := HL.o; have := Jf.o; omega
   rcases Nat.lt_or_ge rest.length 64 with h64 | h64
   ·have h64I : (rest.length : Int) < 64 := by omega
    have CL := qI (cloneB_any _ rest wr hb (by unfold lim; omega))
    have Jq := qI hh
    have Jr := qI hk
    have HE : Hid (eatD s' rest = (s', rest)) := qI (eatD_done s' rest h64)
    have Js := qI he
    have Gx := qI (Gj.o.keptX hk (by simpa using Ne.symm Gt.o))
    have Jt := qI hh.lt
    have Gy := qI hk.size
    clear hb hx hh he hk hlen h64 hlI
    go_wp2_with fail
    refine CL.o.mono ?_
    rintro e w3 ⟨v3, rfl, hnb, hk3⟩
    obtain ⟨a3, c3, rfl, -, -⟩ := hnb.1.form
    have Ge := qI hnb
    have Gc := qI hk3
    have Gz := qI (Jq.o.kept hk3 (by simp))
    have y8 := Gz.o.c.2.2.2.2.2.2.2.2.1
    have z8 := free_head (o := 8) Gz.o
    clear hnb hk3
    go_wp2_with fail
    go_ret
    have hp3 : ∀ g, vblk (.slice a3 rest.length c3) = some g → g ≠ p := fun g hg => by
     have h1 := (Ge.o.2 g hg).1
     have h2 := Jt.o
     omega
    have hks : Kept [p] w3 (w3.setCell ⟨p, 8, none⟩ (.slice a3 rest.length c3)) := (Kept.refl _ _).setCell (.inl (by simp)) _
    have ee : eatD s l9 = (s', rest) := by rw [← Js.o, HE.o]
    refine ⟨rfl, ?_⟩
    rw [ee]
    exact ⟨⟨_, Gz.o.putV _, Ge.o.1.kept hks (fun g hg => by simpa using hp3 g hg), fun g hg => ⟨Nat.le_trans Gv.o (Nat.le_trans Gy.o (Ge.o.2 g hg).1), (hks.kind (Ge.o.1.lt hg) (by simpa using hp3 g hg)).trans (Ge.o.2 g hg).2⟩⟩,
     ((Gb.o.trans' Jr.o).then Gc.o).trans' hks, (Gx.o.kept0 Gc.o).keptX hks (by simpa using Ne.symm Gt.o)⟩
   ·have h64I : (64 : Int) ≤ rest.length := by omega
    have u2 := hb.head 64 h64
    have hcI : (rest.length : Int) ≤ c := by have := hb.capL; omega
    go_upto_region 8 with fail
    refine wp_grows (n := 53) 10 [Fact.is (.pointer (some ⟨p, 0, none⟩)), Fact.is (.pointer (some ⟨p, 0, none⟩)), Fact.is (.pointer (some ⟨p, 0, none⟩)), Fact.is (.pointer (some ⟨p, 0, none⟩)), Fact.is (S8.agg s'), Fact.is (.slice a rest.length c), Fact.is (.slice a 64 c), Fact.is (S8.agg (blockS s' (rest.take 64))), Fact.is (.pointer (some ⟨p, 0, none⟩)), Fact.is (.pointer (some ⟨p, 0, none⟩))] (by kernel_rfl) rfl (by kernel_rfl) (fun x => by simp only [List.map, puts, Act.put, List.setIfInBounds_toArray, List.set_cons_zero, List.set_cons_succ]; rfl) ?_ ?_
    ·refine ⟨fun x w' hkw b hd => ?_, fun x w' hkw b hd => ?_, fun x w' hkw b hd => ?_, fun x w' hkw b hd => ?_, fun x w' hkw b hd => ?_, fun x w' hkw b hd => ?_, fun x w' hkw b hd => ?_, fun x w' hkw b hd => ?_, fun x w' hkw b hd => ?_, fun x w' hkw b hd => ?_, trivial⟩
     ·go_wp2_with fail
      exact ⟨rfl, Kept.refl _ _⟩
     ·go_wp2_with fail
      exact ⟨rfl, Kept.refl _ _⟩
     ·have d1 : x 1 = _ := hd 1 (by kernel_rfl)
      go_wp2_with fail
      exact ⟨rfl, Kept.refl _ _⟩
     ·have d1 : x 2 = _ := hd 2 (by kernel_rfl)
      go_wp2_with fail
      exact ⟨rfl, Kept.refl _ _⟩
     ·have d1 : x 3 = _ := hd 3 (by kernel_rfl)
      obtain ⟨y0, y1, y2, y3, y4, y5, y6, y7, -, -⟩ := (hh.kept hkw (by simp)).c
      go_wp2_with fail
      exact ⟨rfl, Kept.refl _ _⟩
     ·go_wp2_with fail
      exact ⟨rfl, Kept.refl _ _⟩
     ·have d1 : x 5 = _ := hd 5 (by kernel_rfl)
      go_wp2_with fail
      exact ⟨rfl, Kept.refl _ _⟩
     ·have d1 : x 4 = .agg #[.int .u32 s'.a, .int .u32 s'.b, .int .u32 s'.c, .int .u32 s'.d, .int .u32 s'.e, .int .u32 s'.f, .int .u32 s'.g, .int .u32 s'.h] := hd 4 (by kernel_rfl)
      have d2 : x 6 = _ := hd 6 (by kernel_rfl)
      have CB := block_any w' s' a c (rest.take 64) (by rw [List.length_take]; omega) (u2.kept0 hkw) ((Gj.o.keptX hk (by simpa using Ne.symm Gt.o)).kept0 hkw)
      go_wp2_with fail
      refine CB.mono ?_
      rintro e w3 ⟨rfl, hk3⟩
      have Gc := qI hk3
      clear hk3
      go_wp2_with fail
      exact ⟨rfl, Gc.o⟩
     ·have d1 : x 0 = _ := hd 0 (by kernel_rfl)
      go_wp2_with fail
      exact ⟨rfl, Kept.refl _ _⟩
     ·have d1 : x 8 = _ := hd 8 (by kernel_rfl)
      go_wp2_with fail
      exact ⟨rfl, Kept.refl _ _⟩
    ·intro x w' hkw b hd hwin
     have d1 : x 9 = _ := hd 9 (by decide)
     have d2 := hd 7 (by decide)
     obtain ⟨r, hr⟩ : ∃ r, Hid (r = blockS s' (rest.take 64)) := ⟨_, qI rfl⟩
     rw [← hr.o] at d2
     have d2 : x 7 = .agg #[.int .u32 r.a, .int .u32 r.b, .int .u32 r.c, .int .u32 r.d, .int .u32 r.e, .int .u32 r.f, .int .u32 r.g, .int .u32 r.h] := d2
     have hh' := hh.kept hkw (by simp)
     obtain ⟨y0, y1, y2, y3, y4, y5, y6, y7, -, -⟩ := hh'.c
     have z : ∀ j, w'.frozen? ⟨p, j, none⟩ = false := fun j => free_head hh'
     change wpList _ _ _ [_] _ _
     go_wp2_with fail
     have hps : Kept [p] w' (putS w' p r) := putS_kept _ _ _
     have ht := hb.tail 64 h64
     refine ⟨⟨⟨_, _, rest.drop 64, r, by rw [List.length_drop], by rw [List.length_drop]; exact (ht.1.kept0 hkw).kept hps (fun g hg => by simpa using hx g (ht.2 g hg)), fun g hg => hx g (ht.2 g (by rw [List.length_drop] at hg; exact hg)), hh'.putS r, by rw [hr.o, ← eatD_more s' rest h64]; exact he, by rw [List.length_drop]; omega⟩, (hk.then hkw).trans' hps⟩, by simp only [sliceLen]; omega⟩
theorem eatD_app : ∀ (k : Nat) (s : S8) (a b : List UInt8), a.length ≤ k → eatD s (a ++ b) = eatD (eatD s a).1 ((eatD s a).2 ++ b)
 | 0, s, a, b, h => by
  have : a = [] := List.eq_nil_of_length_eq_zero (by omega)
  subst this
  rw [eatD_done s [] (by simp)]
 | k + 1, s, a, b, h => by
  rcases Nat.lt_or_ge a.length 64 with h64 | h64
  ·rw [eatD_done s a h64]
  ·rw [eatD_more s (a ++ b) (by simp; omega), eatD_more s a h64, List.take_append_of_le_length h64, List.drop_append_of_le_length h64]
   exact eatD_app k _ _ _ (by simp; omega)
def padL (r m : Nat) : List UInt8 := [128] ++ (List.replicate ((119 - r) % 64) 0 ++ putL (8 * m) 8)
def S8.get (s : S8) (j : Nat) : Int := s.list.getD j 0
def outB (s : S8) (i : Nat) : UInt8 := UInt8.ofNat ((s.get (i / 4)) / 2 ^ (24 - 8 * (i % 4)) % 256).toNat
def outL (s : S8) : List UInt8 := (List.range 32).map (outB s)
theorem outL_len (s : S8) : (outL s).length = 32 := by simp [outL]
def shaL (l : List UInt8) : List UInt8 := outL (eatD startS (l ++ padL (l.length % 64) l.length)).1
theorem shaL_len (l : List UInt8) : (shaL l).length = 32 := outL_len _
theorem bv_outB (s : S8) (i : Nat) : bv (outB s i) = .int .u8 ((s.get (i / 4)) / 2 ^ (24 - 8 * (i % 4)) % 256) := by
 rw [outB, bv_ofNat]
 congr 1
 omega
def outK (s : S8) (k : Nat) : List UInt8 := (List.range 32).map (fun i => if i < k then outB s i else 0)
theorem outK_len (s : S8) (k : Nat) : (outK s k).length = 32 := by simp [outK]
theorem outK_all (s : S8) : outK s 32 = outL s := by
 apply List.map_congr_left
 intro i hi
 rw [if_pos (List.mem_range.1 hi)]
theorem outK_set (s : S8) (k : Nat) (hk : k < 32) : ((outK s k).map bv).toArray.setIfInBounds k (.int .u8 ((s.get (k / 4)) / 2 ^ (24 - 8 * (k % 4)) % 256)) = ((outK s (k + 1)).map bv).toArray := by
 rw [← bv_outB, List.setIfInBounds_toArray]
 congr 1
 apply List.ext_getElem
 ·simp [outK]
 ·intro i h1 h2
  rw [List.getElem_set]
  by_cases e : k = i
  ·subst e; simp [outK]
  ·rw [if_neg e]
   simp only [outK, List.getElem_map, List.getElem_range]
   congr 1
   by_cases h : i < k
   ·rw [if_pos h, if_pos (by omega)]
   ·rw [if_neg h, if_neg (by omega)]
theorem HashAt.st {w : World} {p : Nat} {s : S8} {v : Value} {n : Int} (h : HashAt w p s v n) (j : Nat) (hj : j < 8) : w.cell? ⟨p, j, none⟩ = some (.int .u32 (s.get j)) := by
 obtain ⟨y0, y1, y2, y3, y4, y5, y6, y7, -, -⟩ := h.c
 obtain rfl | rfl | rfl | rfl | rfl | rfl | rfl | rfl : j = 0 ∨ j = 1 ∨ j = 2 ∨ j = 3 ∨ j = 4 ∨ j = 5 ∨ j = 6 ∨ j = 7 := by omega
 all_goals assumption
def z32 : Array Value := #[.int .u8 0, .int .u8 0, .int .u8 0, .int .u8 0, .int .u8 0, .int .u8 0, .int .u8 0, .int .u8 0, .int .u8 0, .int .u8 0, .int .u8 0, .int .u8 0, .int .u8 0, .int .u8 0, .int .u8 0, .int .u8 0, .int .u8 0, .int .u8 0, .int .u8 0, .int .u8 0, .int .u8 0, .int .u8 0, .int .u8 0, .int .u8 0, .int .u8 0, .int .u8 0, .int .u8 0, .int .u8 0, .int .u8 0, .int .u8 0, .int .u8 0, .int .u8 0]
def Sum32 (w : World) (g : Nat) (l : List UInt8) : Prop := w.heap[g]? = some (.cells (l.map bv).toArray 22 (0, 0))
theorem Sum32.range {w : World} {g : Nat} {l : List UInt8} (h : Sum32 w g l) : w.rangeAt g 0 (l.map bv) := fun j v hv => by
 rw [Nat.zero_add]; exact cell_head h (by simpa using hv)
theorem Sum32.there {w : World} {g : Nat} {l : List UInt8} (h : Sum32 w g l) (n : Nat) (hn : l.length = n) : w.there g 0 n := fun j hj => by
 rw [Nat.zero_add]
 exact ⟨by rw [cell_head (v := bv (l[j]'(by omega))) h (by rw [List.getElem?_toArray, List.getElem?_map, List.getElem?_eq_getElem (by omega)]; rfl)]; rfl, free_head h⟩
theorem Sum32.lt {w : World} {g : Nat} {l : List UInt8} (h : Sum32 w g l) : g < w.heap.size := lt_of_block h
theorem Sum32.put {w : World} {g : Nat} {l l' : List UInt8} (h : Sum32 w g l) (hl : l'.length = l.length) : Sum32 (w.setCells g 0 (l'.map bv)) g l' := by
 obtain ⟨cur, h1, h2, h3⟩ := setCells_at g (l'.map bv) 0 w _ h
 have e : cur = (l'.map bv).toArray := by
  apply Array.ext
  ·rw [h2]; simp [hl]
  ·intro i hi1 hi2
   have hi3 : i < l.length := by rw [h2] at hi1; simpa using hi1
   have h4 := h3 i (by simpa using hi3)
   rw [if_pos (by simp; omega), Array.getElem?_eq_getElem hi1] at h4
   rw [Nat.sub_zero, List.getElem?_eq_getElem (by simp; omega)] at h4
   rw [Option.some.inj h4]
   simp
 unfold Sum32
 rw [h1, e]
theorem info32 : (Tryz.prog.info? 22).map (·.size) = some 32 := by kernel_rfl
theorem one32 (l : List UInt8) : (l.map bv).toArray.all (·.oneCell') = true := all_oneCell_toArray (bvs_one l)
theorem kscells {w : World} (h : KsAt w) : 2 < w.heap.size := World.block_lt_of_cell? w _ (h 0 _ rfl)
theorem sum_any (w : World) (p : Nat) (s : S8) (v : Value) (l : List UInt8) (m : Nat) (h : HashAt w p s v m) (hb : Bytes w v l) (hl : l.length < 64) (hm : m ≤ 100000000000) (hks : KsAt w) :
  Calls Tryz.prog 102 #[.pointer (some ⟨p, 0, none⟩)] w fun e w' => e = .returned (.agg ((outL (eatD s (l ++ padL l.length m)).1).map bv).toArray) ∧ Kept [] w w' := by
 have HH := qI h
 have HB := qI hb
 have Gr := qI hks
 have HM := qI hm
 have hlI : (l.length : Int) < 64 := by omega
 have HL := qI hl
 clear h hb hks hm hl
 go_enter Tryz.func102, Tryz.ntmps102
 go_upto_region 4 with fail
 change Code.wp _ _ _ _ ((w.alloc (.cells z32 22)).alloc (.cells z32 22))
 obtain ⟨W1, Gd⟩ : ∃ W1, Hid (W1 = (w.alloc (.cells z32 22)).alloc (.cells z32 22)) := ⟨_, qI rfl⟩
 have Gb : Hid (Kept [] w W1) := qI (by rw [Gd.o]; exact ((Kept.refl _ w).alloc _).alloc _)
 have Ju : Hid (Sum32 W1 w.heap.size (outK s 0)) := qI (by rw [Gd.o]; exact ((Kept.refl [] _).alloc _).heap (block_alloc rfl) (by simp))
 have Jv : Hid (Sum32 W1 (w.heap.size + 1) (outK s 0)) := qI (by rw [Gd.o]; exact block_alloc (by simp))
 have Jw : Hid (W1.heap.size = w.heap.size + 2) := qI (by rw [Gd.o]; simp)
 rw [← Gd.o]
 have CF := qI (fork_any W1 p s v l m (HH.o.kept Gb.o (by simp)) (HB.o.kept0 Gb.o) (by have := HL.o; unfold lim; omega))
 obtain ⟨z, HZ⟩ : ∃ z, Hid (z = (119 - l.length) % 64) := ⟨_, qI rfl⟩
 have hz64 : z < 64 := by rw [HZ.o]; omega
 have ez : ((119 - (l.length : Int)) % 64) = (z : Int) := by rw [HZ.o]; omega
 have hmk : ∀ W : World, (Instr.makeSlice 82 (.int .i64 z) (.int .i64 z)).run Tryz.prog W = .ok (.slice (some ⟨W.heap.size, 0, none⟩) z z) (W.alloc (.cells (madeCells #[.int .u8 0] z) 5)) := fun W => run_makeB W z (by unfold lim; omega)
 have CP : Hid (∀ W : World, Calls Tryz.prog 139 #[.int .i64 (8 * (m : Int)), .int .i64 8] W fun e w' => ∃ v, e = .returned (.tuple #[v, .int .i64 0]) ∧ NewBytes W w' v (putL (8 * m) 8) ∧ Kept [] W w') := qI fun W => by
  have h1 := octPut_any (8 * m) 8 W (by decide) (by decide) (.inl rfl)
  rwa [show ((8 * m : Nat) : Int) = 8 * (m : Int) by omega] at h1
 have hmI : (m : Int) ≤ 100000000000 := by have := HM.o; omega
 go_upto_region 6 with (go_at_call 138; refine CF.o.mono ?_; rintro e w2 ⟨q, v', rfl, hq, hh2, hb2, hv2, hk2⟩; obtain ⟨av, cv, rfl, -, -⟩ := hb2.form; have HQ := qI hq; have Ja := qI hh2; have Jx := qI hb2; have Jy := qI hv2; have Gg := qI hk2; have x8 := hh2.c.2.2.2.2.2.2.2.2.1; clear hq hh2 hb2 hv2 hk2)
 have x9 := ((HH.o.kept Gb.o (by simp)).kept Gg.o (by simp)).c.2.2.2.2.2.2.2.2.2
 have hwr : wrap64 (8 * (m : Int)) = 8 * (m : Int) := by unfold wrap64; omega
 clear x8
 go_upto_region 7 with (go_at_call 139; refine (CP.o _).mono ?_; rintro e w3 ⟨v3, rfl, hnb3, hk3⟩; obtain ⟨a3, c3, rfl, -, -⟩ := hnb3.1.form; rw [putL_len] at hnb3 ⊢; have Jb := qI hnb3; have Gc := qI hk3; clear hnb3 hk3 x9)
 obtain ⟨W4, Gk⟩ : ∃ W4, Hid (W4 = (w3.alloc (.cells #[.int .u8 128] 5)).alloc (.cells (madeCells #[.int .u8 0] z) 5)) := ⟨_, qI rfl⟩
 have Gh : Hid (Kept [] w3 W4) := qI (by rw [Gk.o]; exact ((Kept.refl _ w3).alloc _).alloc _)
 have Jz : Hid (Bytes W4 (.slice (some ⟨w3.heap.size, 0, none⟩) 1 1) [128]) := qI (by rw [Gk.o]; exact (slc_one w3 (bv 128) _ _ rfl).kept0 ((Kept.refl [] _).alloc _))
 have Jc : Hid (Bytes W4 (.slice (some ⟨w3.heap.size + 1, 0, none⟩) z z) (List.replicate z 0)) := qI (by
  have h1 := Slc.of_row (zeros_own (w3.alloc (.cells #[.int .u8 128] 5)) 0 z (by unfold lim; omega) (Nat.zero_le _))
  rw [Gk.o]
  have e1 : (w3.alloc (.cells #[.int .u8 128] 5)).heap.size = w3.heap.size + 1 := by simp
  rw [e1] at h1
  unfold Bytes
  rw [List.length_replicate]
  exact h1)
 have Ma : Hid (Bytes W4 (.slice a3 8 c3) (putL (8 * m) 8)) := qI (Jb.o.1.kept0 Gh.o)
 have Mb : Hid (W4.heap.size = w3.heap.size + 2) := qI (by rw [Gk.o]; simp)
 obtain ⟨W5, Jd⟩ : ∃ W5, Hid (W5 = W4.alloc (.cells #[.slice (some ⟨w3.heap.size, 0, none⟩) 1 1, .slice (some ⟨w3.heap.size + 1, 0, none⟩) z z, .slice a3 8 c3] 82)) := ⟨_, qI rfl⟩
 have Gf : Hid (Kept [] W4 W5) := qI (by rw [Jd.o]; exact (Kept.refl _ W4).alloc _)
 have CC : Hid (Calls Tryz.prog 135 #[.slice (some ⟨w3.heap.size + 1 + 1, 0, none⟩) 3 3] W5 fun e w' => ∃ v', e = .returned v' ∧ NewBytes W5 w' v' (padL l.length m) ∧ Kept [] W5 w') := qI (by
  have hrow : Row W5 W4.heap.size 0 [.slice (some ⟨w3.heap.size, 0, none⟩) 1 1, .slice (some ⟨w3.heap.size + 1, 0, none⟩) z z, .slice a3 8 c3] := by rw [Jd.o]; exact row_new W4 _ _
  have h1 := concat3 W4.heap.size 3 _ _ _ [128] (List.replicate z 0) (putL (8 * m) 8) W5 hrow (Jz.o.kept0 Gf.o) (Jc.o.kept0 Gf.o) (Ma.o.kept0 Gf.o) (by rw [putL_len]; simp [lim]; omega)
  rw [Mb.o] at h1
  rw [HZ.o] at h1
  exact h1)
 have hpl : Hid ((padL l.length m).length = 9 + z) := qI (by simp [padL, putL_len, HZ.o]; omega)
 obtain ⟨R, HR⟩ : ∃ R, Hid (R = eatD s (l ++ padL l.length m)) := ⟨_, qI rfl⟩
 have Ji : Hid (Kept [] w W5) := qI (((Gb.o.then Gg.o).then Gc.o).then (Gh.o.then Gf.o))
 have Gl : Hid (w.heap.size + 2 ≤ q) := qI (by have := HQ.o; have := Jw.o; omega)
 have Mc := qI (kscells Gr.o)
 go_upto_region 8 with first
  | (go_at_call 135; rw [← Gk.o, ← Jd.o]; refine CC.o.mono ?_; rintro e w6 ⟨v6, rfl, hnb6, hk6⟩; obtain ⟨a6, c6, rfl, -, -⟩ := hnb6.1.form; have Gm := qI hnb6; have Gn := qI hk6; clear hnb6 hk6)
  | (go_at_call 101; refine (write_any w6 q s (.slice av l.length cv) (.slice a6 (padL l.length m).length c6) l (padL l.length m) m (Ja.o.kept (((Gc.o.then Gh.o).then Gf.o).then Gn.o) (by simp)) (Jx.o.kept0 (((Gc.o.then Gh.o).then Gf.o).then Gn.o)) (fun g hg => ?_) Gm.o.1 (fun g hg => ?_) (Nat.le_of_lt HL.o) (by rw [hpl.o]; omega) (by omega) (by have := HM.o; omega) (Gr.o.kept0 (Ji.o.then Gn.o)) (by have := Mc.o; have := Gl.o; omega)).mono ?_)
 ·exact ne_kind (Jy.o g hg).2 Ja.o.kd (by decide)
 ·have h1 := (Gm.o.2 g hg).1
  have h2 := Ja.o.lt
  have h3 := ((Gc.o.then Gh.o).then Gf.o).size
  omega
 rintro e w7 ⟨rfl, hwr7⟩
 rw [← HR.o] at hwr7
 obtain ⟨⟨v7, hh7, -, -⟩, hk7, -⟩ := hwr7
 have Md := qI hh7
 have Me : Hid (Kept [] w w7) := qI ((Ji.o.then Gn.o).trans hk7 (by intro i hi; simp at hi; subst hi; exact .inr (by have := Gl.o; omega)))
 have Jj : Hid (Kept [q] W1 w7) := qI (((Gg.o.then Gc.o).then ((Gh.o.then Gf.o).then Gn.o)).mono (by simp) |>.trans' hk7)
 have Mf : Hid (Sum32 w7 (w.heap.size + 1) (outK R.1 0)) := qI (Jj.o.heap Jv.o (by have := Gl.o; simp; omega))
 have Mg : Hid (Sum32 w7 w.heap.size (outK R.1 0)) := qI (Jj.o.heap Ju.o (by have := Gl.o; simp; omega))
 clear hh7 hk7 hmk ez hz64
 go_wp2_with fail
 go_loopw [38] (fun i wr => ∃ k : Nat, i = .int .i64 k ∧ k ≤ 32 ∧ Sum32 wr (w.heap.size + 1) (outK R.1 k) ∧ Sum32 wr w.heap.size (outK R.1 0) ∧ HashAt wr q R.1 v7 (m + (padL l.length m).length) ∧ Kept [] w wr) (fun i _ => 32 - (intOf i).toNat)
 case atStart => exact ⟨0, rfl, Nat.zero_le _, Mf.o, Mg.o, Md.o, Me.o⟩
 case round =>
  obtain ⟨k, rfl, hk, ho, hr, hh, hkr⟩ := hrel
  have HO := qI ho
  have Je := qI hr
  have Mh := qI hh
  have Ga := qI hkr
  rcases Nat.lt_or_ge k 32 with h32 | h32
  ·have h32I : (k : Int) < 32 := by omega
   have c0 := hh.st (k / 4) (by omega)
   have o0 := cell_head (o := k) (v := bv ((outK R.1 k)[k]'(by rw [outK_len]; exact h32))) ho (by rw [List.getElem?_toArray, List.getElem?_map, List.getElem?_eq_getElem (by rw [outK_len]; exact h32)]; rfl)
   have f0 := free_head (o := k) ho
   clear ho hr hh hkr
   go_wp2_with fail
   case roundEnd =>
    have hst : Kept [w.heap.size + 1] wr (wr.setCell ⟨w.heap.size + 1, k, none⟩ (.int .u8 (R.1.get (k / 4) / 2 ^ (24 - 8 * (k % 4)) % 256))) := (Kept.refl _ _).setCell (.inl (by simp)) _
    exact ⟨⟨k + 1, by go_num, by omega, block_setCell HO.o (outK_set R.1 k h32), hst.heap Je.o (by simp), Mh.o.kept hst (by have := Gl.o; simp; omega), Ga.o.setCell (.inr (by simp)) _⟩, by simp [intOf]; omega⟩
  ·obtain rfl : k = 32 := by omega
   clear ho hr hh hkr hmI hwr hlI
   rw [outK_all] at HO
   have hsz : ((outL R.1).map bv).toArray.size = 32 := by simp [outL_len]
   go_upto_region 13 with fail
   refine wp_region_list ?_
   change wpList _ _ _ [_, _] _ _
   refine wpList_load_mid (by rfl) 22 (.tmp 3) (by rfl) (w.heap.size + 1) 0 (by rfl) ((outL R.1).map bv) _ HO.o.range Tryz.underlying22 rfl (by rw [List.length_map, outL_len]; exact info32) ?_
   refine wpList_store_mid (by rfl) 22 (.tmp 2) (.tmp 57) (by rfl) w.heap.size 0 ((outL R.1).map bv).toArray (by rfl) (by rfl) (by rw [hsz]; exact Je.o.there 32 (outK_len _ _)) (by rw [hsz]; exact info32) (one32 _) ?_
   have hF : Hid (Sum32 (wr.setCells w.heap.size 0 ((outL R.1).map bv)) w.heap.size (outL R.1)) := qI (Je.o.put (by rw [outL_len, outK_len]))
   have hKF : Hid (Kept [] w (wr.setCells w.heap.size 0 ((outL R.1).map bv))) := qI (Ga.o.trans (setCells_kept w.heap.size ((outL R.1).map bv) 0 wr) (by intro i hi; simp at hi; subst hi; exact .inr (Nat.le_refl _)))
   revert hF hKF
   show _ → _ → wpList _ _ _ _ _ (wr.setCells w.heap.size 0 ((outL R.1).map bv))
   generalize wr.setCells w.heap.size 0 ((outL R.1).map bv) = WF
   intro hF hKF
   have hres := run_loadVar_mid (P := Tryz.prog) WF w.heap.size 0 22 ((outL R.1).map bv) _ hF.o.range Tryz.underlying22 rfl (by rw [List.length_map, outL_len]; exact info32)
   rw [HR.o] at hres
   try simp only [zA,zN,zB,zC,zD]
   go_wp2_with fail
   exact bodyPost_ret (v := .agg ((outL (eatD s (l ++ padL l.length m)).1).map bv).toArray) (by simp only [results, Tryz.results102]; simp [hres, Sem.run_bind, asAddr]) rfl ⟨rfl, hKF.o⟩
open Go.Lib (decodeL)
theorem strB_size (l : List UInt8) : (strB l).size = l.length := by simp [strB, ByteArray.size]
theorem Bytes.toStr {w : World} {v : Value} {l : List UInt8} (h : Bytes w v l) : (convert 82 9 v).run Tryz.prog w = .ok (.string (strB l)) w := by
 rcases h.2 with ⟨rfl, h0⟩ | ⟨h0, ad, cap, rfl, hm⟩ | ⟨g, o, cap, rfl, hc, hm, hr⟩
 ·have : l = [] := List.eq_nil_of_length_eq_zero h0
  subst this
  have h1 := run_convert_bytes_nil (P := Tryz.prog) w 82 5 Tryz.underlying82 Tryz.underlying5 0 0 9 Tryz.underlying9
  have e1 : strB [] = ByteArray.empty := by rfl
  rw [e1]
  exact h1
 ·have : l = [] := List.eq_nil_of_length_eq_zero h0
  subst this
  have h1 := run_convert_bytes_string (P := Tryz.prog) w 82 9 5 (some ad) 0 cap Tryz.underlying82 Tryz.underlying5 Tryz.underlying9
  rw [h1]
  rfl
 ·have h1 := run_convert_bytes_arg (P := Tryz.prog) w 82 5 Tryz.underlying82 Tryz.underlying5 g o l.length cap (l.map fun b => (b.toNat : Int)) (by simp) (fun i hi => by
   rw [hr.at (by simpa using hi)]
   simp [bv, List.getD_eq_getElem?_getD, hi]) 9 Tryz.underlying9
  have e2 : strOfNums (l.map fun b => (b.toNat : Int)) = strB l := by
   unfold strOfNums strB
   rw [List.map_map]
   have e3 : ((fun n : Int => UInt8.ofNat n.toNat) ∘ fun b : UInt8 => (b.toNat : Int)) = id := funext fun b => by simp
   rw [e3, List.map_id]
  rw [← e2]
  exact h1
theorem refNext_any (s : ByteArray) (hs : s.size ≤ 281474976710656) (w : World) :
  Calls Tryz.prog 130 #[.string s] w fun e w' => e = .returned (.tuple #[.int .i64 (nextZ s.data.toList).1, .int .i64 (nextZ s.data.toList).2]) ∧ Kept [] w w' := by
 have HZ := qI (nextGo_eq s.data.toList)
 have HL : Hid (s.data.toList.length = s.size) := qI (by simp)
 go_enter Tryz.func130, Tryz.ntmps130
 go_wp2_with fail
 go_loopw [4] (fun i wr => ∃ k : Nat, 1 ≤ k ∧ k ≤ 5 ∧ i = .int .i64 k ∧ nextGo (5 - k) k s.data.toList = nextGo 4 1 s.data.toList ∧ Kept [] w wr) (fun i _ => 5 - (intOf i).toNat)
 case atStart => exact ⟨1, by omega, by omega, rfl, rfl, Kept.refl _ _⟩
 case round =>
  obtain ⟨k, hk1, hk5, rfl, hg, hkr⟩ := hrel
  have HG := qI hg
  have Ga := qI hkr
  clear hg hkr
  by_cases hgo : k ≤ 4 ∧ k ≤ s.size
  ·obtain ⟨h4, hks⟩ := hgo
   have h4I : (k : Int) ≤ 4 := by omega
   have hksI : (k : Int) ≤ s.size := by omega
   have hg2 : nextGo (5 - k) k s.data.toList = if mayZ (codeZ s.data.toList k) = true ∧ runeB (codeZ s.data.toList k).toNat = s.data.toList.take k then (codeZ s.data.toList k, k) else nextGo (5 - (k + 1)) (k + 1) s.data.toList := by
    rw [show 5 - k = (5 - (k + 1)) + 1 by omega]
    conv => lhs; unfold nextGo
    rw [if_pos ⟨h4, by rw [HL.o]; exact hks⟩]
   have Gp := qI hg2
   have CC := qI (code_any s k hk1 h4 hks hs wr)
   have HT : Hid ((s.extract 0 k).data.toList = s.data.toList.take k) := qI (by rw [ext_list s 0 k hks]; simp)
   clear hg2
   revert Gp CC
   generalize codeZ s.data.toList k = c
   intro Gp CC
   cases hmay : mayZ c with
   | false =>
    have HM := qI hmay
    clear hmay
    go_wp2_with (go_at_call 167; refine CC.o.mono ?_; rintro e w2 ⟨rfl, rfl⟩)
    refine wp_region_ext wr (by kernel_rfl) (by kernel_rfl) (Kept.refl _ _) ?_
    repeat go_big_quiet_step ((go_at_call 168; exact ext_same ((may_any c _).mono (by rw [HM.o]; exact fun _ _ h => h))))
    refine wpQuiet_nil ?_
    intro w2 hk2
    go_wp2_with fail
    case roundEnd =>
     refine ⟨⟨k + 1, by omega, by omega, by go_num, ?_, Ga.o.then hk2⟩, by simp [intOf]; omega⟩
     rw [← HG.o, Gp.o, if_neg (by rw [HM.o]; simp)]
   | true =>
    obtain ⟨m, rfl, hm⟩ := mayZ_iff.1 hmay
    have HM := qI hmay
    have Mi := qI hm
    clear hmay hm
    go_wp2_with (go_at_call 167; refine CC.o.mono ?_; rintro e w2 ⟨rfl, rfl⟩)
    refine wp_region_last' (n := 11) (fun w' : World => Kept [] wr w') 11 (by kernel_rfl) (by kernel_rfl) ?_
    change wpAnyT _ _ _ _ _ _ _ _ _ wr.drew
    have hSS : (fun w' : World => Kept [] wr w') wr.drew := (Kept.refl _ _).drew
    revert hSS
    generalize wr.drew = W
    intro hSS
    refine wpAnyT_start ?_
    intro O R hO hR
    have hQp : ∀ c a (d : Nat) v w, R (.panic c) (a.put (some d) v) w → R (.panic c) a w := by subst hR; exact fun _ _ _ _ _ h => h
    refine wpAnyT_take' (i := 0) (v := ?_) hO rfl rfl (by kernel_rfl) (by kernel_rfl) (by kernel_rfl) (by kernel_rfl) hQp (Or.inl ⟨by kernel_rfl, fun w hSw => ?_⟩) hSS ?_
    rotate_left
    ·go_simp; try with_reducible rfl
    try simp only [zA,zN,zB,zC,zD]
    refine wpAnyT_one' (i := 1) hO rfl (by kernel_rfl) (by kernel_rfl) (fun K hK => ?_)
    go_simp
    refine Calls.mono (may_any _ _) ?_
    rintro e w2 ⟨rfl, rfl⟩
    rw [HM.o]
    refine hK _ _ (.inr hSS) ?_
    clear hK K
    try simp only [zA,zN,zB,zC,zD]
    refine wpAnyT_take' (i := 2) (v := ?_) hO rfl rfl (by kernel_rfl) (by kernel_rfl) (by kernel_rfl) (by kernel_rfl) hQp (Or.inl ⟨by kernel_rfl, fun w hSw => ?_⟩) hSS ?_
    rotate_left
    ·go_simp; try with_reducible rfl
    try simp only [zA,zN,zB,zC,zD]
    refine wpAnyT_take' (i := 3) (v := ?_) hO rfl rfl (by kernel_rfl) (by kernel_rfl) (by kernel_rfl) (by kernel_rfl) hQp (Or.inl ⟨by kernel_rfl, fun w hSw => ?_⟩) hSS ?_
    rotate_left
    ·go_simp; try with_reducible rfl
    try simp only [zA,zN,zB,zC,zD]
    refine wpAnyT_take' (i := 6) (v := ?_) hO rfl rfl (by kernel_rfl) (by kernel_rfl) (by kernel_rfl) (by kernel_rfl) hQp (Or.inl ⟨by kernel_rfl, fun w hSw => ?_⟩) hSS ?_
    rotate_left
    ·go_simp; try with_reducible rfl
    try simp only [zA,zN,zB,zC,zD]
    refine wpAnyT_take' (i := 7) (v := ?_) hO rfl rfl (by kernel_rfl) (by kernel_rfl) (by kernel_rfl) (by kernel_rfl) hQp (Or.inl ⟨by kernel_rfl, fun w hSw => ?_⟩) hSS ?_
    rotate_left
    ·go_simp; try with_reducible rfl
    try simp only [zA,zN,zB,zC,zD]
    refine wpAnyT_take' (i := 8) (v := ?_) hO rfl rfl (by kernel_rfl) (by kernel_rfl) (by kernel_rfl) (by kernel_rfl) hQp (Or.inl ⟨by kernel_rfl, fun w hSw => ?_⟩) hSS ?_
    rotate_left
    ·go_simp; try with_reducible rfl
    try simp only [zA,zN,zB,zC,zD]
    refine wpAnyT_one' (i := 4) hO rfl (by kernel_rfl) (by kernel_rfl) (fun K hK => ?_)
    go_simp
    refine Calls.mono (refBytes_any m Mi.o _) ?_
    rintro e w2 ⟨⟨ab, cb, rfl, hb⟩, hk2⟩
    have cv : (convert 82 9 (.slice ab (runeB m).length cb)).run Tryz.prog w2 = .ok (.string (strB (runeB m))) w2 := Bytes.toStr hb
    have hS2 : (fun w' : World => Kept [] wr w') w2 := Kept.trans' hSS hk2
    refine hK _ _ (.inr hS2) ?_
    clear hK K
    try simp only [zA,zN,zB,zC,zD]
    clear hSS
    have hSS := hS2
    clear hS2 hb
    refine wpAnyT_one' (i := 5) hO rfl (by kernel_rfl) (by kernel_rfl) (fun K hK => ?_)
    go_simp
    refine hK _ _ (.inr hSS) ?_
    clear hK K
    try simp only [zA,zN,zB,zC,zD]
    clear cv
    by_cases heq : runeB m = s.data.toList.take k
    ·have ft : ((strB (runeB m)).toList == (s.extract 0 k).toList) = true := (str_eq (ba_eq (by rw [strB_list, HT.o, heq]))).1
     have Gq : Hid (nextGo (5 - k) k s.data.toList = ((m : Int), k)) := qI (by rw [Gp.o, if_pos ⟨HM.o, by rw [Int.toNat_natCast]; exact heq⟩])
     clear heq
     refine wpAnyT_take' (i := 9) (v := ?_) hO rfl rfl (by kernel_rfl) (by kernel_rfl) (by kernel_rfl) (by kernel_rfl) hQp (Or.inl ⟨by kernel_rfl, fun w hSw => ?_⟩) hSS ?_
     rotate_left
     ·go_simp; try with_reducible rfl
     try simp only [zA,zN,zB,zC,zD]
     refine wpAnyT_take' (i := 10) (v := ?_) hO rfl rfl (by kernel_rfl) (by kernel_rfl) (by kernel_rfl) (by kernel_rfl) hQp (Or.inl ⟨by kernel_rfl, fun w hSw => ?_⟩) hSS ?_
     rotate_left
     ·go_simp; try with_reducible rfl
     try simp only [zA,zN,zB,zC,zD]
     refine wpAnyT_done' hO (by kernel_rfl) ?_ _
     subst hR
     try clear hQp hO O
     go_wp2_with fail
     go_ret2
     rw [← HZ.o, ← HG.o, Gq.o]
     exact ⟨rfl, Ga.o.then hSS⟩
    ·have ft : ((strB (runeB m)).toList == (s.extract 0 k).toList) = false := (str_ne (fun e => heq (by rw [← HT.o, ← e, strB_list]))).1
     have Gq : Hid (nextGo (5 - k) k s.data.toList = nextGo (5 - (k + 1)) (k + 1) s.data.toList) := qI (by rw [Gp.o, if_neg (fun e => heq (by have := e.2; rw [Int.toNat_natCast] at this; exact this))])
     clear heq
     refine wpAnyT_take' (i := 9) (v := ?_) hO rfl rfl (by kernel_rfl) (by kernel_rfl) (by kernel_rfl) (by kernel_rfl) hQp (Or.inl ⟨by kernel_rfl, fun w hSw => ?_⟩) hSS ?_
     rotate_left
     ·go_simp; try with_reducible rfl
     try simp only [zA,zN,zB,zC,zD]
     refine wpAnyT_take' (i := 10) (v := ?_) hO rfl rfl (by kernel_rfl) (by kernel_rfl) (by kernel_rfl) (by kernel_rfl) hQp (Or.inl ⟨by kernel_rfl, fun w hSw => ?_⟩) hSS ?_
     rotate_left
     ·go_simp; try with_reducible rfl
     try simp only [zA,zN,zB,zC,zD]
     refine wpAnyT_done' hO (by kernel_rfl) ?_ _
     subst hR
     try clear hQp hO O
     go_wp2_with fail
     case roundEnd => exact ⟨⟨k + 1, by omega, by omega, by go_num, by rw [← HG.o, Gq.o], Ga.o.then hSS⟩, by simp [intOf]; omega⟩
  ·have Gq : Hid (nextZ s.data.toList = (-1, 0)) := qI (by
    rw [← HZ.o, ← HG.o]
    rcases (by omega : k = 5 ∨ (k ≤ 4 ∧ s.size < k)) with rfl | ⟨h1, h2⟩
    ·rfl
    ·rw [show 5 - k = (4 - k) + 1 by omega]
     unfold nextGo
     rw [if_neg (by rw [HL.o]; omega)])
   rcases (by omega : (5 : Int) ≤ k ∨ ((k : Int) ≤ 4 ∧ (s.size : Int) < k)) with h1 | ⟨h1, h2⟩
   all_goals
    go_wp2_with fail
    go_ret2
    rw [Gq.o]
    exact ⟨rfl, Ga.o⟩
theorem next_valid {l : List UInt8} (h : l ≠ []) : ((nextZ l).2 = 0 ∧ Lib.validD l = false) ∨ (1 ≤ (nextZ l).2 ∧ (nextZ l).2 ≤ l.length ∧ Lib.validD l = Lib.validD (l.drop (nextZ l).2)) := by
 by_cases hb : (decodeL l).1 = 65533 ∧ (decodeL l).2 = 1
 ·refine .inl ⟨?_, ?_⟩
  ·unfold nextZ; rw [if_pos (.inr hb)]
  ·rw [Lib.validD_step l h, if_pos hb]
 ·have D := decoded h hb
  have e : nextZ l = (((decodeL l).1 : Int), (decodeL l).2) := by unfold nextZ; rw [if_neg (by rintro (q | q); exact h q; exact hb q)]
  refine .inr ⟨?_, ?_, ?_⟩
  ·rw [e]; exact D.pos
  ·rw [e]; exact D.le
  ·rw [e, Lib.validD_step l h, if_neg hb]
theorem refValid_any (s : ByteArray) (hs : s.size ≤ 281474976710656) (w : World) :
  Calls Tryz.prog 97 #[.string s] w fun e w' => e = .returned (.bool (bytesOk s)) ∧ Kept [] w w' := by
 go_enter Tryz.func97, Tryz.ntmps97
 go_wp2_with fail
 go_loopw [0] (fun x wr => ∃ t : ByteArray, x = .string t ∧ t.size ≤ s.size ∧ bytesOk t = bytesOk s ∧ Kept [] w wr) (fun x _ => match x with | .string t => t.size | _ => 0)
 case atStart => exact ⟨s, rfl, Nat.le_refl _, rfl, Kept.refl _ _⟩
 case round =>
  obtain ⟨t, rfl, ht, hg, hkr⟩ := hrel
  have HG := qI hg
  have Ga := qI hkr
  clear hg hkr
  by_cases h0 : 0 < t.size
  ·have h0I : (0 : Int) < t.size := by omega
   have hlen : t.data.toList.length = t.size := by simp
   have hne : t.data.toList ≠ [] := fun e => by rw [e] at hlen; simp only [List.length_nil] at hlen; omega
   have CN := qI (refNext_any t (by omega) wr)
   have hv := next_valid hne
   have HX : Hid (∀ i, (t.extract i t.size).data.toList = t.data.toList.drop i) := qI (ext_from t)
   unfold bytesOk at HG
   rw [hlen] at hv
   clear hne hlen
   revert CN hv
   generalize nextZ t.data.toList = r
   obtain ⟨c, k⟩ := r
   intro CN hv
   simp only at CN hv
   rcases hv with ⟨rfl, hv⟩ | ⟨hk1, hk2, hv⟩
   ·have HF : Hid (bytesOk s = false) := qI (by unfold bytesOk; rw [← HG.o, hv])
    clear hv
    go_wp2_with (go_at_call 130; refine CN.o.mono ?_; rintro e w2 ⟨rfl, hk2⟩)
    go_ret
    rw [HF.o]
    exact ⟨rfl, Ga.o.then hk2⟩
   ·have hk1I : (1 : Int) ≤ k := by omega
    have hk2I : (k : Int) ≤ t.size := by omega
    have fk := (nat_ne (a := k) (b := 0) (by omega)).1
    have HV := qI hv
    clear hv
    go_wp2_with (go_at_call 130; refine CN.o.mono ?_; rintro e w2 ⟨rfl, hk2⟩)
    case roundEnd =>
     refine ⟨⟨t.extract k t.size, rfl, by simp; omega, ?_, Ga.o.then hk2⟩, by simp; omega⟩
     unfold bytesOk
     rw [HX.o, ← HV.o, HG.o]
  ·have h1 : t.size = 0 := by omega
   have HF : Hid (bytesOk s = true) := qI (by
    rw [← HG.o]
    have : t.data.toList = [] := List.eq_nil_of_length_eq_zero (by simpa using h1)
    unfold bytesOk
    rw [this]
    rfl)
   have h0' : ¬ (0 : Int) < t.size := by omega
   clear h1
   go_wp2_with fail
   go_ret
   rw [HF.o]
   exact ⟨rfl, Ga.o⟩
end Go.Proofs.YtckbnjipecclaaaGreatDoor

/- Parts of one proof, merged: XUn XPa XPb XDf. -/
import Derived.Test.YtpbphdkjjoipnaaGreatDoorHA
import Derived.Test.YtpbphdkjjoipnaaGreatDoorHC
import Derived.Test.YtpbphdkjjoipnaaGreatDoorHB
import Derived.Laws.OwnMore
import Derived.WalkSpells
import Derived.Test.YtpbphdkjjoipnaaGreatDoorHE
import Derived.Test.YtpbphdkjjoipnaaGreatDoorHF
set_option linter.all false
set_option maxHeartbeats 12800000
set_option maxRecDepth 10000
set_option linter.unusedVariables false
set_option linter.unusedSimpArgs false
set_option linter.unnecessarySimpa false
namespace Go.Proofs.YtpbphdkjjoipnaaGreatDoor
open Go.Proofs.Tryz
open Go.RowKit
theorem bx : kg Tryz.prog 39 9 1 16 (.string ByteArray.empty) := ⟨underlying39, by kernel_rfl, rfl, by decide⟩
def zL (l : List ByteArray) : List Value := l.map Value.string
theorem Q6 (l : List ByteArray) : ∀ u ∈ zL l, u.oneCell' = true := by
 intro u hu
 obtain ⟨x, -, rfl⟩ := List.mem_map.1 hu
 rfl
@[go_sem] theorem eqlNilStrs (w : World) (a : Option Addr) (n c : Nat) : (binOp .eql 39 (.slice a n c) (.slice none 0 0)).run Tryz.prog w = .ok (.bool a.isNone) w := Lib.run_eql_slice_nil w _ _ a n c 0 0 underlying39
theorem cloneStr_any {w : World} {v : Value} {l : List ByteArray} (h : Slc w 1 v l.length (zL l)) (hl : l.length ≤ 1000000) :
  Calls Tryz.prog 110 #[v] w fun e w' => (∃ a c, e = .returned (.slice a l.length c) ∧ w'.ownsRow w.heap.size 9 1 (.slice a l.length c) l.length (zL l)) ∧ zb [] w w' := by
 rcases h.2 with ⟨rfl, h0⟩ | h2
 ·have : l = [] := List.eq_nil_of_length_eq_zero h0
  subst this
  go_enter func110, ntmps110
  go_wp2
  go_ret
  exact ⟨⟨_, _, rfl, World.ownsRow_nil _ _ _ _⟩, zb.refl _ _⟩
 ·obtain ⟨ad, cap, rfl⟩ : ∃ ad cap, v = .slice (some ad) l.length cap := by
   rcases h2 with ⟨h0, a, c, rfl, _⟩ | ⟨g, o, c, rfl, _⟩
   ·exact ⟨a, c, by rw [h0]⟩
   ·exact ⟨_, _, rfl⟩
  have h1 := (zb.refl [] w).alloc (.cells #[] 9)
  have hown := QD (size := 1) (base := w.heap.size) (t := 9) w rfl (Nat.le_refl _)
  have hsrc := h.kept0 h1
  go_enter func110, ntmps110
  go_wp2_with (at_builtin; refine yo bx hown hsrc (Q6 l) (by simp only [maxLen]; omega) (by omega) (by simp) rfl _ _ rfl rfl rfl ?_; intro v' w1 hown1 hk1 _ hb1)
  rw [Nat.zero_add, List.nil_append] at hown1
  obtain ⟨a', c', rfl, -, -⟩ := (Slc.of_row hown1).form
  go_ret
  exact ⟨⟨_, _, rfl, hown1⟩, h1.trans hk1 (by simp [Value.ownBlock])⟩
theorem under_take (at_ : ByteArray) (l : List ByteArray) (k : Nat) (h : k < l.length) : yW at_ (l.take (k + 1)) = yW at_ (l.take k) ++ [qL ++ at_ ++ l[k]] := by
 unfold yW
 rw [List.take_succ_eq_append_getElem h, List.map_append]
 rfl
theorem jS (at_ : ByteArray) (l : List ByteArray) : (yW at_ l).length = l.length := by unfold yW; rw [List.length_map]
def mixL (at_ : ByteArray) (l : List ByteArray) (k : Nat) : List ByteArray := yW at_ (l.take k) ++ l.drop k
theorem mix_at {at_ : ByteArray} {l : List ByteArray} {k : Nat} (h : k < l.length) : (zL (mixL at_ l k))[k]? = some (.string l[k]) := by
 unfold zL mixL
 rw [List.getElem?_map, List.getElem?_append_right (by rw [jS, List.length_take]; omega), jS, List.length_take, Nat.min_eq_left (by omega), Nat.sub_self, List.getElem?_drop, Nat.add_zero, List.getElem?_eq_getElem h]
 rfl
theorem mix_set {at_ : ByteArray} {l : List ByteArray} {k : Nat} (h : k < l.length) : (zL (mixL at_ l k)).set k (.string (qL ++ at_ ++ l[k])) = zL (mixL at_ l (k + 1)) := by
 unfold zL mixL
 rw [under_take at_ l k h, List.drop_eq_getElem_cons h, List.map_append, List.map_cons]
 have e : k = ((yW at_ (l.take k)).map Value.string).length := by rw [List.length_map, jS, List.length_take]; omega
 rw [List.set_append_right _ _ (by omega)]
 rw [show k - ((yW at_ (l.take k)).map Value.string).length = 0 by omega, List.set_cons_zero]
 simp
theorem JJ {w : World} {a : Option Addr} {c : Nat} {l : List ByteArray} (h : Slc w 1 (.slice a l.length c) l.length (zL l)) (hl : l.length ≤ 1000000) (at_ : ByteArray) (ha : at_.size ≤ 1000000000000) (hx : ∀ x, x ∈ l → x.size ≤ 1000000000000) :
  Calls Tryz.prog 75 #[.string at_, .slice a l.length c] w fun e w' => (∃ a c, e = .returned (.slice a l.length c) ∧ w'.ownsRow w.heap.size 9 1 (.slice a l.length c) l.length (zL (yW at_ l))) ∧ zb [] w w' := by
 have CC := qI (cloneStr_any h hl)
 have HX := qI hx
 have hlI : (l.length : Int) ≤ 1000000 := by omega
 clear h hx
 go_enter func75, ntmps75
 go_wp2_with fail
 refine CC.o.mono ?_
 rintro e w1 ⟨⟨a1, c1, rfl, hown1⟩, hk1⟩
 have Gu := qI hown1
 have Gj := qI hk1
 clear hown1 hk1
 go_wp2_with fail
 go_loopw [11] (fun i wr => ∃ k : Nat, i = .int .i64 k ∧ k ≤ l.length ∧ wr.ownsRow w.heap.size 9 1 (.slice a1 l.length c1) l.length (zL (mixL at_ l k)) ∧ zb [] w wr) (fun i _ => l.length - (intOf i).toNat)
 case atStart => exact ⟨0, rfl, Nat.zero_le _, by simpa [mixL, yW] using Gu.o, Gj.o⟩
 case round =>
  obtain ⟨k, rfl, hk, hown, hkw⟩ := hrel
  by_cases hlt : k < l.length
  ·have hltI : (k : Int) < l.length := by omega
   obtain ⟨g, hg⟩ : ∃ g, a1 = some ⟨g, 0, none⟩ := by
    rcases hown.2 with ⟨-, h0⟩ | ⟨g, cap, cur, e, -⟩
    ·omega
    ·injection e with e1 e2 e3
     exact ⟨g, e1⟩
   subst hg
   have q0 := hown.cellAt k (by omega)
   rw [mix_at hlt] at q0
   have q1 := hown.frozenAt k
   have hs := (hown.stored k (.string (qL ++ at_ ++ l[k]))).1
   rw [mix_set hlt] at hs
   have HS := qI hs
   have hgw := (hown.lt g rfl).1
   have Ga := qI (hkw.setCell (p := ⟨g, k, none⟩) (.inr hgw) (.string (qL ++ at_ ++ l[k])))
   have hxs := HX.o _ (List.getElem_mem hlt)
   unfold qL at HS Ga
   revert q0 HS Ga hxs
   generalize l[k] = x
   intro q0 HS Ga hxs
   have hz1 : ¬ 9223372036854775807 < 1 + at_.size := by omega
   have hz2 : ¬ 9223372036854775807 < 1 + at_.size + x.size := by omega
   clear hs hown hkw hgw hxs
   go_wp2_with fail
   case roundEnd => exact ⟨⟨k + 1, by go_num, by omega, HS.o, Ga.o⟩, by simp [intOf]; omega⟩
  ·obtain rfl : k = l.length := by omega
   have HE : Hid (mixL at_ l l.length = yW at_ l) := qI (by unfold mixL; rw [List.take_length, List.drop_length, List.append_nil])
   have Jj := qI hown
   have Ga := qI hkw
   clear hown hkw
   go_wp2_with fail
   go_ret
   exact ⟨⟨_, _, rfl, by rw [← HE.o]; exact Jj.o⟩, Ga.o⟩
def qb (n : Nat) (S : Nat → Prop) (w : World) (x : Value) (ms : List (ByteArray × V n)) : Prop := ∃ mcs, Slc w 6 x ms.length (zQ mcs) ∧ yc (jj (Rep n S w)) mcs ms
theorem qb.kept0 {n : Nat} {S : Nat → Prop} {w w' : World} {x : Value} {ms : List (ByteArray × V n)} (h : qb n S w x ms) (k : zb [] w w') : qb n S w' x ms := by
 obtain ⟨mcs, h1, h2⟩ := h
 exact ⟨mcs, h1.kept0 k, h2.mono fun _ _ _ r => ⟨r.1, r.2.kept0 k⟩⟩
theorem ya.pairs {n : Nat} {S : Nat → Prop} {w : World} {cs : List Value} {v : VS (V n)} {vl vm : Value} {lcs : List (List Value)} {mcs : List (ByteArray × List Value)} (h : ya (Rep n S w) S w cs v vl vm lcs mcs) : qb n S w vm v.m := ⟨mcs, h.slcm, h.allm⟩
theorem qb.form {n : Nat} {S : Nat → Prop} {w : World} {x : Value} {ms : List (ByteArray × V n)} (h : qb n S w x ms) : ∃ a c, x = .slice a ms.length c := by
 obtain ⟨mcs, h1, -⟩ := h
 obtain ⟨a, c, e, -, -⟩ := h1.form
 exact ⟨a, c, e⟩
theorem qb.first {n : Nat} {S : Nat → Prop} {w : World} {x : Value} {p : ByteArray × V n} {t : List (ByteArray × V n)} (h : qb n S w x (p :: t)) :
  ∃ g o cap kd nm s a1 a2 a3 b1 b2 b3, x = .slice (some ⟨g, o, none⟩) (t.length + 1) cap ∧ w.cell? ⟨g, o, none⟩ = some (.string p.1) ∧ w.cell? ⟨g, o + 1, none⟩ = some (.int .i64 kd) ∧ w.cell? ⟨g, o + 1 + 1, none⟩ = some (.int .i64 nm) ∧ w.cell? ⟨g, o + 1 + 2, none⟩ = some (.string s) ∧
   w.cell? ⟨g, o + 1 + 3, none⟩ = some (.slice a1 a2 a3) ∧ w.cell? ⟨g, o + 1 + 4, none⟩ = some (.slice b1 b2 b3) ∧ Rep n S w [.int .i64 kd, .int .i64 nm, .string s, .slice a1 a2 a3, .slice b1 b2 b3] p.2 ∧
   ∃ a' c', (∀ W, (Instr.slice 23 (.slice (some ⟨g, o, none⟩) (t.length + 1) cap) (some (.int .i64 1)) none none).run Tryz.prog W = .ok (.slice a' t.length c') W) ∧ qb n S w (.slice a' t.length c') t := by
 obtain ⟨mcs, h1, h2⟩ := h
 cases mcs with
 | nil => exact absurd h2.1 (by simp)
 | cons m mt =>
  have hm := h2.2 0 _ _ rfl rfl
  obtain ⟨kd, nm, s, a1, a2, a3, b1, b2, b3, e⟩ := hm.2.conv
  obtain ⟨a', c', hrun, hsl⟩ := slc_tail kD h1 1 (by simp)
  rw [Qh _ 1 (fun q hq => by obtain ⟨y, -, hy⟩ := h2.mem_left hq; exact hy.2.len)] at hsl
  rw [show (p :: t).length - 1 = t.length from rfl] at hrun hsl
  rw [List.drop_succ_cons, List.drop_zero] at hsl
  have ht : yc (jj (Rep n S w)) mt t := ⟨by simpa using h2.1, fun j a b ha hb => h2.2 (j + 1) a b ha hb⟩
  rcases h1.2 with ⟨-, h0⟩ | ⟨h0, -⟩ | ⟨g, o, cap, e1, -, -, hr⟩
  ·simp at h0
  ·simp at h0
  ·have hc : zQ (m :: mt) = .string p.1 :: .int .i64 kd :: .int .i64 nm :: .string s :: .slice a1 a2 a3 :: .slice b1 b2 b3 :: zQ mt := by
    show zM m ++ zQ mt = _
    unfold zM
    rw [e, hm.1]
    rfl
   rw [hc] at hr
   rw [e1] at hrun
   refine ⟨g, o, cap, kd, nm, s, a1, a2, a3, b1, b2, b3, e1, hr.cells 0 _ rfl, hr.cells 1 _ rfl, hr.cells 2 _ rfl, hr.cells 3 _ rfl, hr.cells 4 _ rfl, hr.cells 5 _ rfl, ?_, a', c', hrun, mt, hsl, ht⟩
   rw [← e]
   exact hm.2
def vh (n : Nat) : Prop := ∀ (a b : V n) {S T : Nat → Prop} {w : World} {ca cb : List Value}, Rep n S w ca a → Rep n T w cb b → b8 n a → b8 n b → yK w →
 Calls Tryz.prog 46 #[.agg ca.toArray, .agg cb.toArray] w fun e w' => (∃ p c, e = .returned (.slice p (zY n a b).length c) ∧ w'.ownsRow w.heap.size 9 1 (.slice p (zY n a b).length c) (zY n a b).length (zL (zY n a b))) ∧ zb [] w w'
def KE : Value → Nat | .slice _ n _ => n | _ => 0
theorem maps_nil {α : Type} (sub : α → α → List ByteArray) (f : Nat) : yy sub f [] [] = [] := by cases f <;> rfl
theorem maps_left {α : Type} {sub : α → α → List ByteArray} {f : Nat} {x : ByteArray × α} {a b : List (ByteArray × α)} (hf : (x :: a).length + b.length ≤ f) (h : b = [] ∨ ∃ y t, b = y :: t ∧ ltB x.1 y.1 = true) : ∃ f', a.length + b.length ≤ f' ∧ yy sub f (x :: a) b = (qL ++ x.1) :: yy sub f' a b := by
 cases f with
 | zero => simp at hf
 | succ f =>
  refine ⟨f, by simp only [List.length_cons] at hf; omega, ?_⟩
  rcases h with rfl | ⟨y, t, rfl, h⟩
  ·rfl
  ·conv => lhs; unfold yy
   rw [if_pos h]
theorem maps_right {α : Type} {sub : α → α → List ByteArray} {f : Nat} {y : ByteArray × α} {a b : List (ByteArray × α)} (hf : a.length + (y :: b).length ≤ f) (h : a = [] ∨ ∃ x t, a = x :: t ∧ ltB x.1 y.1 = false ∧ ltB y.1 x.1 = true) : ∃ f', a.length + b.length ≤ f' ∧ yy sub f a (y :: b) = (qL ++ y.1) :: yy sub f' a b := by
 cases f with
 | zero => simp at hf
 | succ f =>
  refine ⟨f, by simp only [List.length_cons] at hf; omega, ?_⟩
  rcases h with rfl | ⟨x, t, rfl, h, h2⟩
  ·rfl
  ·conv => lhs; unfold yy
   rw [if_neg (by rw [h]; decide), if_pos h2]
theorem maps_both {α : Type} {sub : α → α → List ByteArray} {f : Nat} {x y : ByteArray × α} {a b : List (ByteArray × α)} (hf : (x :: a).length + (y :: b).length ≤ f) (h : ltB x.1 y.1 = false) (h2 : ltB y.1 x.1 = false) : ∃ f', a.length + b.length ≤ f' ∧ yy sub f (x :: a) (y :: b) = yW x.1 (sub x.2 y.2) ++ yy sub f' a b := by
 cases f with
 | zero => simp at hf
 | succ f =>
  refine ⟨f, by simp only [List.length_cons] at hf; omega, ?_⟩
  conv => lhs; unfold yy
  rw [if_neg (by rw [h]; decide), if_neg (by rw [h2]; decide)]
theorem cmp_lt {a b : ByteArray} (h : ltB a b = true) : bY a b = -1 := by unfold bY; rw [if_pos h]
theorem cmp_gt {a b : ByteArray} (h : ltB a b = false) (h2 : ltB b a = true) : bY a b = 1 := by unfold bY; rw [if_neg (by rw [h]; decide), if_pos h2]
theorem cmp_eq {a b : ByteArray} (h : ltB a b = false) (h2 : ltB b a = false) : bY a b = 0 := by unfold bY; rw [if_neg (by rw [h]; decide), if_neg (by rw [h2]; decide)]
structure MapsRel (n : Nat) (S T : Nat → Prop) (w : World) (tot : List ByteArray) (x y z : Value) (a b : List (ByteArray × V n)) (o : List ByteArray) (f : Nat) (wr : World) : Prop where
 px : qb n S w x a
 py : qb n T w y b
 row : wr.ownsRow w.heap.size 9 1 z o.length (zL o)
 all : o ++ yy (zY n) f a b = tot
 fuel : a.length + b.length ≤ f
 kept : zb [] w wr
 ga : ∀ p, p ∈ a → b8 n p.2 ∧ p.1.size ≤ 400000
 gb : ∀ p, p ∈ b → b8 n p.2 ∧ p.1.size ≤ 400000
theorem maps_any {n : Nat} (IH : vh n) {S T : Nat → Prop} {w : World} {x y : Value} {ma mb : List (ByteArray × V n)} (hx : qb n S w x ma) (hy : qb n T w y mb) (ht : yK w) (hn : n ≤ 100)
  (ga : ∀ p, p ∈ ma → b8 n p.2 ∧ p.1.size ≤ 400000) (gb : ∀ p, p ∈ mb → b8 n p.2 ∧ p.1.size ≤ 400000) (hB : (yy (zY n) (ma.length + mb.length) ma mb).length ≤ 1000000) (hl : ma.length ≤ 20000 ∧ mb.length ≤ 20000) :
  Calls Tryz.prog 74 #[x, y] w fun e w' => (∃ p c, e = .returned (.slice p (yy (zY n) (ma.length + mb.length) ma mb).length c) ∧ w'.ownsRow w.heap.size 9 1 (.slice p (yy (zY n) (ma.length + mb.length) ma mb).length c) (yy (zY n) (ma.length + mb.length) ma mb).length (zL (yy (zY n) (ma.length + mb.length) ma mb))) ∧ zb [] w w' := by
 obtain ⟨tot, htot⟩ : ∃ tot, yy (zY n) (ma.length + mb.length) ma mb = tot := ⟨_, rfl⟩
 rw [htot] at hB ⊢
 have Gk : Hid (MapsRel n S T w tot x y (.slice none 0 0) ma mb [] (ma.length + mb.length) w) := qI ⟨hx, hy, World.ownsRow_nil _ _ _ _, htot, Nat.le_refl _, zb.refl _ _, ga, gb⟩
 have HL := qI hl
 have HT := qI ht
 have Md := @qI (vh n) (by exact @IH)
 have HN := qI hn
 clear htot hx hy ga gb hl ht IH hn
 go_enter func74, ntmps74
 go_wp2_with fail
 go_loopw [0, 1, 5] (fun x y z wr => ∃ (a b : List (ByteArray × V n)) (o : List ByteArray) (f : Nat) (a1 : Option Addr) (a2 : Nat) (b1 : Option Addr) (b2 : Nat) (o1 : Option Addr) (o2 : Nat), x = .slice a1 a.length a2 ∧ y = .slice b1 b.length b2 ∧ z = .slice o1 o.length o2 ∧ a.length ≤ 20000 ∧ b.length ≤ 20000 ∧ MapsRel n S T w tot (.slice a1 a.length a2) (.slice b1 b.length b2) (.slice o1 o.length o2) a b o f wr) (fun x y _ _ => KE x + KE y)
 case atStart =>
  obtain ⟨a1, a2, rfl⟩ := Gk.o.px.form
  obtain ⟨b1, b2, rfl⟩ := Gk.o.py.form
  exact ⟨ma, mb, [], _, a1, a2, b1, b2, none, 0, rfl, rfl, rfl, HL.o.1, HL.o.2, Gk.o⟩
 case round =>
  obtain ⟨a, b, o, f, a1, a2, b1, b2, o1, o2, rfl, rfl, rfl, hal, hbl, hrel⟩ := hrel
  have HR := qI hrel
  have halI : (a.length : Int) ≤ 20000 := by omega
  have hblI : (b.length : Int) ≤ 20000 := by omega
  have Gi : Hid (o.length ≤ 1000000) := qI (by have h1 := congrArg List.length hrel.all; rw [List.length_append] at h1; omega)
  clear hrel
  have hcase : (a = [] ∧ b = []) ∨ (∃ p t, a = p :: t ∧ (b = [] ∨ ∃ q s, b = q :: s ∧ ltB p.1 q.1 = true)) ∨ (∃ q s, b = q :: s ∧ (a = [] ∨ ∃ p t, a = p :: t ∧ ltB p.1 q.1 = false ∧ ltB q.1 p.1 = true)) ∨ ∃ p t q s, a = p :: t ∧ b = q :: s ∧ ltB p.1 q.1 = false ∧ ltB q.1 p.1 = false := by
   cases a with
   | nil =>
    cases b with
    | nil => exact .inl ⟨rfl, rfl⟩
    | cons q s => exact .inr (.inr (.inl ⟨q, s, rfl, .inl rfl⟩))
   | cons p t =>
    cases b with
    | nil => exact .inr (.inl ⟨p, t, rfl, .inl rfl⟩)
    | cons q s =>
     cases h1 : ltB p.1 q.1 with
     | true => exact .inr (.inl ⟨p, t, rfl, .inr ⟨q, s, rfl, h1⟩⟩)
     | false =>
      cases h2 : ltB q.1 p.1 with
      | true => exact .inr (.inr (.inl ⟨q, s, rfl, .inr ⟨p, t, rfl, h1, h2⟩⟩))
      | false => exact .inr (.inr (.inr ⟨p, t, q, s, rfl, rfl, h1, h2⟩))
  rcases hcase with ⟨rfl, rfl⟩ | ⟨p, t, rfl, hb⟩ | ⟨q, s, rfl, ha⟩ | ⟨p, t, q, s, rfl, rfl, h1, h2⟩
  ·go_wp2_with fail
   go_ret
   have h9 := HR.o.all
   rw [maps_nil, List.append_nil] at h9
   subst h9
   exact ⟨⟨_, _, rfl, HR.o.row⟩, HR.o.kept⟩
  ·have Gv := qI (maps_left (sub := zY n) HR.o.fuel hb)
   obtain ⟨kp, vp⟩ := p
   obtain ⟨g, o0, cap, kd, nm, st, x1, x2, x3, y1, y2, y3, he, q0, -, -, -, -, -, -, at_, ct_, hrun, hpt⟩ := HR.o.px.first
   simp only [Value.slice.injEq] at he
   obtain ⟨rfl, -, rfl⟩ := he
   have Gw := qI hpt
   have Jk := qI HR.o.py
   obtain ⟨bb, Ge⟩ : ∃ bb : List (ByteArray × V n), Hid (bb = b) := ⟨_, qI rfl⟩
   obtain ⟨Y1, Gx⟩ : ∃ Y1, Hid (Y1 = b1) := ⟨_, qI rfl⟩
   obtain ⟨Y2, Gy⟩ : ∃ Y2, Hid (Y2 = b2) := ⟨_, qI rfl⟩
   have hks := (HR.o.ga _ (List.mem_cons_self ..)).2
   have Gz : Hid (∀ p, p ∈ t → b8 n p.2 ∧ p.1.size ≤ 400000) := qI (fun p hp => HR.o.ga p (List.mem_cons_of_mem _ hp))
   simp only at q0 hks
   clear halI hblI
   have Gq := qI hal
   have Gr := qI hbl
   have Jy := qI hB
   rw [List.length_cons] at hal ⊢
   have hnz : (t.length : Int) ≤ 20000 := by omega
   clear hpt hal hbl hB
   rcases hb with rfl | ⟨q, s, rfl, hlt⟩
   case' inl =>
    rw [List.length_nil]
    go_wp2_with fail
    obtain ⟨w2, hw2⟩ : ∃ w2, Hid (w2 = wr) := ⟨_, qI rfl⟩
    have Gb : Hid (zb [] wr w2) := qI (by rw [hw2.o]; exact zb.refl _ _)
    rw [← hw2.o]
   case' inr =>
    obtain ⟨kq, vq⟩ := q
    obtain ⟨g', o0', cap', kd', nm', st', x1', x2', x3', y1', y2', y3', he', q0', -⟩ := HR.o.py.first
    simp only [Value.slice.injEq] at he'
    obtain ⟨rfl, -, rfl⟩ := he'
    have hbo := Gr.o
    rw [List.length_cons] at hbo ⊢
    have hnz' : (s.length : Int) ≤ 20000 := by omega
    clear hbo
    simp only at q0' hlt
    have e0 := zu (HR.o.kept.cell q0 (by simp))
    have e1 := zu (HR.o.kept.cell q0' (by simp))
    have CC : Hid (∀ z : Ext wr, Calls Tryz.prog 109 #[.string kp, .string kq] z.w fun e w' => e = .returned (.int .i64 (-1)) ∧ z.w = w') := qI (fun z => by
     have h9 := jm kp kq z.w
     rw [cmp_lt hlt] at h9
     exact h9)
    clear hlt
    go_wp2_with fail
    refine yd wr (by kernel_rfl) (by kernel_rfl) (zb.refl _ _) ?_
    repeat go_big_quiet_step ((go_at_call 109; exact Z3 (CC.o _)))
    refine wpQuiet_nil ?_
    intro w2 hk2
    have Gb := qI hk2
    clear hk2 e0 e1 q0'
    go_wp2_with fail
   all_goals
    have Ja := qI (zh HR.o.row Gb.o (by simp))
    have Ga := qI (HR.o.kept.then Gb.o)
    have hz1 : ¬ 9223372036854775807 < 1 + kp.size := by omega
    refine zk (n := 12) (fun w' : World => zb [] w w') 12 (by kernel_rfl) (by kernel_rfl) ?_
    change zR _ _ _ _ _ _ _ _ _ w2.drew
    have hSS : (fun w' : World => zb [] w w') w2.drew := Ga.o.drew
    have Gd := qI (zh Ja.o (zb.refl [] w2).drew (by simp))
    revert hSS Gd
    generalize w2.drew = W3
    intro hSS Gd
    refine zx ?_
    intro O R hO hR
    have hQp : ∀ c a (d : Nat) v w, R (.panic c) (a.put (some d) v) w → R (.panic c) a w := by subst hR; exact fun _ _ _ _ _ h => h
    refine qT 0 ?_ hO rfl rfl (by kernel_rfl) hQp (fun w hSw => ?_) hSS ?_
    rotate_left
    ·go_simp; try with_reducible rfl
    try simp only [zA,zN,zB,zC,zD]
    refine qT 1 ?_ hO rfl rfl (by kernel_rfl) hQp (fun w hSw => ?_) hSS ?_
    rotate_left
    ·go_simp; try with_reducible rfl
    try simp only [zA,zN,zB,zC,zD]
    refine qT 2 ?_ hO rfl rfl (by kernel_rfl) hQp (fun w hSw => ?_) hSS ?_
    rotate_left
    ·go_simp; try with_reducible rfl
    try simp only [zA,zN,zB,zC,zD]
    refine qT 3 ?_ hO rfl rfl (by kernel_rfl) hQp (fun w hSw => ?_) hSS ?_
    rotate_left
    ·go_simp; try with_reducible rfl
    try simp only [zA,zN,zB,zC,zD]
    refine qT 4 ?_ hO rfl rfl (by kernel_rfl) hQp (fun w hSw => ?_) hSS ?_
    rotate_left
    ·have s0 := hSw.cell q0 (by simp); go_simp; try with_reducible rfl
    try simp only [zA,zN,zB,zC,zD]
    refine qT 5 ?_ hO rfl rfl (by kernel_rfl) hQp (fun w hSw => ?_) hSS ?_
    rotate_left
    ·go_simp; try with_reducible rfl
    try simp only [zA,zN,zB,zC,zD]
    refine qT 8 ?_ hO rfl rfl (by kernel_rfl) hQp (fun w hSw => ?_) hSS ?_
    rotate_left
    ·go_simp; try with_reducible rfl
    try simp only [zA,zN,zB,zC,zD]
    refine qT 9 ?_ hO rfl rfl (by kernel_rfl) hQp (fun w hSw => ?_) hSS ?_
    rotate_left
    ·go_simp; try with_reducible rfl
    try simp only [zA,zN,zB,zC,zD]
    refine qO 6 hO rfl (by kernel_rfl) (fun K hK => ?_)
    go_simp
    have hS4 : (fun w' : World => zb [] w w') (W3.alloc (.cells #[.string (⟨#[47]⟩ ++ kp)] 9)) := hSS.alloc _
    have Gl := qI (yL W3 [.string (⟨#[47]⟩ ++ kp)] 1 1 9 W3.heap.size rfl rfl (by decide))
    have Jb := qI (zh Gd.o ((zb.refl [] W3).alloc (.cells #[.string (⟨#[47]⟩ ++ kp)] 9)) (by simp))
    refine hK _ _ (.inr hS4) ?_
    clear hK K
    try simp only [zA,zN,zB,zC,zD]
    clear hSS
    have hSS := hS4
    refine qO 7 hO rfl (by kernel_rfl) (fun K hK => ?_)
    refine yp bx Jb.o Gl.o (by intro u hu; simp at hu; subst hu; rfl) (by have := Gi.o; simp only [maxLen]; omega) (by have := Gi.o; omega) hSS.size (.tmp 51) (.tmp 57) rfl rfl rfl ?_
    intro b5 d5 w5 hown5 hk5 hg5
    have hlt5 := Jb.o.lt
    have hS5 : (fun w' : World => zb [] w w') w5 := zb.trans (X := []) hSS hk5 (fun i hi => .inr (hlt5 i (Option.mem_toList.1 hi)).1)
    refine hK _ _ (.inr hS5) ?_
    clear hK K
    try simp only [zA,zN,zB,zC,zD]
    have Jl := qI hS5
    have Gf := qI hown5
    clear hSS hS4 hown5 hk5 hg5 hlt5
    have hSS := hS5
    refine qT 10 ?_ hO rfl rfl (by kernel_rfl) hQp (fun w hSw => ?_) hSS ?_
    rotate_left
    ·go_simp; try with_reducible rfl
    try simp only [zA,zN,zB,zC,zD]
    refine qT 11 ?_ hO rfl rfl (by kernel_rfl) hQp (fun w hSw => ?_) hSS ?_
    rotate_left
    ·go_simp; try with_reducible rfl
    try simp only [zA,zN,zB,zC,zD]
    refine zv hO (by kernel_rfl) ?_ _
    subst hR
    try clear hQp hO O
    clear hSS hS5
    go_wp2_with fail
    obtain ⟨f', hf', hm⟩ := Gv.o
    refine ⟨⟨_, _, _, ⟨t, bb, o ++ [qL ++ kp], f', at_, ct_, rfl, Y1, Y2, rfl, b5, d5, rfl, ?_, ?_, ?_⟩, rfl, by simp only [Ge.o, Gx.o, Gy.o, List.length_cons, List.length_nil], by simp⟩, by first | (simp [KE]; done) | (simp [KE]; omega)⟩
    ·have h9 := Gq.o; rw [List.length_cons] at h9; omega
    ·rw [Ge.o]; exact Gr.o
    ·exact {
      px := Gw.o
      py := by rw [Ge.o, Gx.o, Gy.o]; exact Jk.o
      row := by have h9 := Gf.o; simpa [zL, qL] using h9
      all := by rw [Ge.o, ← HR.o.all, hm]; simp
      fuel := by rw [Ge.o]; exact hf'
      kept := Jl.o
      ga := Gz.o
      gb := by rw [Ge.o]; exact HR.o.gb }
  ·have Gv := qI (maps_right (sub := zY n) HR.o.fuel ha)
   obtain ⟨kq, vq⟩ := q
   obtain ⟨g, o0, cap, kd, nm, st, x1, x2, x3, y1, y2, y3, he, q0, -, -, -, -, -, -, at_, ct_, hrun, hpt⟩ := HR.o.py.first
   simp only [Value.slice.injEq] at he
   obtain ⟨rfl, -, rfl⟩ := he
   have Gw := qI hpt
   have Jk := qI HR.o.px
   obtain ⟨bb, Ge⟩ : ∃ bb : List (ByteArray × V n), Hid (bb = a) := ⟨_, qI rfl⟩
   obtain ⟨Y1, Gx⟩ : ∃ Y1, Hid (Y1 = a1) := ⟨_, qI rfl⟩
   obtain ⟨Y2, Gy⟩ : ∃ Y2, Hid (Y2 = a2) := ⟨_, qI rfl⟩
   have hks := (HR.o.gb _ (List.mem_cons_self ..)).2
   have Gz : Hid (∀ p, p ∈ s → b8 n p.2 ∧ p.1.size ≤ 400000) := qI (fun p hp => HR.o.gb p (List.mem_cons_of_mem _ hp))
   simp only at q0 hks
   clear halI hblI
   have Gq := qI hal
   have Gr := qI hbl
   have Jy := qI hB
   rw [List.length_cons] at hbl ⊢
   have hnz : (s.length : Int) ≤ 20000 := by omega
   clear hpt hal hbl hB
   rcases ha with rfl | ⟨p, t, rfl, hge, hlt⟩
   case' inl =>
    rw [List.length_nil]
    go_wp2_with fail
    obtain ⟨w2, hw2⟩ : ∃ w2, Hid (w2 = wr) := ⟨_, qI rfl⟩
    have Gb : Hid (zb [] wr w2) := qI (by rw [hw2.o]; exact zb.refl _ _)
    rw [← hw2.o]
   case' inr =>
    obtain ⟨kp, vp⟩ := p
    obtain ⟨g', o0', cap', kd', nm', st', x1', x2', x3', y1', y2', y3', he', q0', -⟩ := HR.o.px.first
    simp only [Value.slice.injEq] at he'
    obtain ⟨rfl, -, rfl⟩ := he'
    have hbo := Gq.o
    rw [List.length_cons] at hbo ⊢
    have hnz' : (t.length : Int) ≤ 20000 := by omega
    clear hbo
    simp only at q0' hlt hge
    have e0 := zu (HR.o.kept.cell q0 (by simp))
    have e1 := zu (HR.o.kept.cell q0' (by simp))
    have CC : Hid (∀ z : Ext wr, Calls Tryz.prog 109 #[.string kp, .string kq] z.w fun e w' => e = .returned (.int .i64 (1)) ∧ z.w = w') := qI (fun z => by
     have h9 := jm kp kq z.w
     rw [cmp_gt hge hlt] at h9
     exact h9)
    clear hlt hge
    go_wp2_with fail
    refine yd wr (by kernel_rfl) (by kernel_rfl) (zb.refl _ _) ?_
    repeat go_big_quiet_step ((go_at_call 109; exact Z3 (CC.o _)))
    refine wpQuiet_nil ?_
    intro w2 hk2
    have Gb := qI hk2
    clear hk2 e0 e1 q0'
    go_wp2_with fail
   all_goals
    have Ja := qI (zh HR.o.row Gb.o (by simp))
    have Ga := qI (HR.o.kept.then Gb.o)
    have hz1 : ¬ 9223372036854775807 < 1 + kq.size := by omega
    refine zk (n := 12) (fun w' : World => zb [] w w') 12 (by kernel_rfl) (by kernel_rfl) ?_
    change zR _ _ _ _ _ _ _ _ _ w2.drew
    have hSS : (fun w' : World => zb [] w w') w2.drew := Ga.o.drew
    have Gd := qI (zh Ja.o (zb.refl [] w2).drew (by simp))
    revert hSS Gd
    generalize w2.drew = W3
    intro hSS Gd
    refine zx ?_
    intro O R hO hR
    have hQp : ∀ c a (d : Nat) v w, R (.panic c) (a.put (some d) v) w → R (.panic c) a w := by subst hR; exact fun _ _ _ _ _ h => h
    refine qT 0 ?_ hO rfl rfl (by kernel_rfl) hQp (fun w hSw => ?_) hSS ?_
    rotate_left
    ·go_simp; try with_reducible rfl
    try simp only [zA,zN,zB,zC,zD]
    refine qT 1 ?_ hO rfl rfl (by kernel_rfl) hQp (fun w hSw => ?_) hSS ?_
    rotate_left
    ·go_simp; try with_reducible rfl
    try simp only [zA,zN,zB,zC,zD]
    refine qT 2 ?_ hO rfl rfl (by kernel_rfl) hQp (fun w hSw => ?_) hSS ?_
    rotate_left
    ·go_simp; try with_reducible rfl
    try simp only [zA,zN,zB,zC,zD]
    refine qT 3 ?_ hO rfl rfl (by kernel_rfl) hQp (fun w hSw => ?_) hSS ?_
    rotate_left
    ·go_simp; try with_reducible rfl
    try simp only [zA,zN,zB,zC,zD]
    refine qT 4 ?_ hO rfl rfl (by kernel_rfl) hQp (fun w hSw => ?_) hSS ?_
    rotate_left
    ·have s0 := hSw.cell q0 (by simp); go_simp; try with_reducible rfl
    try simp only [zA,zN,zB,zC,zD]
    refine qT 5 ?_ hO rfl rfl (by kernel_rfl) hQp (fun w hSw => ?_) hSS ?_
    rotate_left
    ·go_simp; try with_reducible rfl
    try simp only [zA,zN,zB,zC,zD]
    refine qT 8 ?_ hO rfl rfl (by kernel_rfl) hQp (fun w hSw => ?_) hSS ?_
    rotate_left
    ·go_simp; try with_reducible rfl
    try simp only [zA,zN,zB,zC,zD]
    refine qT 9 ?_ hO rfl rfl (by kernel_rfl) hQp (fun w hSw => ?_) hSS ?_
    rotate_left
    ·go_simp; try with_reducible rfl
    try simp only [zA,zN,zB,zC,zD]
    refine qO 6 hO rfl (by kernel_rfl) (fun K hK => ?_)
    go_simp
    have hS4 : (fun w' : World => zb [] w w') (W3.alloc (.cells #[.string (⟨#[47]⟩ ++ kq)] 9)) := hSS.alloc _
    have Gl := qI (yL W3 [.string (⟨#[47]⟩ ++ kq)] 1 1 9 W3.heap.size rfl rfl (by decide))
    have Jb := qI (zh Gd.o ((zb.refl [] W3).alloc (.cells #[.string (⟨#[47]⟩ ++ kq)] 9)) (by simp))
    refine hK _ _ (.inr hS4) ?_
    clear hK K
    try simp only [zA,zN,zB,zC,zD]
    clear hSS
    have hSS := hS4
    refine qO 7 hO rfl (by kernel_rfl) (fun K hK => ?_)
    refine yp bx Jb.o Gl.o (by intro u hu; simp at hu; subst hu; rfl) (by have := Gi.o; simp only [maxLen]; omega) (by have := Gi.o; omega) hSS.size (.tmp 63) (.tmp 69) rfl rfl rfl ?_
    intro b5 d5 w5 hown5 hk5 hg5
    have hlt5 := Jb.o.lt
    have hS5 : (fun w' : World => zb [] w w') w5 := zb.trans (X := []) hSS hk5 (fun i hi => .inr (hlt5 i (Option.mem_toList.1 hi)).1)
    refine hK _ _ (.inr hS5) ?_
    clear hK K
    try simp only [zA,zN,zB,zC,zD]
    have Jl := qI hS5
    have Gf := qI hown5
    clear hSS hS4 hown5 hk5 hg5 hlt5
    have hSS := hS5
    refine qT 10 ?_ hO rfl rfl (by kernel_rfl) hQp (fun w hSw => ?_) hSS ?_
    rotate_left
    ·go_simp; try with_reducible rfl
    try simp only [zA,zN,zB,zC,zD]
    refine qT 11 ?_ hO rfl rfl (by kernel_rfl) hQp (fun w hSw => ?_) hSS ?_
    rotate_left
    ·go_simp; try with_reducible rfl
    try simp only [zA,zN,zB,zC,zD]
    refine zv hO (by kernel_rfl) ?_ _
    subst hR
    try clear hQp hO O
    clear hSS hS5
    go_wp2_with fail
    obtain ⟨f', hf', hm⟩ := Gv.o
    refine ⟨⟨_, _, _, ⟨bb, s, o ++ [qL ++ kq], f', Y1, Y2, rfl, at_, ct_, rfl, b5, d5, rfl, ?_, ?_, ?_⟩, by simp only [Ge.o, Gx.o, Gy.o, List.length_cons, List.length_nil], rfl, by simp⟩, by first | (simp [KE]; done) | (simp [KE]; omega)⟩
    ·rw [Ge.o]; exact Gq.o
    ·have h9 := Gr.o; rw [List.length_cons] at h9; omega
    ·exact {
      px := by rw [Ge.o, Gx.o, Gy.o]; exact Jk.o
      py := Gw.o
      row := by have h9 := Gf.o; simpa [zL, qL] using h9
      all := by rw [Ge.o, ← HR.o.all, hm]; simp
      fuel := by rw [Ge.o]; exact hf'
      kept := Jl.o
      ga := by rw [Ge.o]; exact HR.o.ga
      gb := Gz.o }
  ·have Gv := qI (maps_both (sub := zY n) HR.o.fuel h1 h2)
   obtain ⟨kp, vp⟩ := p
   obtain ⟨kq, vq⟩ := q
   obtain ⟨g, o0, cap, kd, nm, st, x1, x2, x3, y1, y2, y3, he, q0, q1, q2, q3, q4, q5, hrep, at_, ct_, hrun, hpt⟩ := HR.o.px.first
   obtain ⟨g', o0', cap', kd', nm', st', x1', x2', x3', y1', y2', y3', he', q0', q1', q2', q3', q4', q5', hrep', at', ct', hrun', hpt'⟩ := HR.o.py.first
   simp only [Value.slice.injEq] at he he'
   obtain ⟨rfl, -, rfl⟩ := he
   obtain ⟨rfl, -, rfl⟩ := he'
   have Gw := qI hpt
   have Jm := qI hpt'
   have Jn := qI hrep
   have Jc := qI hrep'
   have hks := (HR.o.ga _ (List.mem_cons_self ..)).2
   have Jo := qI (HR.o.ga _ (List.mem_cons_self ..)).1
   have Jp := qI (HR.o.gb _ (List.mem_cons_self ..)).1
   have Gz : Hid (∀ p, p ∈ t → b8 n p.2 ∧ p.1.size ≤ 400000) := qI (fun p hp => HR.o.ga p (List.mem_cons_of_mem _ hp))
   have Me : Hid (∀ p, p ∈ s → b8 n p.2 ∧ p.1.size ≤ 400000) := qI (fun p hp => HR.o.gb p (List.mem_cons_of_mem _ hp))
   simp only at q0 q0' hks h1 h2
   have Mf := qI hks
   clear halI hblI
   have Gq := qI hal
   have Gr := qI hbl
   have Jy := qI hB
   rw [List.length_cons] at hal hbl
   rw [List.length_cons, List.length_cons]
   have hnz : (t.length : Int) ≤ 20000 := by omega
   have hnz' : (s.length : Int) ≤ 20000 := by omega
   clear hpt hpt' hal hbl hB hrep hrep' hks
   have e0 := zu (HR.o.kept.cell q0 (by simp))
   have e1 := zu (HR.o.kept.cell q0' (by simp))
   have CC : Hid (∀ z : Ext wr, Calls Tryz.prog 109 #[.string kp, .string kq] z.w fun e w' => e = .returned (.int .i64 0) ∧ z.w = w') := qI (fun z => by
    have h9 := jm kp kq z.w
    rw [cmp_eq h1 h2] at h9
    exact h9)
   clear h1 h2
   go_wp2_with fail
   refine yd wr (by kernel_rfl) (by kernel_rfl) (zb.refl _ _) ?_
   repeat go_big_quiet_step ((go_at_call 109; exact Z3 (CC.o _)))
   refine wpQuiet_nil ?_
   intro w2 hk2
   have Gb := qI hk2
   clear hk2 e0 e1
   go_wp2_with fail
   have Ja := qI (zh HR.o.row Gb.o (by simp))
   have Ga := qI (HR.o.kept.then Gb.o)
   refine zk (n := 17) (fun w' : World => zb [] w w') 17 (by kernel_rfl) (by kernel_rfl) ?_
   change zR _ _ _ _ _ _ _ _ _ w2.drew
   have hSS : (fun w' : World => zb [] w w') w2.drew := Ga.o.drew
   have Gd := qI (zh Ja.o (zb.refl [] w2).drew (by simp))
   revert hSS Gd
   generalize w2.drew = W3
   intro hSS Gd
   refine zx ?_
   intro O R hO hR
   have hQp : ∀ c a (d : Nat) v w, R (.panic c) (a.put (some d) v) w → R (.panic c) a w := by subst hR; exact fun _ _ _ _ _ h => h
   refine qT 0 ?_ hO rfl rfl (by kernel_rfl) hQp (fun w hSw => ?_) hSS ?_
   rotate_left
   ·go_simp; try with_reducible rfl
   try simp only [zA,zN,zB,zC,zD]
   refine qT 1 ?_ hO rfl rfl (by kernel_rfl) hQp (fun w hSw => ?_) hSS ?_
   rotate_left
   ·go_simp; try with_reducible rfl
   try simp only [zA,zN,zB,zC,zD]
   refine qT 2 ?_ hO rfl rfl (by kernel_rfl) hQp (fun w hSw => ?_) hSS ?_
   rotate_left
   ·go_simp; try with_reducible rfl
   try simp only [zA,zN,zB,zC,zD]
   refine qT 3 ?_ hO rfl rfl (by kernel_rfl) hQp (fun w hSw => ?_) hSS ?_
   rotate_left
   ·go_simp; try with_reducible rfl
   try simp only [zA,zN,zB,zC,zD]
   refine qT 4 ?_ hO rfl rfl (by kernel_rfl) hQp (fun w hSw => ?_) hSS ?_
   rotate_left
   ·have s0 := hSw.cell q0 (by simp); go_simp; try with_reducible rfl
   try simp only [zA,zN,zB,zC,zD]
   refine qT 5 ?_ hO rfl rfl (by kernel_rfl) hQp (fun w hSw => ?_) hSS ?_
   rotate_left
   ·go_simp; try with_reducible rfl
   try simp only [zA,zN,zB,zC,zD]
   refine qT 6 ?_ hO rfl rfl (by kernel_rfl) hQp (fun w hSw => ?_) hSS ?_
   rotate_left
   ·go_simp; try with_reducible rfl
   try simp only [zA,zN,zB,zC,zD]
   refine qT 7 ?_ hO rfl rfl (by kernel_rfl) hQp (fun w hSw => ?_) hSS ?_
   rotate_left
   ·go_simp; try with_reducible rfl
   try simp only [zA,zN,zB,zC,zD]
   refine qT 8 ?_ hO rfl rfl (by kernel_rfl) hQp (fun w hSw => ?_) hSS ?_
   rotate_left
   ·have s1 := hSw.cell q1 (by simp); have s2 := hSw.cell q2 (by simp); have s3 := hSw.cell q3 (by simp); have s4 := hSw.cell q4 (by simp); have s5 := hSw.cell q5 (by simp); go_simp; try with_reducible rfl
   try simp only [zA,zN,zB,zC,zD]
   refine qT 9 ?_ hO rfl rfl (by kernel_rfl) hQp (fun w hSw => ?_) hSS ?_
   rotate_left
   ·go_simp; try with_reducible rfl
   try simp only [zA,zN,zB,zC,zD]
   refine qT 10 ?_ hO rfl rfl (by kernel_rfl) hQp (fun w hSw => ?_) hSS ?_
   rotate_left
   ·go_simp; try with_reducible rfl
   try simp only [zA,zN,zB,zC,zD]
   refine qT 11 ?_ hO rfl rfl (by kernel_rfl) hQp (fun w hSw => ?_) hSS ?_
   rotate_left
   ·go_simp; try with_reducible rfl
   try simp only [zA,zN,zB,zC,zD]
   refine qT 12 ?_ hO rfl rfl (by kernel_rfl) hQp (fun w hSw => ?_) hSS ?_
   rotate_left
   ·have s1 := hSw.cell q1' (by simp); have s2 := hSw.cell q2' (by simp); have s3 := hSw.cell q3' (by simp); have s4 := hSw.cell q4' (by simp); have s5 := hSw.cell q5' (by simp); go_simp; try with_reducible rfl
   try simp only [zA,zN,zB,zC,zD]
   refine qO 13 hO rfl (by kernel_rfl) (fun K hK => ?_)
   go_simp
   refine Calls.mono (Md.o vp vq (Jn.o.kept0 hSS) (Jc.o.kept0 hSS) Jo.o Jp.o (HT.o.kept0 hSS)) ?_
   rintro e w4 ⟨⟨p4, c4, rfl, ho4⟩, hk4⟩
   have hS4 : (fun w' : World => zb [] w w') w4 := hSS.then hk4
   have Jq := qI hk4
   have Jr := qI ho4
   refine hK _ _ (.inr hS4) ?_
   clear hK K
   try simp only [zA,zN,zB,zC,zD]
   clear hSS hk4 ho4
   have hSS := hS4
   clear hS4
   have Gs : Hid ((zY n vp vq).length ≤ 40000) := qI (by have h1 := bJ n vp vq; have h2 := Jo.o.few.1; have h3 := Jp.o.few.1; omega)
   refine qO 14 hO rfl (by kernel_rfl) (fun K hK => ?_)
   go_simp
   refine Calls.mono (JJ (Slc.of_row Jr.o) (by have := Gs.o; omega) kp (by have := Mf.o; omega) (fun x hx => by have h1 := vZ n vp vq Jo.o.few Jp.o.few x hx; have h2 := HN.o; omega)) ?_
   rintro e w5 ⟨⟨p5, c5, rfl, ho5⟩, hk5⟩
   have hS5 : (fun w' : World => zb [] w w') w5 := hSS.then hk5
   have Gt := qI ho5
   have Jh := qI (zh Gd.o (Jq.o.then hk5) (by simp))
   refine hK _ _ (.inr hS5) ?_
   clear hK K
   try simp only [zA,zN,zB,zC,zD]
   clear hSS hk5 ho5
   have hSS := hS5
   clear hS5
   refine qO 15 hO rfl (by kernel_rfl) (fun K hK => ?_)
   refine yp bx Jh.o (Slc.of_row Gt.o) (Q6 _) (by have := Gi.o; have := Gs.o; simp only [maxLen]; omega) (by have := Gi.o; have := Gs.o; omega) hSS.size (.tmp 29) (.tmp 43) rfl rfl rfl ?_
   intro b6 d6 w6 hown6 hk6 hg6
   have hlt6 := Jh.o.lt
   have hS6 : (fun w' : World => zb [] w w') w6 := zb.trans (X := []) hSS hk6 (fun i hi => .inr (hlt6 i (Option.mem_toList.1 hi)).1)
   refine hK _ _ (.inr hS6) ?_
   clear hK K
   try simp only [zA,zN,zB,zC,zD]
   have Mg := qI hS6
   have Jd := qI hown6
   clear hSS hown6 hk6 hg6 hlt6
   have hSS := hS6
   refine qT 16 ?_ hO rfl rfl (by kernel_rfl) hQp (fun w hSw => ?_) hSS ?_
   rotate_left
   ·go_simp; try with_reducible rfl
   try simp only [zA,zN,zB,zC,zD]
   refine zv hO (by kernel_rfl) ?_ _
   subst hR
   try clear hQp hO O
   clear hSS hS6 q0 q1 q2 q3 q4 q5 q0' q1' q2' q3' q4' q5'
   go_wp2_with fail
   refine yd w6 (by kernel_rfl) (by kernel_rfl) (zb.refl _ _) ?_
   repeat go_big_quiet_step (fail)
   refine wpQuiet_nil ?_
   intro w7 hk7
   have Jz := qI hk7
   clear hk7 hrun hrun'
   go_wp2_with fail
   case roundEnd =>
    obtain ⟨f', hf', hm⟩ := Gv.o
    have hlen : (o ++ yW kp (zY n vp vq)).length = o.length + (zY n vp vq).length := by rw [List.length_append, jS]
    refine ⟨⟨t, s, o ++ yW kp (zY n vp vq), f', at_, ct_, at', ct', b6, d6, rfl, rfl, by rw [hlen], ?_, ?_, ?_⟩, ?_⟩
    ·have h9 := Gq.o; rw [List.length_cons] at h9; omega
    ·have h9 := Gr.o; rw [List.length_cons] at h9; omega
    ·exact {
      px := Gw.o
      py := Jm.o
      row := by
       have h9 := zh Jd.o Jz.o (by simp)
       rw [hlen]
       unfold zL at h9 ⊢
       rw [List.map_append]
       exact h9
      all := by rw [← HR.o.all, hm]; simp
      fuel := hf'
      kept := Mg.o.then Jz.o
      ga := Gz.o
      gb := Me.o }
    ·simp [KE]; omega
theorem list_get {α : Type} {sub : α → α → List ByteArray} : ∀ (a b : List α) (i k : Nat) (ha : k < a.length) (hb : k < b.length), xz sub (i + k) (a.drop k) (b.drop k) = yW (zg (Lib.itoa ((i + k : Nat) : Int))) (sub a[k] b[k]) ++ xz sub (i + (k + 1)) (a.drop (k + 1)) (b.drop (k + 1)) := by
 intro a b i k ha hb
 rw [List.drop_eq_getElem_cons ha, List.drop_eq_getElem_cons hb]
 rfl
theorem list_end {α : Type} (sub : α → α → List ByteArray) (a b : List α) (i : Nat) : xz sub i (a.drop a.length) b = [] := by
 rw [List.drop_length]
 unfold xz
 rfl
theorem parts_same {n : Nat} {a b : VS (V n)} (h : eqV (n + 1) a b = true) : zY (n + 1) a b = [] := by rw [jU, if_pos h]
theorem parts_maps {n : Nat} {a b : VS (V n)} (h : eqV (n + 1) a b = false) (h1 : a.kind = 6 ∧ b.kind = 6) : zY (n + 1) a b = yy (zY n) (a.m.length + b.m.length) a.m b.m := by rw [jU, if_neg (by rw [h]; decide), if_pos h1]
theorem parts_list {n : Nat} {a b : VS (V n)} (h : eqV (n + 1) a b = false) (h1 : ¬ (a.kind = 6 ∧ b.kind = 6)) (h2 : a.kind = 5 ∧ b.kind = 5 ∧ a.l.length = b.l.length) : zY (n + 1) a b = xz (zY n) 0 a.l b.l := by rw [jU, if_neg (by rw [h]; decide), if_neg h1, if_pos h2]
theorem parts_else {n : Nat} {a b : VS (V n)} (h : eqV (n + 1) a b = false) (h1 : ¬ (a.kind = 6 ∧ b.kind = 6)) (h2 : ¬ (a.kind = 5 ∧ b.kind = 5 ∧ a.l.length = b.l.length)) : zY (n + 1) a b = [⟨#[]⟩] := by rw [jU, if_neg (by rw [h]; decide), if_neg h1, if_neg h2]
theorem same_good {n : Nat} {a b : V n} (h : b8 n a) (h' : b8 n b) : Y7 n a b = eqV n a b := by rw [same_c h.chk h'.chk, jn n a h.ord, jn n b h'.ord]
theorem JQ : ∀ (n : Nat), n ≤ 100 → vh n
 | 0, _ => fun a => nomatch a
 | n + 1, hn => fun (va : VS (V n)) (vb : VS (V n)) {S T w ca cb} h h' hga hgb ht => by
  have IH := @qI (vh n) (by exact @JQ n (by omega))
  have Je := qI hga
  have Jf := qI hgb
  obtain ⟨vl, vm, lcs, mcs, h⟩ := h
  obtain ⟨a, c, b, e, rfl, rfl, rfl⟩ := h.forms
  obtain ⟨vl', vm', lcs', mcs', h'⟩ := h'
  obtain ⟨a', c', b', e', rfl, rfl, rfl⟩ := h'.forms
  have H := qI h
  have H' := qI h'
  obtain ⟨W0, Gg⟩ : ∃ W0, Hid (W0 = (w.alloc (.cells #[.int .i64 va.kind, .int .i64 va.num, .string va.s, .slice a va.l.length c, .slice b va.m.length e] 25)).alloc (.cells #[.int .i64 vb.kind, .int .i64 vb.num, .string vb.s, .slice a' vb.l.length c', .slice b' vb.m.length e'] 25)) := ⟨_, qI rfl⟩
  have Gc : Hid (zb [] w W0) := qI (by rw [Gg.o]; exact ((zb.refl [] w).alloc _).alloc _)
  have HA : Hid (z6 W0 w.heap.size va.kind va.num va.s (.slice a va.l.length c) (.slice b va.m.length e)) := qI (by rw [Gg.o]; exact (yb _ _ _ _ _ _ _).kept0 ((zb.refl [] _).alloc _))
  have HB : Hid (z6 W0 (w.heap.size + 1) vb.kind vb.num vb.s (.slice a' vb.l.length c') (.slice b' vb.m.length e')) := qI (by rw [Gg.o]; exact ql (by simp) _ _ _ _ _ _)
  have CS := qI (valSame_any (h.close.kept0 Gc.o) (h'.close.kept0 Gc.o) hga.few hgb.few (by omega) (ht.kept0 Gc.o))
  have Mh := qI (same_good hga hgb)
  have HT := qI ht
  have hlv : va.l.length ≤ 20000 := by have := hga.few.few; omega
  have hlv' : vb.l.length ≤ 20000 := by have := hgb.few.few; omega
  have hmv : va.m.length ≤ 20000 := by have := hga.few.few; omega
  have hmv' : vb.m.length ≤ 20000 := by have := hgb.few.few; omega
  have HN : Hid (n ≤ 100) := qI (by omega)
  have Gs : Hid ((zY (n + 1) va vb).length ≤ 40000) := qI (by have h1 := bJ (n + 1) va vb; have h2 := hga.few.1; have h3 := hgb.few.1; omega)
  obtain ⟨a0, a1, a2, a3, a4⟩ := HA.o
  obtain ⟨b0, b1, b2, b3, b4⟩ := HB.o
  rw [Gg.o] at a0 a1 a2 a3 a4 b0 b1 b2 b3 b4
  clear h h' hga hgb ht hn
  go_enter func46, ntmps46
  go_wp2_with fail
  rw [← Gg.o]
  clear a0 a1 a2 a3 a4 b0 b1 b2 b3 b4
  refine CS.o.mono ?_
  rintro e1 w1 ⟨rfl, hk1⟩
  rw [Mh.o]
  have Gj := qI hk1
  have Ga := qI (Gc.o.then hk1)
  clear hk1
  obtain ⟨a0, a1, a2, a3, a4⟩ := HA.o.kept0 Gj.o
  obtain ⟨b0, b1, b2, b3, b4⟩ := HB.o.kept0 Gj.o
  cases heq : eqV (n + 1) va vb with
  | true =>
   have HE := qI (parts_same heq)
   clear heq
   go_wp2_with fail
   go_ret
   rw [HE.o]
   exact ⟨⟨_, _, rfl, World.ownsRow_nil _ _ _ _⟩, Ga.o⟩
  | false =>
  have Js := qI heq
  clear heq
  by_cases h6 : va.kind = 6 ∧ vb.kind = 6
  ·have HE := qI (parts_maps Js.o h6)
   have hpf := Gs.o
   rw [HE.o] at hpf
   have CM := qI (maps_any (by exact @IH.o) (H.o.pairs.kept0 Ga.o) (H'.o.pairs.kept0 Ga.o) (HT.o.kept0 Ga.o) HN.o
    (fun p hp => ⟨Je.o.kid (xV hp), by have h1 := ZG hp; have h2 := Je.o.few.2; omega⟩) (fun p hp => ⟨Jf.o.kid (xV hp), by have h1 := ZG hp; have h2 := Jf.o.few.2; omega⟩) (by omega) ⟨hmv, hmv'⟩)
   obtain ⟨f1, f2⟩ := yg h6.1
   obtain ⟨f3, f4⟩ := yg h6.2
   clear h6 hpf
   go_wp2_with fail
   refine CM.o.mono ?_
   rintro e1 w2 ⟨⟨p, c2, rfl, ho⟩, hk2⟩
   have HO := qI ho
   have Gb := qI hk2
   clear ho hk2
   go_wp2_with fail
   go_ret
   rw [HE.o]
   exact ⟨⟨_, _, rfl, y8 HO.o (fun g hg => by have h1 := (HO.o.lt g hg).1; have h2 := Ga.o.size; omega)⟩, Ga.o.then Gb.o⟩
  ·have Mn := qI h6
   have h6' : (va.kind == 6) = false ∨ ((va.kind == 6) = true ∧ (vb.kind == 6) = false) := by
    by_cases q : va.kind = 6
    ·exact .inr ⟨(yg q).1, (zt (fun q2 => h6 ⟨q, q2⟩)).1⟩
    ·exact .inl (zt q).1
   by_cases h5 : va.kind = 5 ∧ vb.kind = 5 ∧ va.l.length = vb.l.length
   ·have HE := qI (parts_list Js.o h6 h5)
    have f6 : (va.kind == 6) = false := (zt (by omega)).1
    obtain ⟨f1, f2⟩ := yg h5.1
    obtain ⟨f3, f4⟩ := yg h5.2.1
    obtain ⟨f7, f8⟩ := vv h5.2.2
    have Ji := qI h5.2.2
    have f9 : decide (va.l.length = vb.l.length) = true := decide_eq_true h5.2.2
    clear h5 h6 h6'
    have hll := Ji.o
    go_wp2_with fail
    clear hll f1 f2 f3 f4 f6 f7 f8 f9
    go_loopw [5, 47] (fun z i wr => ∃ (k : Nat) (o : List ByteArray) (o1 : Option Addr) (o2 : Nat), i = .int .i64 k ∧ k ≤ va.l.length ∧ z = .slice o1 o.length o2 ∧ wr.ownsRow w1.heap.size 9 1 (.slice o1 o.length o2) o.length (zL o) ∧ Hid (o ++ xz (zY n) k (va.l.drop k) (vb.l.drop k) = zY (n + 1) va vb) ∧ zb [] w1 wr) (fun _ i _ => va.l.length - (intOf i).toNat)
    case atStart => exact ⟨0, [], none, 0, rfl, Nat.zero_le _, rfl, World.ownsRow_nil _ _ _ _, qI (by rw [HE.o]; rfl), zb.refl _ _⟩
    case round =>
     obtain ⟨k, o, o1, o2, rfl, hk, rfl, hrow, Gm, hkw⟩ := hrel
     have Gn := qI hrow
     have Ma := qI hkw
     clear hrow hkw
     by_cases hlt : k < va.l.length
     ·have hltI : (k : Int) < va.l.length := by omega
      have hlt2 : k < vb.l.length := by have := Ji.o; omega
      have hlt2I : (k : Int) < vb.l.length := by omega
      obtain ⟨g, o0, cap, kd, nm, st, x1, y1, he, q0, q1, q2, q3, q4, hr⟩ := H.o.at_l Ga.o k hlt
      obtain ⟨g', o0', cap', kd', nm', st', x1', y1', he', q0', q1', q2', q3', q4', hr'⟩ := H'.o.at_l Ga.o k hlt2
      simp only [Value.slice.injEq] at he he'
      obtain ⟨rfl, -, rfl⟩ := he
      obtain ⟨rfl, -, rfl⟩ := he'
      obtain ⟨p1, i1, d1, p2, i2, d2, rfl, rfl⟩ := hr.sl
      obtain ⟨p1', i1', d1', p2', i2', d2', rfl, rfl⟩ := hr'.sl
      have HR := qI hr
      have Mi := qI hr'
      have Jt := qI (Je.o.kid (xY (List.getElem_mem hlt)))
      have Gp := qI (Jf.o.kid (xY (List.getElem_mem hlt2)))
      have Gh : Hid (xz (zY n) k (va.l.drop k) (vb.l.drop k) = yW (zg (Lib.itoa (k : Int))) (zY n va.l[k] vb.l[k]) ++ xz (zY n) (k + 1) (va.l.drop (k + 1)) (vb.l.drop (k + 1))) := qI (by
       have h9 := list_get (sub := zY n) va.l vb.l 0 k hlt hlt2
       simp only [Nat.zero_add] at h9
       exact h9)
      have Gi : Hid (o.length ≤ 40000) := qI (by have h1 := congrArg List.length Gm.o; rw [List.length_append] at h1; have h2 := Gs.o; omega)
      have Ju : Hid ((zY n va.l[k] vb.l[k]).length ≤ 40000) := qI (by have h1 := bJ n va.l[k] vb.l[k]; have h2 := Jt.o.few.1; have h3 := Gp.o.few.1; omega)
      clear hr hr'
      go_wp2_with fail
      refine zk (n := 17) (fun w' : World => zb [] w1 w') 17 (by kernel_rfl) (by kernel_rfl) ?_
      change zR _ _ _ _ _ _ _ _ _ wr.drew
      have hSS : (fun w' : World => zb [] w1 w') wr.drew := Ma.o.drew
      have Gd := qI (zh Gn.o (zb.refl [] wr).drew (by simp))
      revert hSS Gd
      generalize wr.drew = W3
      intro hSS Gd
      refine zx ?_
      intro O R hO hR
      have hQp : ∀ c a (d : Nat) v w, R (.panic c) (a.put (some d) v) w → R (.panic c) a w := by subst hR; exact fun _ _ _ _ _ h => h
      refine qT 0 ?_ hO rfl rfl (by kernel_rfl) hQp (fun w hSw => ?_) hSS ?_
      rotate_left
      ·go_simp; try with_reducible rfl
      try simp only [zA,zN,zB,zC,zD]
      refine qT 1 ?_ hO rfl rfl (by kernel_rfl) hQp (fun w hSw => ?_) hSS ?_
      rotate_left
      ·go_simp; try with_reducible rfl
      try simp only [zA,zN,zB,zC,zD]
      refine qT 3 ?_ hO rfl rfl (by kernel_rfl) hQp (fun w hSw => ?_) hSS ?_
      rotate_left
      ·go_simp; try with_reducible rfl
      try simp only [zA,zN,zB,zC,zD]
      refine qT 4 ?_ hO rfl rfl (by kernel_rfl) hQp (fun w hSw => ?_) hSS ?_
      rotate_left
      ·have s := hSw.cell a3 (by simp); go_simp; try with_reducible rfl
      try simp only [zA,zN,zB,zC,zD]
      refine qT 5 ?_ hO rfl rfl (by kernel_rfl) hQp (fun w hSw => ?_) hSS ?_
      rotate_left
      ·go_simp; try with_reducible rfl
      try simp only [zA,zN,zB,zC,zD]
      refine qT 6 ?_ hO rfl rfl (by kernel_rfl) hQp (fun w hSw => ?_) hSS ?_
      rotate_left
      ·go_simp; try with_reducible rfl
      try simp only [zA,zN,zB,zC,zD]
      refine qT 7 ?_ hO rfl rfl (by kernel_rfl) hQp (fun w hSw => ?_) hSS ?_
      rotate_left
      ·have s0 := hSw.cell q0 (by simp); have s1 := hSw.cell q1 (by simp); have s2 := hSw.cell q2 (by simp); have s3 := hSw.cell q3 (by simp); have s4 := hSw.cell q4 (by simp); go_simp; try with_reducible rfl
      try simp only [zA,zN,zB,zC,zD]
      refine qT 8 ?_ hO rfl rfl (by kernel_rfl) hQp (fun w hSw => ?_) hSS ?_
      rotate_left
      ·go_simp; try with_reducible rfl
      try simp only [zA,zN,zB,zC,zD]
      refine qT 9 ?_ hO rfl rfl (by kernel_rfl) hQp (fun w hSw => ?_) hSS ?_
      rotate_left
      ·have s := hSw.cell b3 (by simp); go_simp; try with_reducible rfl
      try simp only [zA,zN,zB,zC,zD]
      refine qT 10 ?_ hO rfl rfl (by kernel_rfl) hQp (fun w hSw => ?_) hSS ?_
      rotate_left
      ·go_simp; try with_reducible rfl
      try simp only [zA,zN,zB,zC,zD]
      refine qT 11 ?_ hO rfl rfl (by kernel_rfl) hQp (fun w hSw => ?_) hSS ?_
      rotate_left
      ·go_simp; try with_reducible rfl
      try simp only [zA,zN,zB,zC,zD]
      refine qT 12 ?_ hO rfl rfl (by kernel_rfl) hQp (fun w hSw => ?_) hSS ?_
      rotate_left
      ·have s0 := hSw.cell q0' (by simp); have s1 := hSw.cell q1' (by simp); have s2 := hSw.cell q2' (by simp); have s3 := hSw.cell q3' (by simp); have s4 := hSw.cell q4' (by simp); go_simp; try with_reducible rfl
      try simp only [zA,zN,zB,zC,zD]
      refine qO 2 hO rfl (by kernel_rfl) (fun K hK => ?_)
      go_simp
      refine Calls.mono (libItoa (HT.o.kept0 (Ga.o.then hSS)) (k : Int) (by omega) (by omega)) ?_
      rintro e w4 ⟨rfl, hk4⟩
      have hS4 : (fun w' : World => zb [] w1 w') w4 := hSS.then hk4
      have Jh := qI (zh Gd.o hk4 (by simp))
      refine hK _ _ (.inr hS4) ?_
      clear hK K
      try simp only [zA,zN,zB,zC,zD]
      clear hSS hk4
      have hSS := hS4
      clear hS4
      have hkz : (zg (Lib.itoa (k : Int))).size ≤ 21 := by have h9 := Lib.itoa_length_le (k : Int) (by omega) (by omega); rw [zK]; exact h9
      have Jv := qI hkz
      clear hkz
      revert Gh Jv
      generalize zg (Lib.itoa (k : Int)) = kp
      intro Gh Jv
      refine qO 13 hO rfl (by kernel_rfl) (fun K hK => ?_)
      go_simp
      refine Calls.mono (IH.o va.l[k] vb.l[k] (HR.o.kept0 hSS) (Mi.o.kept0 hSS) Jt.o Gp.o (HT.o.kept0 (Ga.o.then hSS))) ?_
      rintro e w5 ⟨⟨p4, c4, rfl, ho4⟩, hk5⟩
      have hS5 : (fun w' : World => zb [] w1 w') w5 := hSS.then hk5
      have Jr := qI ho4
      have Mj := qI (zh Jh.o hk5 (by simp))
      refine hK _ _ (.inr hS5) ?_
      clear hK K
      try simp only [zA,zN,zB,zC,zD]
      clear hSS hk5 ho4
      have hSS := hS5
      clear hS5
      refine qO 14 hO rfl (by kernel_rfl) (fun K hK => ?_)
      go_simp
      refine Calls.mono (JJ (Slc.of_row Jr.o) (by have := Ju.o; omega) kp (by have := Jv.o; omega) (fun x hx => by have h1 := vZ n va.l[k] vb.l[k] Jt.o.few Gp.o.few x hx; have h2 := HN.o; omega)) ?_
      rintro e w6 ⟨⟨p5, c5, rfl, ho5⟩, hk6⟩
      have hS6 : (fun w' : World => zb [] w1 w') w6 := hSS.then hk6
      have Gt := qI ho5
      have Mb := qI (zh Mj.o hk6 (by simp))
      refine hK _ _ (.inr hS6) ?_
      clear hK K
      try simp only [zA,zN,zB,zC,zD]
      clear hSS hk6 ho5
      have hSS := hS6
      clear hS6
      refine qO 15 hO rfl (by kernel_rfl) (fun K hK => ?_)
      refine yp bx Mb.o (Slc.of_row Gt.o) (Q6 _) (by have := Gi.o; have := Ju.o; simp only [maxLen]; omega) (by have := Gi.o; have := Ju.o; omega) hSS.size (.tmp 50) (.tmp 64) rfl rfl rfl ?_
      intro b7 d7 w7 hown7 hk7 hg7
      have hlt7 := Mb.o.lt
      have hS7 : (fun w' : World => zb [] w1 w') w7 := zb.trans (X := []) hSS hk7 (fun i hi => .inr (hlt7 i (Option.mem_toList.1 hi)).1)
      refine hK _ _ (.inr hS7) ?_
      clear hK K
      try simp only [zA,zN,zB,zC,zD]
      have Mk := qI hS7
      have Jg := qI hown7
      clear hSS hown7 hk7 hg7 hlt7
      have hSS := hS7
      refine qT 16 ?_ hO rfl rfl (by kernel_rfl) hQp (fun w hSw => ?_) hSS ?_
      rotate_left
      ·go_simp; try with_reducible rfl
      try simp only [zA,zN,zB,zC,zD]
      refine zv hO (by kernel_rfl) ?_ _
      subst hR
      try clear hQp hO O
      clear hSS hS7 q0 q1 q2 q3 q4 q0' q1' q2' q3' q4'
      go_wp2_with fail
      case roundEnd =>
       have hlen : (o ++ yW kp (zY n va.l[k] vb.l[k])).length = o.length + (zY n va.l[k] vb.l[k]).length := by rw [List.length_append, jS]
       refine ⟨⟨k + 1, o ++ yW kp (zY n va.l[k] vb.l[k]), b7, d7, by go_num, by omega, by rw [hlen], ?_, qI (by rw [← Gm.o, Gh.o]; simp), Mk.o⟩, by simp [intOf]; omega⟩
       have h9 := Jg.o
       rw [hlen]
       unfold zL at h9 ⊢
       rw [List.map_append]
       exact h9
     ·obtain rfl : k = va.l.length := by omega
      have HO : Hid (o = zY (n + 1) va vb) := qI (by have h9 := Gm.o; rw [list_end, List.append_nil] at h9; exact h9)
      have hnlt : ¬ ((va.l.length : Int) < vb.l.length) := by have := Ji.o; omega
      have hnlt2 : ¬ (va.l.length < vb.l.length) := by have := Ji.o; omega
      go_wp2_with fail
      go_ret
      rw [← HO.o]
      exact ⟨⟨_, _, rfl, y8 Gn.o (fun g hg => by have h1 := (Gn.o.lt g hg).1; have h2 := Ga.o.size; omega)⟩, Ga.o.then Ma.o⟩
   ·have HE := qI (parts_else Js.o h6 h5)
    have h5' : (va.kind != 5) = true ∨ ((va.kind != 5) = false ∧ (vb.kind != 5) = true) ∨ ((va.kind != 5) = false ∧ (vb.kind != 5) = false ∧ va.l.length ≠ vb.l.length) := by
     by_cases q : va.kind = 5
     ·by_cases q2 : vb.kind = 5
      ·exact .inr (.inr ⟨(yg q).2, (yg q2).2, fun q3 => h5 ⟨q, q2, q3⟩⟩)
      ·exact .inr (.inl ⟨(yg q).2, (zt q2).2⟩)
     ·exact .inl (zt q).2
    clear h5 h6
    have Jw : Hid (∀ w2, zb [] w w2 → (w2.alloc (.cells #[.string ⟨#[]⟩] 9)).ownsRow w.heap.size 9 1 (.slice (some ⟨w2.heap.size, 0, none⟩) 1 1) 1 (zL [⟨#[]⟩])) := qI (fun w2 k => World.ownsRow_lit w2 #[.string ⟨#[]⟩] 1 k.size (by decide) rfl)
    rcases h6' with f6 | ⟨f6, f6'⟩ <;> rcases h5' with g5 | ⟨g5, g5'⟩ | ⟨g5, g5', g6⟩
    all_goals try have g7 := qK g6
    all_goals try obtain ⟨g8, g9⟩ := g7
    all_goals try clear g6
    all_goals
     go_wp2_with fail
     go_ret
     rw [HE.o]
     exact ⟨⟨_, _, rfl, Jw.o _ Ga.o⟩, Ga.o.alloc _⟩
theorem diff_a {n : Nat} {a b : V n} (h : zi n a ≠ 0) : ZI n a b = [] := by unfold ZI; rw [if_neg (fun q => h q.1)]
theorem diff_b {n : Nat} {a b : V n} (h : zi n b ≠ 0) : ZI n a b = [] := by unfold ZI; rw [if_neg (fun q => h q.2)]
theorem diff_c {n : Nat} {a b : V n} (h : zi n a = 0) (h' : zi n b = 0) : ZI n a b = zY n (zH n a) (zH n b) := by unfold ZI; rw [if_pos ⟨h, h'⟩]
def Texts (B : Nat) (l : List ByteArray) (e : Ending) (w' : World) : Prop := ∃ p c, e = .returned (.slice p l.length c) ∧ w'.ownsRow B 9 1 (.slice p l.length c) l.length (zL l)
theorem J5 (B : Nat) (w : World) : Texts B [] (.returned (.slice none 0 0)) w := ⟨_, _, rfl, World.ownsRow_nil _ _ _ _⟩
section
variable {n : Nat} {va vb : V n} {S T : Nat → Prop} {w : World} {ca cb : List Value}
theorem diff_any (h : Rep n S w ca va) (h' : Rep n T w cb vb) (hs : zZ n va) (hs' : zZ n vb) (hn : n ≤ 100) (ht : yK w) :
  Calls Tryz.prog 22 #[.agg ca.toArray, .agg cb.toArray] w fun e w' => Texts w.heap.size (ZI n va vb) e w' ∧ zb [] w w' := by
 obtain ⟨kd, nm, st, a, la, ea, b, lb, eb, rfl⟩ := h.conv
 obtain ⟨kd', nm', st', a', la', ea', b', lb', eb', rfl⟩ := h'.conv
 obtain ⟨W0, Gg⟩ : ∃ W0, Hid (W0 = (w.alloc (.cells #[.int .i64 kd, .int .i64 nm, .string st, .slice a la ea, .slice b lb eb] 25)).alloc (.cells #[.int .i64 kd', .int .i64 nm', .string st', .slice a' la' ea', .slice b' lb' eb'] 25)) := ⟨_, qI rfl⟩
 have Gc : Hid (zb [] w W0) := qI (by rw [Gg.o]; exact ((zb.refl [] w).alloc _).alloc _)
 have HA : Hid (z6 W0 w.heap.size kd nm st (.slice a la ea) (.slice b lb eb)) := qI (by rw [Gg.o]; exact (yb _ _ _ _ _ _ _).kept0 ((zb.refl [] _).alloc _))
 have HB : Hid (z6 W0 (w.heap.size + 1) kd' nm' st' (.slice a' la' ea') (.slice b' lb' eb')) := qI (by rw [Gg.o]; exact ql (by simp) _ _ _ _ _ _)
 have CA : Hid (∀ w1, zb [] W0 w1 → _) := qI (fun w1 (k : zb [] W0 w1) => xn ((h.kept0 Gc.o).kept0 k) hs hn ((ht.kept0 Gc.o).kept0 k))
 have CB : Hid (∀ w1, zb [] W0 w1 → _) := qI (fun w1 (k : zb [] W0 w1) => xn ((h'.kept0 Gc.o).kept0 k) hs' hn ((ht.kept0 Gc.o).kept0 k))
 have SA : Hid (∀ w1, zb [] W0 w1 → zi n va = 0 → _) := qI (fun w1 (k : zb [] W0 w1) (hr : zi n va = 0) => Zk ((h.kept0 Gc.o).kept0 k) hs hn ((ht.kept0 Gc.o).kept0 k) hr)
 have SB : Hid (∀ w1, zb [] W0 w1 → zi n vb = 0 → _) := qI (fun w1 (k : zb [] W0 w1) (hr : zi n vb = 0) => Zk ((h'.kept0 Gc.o).kept0 k) hs' hn ((ht.kept0 Gc.o).kept0 k) hr)
 have HT := qI (ht.kept0 Gc.o)
 have Je := qI (fun hc : zi n va = 0 => JU hs hc)
 have Jf := qI (fun hc : zi n vb = 0 => JU hs' hc)
 have HN := qI hn
 have hA0 := HA.o
 rw [Gg.o] at hA0
 obtain ⟨a0, a1, a2, a3, a4⟩ := hA0
 clear h h' hs hs' ht hn
 go_enter func22, ntmps22
 go_wp2_with fail
 rw [← Gg.o]
 clear a0 a1 a2 a3 a4
 refine (CA.o _ (zb.refl _ _)).mono ?_
 rintro e w1 ⟨rfl, hk1⟩
 have Gj := qI hk1
 obtain ⟨b0, b1, b2, b3, b4⟩ := HB.o.kept0 hk1
 clear hk1
 by_cases hca : zi n va = 0
 rotate_left
 ·have HR := qI (diff_a (b := vb) hca)
  obtain ⟨f1, f2⟩ := zt hca
  clear hca
  go_wp2_with fail
  go_ret
  rw [HR.o]
  exact ⟨J5 _ _, Gc.o.then Gj.o⟩
 have Jx := qI hca
 rw [hca]
 clear hca
 go_wp2_with fail
 refine (CB.o _ Gj.o).mono ?_
 rintro e w2 ⟨rfl, hk2⟩
 have Gb := qI (Gj.o.then hk2)
 clear hk2 b0 b1 b2 b3 b4
 by_cases hcb : zi n vb = 0
 rotate_left
 ·have HR := qI (diff_b (a := va) hcb)
  obtain ⟨f1, f2⟩ := zt hcb
  clear hcb
  go_wp2_with fail
  go_ret
  rw [HR.o]
  exact ⟨J5 _ _, Gc.o.then Gb.o⟩
 have HR := qI (diff_c Jx.o hcb)
 have Mc := qI hcb
 rw [hcb]
 clear hcb
 obtain ⟨a0, a1, a2, a3, a4⟩ := HA.o.kept0 Gb.o
 obtain ⟨b0, b1, b2, b3, b4⟩ := HB.o.kept0 Gb.o
 go_wp2_with fail
 refine zk (n := 6) (fun w' : World => zb [] w2 w') 6 (by kernel_rfl) (by kernel_rfl) ?_
 change zR _ _ _ _ _ _ _ _ _ w2.drew
 have hSS : (fun w' : World => zb [] w2 w') w2.drew := (zb.refl [] w2).drew
 revert hSS
 generalize w2.drew = W1
 intro hSS
 refine zx ?_
 intro O R hO hR
 have hQp : ∀ c a (d : Nat) v w, R (.panic c) (a.put (some d) v) w → R (.panic c) a w := by subst hR; exact fun _ _ _ _ _ h => h
 refine qT 0 ?_ hO rfl rfl (by kernel_rfl) hQp (fun w hSw => ?_) hSS ?_
 rotate_left
 ·have s0 := hSw.cell a0 (by simp); have s1 := hSw.cell a1 (by simp); have s2 := hSw.cell a2 (by simp); have s3 := hSw.cell a3 (by simp); have s4 := hSw.cell a4 (by simp); go_simp; try with_reducible rfl
 try simp only [zA,zN,zB,zC,zD]
 refine qT 2 ?_ hO rfl rfl (by kernel_rfl) hQp (fun w hSw => ?_) hSS ?_
 rotate_left
 ·have s0 := hSw.cell b0 (by simp); have s1 := hSw.cell b1 (by simp); have s2 := hSw.cell b2 (by simp); have s3 := hSw.cell b3 (by simp); have s4 := hSw.cell b4 (by simp); go_simp; try with_reducible rfl
 try simp only [zA,zN,zB,zC,zD]
 refine qO 1 hO rfl (by kernel_rfl) (fun K hK => ?_)
 go_simp
 refine Calls.mono (SA.o _ (Gb.o.then hSS) Jx.o) ?_
 rintro e w3 ⟨⟨cs3, rfl, ho3⟩, hk3⟩
 obtain ⟨k3, m3, s3, p3, i3, c3, q3, j3, d3, rfl⟩ := ho3.said
 have Ml := qI ho3
 have hS1 : (fun w' : World => zb [] w2 w') w3 := hSS.then hk3
 refine hK _ _ (.inr hS1) ?_
 clear hK K
 try simp only [zA,zN,zB,zC,zD]
 clear hSS hk3 ho3
 have hSS := hS1
 clear hS1
 refine qO 3 hO rfl (by kernel_rfl) (fun K hK => ?_)
 go_simp
 refine Calls.mono (SB.o _ (Gb.o.then hSS) Mc.o) ?_
 rintro e w4 ⟨⟨cs4, rfl, ho4⟩, hk4⟩
 obtain ⟨k4, m4, s4, p4, i4, c4, q4, j4, d4, rfl⟩ := ho4.said
 have hS1 : (fun w' : World => zb [] w2 w') w4 := hSS.then hk4
 have CE := qI (JQ n HN.o (zH n va) (zH n vb) (Ml.o.rep.kept0 hk4) ho4.rep (Je.o Jx.o) (Jf.o Mc.o) (HT.o.kept0 (Gb.o.then hS1)))
 refine hK _ _ (.inr hS1) ?_
 clear hK K
 try simp only [zA,zN,zB,zC,zD]
 clear hSS hk4 ho4
 have hSS := hS1
 clear hS1
 have Mm := qI ((Gc.o.then Gb.o).then hSS).size
 refine qO 4 hO rfl (by kernel_rfl) (fun K hK => ?_)
 go_simp
 refine Calls.mono CE.o ?_
 rintro e w5 ⟨⟨p5, c5, rfl, ho5⟩, hk5⟩
 have Gt := qI ho5
 have hS1 : (fun w' : World => zb [] w2 w') w5 := hSS.then hk5
 refine hK _ _ (.inr hS1) ?_
 clear hK K
 try simp only [zA,zN,zB,zC,zD]
 clear hSS hk5 ho5
 have hSS := hS1
 refine qT 5 ?_ hO rfl rfl (by kernel_rfl) hQp (fun w hSw => ?_) hSS ?_
 rotate_left
 ·go_simp; try with_reducible rfl
 try simp only [zA,zN,zB,zC,zD]
 refine zv hO (by kernel_rfl) ?_ _
 subst hR
 try clear hQp hO O
 clear a0 a1 a2 a3 a4 b0 b1 b2 b3 b4
 go_wp2_with fail
 go_ret
 rw [HR.o]
 exact ⟨⟨_, _, rfl, y8 Gt.o (fun g hg => by have h1 := (Gt.o.lt g hg).1; have h2 := Mm.o; omega)⟩, (Gc.o.then Gb.o).then hS1⟩
end
end Go.Proofs.YtpbphdkjjoipnaaGreatDoor

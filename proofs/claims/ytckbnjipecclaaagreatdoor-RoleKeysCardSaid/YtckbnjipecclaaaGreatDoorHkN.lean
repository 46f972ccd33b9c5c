/- Parts of one proof, merged: XKN XKO XKP XKQ. -/
import Derived.Test.YtckbnjipecclaaaGreatDoorHkM
import Derived.Test.YtckbnjipecclaaaGreatDoorHkD
import Derived.Laws.Cover1
import Derived.Shelf.SlSortCmp.NoneTotal
import Derived.Deep.MidRow
import Derived.Test.YtckbnjipecclaaaGreatDoorHkC
set_option linter.all false
set_option maxHeartbeats 12800000
set_option maxRecDepth 10000
set_option linter.unusedVariables false
set_option linter.unusedSimpArgs false
set_option linter.unnecessarySimpa false
namespace Go.Proofs.YtckbnjipecclaaaGreatDoor
open Go.RowKit
open Go.Sort (grow flatK size_flatK get_flatK putRowK HoldsK)
def cmpZ (a b : ByteArray) : Int := if ltB a b = true then -1 else if ltB b a = true then 1 else 0
theorem less_eq (a b : ByteArray) : Op.bytesLess a.toList b.toList = ltB a b := by
 rw [ByteArray.toList_eq, ByteArray.toList_eq, bytesLess_eq]
 rfl
theorem compare_any (a b : ByteArray) (w : World) : Calls Tryz.prog 119 #[.string a, .string b] w fun e w' => e = .returned (.int .i64 (cmpZ a b)) ∧ w = w' := by
 by_cases h1 : ltB a b = true
 ·have f1 : Op.bytesLess a.toList b.toList = true := by rw [less_eq]; exact h1
  have HF : Hid (cmpZ a b = -1) := qI (by unfold cmpZ; rw [if_pos h1])
  clear h1
  go_enter Tryz.func119, Tryz.ntmps119
  go_wp2
  go_ret
  rw [HF.o]
  exact ⟨rfl, rfl⟩
 have f1 : Op.bytesLess a.toList b.toList = false := by rw [less_eq]; simpa using h1
 by_cases h2 : ltB b a = true
 ·have hne : a ≠ b := fun e => by subst e; exact h1 h2
  have f2 := (str_ne hne).1
  have HF : Hid (cmpZ a b = 1) := qI (by unfold cmpZ; rw [if_neg h1, if_pos h2])
  clear h1 h2 hne
  go_enter Tryz.func119, Tryz.ntmps119
  go_wp2
  go_ret
  rw [HF.o]
  exact ⟨rfl, rfl⟩
 ·have he : a = b := ltB_none h1 h2
  have f2 := (str_eq he).1
  have HF : Hid (cmpZ a b = 0) := qI (by unfold cmpZ; rw [if_neg h1, if_neg h2])
  clear h1 h2 he
  go_enter Tryz.func119, Tryz.ntmps119
  go_wp2
  go_ret
  rw [HF.o]
  exact ⟨rfl, rfl⟩
structure PC where
 key : ByteArray
 k : Int
 m : Int
 s : ByteArray
 p : Option Addr
 i : Nat
 c : Nat
 q : Option Addr
 j : Nat
 d : Nat
instance pcInh : Inhabited PC := ⟨⟨⟨#[]⟩, 0, 0, ⟨#[]⟩, none, 0, 0, none, 0, 0⟩⟩
def PC.cs (x : PC) : List Value := [.int .i64 x.k, .int .i64 x.m, .string x.s, .slice x.p x.i x.c, .slice x.q x.j x.d]
def PC.enc (x : PC) : List Value := .string x.key :: x.cs
def PC.cf (x y : PC) : Int := cmpZ x.key y.key
theorem PC.enc_len (x : PC) : x.enc.length = 6 := rfl
theorem PC.enc_one (x : PC) : ∀ v ∈ x.enc, v.oneCell' = true := by
 intro v hv
 simp only [PC.enc, PC.cs, List.mem_cons, List.not_mem_nil, or_false] at hv
 rcases hv with rfl | rfl | rfl | rfl | rfl | rfl <;> rfl
theorem byKey_any (x y : PC) (w : World) : Calls Tryz.prog 208 #[.agg x.enc.toArray, .agg y.enc.toArray] w fun e w' => e = .returned (.int .i64 (x.cf y)) ∧ w' = grow (w.drewN 0) #[.cells x.enc.toArray 78, .cells y.enc.toArray 78] := by
 obtain ⟨key, k, m, s, p, i, c, q, j, d⟩ := x
 obtain ⟨key', k', m', s', p', i', c', q', j', d'⟩ := y
 have HW : Hid (grow (w.drewN 0) #[.cells #[.string key, .int .i64 k, .int .i64 m, .string s, .slice p i c, .slice q j d] 78, .cells #[.string key', .int .i64 k', .int .i64 m', .string s', .slice p' i' c', .slice q' j' d'] 78] = (w.alloc (.cells #[.string key, .int .i64 k, .int .i64 m, .string s, .slice p i c, .slice q j d] 78)).alloc (.cells #[.string key', .int .i64 k', .int .i64 m', .string s', .slice p' i' c', .slice q' j' d'] 78)) := qI (by
  rw [Sort.alloc_eq_grow, Sort.alloc_eq_grow, Sort.grow_grow]; rfl)
 show Calls Tryz.prog 208 #[.agg #[.string key, .int .i64 k, .int .i64 m, .string s, .slice p i c, .slice q j d], .agg #[.string key', .int .i64 k', .int .i64 m', .string s', .slice p' i' c', .slice q' j' d']] w fun e w' => e = .returned (.int .i64 (cmpZ key key')) ∧ w' = grow (w.drewN 0) #[.cells #[.string key, .int .i64 k, .int .i64 m, .string s, .slice p i c, .slice q j d] 78, .cells #[.string key', .int .i64 k', .int .i64 m', .string s', .slice p' i' c', .slice q' j' d'] 78]
 rw [HW.o]
 go_enter Tryz.func208, Tryz.ntmps208
 go_wp2_with (go_at_call 119; refine (compare_any key key' _).mono ?_; rintro e w2 ⟨rfl, rfl⟩)
 go_ret
 exact ⟨rfl, rfl⟩
theorem ltOf_key (x y : PC) : ltOf PC.cf x y = ltB x.key y.key := by
 unfold ltOf PC.cf cmpZ
 by_cases h1 : ltB x.key y.key = true
 ·rw [if_pos h1, h1]; rfl
 ·rw [if_neg h1]
  have h1' : ltB x.key y.key = false := by simpa using h1
  rw [h1']
  split <;> rfl
theorem swo_keys : Sort.SWO (ltOf PC.cf) := by
 have e := ltOf_key
 refine ⟨fun x => ?_, fun x y z h1 h2 => ?_, fun x y z h1 h2 => ?_⟩
 ·rw [e]; unfold ltB; simp
 ·rw [e] at h1 h2 ⊢
  unfold ltB at *
  rw [decide_eq_true_iff] at *
  exact List.lt_trans h1 h2
 ·rw [e] at h1 h2 ⊢
  unfold ltB at *
  rw [decide_eq_false_iff_not] at *
  rw [List.not_lt] at *
  exact List.le_trans h2 h1
theorem agg_pair (w : World) : (isAgg 78).run Tryz.prog w = .ok true w := Tryz.isAgg78 w
theorem size_pair (w : World) : (Go.sizeOf 78).run Tryz.prog w = .ok 6 w := Tryz.sizeOf78 w
theorem enter_byKey : ∀ (args : Array Value) (w : World), (callFunc 208 args).run Tryz.prog w = .ok (.enter 208 args) w := enters_of Tryz.func208 (by kernel_rfl) rfl
theorem enc_get (ds : List PC) (t : Nat) (h : t < ds.length * 6) : (ds.flatMap PC.enc)[t]? = some (((ds[t / 6]'(by omega)).enc)[t % 6]!) := by
 have h1 : ds.flatMap PC.enc = (ds.map PC.enc).flatten := by simp [List.flatMap]
 have h2 := flat_get (size := 6) (ds.map PC.enc) (t / 6) (t % 6) (by intro c hc; obtain ⟨x, _, rfl⟩ := List.mem_map.1 hc; rfl) (by simp; omega) (by omega)
 have e : t / 6 * 6 + t % 6 = t := by omega
 rw [e] at h2
 rw [h1, h2, List.getElem_map]
 have hl : t % 6 < (ds[t / 6]'(by omega)).enc.length := by rw [PC.enc_len]; omega
 rw [List.getElem?_eq_getElem hl]
 congr 1
 exact (getElem!_pos (ds[t / 6]'(by omega)).enc (t % 6) hl).symm
theorem enc_length (ds : List PC) : (ds.flatMap PC.enc).length = ds.length * 6 := by
 induction ds with
 | nil => rfl
 | cons x ds ih => rw [List.flatMap_cons, List.length_append, ih, PC.enc_len, List.length_cons]; omega
theorem sortPairs_any {w : World} {B g n cap : Nat} {ms : List PC} (hrow : w.ownsRow B 78 6 (.slice (some ⟨g, 0, none⟩) n cap) n (ms.flatMap PC.enc)) (hn : ms.length = n) (h63 : n ≤ 1000000) :
  Calls Tryz.prog 207 #[.slice (some ⟨g, 0, none⟩) n cap, .func (.func 208) #[] #[]] w fun e w' =>
   e = .returned (.tuple #[]) ∧ ∃ ds : List PC, ds.Perm ms ∧ ds.Pairwise (fun x y => ltB y.key x.key = false) ∧ w'.ownsRow B 78 6 (.slice (some ⟨g, 0, none⟩) n cap) n (ds.flatMap PC.enc) ∧ Kept [g] w w' := by
 subst hn
 obtain ⟨hl, hr⟩ := hrow
 obtain ⟨cur, hb, hh, hc, hm, hs, ht⟩ : ∃ cur, B ≤ g ∧ w.heap[g]? = some (.cells cur 78 (0, 0)) ∧ ms.length ≤ cap ∧ cap ≤ maxLen ∧ cur.size = cap * 6 ∧ cur.toList.take (ms.length * 6) = ms.flatMap PC.enc := by
  rcases hr with ⟨h, _⟩ | ⟨g', cap', cur, hv, r1, r2, r3, r4, r5, r6⟩
  ·cases h
  ·simp only [Value.slice.injEq, Option.some.injEq, Addr.mk.injEq, and_true, true_and] at hv
   obtain ⟨rfl, rfl⟩ := hv
   exact ⟨cur, r1, r2, r3, r4, r5, r6⟩
 have hmc : ms.length * 6 ≤ cap * 6 := Nat.mul_le_mul_right 6 hc
 have hH : HoldsK PC.enc 6 w g 0 ms.toArray := by
  intro j hj
  rw [size_flatK] at hj
  have hj' : j < ms.length * 6 := by simpa using hj
  rw [get_flatK _ _ _ _ hj, Nat.zero_add]
  have h1 : cur[j]? = some ((ms[j / 6]'(by omega)).enc[j % 6]!) := by
   rw [← enc_get ms j hj', ← ht, List.getElem?_take, if_pos hj', Array.getElem?_toList]
  refine ⟨?_, free_head hh⟩
  rw [cell_head hh h1]
  have h2 : j / 6 < ms.toArray.size := by simp; omega
  rw [getElem!_pos ms.toArray (j / 6) h2]
  simp
 have hcmp : CmpLays Tryz.prog 208 #[] PC.enc 6 PC.cf g 0 ms.toArray.size w := by
  intro m os dk _ x y
  exact (byKey_any x y _).mono fun e w' ⟨h1, h2⟩ => ⟨h1, 0, _, h2⟩
 refine (AnyQ.slices_SortFunc Tryz.shSort 6 agg_pair size_pair PC.enc PC.enc_len PC.enc_one PC.cf swo_keys 208 #[] g 0 cap ms.toArray w enter_byKey hcmp hH (lt_of_block hh) (by simp; omega)).mono ?_
 rintro e w' ⟨rfl, d', m, os, hp, hsrt, rfl⟩
 obtain ⟨p1, _, p3⟩ := hp
 have hsz : d'.size = ms.length := by simpa using p1
 obtain ⟨q1, cur', q2, q3, q4⟩ := sort_world PC.enc 6 hh m d' os (by rw [hsz, hs]; exact hmc)
 have hperm : d'.toList.Perm ms := by
  have h1 : (d'.extract 0 ms.toArray.size) = d' := by rw [← p1]; exact Array.extract_size
  have h2 : (ms.toArray.extract 0 ms.toArray.size) = ms.toArray := Array.extract_size
  rw [h1, h2] at p3
  simpa using p3
 refine ⟨rfl, d'.toList, hperm, ?_, ⟨?_, .inr ⟨g, cap, cur', rfl, hb, q2, hc, hm, by rw [q3]; exact hs, ?_⟩⟩, q1⟩
 ·rw [List.pairwise_iff_getElem]
  intro i j hi hj hij
  have hi' : i < d'.size := by simpa using hi
  have hj' : j < d'.size := by simpa using hj
  have h1 := hsrt i j (Nat.zero_le _) hij (by rw [← p1]; exact hj')
  rw [getElem!_pos d' i hi', getElem!_pos d' j hj'] at h1
  have h2 : ltOf PC.cf d'[j] d'[i] = ltB d'[j].key d'[i].key := ltOf_key _ _
  rw [h2] at h1
  simpa using h1
 ·rw [enc_length, Array.length_toList, hsz]
 ·apply List.ext_getElem?
  intro t
  rw [List.getElem?_take]
  by_cases h1 : t < ms.length * 6
  ·rw [if_pos h1, Array.getElem?_toList, q4 t (by omega), if_pos (by rw [hsz]; exact h1), enc_get d'.toList t (by rw [Array.length_toList, hsz]; exact h1)]
   have h2 : t / 6 < d'.size := by omega
   rw [getElem!_pos d' (t / 6) h2]
   simp
  ·rw [if_neg h1, List.getElem?_eq_none (by rw [enc_length, Array.length_toList, hsz]; omega)]
theorem row_cells {w : World} {base e size n o g : Nat} {v : Value} {xs c : List Value} (h : w.ownsRow base e size v n xs) (hv : v.ownBlock = some g) (ho : o + c.length ≤ n * size) :
  (∃ ys, (w.setCells g o c).ownsRow base e size v n ys ∧ ys.length = xs.length ∧ ∀ j, ys[j]? = if o ≤ j ∧ j < o + c.length then c[j - o]? else xs[j]?) ∧ w.there g o c.length ∧ Kept [g] w (w.setCells g o c) := by
 obtain ⟨h1, h2⟩ := h
 rcases h2 with ⟨rfl, _⟩ | ⟨g', cap, cur, rfl, hb, hh, hcap, hm, hs, ht⟩
 ·simp [Value.ownBlock] at hv
 ·simp [Value.ownBlock] at hv
  subst hv
  have hnc : n * size ≤ cap * size := Nat.mul_le_mul_right size hcap
  obtain ⟨cur', q1, q2, q3⟩ := setCells_at g' c o w cur hh
  have hget : ∀ j, (cur'.toList.take (n * size))[j]? = if o ≤ j ∧ j < o + c.length then c[j - o]? else xs[j]? := by
   intro j
   rw [List.getElem?_take]
   by_cases hj : j < n * size
   ·rw [if_pos hj, Array.getElem?_toList, q3 j (by omega)]
    by_cases q : o ≤ j ∧ j < o + c.length
    ·rw [if_pos q, if_pos q]
    ·rw [if_neg q, if_neg q, ← ht, List.getElem?_take, if_pos hj, Array.getElem?_toList]
   ·rw [if_neg hj, if_neg (by omega), List.getElem?_eq_none (by omega)]
  have hlen : (cur'.toList.take (n * size)).length = n * size := by rw [List.length_take, Array.length_toList, q2, hs]; omega
  refine ⟨⟨cur'.toList.take (n * size), ⟨hlen, .inr ⟨g', cap, cur', rfl, hb, q1, hcap, hm, by rw [q2]; exact hs, rfl⟩⟩, by rw [hlen, h1], hget⟩, ?_, setCells_kept _ _ _ _⟩
  intro j hj
  have hl : o + j < cur.size := by omega
  have hcell : w.cell? ⟨g', o + j, none⟩ = some cur[o + j] := cell_head hh (by simp [hl])
  exact ⟨by rw [hcell]; rfl, free_head hh⟩
theorem take_set {α β : Type} (f : α → β) (g : α → β) (l : List α) (k : Nat) (h : k < l.length) : ((l.take k).map f ++ (l.drop k).map g).set k (f l[k]) = (l.take (k + 1)).map f ++ (l.drop (k + 1)).map g := by
 rw [take_map_succ f l k h, List.drop_eq_getElem_cons h, List.map_cons, List.set_append]
 have e : ((l.take k).map f).length = k := by simp; omega
 rw [if_neg (by omega), e, Nat.sub_self, List.set_cons_zero, List.append_assoc]
 rfl
theorem mixed_get {α β : Type} (f : α → β) (g : α → β) (l : List α) (k : Nat) (h : k < l.length) : ((l.take k).map f ++ (l.drop k).map g)[k]? = some (g l[k]) := by
 have e : ((l.take k).map f).length = k := by simp; omega
 rw [List.getElem?_append_right (by omega), e, Nat.sub_self, List.drop_eq_getElem_cons h]
 rfl
theorem right_nodup {n : Nat} {v : VS (V n)} (h : rightV (n + 1) v = true) : (v.m.map (fun p => p.1)).Nodup := by
 rcases own_cases (right_own h) with q | q | q | q | q | q
 ·rw [q.2.2.2.2]; exact List.nodup_nil
 ·rw [q.2.2.2.2]; exact List.nodup_nil
 ·rw [q.2.2.2.2]; exact List.nodup_nil
 ·rw [q.2.2.2.2]; exact List.nodup_nil
 ·rw [q.2.2.2]; exact List.nodup_nil
 ·have := q.2.2.2.2
  unfold keysOk at this
  rw [Bool.and_eq_true, decide_eq_true_iff] at this
  exact this.2
theorem pcs_of {n : Nat} {S : Nat → Prop} {w : World} : ∀ {mcs : List (ByteArray × List Value)} {ms : List (ByteArray × V n)}, All2 (pairR (Rep n S w)) mcs ms → ∃ ds : List PC, mcs = ds.map (fun x => (x.key, x.cs)) ∧ pairCs mcs = ds.flatMap PC.enc := by
 intro mcs
 induction mcs with
 | nil => intro ms _; exact ⟨[], rfl, rfl⟩
 | cons p mcs ih =>
  intro ms h
  match ms, h with
  | [], h => exact absurd h.1 (by simp)
  | q :: ms, h =>
   obtain ⟨ds, h1, h2⟩ := ih (ms := ms) ⟨by simpa using h.1, fun j a b ha hb => h.2 (j + 1) a b (by simpa using ha) (by simpa using hb)⟩
   have hr := (h.2 0 p q rfl rfl).2
   obtain ⟨key, cs⟩ := p
   obtain ⟨k, m, s, a, b, e⟩ := hr.five
   simp only at e
   subst e
   obtain ⟨p1, i, c, q1, j, d, rfl, rfl⟩ := hr.sl
   refine ⟨⟨key, k, m, s, p1, i, c, q1, j, d⟩ :: ds, by rw [List.map_cons, h1]; rfl, ?_⟩
   rw [List.flatMap_cons, ← h2]
   rfl
theorem Slc.at6 {w : World} {x : Value} {m : Nat} {ms : List (ByteArray × List Value)} (h : Slc w 6 x m (pairCs ms)) (h6 : ∀ c, c ∈ ms.map pairC → c.length = 6) {j : Nat} (hj : j < ms.length) {k i : Int} {s : ByteArray} {a b : Value} (e : ms[j].2 = [.int .i64 k, .int .i64 i, .string s, a, b]) :
  ∃ g o cap, x = .slice (some ⟨g, o, none⟩) m cap ∧ w.cell? ⟨g, o + j * 6, none⟩ = some (.string ms[j].1) ∧ w.cell? ⟨g, o + j * 6 + 1, none⟩ = some (.int .i64 k) ∧ w.cell? ⟨g, o + j * 6 + 2, none⟩ = some (.int .i64 i) ∧ w.cell? ⟨g, o + j * 6 + 3, none⟩ = some (.string s) ∧ w.cell? ⟨g, o + j * 6 + 4, none⟩ = some a ∧ w.cell? ⟨g, o + j * 6 + 5, none⟩ = some b := by
 rw [pairCs_flat] at h
 have hl := flat_len (ms.map pairC) h6
 rw [List.length_map] at hl
 have hm := h.1
 rcases h.2 with ⟨_, h0⟩ | ⟨h0, _⟩ | ⟨g, o, cap, hsv, _, _, hrow⟩
 ·omega
 ·omega
 have hc : ∀ i, i < 6 → (ms.map pairC).flatten[j * 6 + i]? = (pairC ms[j])[i]? := fun i hi => by
  rw [flat_get (ms.map pairC) j i h6 (by simpa using hj) hi, List.getElem_map]
 have e2 : pairC ms[j] = [.string ms[j].1, .int .i64 k, .int .i64 i, .string s, a, b] := by
  show Value.string ms[j].1 :: ms[j].2 = _
  rw [e]
 rw [e2] at hc
 refine ⟨g, o, cap, hsv, ?_, ?_, ?_, ?_, ?_, ?_⟩
 ·exact hrow.cells (j * 6 + 0) _ (hc 0 (by decide))
 all_goals rw [Nat.add_assoc]
 ·exact hrow.cells (j * 6 + 1) _ (hc 1 (by decide))
 ·exact hrow.cells (j * 6 + 2) _ (hc 2 (by decide))
 ·exact hrow.cells (j * 6 + 3) _ (hc 3 (by decide))
 ·exact hrow.cells (j * 6 + 4) _ (hc 4 (by decide))
 ·exact hrow.cells (j * 6 + 5) _ (hc 5 (by decide))
theorem pair_set {ms : List (ByteArray × List Value)} (h6 : ∀ c, c ∈ ms.map pairC → c.length = 6) {k : Nat} (hk : k < ms.length) {c ys : List Value} (hc : c.length = 5)
  (hy : ∀ j, ys[j]? = if k * 6 + 1 ≤ j ∧ j < k * 6 + 1 + c.length then c[j - (k * 6 + 1)]? else (pairCs ms)[j]?) : ys = pairCs (ms.set k (ms[k].1, c)) := by
 apply List.ext_getElem?
 intro j
 rw [hy j, pairCs_flat, pairCs_flat, List.map_set, flat_set (size := 6) (ms.map pairC) k (pairC (ms[k].1, c)) h6 (by simp [pairC, hc]), List.length_map, hc]
 by_cases q : k * 6 + 1 ≤ j ∧ j < k * 6 + 1 + 5
 ·rw [if_pos q, if_pos ⟨hk, by omega, by omega⟩]
  show _ = (Value.string ms[k].1 :: c)[j - k * 6]?
  rw [show j - k * 6 = (j - (k * 6 + 1)) + 1 by omega, List.getElem?_cons_succ]
 ·rw [if_neg q]
  by_cases q2 : j = k * 6
  ·subst q2
   rw [if_pos ⟨hk, by omega, by omega⟩, Nat.sub_self]
   have := flat_get (size := 6) (ms.map pairC) k 0 h6 (by simpa using hk) (by decide)
   rw [Nat.add_zero] at this
   rw [this, List.getElem_map]
   rfl
  ·rw [if_neg (by omega)]
structure SortL {n : Nat} (B : Nat) (W2 : World) (v : VS (V n)) (vl vm : Value) (k : Nat) (wr : World) (ls : List (List Value)) : Prop where
 row : wr.ownsRow B 28 5 vl v.l.length ls.flatten
 all : All2 (Rep n (fun g => B ≤ g ∧ vl.ownBlock ≠ some g ∧ vm.ownBlock ≠ some g) wr) ls ((v.l.take k).map (sortV n) ++ (v.l.drop k).map id)
 kept : Kept vl.ownBlock.toList W2 wr
structure SortM {n : Nat} (B : Nat) (W2 : World) (v : VS (V n)) (vl vm : Value) (k : Nat) (wr : World) (ms : List (ByteArray × List Value)) : Prop where
 row : wr.ownsRow B 78 6 vm v.m.length (pairCs ms)
 all : All2 (pairR (Rep n (fun g => B ≤ g ∧ vl.ownBlock ≠ some g ∧ vm.ownBlock ≠ some g) wr)) ms ((v.m.take k).map (fun p => (p.1, sortV n p.2)) ++ (v.m.drop k).map id)
 kept : Kept vm.ownBlock.toList W2 wr
theorem Rep.conv {n : Nat} {S : Nat → Prop} {w : World} {cs : List Value} {v : V n} (h : Rep n S w cs v) : ∃ k m s p i c q j d, cs = [.int .i64 k, .int .i64 m, .string s, .slice p i c, .slice q j d] := by
 obtain ⟨k, m, s, a, b, rfl⟩ := h.five
 obtain ⟨p, i, c, q, j, d, rfl, rfl⟩ := h.sl
 exact ⟨k, m, s, p, i, c, q, j, d, rfl⟩
theorem sortAny {w : World} {B n cap : Nat} {a : Option Addr} {ms : List PC} (hrow : w.ownsRow B 78 6 (.slice a n cap) n (ms.flatMap PC.enc)) (h63 : n ≤ 1000000) :
  Calls Tryz.prog 207 #[.slice a n cap, .func (.func 208) #[] #[]] w fun e w' =>
   e = .returned (.tuple #[]) ∧ ∃ ds : List PC, ds.Perm ms ∧ ds.Pairwise (fun x y => ltB y.key x.key = false) ∧ w'.ownsRow B 78 6 (.slice a n cap) n (ds.flatMap PC.enc) ∧ Kept (Value.slice a n cap).ownBlock.toList w w' := by
 have hl : ms.length = n := by have := hrow.1; rw [enc_length] at this; omega
 cases a with
 | none =>
  have h0 : n = 0 ∧ cap = 0 := by
   rcases hrow.2 with ⟨h, h1⟩ | ⟨g, cap', cur, hv, _⟩
   ·simp only [Value.slice.injEq] at h; exact ⟨h.2.1, h.2.2⟩
   ·simp only [Value.slice.injEq] at hv; cases hv.1
  obtain ⟨rfl, rfl⟩ := h0
  have : ms = [] := List.eq_nil_of_length_eq_zero hl
  subst this
  exact (AnyF.slices_SortFunc_none Tryz.shSort none 0 _ w).mono fun e w' ⟨h1, h2⟩ => ⟨h1, [], List.Perm.refl _, List.Pairwise.nil, by rw [h2]; exact hrow, by rw [h2]; exact Kept.refl _ _⟩
 | some ad =>
  have had : ∃ g, ad = ⟨g, 0, none⟩ := by
   rcases hrow.2 with ⟨h, h1⟩ | ⟨g, cap', cur, hv, _⟩
   ·simp only [Value.slice.injEq] at h; cases h.1
   ·simp only [Value.slice.injEq, Option.some.injEq] at hv; exact ⟨g, hv.1⟩
  obtain ⟨g, rfl⟩ := had
  exact (sortPairs_any hrow hl h63).mono fun e w' ⟨h1, ds, h2, h3, h4, h5⟩ => ⟨h1, ds, h2, h3, h4, by simpa [Value.ownBlock] using h5⟩
theorem sorted_pairs {n : Nat} {R : List Value → V n → Prop} {ds ms : List PC} {xs : List (ByteArray × V n)} (h : All2 (pairR R) (ms.map (fun x => (x.key, x.cs))) xs) (hp : ds.Perm ms) (hs : ds.Pairwise (fun x y => ltB y.key x.key = false)) (hn : (xs.map (fun p => p.1)).Nodup) :
  All2 (pairR R) (ds.map (fun x => (x.key, x.cs))) (xs.mergeSort leK) := by
 obtain ⟨ys, h1, h2⟩ := h.perm (hp.map _)
 have hkeys : ∀ i (hi : i < ds.length) (hi' : i < ys.length), ys[i].1 = ds[i].key := fun i hi hi' => by
  have := (h2.2 i _ ys[i] (List.getElem?_eq_getElem (by simpa using hi)) (List.getElem?_eq_getElem hi')).1
  simpa using this.symm
 have hlen : ds.length = ys.length := by simpa using h2.1
 have hsrt : ys.Pairwise (fun x y => leK x y = true) := by
  rw [List.pairwise_iff_getElem]
  intro i j hi hj hij
  have h3 := (List.pairwise_iff_getElem.1 hs) i j (by omega) (by omega) hij
  unfold ltB at h3
  rw [decide_eq_false_iff_not, List.not_lt] at h3
  unfold leK
  rw [decide_eq_true_iff, hkeys i (by omega) hi, hkeys j (by omega) hj]
  exact h3
 have hnd : (ys.map (fun p => p.1)).Nodup := (h1.map (fun p : ByteArray × V n => p.1)).nodup_iff.2 hn
 have he : ys = xs.mergeSort leK := sorted_unique (h1.trans (List.mergeSort_perm xs leK).symm) hsrt (List.pairwise_mergeSort leK_trans leK_total xs) hnd
 rw [← he]
 exact h2
def sorted_anyKnown (n : Nat) : Prop := ∀ (v : V n) {S : Nat → Prop} {w : World} {cs : List Value}, Rep n S w cs v → Small n v → rightV n v = true →
    Calls Tryz.prog 177 #[.agg cs.toArray] w fun e w' => (∃ cs' : List Value, e = .returned (.agg cs'.toArray) ∧ OwnRep n w.heap.size w' cs' (sortV n v)) ∧ Kept [] w w'
theorem sorted_any_step {n : Nat} (known : sorted_anyKnown n) : sorted_anyKnown (n + 1) := fun (v : VS (V n)) {S} {w} {cs} h hs hrt => by
  have Jd := qI hs
  have Je := qI hrt
  have Ji := qI (right_nodup hrt)
  have IH := qI known
  have hlv : v.l.length ≤ 20000 := by have := hs.few; omega
  have hmv : v.m.length ≤ 20000 := by have := hs.few; omega
  obtain ⟨kd, nm, st, a, ca, ea, b, cb, eb, rfl⟩ := h.conv
  obtain ⟨W0, Gq⟩ : ∃ W0, Hid (W0 = (w.alloc (.cells #[.int .i64 kd, .int .i64 nm, .string st, .slice a ca ea, .slice b cb eb] 28)).alloc (.cells #[.int .i64 0, .int .i64 0, .string ⟨#[]⟩, .slice none 0 0, .slice none 0 0] 28)) := ⟨_, qI rfl⟩
  have Gd : Hid (W0.heap.size = w.heap.size + 2) := qI (by rw [Gq.o]; simp)
  have Jf : Hid (Kept [] w W0) := qI (by rw [Gq.o]; exact ((Kept.refl [] w).alloc _).alloc _)
  have Jj : Hid (W0.heap[w.heap.size + 1]? = some (.cells #[.int .i64 0, .int .i64 0, .string ⟨#[]⟩, .slice none 0 0, .slice none 0 0] 28 (0, 0))) := qI (by
   rw [Gq.o]; exact block_alloc (by simp))
  have CC := qI (clone_any (n + 1) v (h.kept0 Jf.o) hs)
  clear h hs hrt
  go_enter Tryz.func177, Tryz.ntmps177
  go_wp2_with fail
  rw [← Gq.o]
  refine CC.o.mono ?_
  rintro e w1 ⟨⟨cs', rfl, hown⟩, hk1⟩
  have Jk := qI hown.rep
  obtain ⟨vl, vm, lcs, mcs, rfl, hrl, hal, hrm, ham, hwk, hwn⟩ := hown
  obtain ⟨al, cl, rfl, -, -⟩ := (Slc.of_row hrl).form
  obtain ⟨am, cm, rfl, -, -⟩ := (Slc.of_row hrm).form
  have Gj := qI hrl
  have Jl := qI hal
  have Gi := qI hrm
  have Jm := qI ham
  have Jg := qI (And.intro hwk hwn)
  have Gs := qI hk1
  clear hrl hal hrm ham hwk hwn hk1 CC
  obtain ⟨W2, Gk⟩ : ∃ W2, Hid (W2 = w1.alloc (.cells #[.int .i64 v.kind, .int .i64 v.num, .string v.s, .slice al v.l.length cl, .slice am v.m.length cm] 28)) := ⟨_, qI rfl⟩
  have Gr : Hid (Kept [] w1 W2) := qI (by rw [Gk.o]; exact (Kept.refl [] w1).alloc _)
  have Gt : Hid (BoxAt W2 w1.heap.size v.kind v.num v.s (.slice al v.l.length cl) (.slice am v.m.length cm)) := qI (by rw [Gk.o]; exact box_at _ _ _ _ _ _ _)
  have Gl : Hid (W2.heap.size = w1.heap.size + 1) := qI (by rw [Gk.o]; simp)
  obtain ⟨c0, c1, c2, c3, c4⟩ := Gt.o
  rw [Gk.o] at c0 c1 c2 c3 c4
  go_wp2_with fail
  rw [← Gk.o]
  clear c0 c1 c2 c3 c4
  have Jn : Hid (SortL W0.heap.size W2 v (.slice al v.l.length cl) (.slice am v.m.length cm) 0 W2 lcs) := qI {
   row := row_kept Gj.o Gr.o (by simp)
   all := by simpa using Jl.o.mono fun _ _ _ r => r.kept0 Gr.o
   kept := Kept.refl _ _ }
  go_loopw [11] (fun i wr => ∃ (k : Nat) (ls : List (List Value)), i = .int .i64 k ∧ k ≤ v.l.length ∧ SortL W0.heap.size W2 v (.slice al v.l.length cl) (.slice am v.m.length cm) k wr ls) (fun i _ => v.l.length - (intOf i).toNat)
  case atStart => exact ⟨0, _, rfl, Nat.zero_le _, Jn.o⟩
  case round =>
   obtain ⟨k, ls, rfl, hk, hsl⟩ := hrel
   have Ga := qI hsl
   clear hsl
   by_cases hlt : k < v.l.length
   ·have hltI : (k : Int) < v.l.length := by omega
    obtain ⟨g, rfl, hgB, hgl⟩ : ∃ g, al = some ⟨g, 0, none⟩ ∧ W0.heap.size ≤ g ∧ g < w1.heap.size := by
     rcases Gj.o.2 with ⟨_, h0⟩ | ⟨g, cap, cur, hv, r1, r2, _⟩
     ·omega
     ·simp only [Value.slice.injEq] at hv
      exact ⟨g, hv.1, r1, lt_of_block r2⟩
    have hlsl : ls.length = v.l.length := by rw [Ga.o.all.1]; simp; omega
    have hk' : k < ls.length := by omega
    have hrep := Ga.o.all.2 k ls[k] v.l[k] (List.getElem?_eq_getElem hk') (mixed_get (sortV n) id v.l k hlt)
    obtain ⟨xk, xm, xs, xp, xi, xc, xq, xj, xd, ex⟩ := hrep.conv
    obtain ⟨g', o', cap', hsv, q0, q1, q2, q3, q4⟩ := (Slc.of_row Ga.o.row).at5 (fun c hc => by obtain ⟨y, _, r⟩ := Ga.o.all.mem_left hc; exact r.len) hk' ex
    simp only [Value.slice.injEq, Option.some.injEq, Addr.mk.injEq, and_true, true_and] at hsv
    obtain ⟨⟨rfl, rfl⟩, -⟩ := hsv
    rw [ex] at hrep
    have Gu := qI hrep
    have Gm : Hid (Kept [g] W2 wr) := qI (by have := Ga.o.kept; simpa [Value.ownBlock] using this)
    have hgne : g ≠ w1.heap.size := by omega
    have y3 := (Gt.o.kept Gm.o (by simpa using Ne.symm hgne)).c3
    have Gv := qI (Jd.o.kid (mem_l (List.getElem_mem hlt)))
    have Gw := qI (right_kid Je.o (mem_l (List.getElem_mem hlt)))
    clear hrep
    rw [Nat.zero_add] at q0 q1 q2 q3 q4
    go_wp2_with fail
    refine wp_region_last' (n := 11) (fun w' : World => w'.cell? ⟨w1.heap.size, 3, none⟩ = some (.slice (some ⟨g, 0, none⟩) v.l.length cl) ∧ w'.cell? ⟨g, k * 5, none⟩ = some (.int .i64 xk) ∧ w'.cell? ⟨g, k * 5 + 1, none⟩ = some (.int .i64 xm) ∧ w'.cell? ⟨g, k * 5 + 2, none⟩ = some (.string xs) ∧ w'.cell? ⟨g, k * 5 + 3, none⟩ = some (.slice xp xi xc) ∧ w'.cell? ⟨g, k * 5 + 4, none⟩ = some (.slice xq xj xd)) 10 (by kernel_rfl) (by kernel_rfl) ?_
    change wpAnyT _ _ _ _ _ _ _ _ _ wr.drew
    have hSS : (fun w' : World => w'.cell? ⟨w1.heap.size, 3, none⟩ = some (.slice (some ⟨g, 0, none⟩) v.l.length cl) ∧ w'.cell? ⟨g, k * 5, none⟩ = some (.int .i64 xk) ∧ w'.cell? ⟨g, k * 5 + 1, none⟩ = some (.int .i64 xm) ∧ w'.cell? ⟨g, k * 5 + 2, none⟩ = some (.string xs) ∧ w'.cell? ⟨g, k * 5 + 3, none⟩ = some (.slice xp xi xc) ∧ w'.cell? ⟨g, k * 5 + 4, none⟩ = some (.slice xq xj xd)) wr.drew := ⟨y3, q0, q1, q2, q3, q4⟩
    have Gb : Hid (Kept [] wr wr.drew) := qI (Kept.refl _ _).drew
    clear y3 q0 q1 q2 q3 q4
    revert hSS Gb
    generalize wr.drew = WD
    intro hSS Gb
    refine wpAnyT_start ?_
    intro O R hO hR
    have hQp : ∀ c a (d : Nat) v w, R (.panic c) (a.put (some d) v) w → R (.panic c) a w := by subst hR; exact fun _ _ _ _ _ h => h
    refine wpAnyT_take' (i := 0) (v := ?_) hO rfl rfl (by kernel_rfl) (by kernel_rfl) (by kernel_rfl) (by kernel_rfl) hQp (Or.inl ⟨by kernel_rfl, fun w hSw => ?_⟩) hSS ?_
    rotate_left
    ·obtain ⟨s0, s1, s2, s3, s4, s5⟩ := hSw; go_simp; try with_reducible rfl
    try simp only [zA,zN,zB,zC,zD]
    refine wpAnyT_take' (i := 1) (v := ?_) hO rfl rfl (by kernel_rfl) (by kernel_rfl) (by kernel_rfl) (by kernel_rfl) hQp (Or.inl ⟨by kernel_rfl, fun w hSw => ?_⟩) hSS ?_
    rotate_left
    ·obtain ⟨s0, s1, s2, s3, s4, s5⟩ := hSw; go_simp; try with_reducible rfl
    try simp only [zA,zN,zB,zC,zD]
    refine wpAnyT_take' (i := 2) (v := ?_) hO rfl rfl (by kernel_rfl) (by kernel_rfl) (by kernel_rfl) (by kernel_rfl) hQp (Or.inl ⟨by kernel_rfl, fun w hSw => ?_⟩) hSS ?_
    rotate_left
    ·obtain ⟨s0, s1, s2, s3, s4, s5⟩ := hSw; go_simp; try with_reducible rfl
    try simp only [zA,zN,zB,zC,zD]
    refine wpAnyT_take' (i := 3) (v := ?_) hO rfl rfl (by kernel_rfl) (by kernel_rfl) (by kernel_rfl) (by kernel_rfl) hQp (Or.inl ⟨by kernel_rfl, fun w hSw => ?_⟩) hSS ?_
    rotate_left
    ·obtain ⟨s0, s1, s2, s3, s4, s5⟩ := hSw; go_simp; try with_reducible rfl
    try simp only [zA,zN,zB,zC,zD]
    refine wpAnyT_take' (i := 4) (v := ?_) hO rfl rfl (by kernel_rfl) (by kernel_rfl) (by kernel_rfl) (by kernel_rfl) hQp (Or.inl ⟨by kernel_rfl, fun w hSw => ?_⟩) hSS ?_
    rotate_left
    ·obtain ⟨s0, s1, s2, s3, s4, s5⟩ := hSw; go_simp; try with_reducible rfl
    try simp only [zA,zN,zB,zC,zD]
    refine wpAnyT_take' (i := 5) (v := ?_) hO rfl rfl (by kernel_rfl) (by kernel_rfl) (by kernel_rfl) (by kernel_rfl) hQp (Or.inl ⟨by kernel_rfl, fun w hSw => ?_⟩) hSS ?_
    rotate_left
    ·obtain ⟨s0, s1, s2, s3, s4, s5⟩ := hSw; go_simp; try with_reducible rfl
    try simp only [zA,zN,zB,zC,zD]
    refine wpAnyT_take' (i := 6) (v := ?_) hO rfl rfl (by kernel_rfl) (by kernel_rfl) (by kernel_rfl) (by kernel_rfl) hQp (Or.inl ⟨by kernel_rfl, fun w hSw => ?_⟩) hSS ?_
    rotate_left
    ·obtain ⟨s0, s1, s2, s3, s4, s5⟩ := hSw; go_simp; try with_reducible rfl
    try simp only [zA,zN,zB,zC,zD]
    refine wpAnyT_take' (i := 7) (v := ?_) hO rfl rfl (by kernel_rfl) (by kernel_rfl) (by kernel_rfl) (by kernel_rfl) hQp (Or.inl ⟨by kernel_rfl, fun w hSw => ?_⟩) hSS ?_
    rotate_left
    ·obtain ⟨s0, s1, s2, s3, s4, s5⟩ := hSw; go_simp; try with_reducible rfl
    try simp only [zA,zN,zB,zC,zD]
    refine wpAnyT_one' (i := 8) hO rfl (by kernel_rfl) (by kernel_rfl) (fun K hK => ?_)
    go_simp
    refine Calls.mono (IH.o v.l[k] (Gu.o.kept0 Gb.o) Gv.o Gw.o) ?_
    rintro e w3 ⟨⟨c3, rfl, hown3⟩, hk3⟩
    have Ge := qI hown3.rep
    have Gf := qI (Gb.o.then hk3)
    have hS3 : (fun w' : World => w'.cell? ⟨w1.heap.size, 3, none⟩ = some (.slice (some ⟨g, 0, none⟩) v.l.length cl) ∧ w'.cell? ⟨g, k * 5, none⟩ = some (.int .i64 xk) ∧ w'.cell? ⟨g, k * 5 + 1, none⟩ = some (.int .i64 xm) ∧ w'.cell? ⟨g, k * 5 + 2, none⟩ = some (.string xs) ∧ w'.cell? ⟨g, k * 5 + 3, none⟩ = some (.slice xp xi xc) ∧ w'.cell? ⟨g, k * 5 + 4, none⟩ = some (.slice xq xj xd)) w3 := ⟨hk3.cell hSS.1 (by simp), hk3.cell hSS.2.1 (by simp), hk3.cell hSS.2.2.1 (by simp), hk3.cell hSS.2.2.2.1 (by simp), hk3.cell hSS.2.2.2.2.1 (by simp), hk3.cell hSS.2.2.2.2.2 (by simp)⟩
    have Gg : Hid (wr.heap.size ≤ WD.heap.size ∧ WD.heap.size ≤ w3.heap.size) := qI ⟨Gb.o.size, hk3.size⟩
    clear hown3 hk3
    refine hK _ _ (.inr hS3) ?_
    clear hK K
    try simp only [zA,zN,zB,zC,zD]
    clear hSS
    have hSS := hS3
    clear hS3
    refine wpAnyT_one' (i := 9) hO rfl (by kernel_rfl) (by kernel_rfl) (fun K hK => ?_)
    go_simp
    refine hK _ _ (.inr hSS) ?_
    clear hK K
    try simp only [zA,zN,zB,zC,zD]
    have hlen3 : c3.length = 5 := Ge.o.len
    have hls5 : ∀ x, x ∈ ls → x.length = 5 := fun c hc => by obtain ⟨y, _, r⟩ := Ga.o.all.mem_left hc; exact r.len
    obtain ⟨hro, hth, hkg⟩ := row_stored (i := k) (g := g) (c := c3) (row_kept Ga.o.row Gf.o (by simp)) hls5 rfl hlsl hlt hlen3
    have Gx := qI hro
    have Gh := qI hkg
    clear hro hkg hls5
    refine wpAnyT_one' (i := 10) hO rfl (by kernel_rfl) (by kernel_rfl) (fun K hK => ?_)
    refine wp_store_mid 28 (.tmp 23) (.tmp 22) rfl g (k * 5) c3.toArray rfl rfl (by rw [List.size_toArray, hlen3]; exact hth) (by rw [List.size_toArray, hlen3]; kernel_rfl) (all_oneCell_toArray Ge.o.one) ?_
    refine hK _ _ (.inl rfl) ?_
    clear hK K
    try simp only [zA,zN,zB,zC,zD]
    refine wpAnyT_done' hO (by kernel_rfl) ?_ _
    subst hR
    try clear hQp hO O
    clear hth hSS hlen3
    go_wp2_with fail
    case roundEnd =>
     have hzW := Gd.o
     have hz2 := Gl.o
     have hzx := Gm.o.size
     have hzd := Gg.o
     refine ⟨⟨k + 1, ls.set k c3, by go_num, by omega, {
      row := Gx.o
      all := ?_
      kept := ?_ }⟩, by simp [intOf]; omega⟩
     ·rw [← take_set (sortV n) id v.l k hlt]
      refine All2.set (Ga.o.all.mono fun c y _ r => r.move ((Gf.o.mono (by simp)).trans' Gh.o) ?_) k (Ge.o.move Gh.o ?_)
      ·intro i hi ⟨h1, h2, h3⟩
       exact ⟨by intro hx; simp at hx; subst hx; exact h2 rfl, h1, h2, h3⟩
      ·intro i hi h1
       have hmlt := Gi.o.lt
       refine ⟨by intro hx; simp at hx; omega, by omega, ?_, ?_⟩
       ·intro hx; simp [Value.ownBlock] at hx; omega
       ·intro hx; have := (hmlt i hx).2; omega
     ·have h1 := (Ga.o.kept.then Gf.o).trans Gh.o (by intro i hi; simp at hi; subst hi; exact .inl (by simp [Value.ownBlock]))
      exact h1
   ·obtain rfl : k = v.l.length := by omega
    obtain ⟨WL, rfl⟩ : ∃ x, x = wr := ⟨_, rfl⟩
    obtain ⟨lsF, rfl⟩ : ∃ x, x = ls := ⟨_, rfl⟩
    have Gc := qI Ga.o
    have hblk : Hid (∀ i, i ∈ (Value.slice al v.l.length cl).ownBlock.toList → W0.heap.size ≤ i ∧ i < w1.heap.size ∧ kind w1 i = 28 + 2) := qI fun i hi => ⟨(Gj.o.lt i (Option.mem_toList.1 hi)).1, (Gj.o.lt i (Option.mem_toList.1 hi)).2, row_kind Gj.o (Option.mem_toList.1 hi)⟩
    have hmblk : Hid (∀ i, (Value.slice am v.m.length cm).ownBlock = some i → W0.heap.size ≤ i ∧ i < w1.heap.size ∧ kind w1 i = 78 + 2) := qI fun i hi => ⟨(Gi.o.lt i hi).1, (Gi.o.lt i hi).2, row_kind Gi.o hi⟩
    have Gy : Hid (Kept (Value.slice al v.l.length cl).ownBlock.toList w1 WL) := qI ((Gr.o.mono (by simp)).trans' Gc.o.kept)
    have Gn : Hid (W2.heap.size ≤ WL.heap.size) := qI Gc.o.kept.size
    have hb3l := Gt.o.kept Gc.o.kept (by intro hx; have := hblk.o _ hx; omega)
    have Gp := qI hb3l
    have Gz : Hid (SortM W0.heap.size WL v (.slice al v.l.length cl) (.slice am v.m.length cm) 0 WL mcs) := qI {
     row := row_kept Gi.o Gy.o (fun i hi hx => by have h1 := (hmblk.o i hi).2.2; have h2 := (hblk.o i hx).2.2; rw [h1] at h2; exact absurd h2 (by decide))
     all := by simpa using Jm.o.mono fun _ _ _ r => ⟨r.1, r.2.move Gy.o (fun i hi ⟨h1, h2, h3⟩ => ⟨fun hx => h2 (Option.mem_toList.1 hx), h1, h2, h3⟩)⟩
     kept := Kept.refl _ _ }
    obtain ⟨c0, c1, c2, c3, c4⟩ := hb3l
    clear Ga
    go_wp2_with fail
    clear c0 c1 c2 c3 c4
    go_loopw [28] (fun i wr => ∃ (k : Nat) (ms : List (ByteArray × List Value)), i = .int .i64 k ∧ k ≤ v.m.length ∧ SortM W0.heap.size WL v (.slice al v.l.length cl) (.slice am v.m.length cm) k wr ms) (fun i _ => v.m.length - (intOf i).toNat)
    case atStart => exact ⟨0, _, rfl, Nat.zero_le _, Gz.o⟩
    case round =>
     obtain ⟨k, ls, rfl, hk, hsl⟩ := hrel
     have Ga := qI hsl
     clear hsl
     by_cases hlt : k < v.m.length
     ·have hltI : (k : Int) < v.m.length := by omega
      obtain ⟨g, rfl, hgB, hgl⟩ : ∃ g, am = some ⟨g, 0, none⟩ ∧ W0.heap.size ≤ g ∧ g < w1.heap.size := by
       rcases Gi.o.2 with ⟨_, h0⟩ | ⟨g, cap, cur, hv, r1, r2, _⟩
       ·omega
       ·simp only [Value.slice.injEq] at hv
        exact ⟨g, hv.1, r1, lt_of_block r2⟩
      have hlsl : ls.length = v.m.length := by rw [Ga.o.all.1]; simp; omega
      have hk' : k < ls.length := by omega
      have hpr := Ga.o.all.2 k ls[k] v.m[k] (List.getElem?_eq_getElem hk') (mixed_get (fun p : ByteArray × V n => (p.1, sortV n p.2)) id v.m k hlt)
      obtain ⟨xk, xm, xs, xp, xi, xc, xq, xj, xd, ex⟩ := hpr.2.conv
      have h66 : ∀ c, c ∈ ls.map pairC → c.length = 6 := fun c hc => by
       obtain ⟨p, hp, rfl⟩ := List.mem_map.1 hc
       obtain ⟨y, _, r⟩ := Ga.o.all.mem_left hp
       simp [pairC, r.2.len]
      obtain ⟨g', o', cap', hsv, -, q0, q1, q2, q3, q4⟩ := (Slc.of_row Ga.o.row).at6 h66 hk' ex
      simp only [Value.slice.injEq, Option.some.injEq, Addr.mk.injEq, and_true, true_and] at hsv
      obtain ⟨⟨rfl, rfl⟩, -⟩ := hsv
      have hrep := hpr.2
      rw [ex] at hrep
      have Gu := qI hrep
      have Ja := qI hpr.1
      have Gm : Hid (Kept [g] WL wr) := qI (by have := Ga.o.kept; simpa [Value.ownBlock] using this)
      have hgne : g ≠ w1.heap.size := by omega
      have y3 := (Gp.o.kept Gm.o (by simpa using Ne.symm hgne)).c4
      have Gv := qI (Jd.o.kid (mem_m (List.getElem_mem hlt)))
      have Gw := qI (right_kid Je.o (mem_m (List.getElem_mem hlt)))
      have H66 := qI h66
      clear hrep hpr h66
      rw [Nat.zero_add] at q0 q1 q2 q3 q4
      go_wp2_with fail
      refine wp_region_last' (n := 13) (fun w' : World => w'.cell? ⟨w1.heap.size, 4, none⟩ = some (.slice (some ⟨g, 0, none⟩) v.m.length cm) ∧ w'.cell? ⟨g, k * 6 + 1, none⟩ = some (.int .i64 xk) ∧ w'.cell? ⟨g, k * 6 + 2, none⟩ = some (.int .i64 xm) ∧ w'.cell? ⟨g, k * 6 + 3, none⟩ = some (.string xs) ∧ w'.cell? ⟨g, k * 6 + 4, none⟩ = some (.slice xp xi xc) ∧ w'.cell? ⟨g, k * 6 + 5, none⟩ = some (.slice xq xj xd)) 12 (by kernel_rfl) (by kernel_rfl) ?_
      change wpAnyT _ _ _ _ _ _ _ _ _ wr.drew
      have hSS : (fun w' : World => w'.cell? ⟨w1.heap.size, 4, none⟩ = some (.slice (some ⟨g, 0, none⟩) v.m.length cm) ∧ w'.cell? ⟨g, k * 6 + 1, none⟩ = some (.int .i64 xk) ∧ w'.cell? ⟨g, k * 6 + 2, none⟩ = some (.int .i64 xm) ∧ w'.cell? ⟨g, k * 6 + 3, none⟩ = some (.string xs) ∧ w'.cell? ⟨g, k * 6 + 4, none⟩ = some (.slice xp xi xc) ∧ w'.cell? ⟨g, k * 6 + 5, none⟩ = some (.slice xq xj xd)) wr.drew := ⟨y3, q0, q1, q2, q3, q4⟩
      have Gb : Hid (Kept [] wr wr.drew) := qI (Kept.refl _ _).drew
      clear y3 q0 q1 q2 q3 q4
      revert hSS Gb
      generalize wr.drew = WD
      intro hSS Gb
      refine wpAnyT_start ?_
      intro O R hO hR
      have hQp : ∀ c a (d : Nat) v w, R (.panic c) (a.put (some d) v) w → R (.panic c) a w := by subst hR; exact fun _ _ _ _ _ h => h
      refine wpAnyT_take' (i := 0) (v := ?_) hO rfl rfl (by kernel_rfl) (by kernel_rfl) (by kernel_rfl) (by kernel_rfl) hQp (Or.inl ⟨by kernel_rfl, fun w hSw => ?_⟩) hSS ?_
      rotate_left
      ·obtain ⟨s0, s1, s2, s3, s4, s5⟩ := hSw; go_simp; try with_reducible rfl
      try simp only [zA,zN,zB,zC,zD]
      refine wpAnyT_take' (i := 1) (v := ?_) hO rfl rfl (by kernel_rfl) (by kernel_rfl) (by kernel_rfl) (by kernel_rfl) hQp (Or.inl ⟨by kernel_rfl, fun w hSw => ?_⟩) hSS ?_
      rotate_left
      ·obtain ⟨s0, s1, s2, s3, s4, s5⟩ := hSw; go_simp; try with_reducible rfl
      try simp only [zA,zN,zB,zC,zD]
      refine wpAnyT_take' (i := 2) (v := ?_) hO rfl rfl (by kernel_rfl) (by kernel_rfl) (by kernel_rfl) (by kernel_rfl) hQp (Or.inl ⟨by kernel_rfl, fun w hSw => ?_⟩) hSS ?_
      rotate_left
      ·obtain ⟨s0, s1, s2, s3, s4, s5⟩ := hSw; go_simp; try with_reducible rfl
      try simp only [zA,zN,zB,zC,zD]
      refine wpAnyT_take' (i := 3) (v := ?_) hO rfl rfl (by kernel_rfl) (by kernel_rfl) (by kernel_rfl) (by kernel_rfl) hQp (Or.inl ⟨by kernel_rfl, fun w hSw => ?_⟩) hSS ?_
      rotate_left
      ·obtain ⟨s0, s1, s2, s3, s4, s5⟩ := hSw; go_simp; try with_reducible rfl
      try simp only [zA,zN,zB,zC,zD]
      refine wpAnyT_take' (i := 4) (v := ?_) hO rfl rfl (by kernel_rfl) (by kernel_rfl) (by kernel_rfl) (by kernel_rfl) hQp (Or.inl ⟨by kernel_rfl, fun w hSw => ?_⟩) hSS ?_
      rotate_left
      ·obtain ⟨s0, s1, s2, s3, s4, s5⟩ := hSw; go_simp; try with_reducible rfl
      try simp only [zA,zN,zB,zC,zD]
      refine wpAnyT_take' (i := 5) (v := ?_) hO rfl rfl (by kernel_rfl) (by kernel_rfl) (by kernel_rfl) (by kernel_rfl) hQp (Or.inl ⟨by kernel_rfl, fun w hSw => ?_⟩) hSS ?_
      rotate_left
      ·obtain ⟨s0, s1, s2, s3, s4, s5⟩ := hSw; go_simp; try with_reducible rfl
      try simp only [zA,zN,zB,zC,zD]
      refine wpAnyT_take' (i := 6) (v := ?_) hO rfl rfl (by kernel_rfl) (by kernel_rfl) (by kernel_rfl) (by kernel_rfl) hQp (Or.inl ⟨by kernel_rfl, fun w hSw => ?_⟩) hSS ?_
      rotate_left
      ·obtain ⟨s0, s1, s2, s3, s4, s5⟩ := hSw; go_simp; try with_reducible rfl
      try simp only [zA,zN,zB,zC,zD]
      refine wpAnyT_take' (i := 7) (v := ?_) hO rfl rfl (by kernel_rfl) (by kernel_rfl) (by kernel_rfl) (by kernel_rfl) hQp (Or.inl ⟨by kernel_rfl, fun w hSw => ?_⟩) hSS ?_
      rotate_left
      ·obtain ⟨s0, s1, s2, s3, s4, s5⟩ := hSw; go_simp; try with_reducible rfl
      try simp only [zA,zN,zB,zC,zD]
      refine wpAnyT_take' (i := 8) (v := ?_) hO rfl rfl (by kernel_rfl) (by kernel_rfl) (by kernel_rfl) (by kernel_rfl) hQp (Or.inl ⟨by kernel_rfl, fun w hSw => ?_⟩) hSS ?_
      rotate_left
      ·obtain ⟨s0, s1, s2, s3, s4, s5⟩ := hSw; go_simp; try with_reducible rfl
      try simp only [zA,zN,zB,zC,zD]
      refine wpAnyT_one' (i := 9) hO rfl (by kernel_rfl) (by kernel_rfl) (fun K hK => ?_)
      go_simp
      refine Calls.mono (IH.o v.m[k].2 (Gu.o.kept0 Gb.o) Gv.o Gw.o) ?_
      rintro e w3 ⟨⟨c3, rfl, hown3⟩, hk3⟩
      have Ge := qI hown3.rep
      have Gf := qI (Gb.o.then hk3)
      have hS3 : (fun w' : World => w'.cell? ⟨w1.heap.size, 4, none⟩ = some (.slice (some ⟨g, 0, none⟩) v.m.length cm) ∧ w'.cell? ⟨g, k * 6 + 1, none⟩ = some (.int .i64 xk) ∧ w'.cell? ⟨g, k * 6 + 2, none⟩ = some (.int .i64 xm) ∧ w'.cell? ⟨g, k * 6 + 3, none⟩ = some (.string xs) ∧ w'.cell? ⟨g, k * 6 + 4, none⟩ = some (.slice xp xi xc) ∧ w'.cell? ⟨g, k * 6 + 5, none⟩ = some (.slice xq xj xd)) w3 := ⟨hk3.cell hSS.1 (by simp), hk3.cell hSS.2.1 (by simp), hk3.cell hSS.2.2.1 (by simp), hk3.cell hSS.2.2.2.1 (by simp), hk3.cell hSS.2.2.2.2.1 (by simp), hk3.cell hSS.2.2.2.2.2 (by simp)⟩
      have Gg : Hid (wr.heap.size ≤ WD.heap.size ∧ WD.heap.size ≤ w3.heap.size) := qI ⟨Gb.o.size, hk3.size⟩
      clear hown3 hk3
      refine hK _ _ (.inr hS3) ?_
      clear hK K
      try simp only [zA,zN,zB,zC,zD]
      clear hSS
      have hSS := hS3
      clear hS3
      refine wpAnyT_one' (i := 10) hO rfl (by kernel_rfl) (by kernel_rfl) (fun K hK => ?_)
      go_simp
      refine hK _ _ (.inr hSS) ?_
      clear hK K
      try simp only [zA,zN,zB,zC,zD]
      refine wpAnyT_one' (i := 11) hO rfl (by kernel_rfl) (by kernel_rfl) (fun K hK => ?_)
      go_simp
      refine hK _ _ (.inr hSS) ?_
      clear hK K
      try simp only [zA,zN,zB,zC,zD]
      have hlen3 : c3.length = 5 := Ge.o.len
      have hbnd : k * 6 + 1 + c3.length ≤ v.m.length * 6 := by rw [hlen3]; omega
      obtain ⟨⟨ys, hro, -, hys⟩, hth, hkg⟩ := row_cells (g := g) (o := k * 6 + 1) (c := c3) (row_kept Ga.o.row Gf.o (by simp)) rfl hbnd
      have hye := pair_set H66.o hk' hlen3 hys
      subst hye
      have Gx := qI hro
      have Gh := qI hkg
      clear hro hkg hys hbnd
      refine wpAnyT_one' (i := 12) hO rfl (by kernel_rfl) (by kernel_rfl) (fun K hK => ?_)
      refine wp_store_mid 28 (.tmp 42) (.tmp 40) rfl g (k * 6 + 1) c3.toArray rfl rfl (by rw [List.size_toArray]; exact hth) (by rw [List.size_toArray, hlen3]; kernel_rfl) (all_oneCell_toArray Ge.o.one) ?_
      refine hK _ _ (.inl rfl) ?_
      clear hK K
      try simp only [zA,zN,zB,zC,zD]
      refine wpAnyT_done' hO (by kernel_rfl) ?_ _
      subst hR
      try clear hQp hO O
      clear hth hSS hlen3
      go_wp2_with fail
      case roundEnd =>
       have hzW := Gd.o
       have hz2 := Gl.o
       have hzl := Gn.o
       have hzx := Gm.o.size
       have hzd := Gg.o
       refine ⟨⟨k + 1, ls.set k (ls[k].1, c3), by go_num, by omega, {
        row := Gx.o
        all := ?_
        kept := ?_ }⟩, by simp [intOf]; omega⟩
       ·rw [← take_set (fun p : ByteArray × V n => (p.1, sortV n p.2)) id v.m k hlt]
        refine All2.set (Ga.o.all.mono fun c y _ r => ⟨r.1, r.2.move ((Gf.o.mono (by simp)).trans' Gh.o) ?ga⟩) k ⟨Ja.o, Ge.o.move Gh.o ?gb⟩
        case ga =>
         intro i hi ⟨h1, h2, h3⟩
         exact ⟨by intro hx; simp at hx; subst hx; exact h3 rfl, h1, h2, h3⟩
        case gb =>
         intro i hi h1
         refine ⟨by intro hx; simp at hx; omega, by omega, ?_, ?_⟩
         ·intro hx; have := hblk.o i (Option.mem_toList.2 hx); omega
         ·intro hx; simp [Value.ownBlock] at hx; omega
       ·exact (Ga.o.kept.then Gf.o).trans Gh.o (by intro i hi; simp at hi; subst hi; exact .inl (by simp [Value.ownBlock]))
     ·obtain rfl : k = v.m.length := by omega
      obtain ⟨ds0, hls, henc⟩ := pcs_of Ga.o.all
      have CS := qI (sortAny (ms := ds0) (by rw [← henc]; exact Ga.o.row) (by omega))
      have Jo := qI hls
      have hb3f := Gp.o.kept Ga.o.kept (by intro hx; have := hmblk.o _ (Option.mem_toList.1 hx); omega)
      have Jb := qI hb3f
      have c4 := hb3f.c4
      clear hls henc hb3f
      go_wp2_with fail
      refine CS.o.mono ?_
      rintro e w5 ⟨rfl, ds, hdp, hds, hrow5, hk5⟩
      have Jp := qI hdp
      have Jq := qI hds
      have Jr := qI hrow5
      have Jc := qI hk5
      clear hdp hds hrow5 hk5 c4
      obtain ⟨c0, c1, c2, c3, c4⟩ := Jb.o.kept Jc.o (by intro hx; have := hmblk.o _ (Option.mem_toList.1 hx); omega)
      have Jh : Hid (Kept ((Value.slice al v.l.length cl).ownBlock.toList ++ (Value.slice am v.m.length cm).ownBlock.toList) w1 w5) := qI (((Gy.o.mono (fun i hi => List.mem_append_left _ hi)).trans' (Ga.o.kept.mono (fun i hi => List.mem_append_right _ hi))).trans' (Jc.o.mono (fun i hi => List.mem_append_right _ hi)))
      have hbr : w5.heap[w.heap.size + 1]? = some (.cells #[.int .i64 0, .int .i64 0, .string ⟨#[]⟩, .slice none 0 0, .slice none 0 0] 28 (0, 0)) := Jh.o.heap (Gs.o.heap Jj.o (by simp)) (by
       intro hx
       have hz := Gd.o
       rcases List.mem_append.1 hx with hx | hx
       ·have := hblk.o _ hx; omega
       ·have := hmblk.o _ (Option.mem_toList.1 hx); omega)
      have Js := qI hbr
      have r0 := cell_head (o := 0) (v := .int .i64 0) hbr rfl
      have r1 := cell_head (o := 1) (v := .int .i64 0) hbr rfl
      have r2 := cell_head (o := 2) (v := .string ⟨#[]⟩) hbr rfl
      have r3 := cell_head (o := 3) (v := .slice none 0 0) hbr rfl
      have r4 := cell_head (o := 4) (v := .slice none 0 0) hbr rfl
      have s0 := free_head (o := 0) hbr
      have s1 := free_head (o := 1) hbr
      have s2 := free_head (o := 2) hbr
      have s3 := free_head (o := 3) hbr
      have s4 := free_head (o := 4) hbr
      clear hbr
      go_wp2_with fail
      have hbf := block_setCell (v := .slice am v.m.length cm) (i := 4) (block_setCell (v := .slice al v.l.length cl) (i := 3) (block_setCell (v := .string v.s) (i := 2) (block_setCell (v := .int .i64 v.num) (i := 1) (block_setCell (v := .int .i64 v.kind) (i := 0) Js.o rfl) rfl) rfl) rfl) rfl
      have KF : Kept [w.heap.size + 1] w5 (((((w5.setCell ⟨w.heap.size + 1, 0, none⟩ (.int .i64 v.kind)).setCell ⟨w.heap.size + 1, 1, none⟩ (.int .i64 v.num)).setCell ⟨w.heap.size + 1, 2, none⟩ (.string v.s)).setCell ⟨w.heap.size + 1, 3, none⟩ (.slice al v.l.length cl)).setCell ⟨w.heap.size + 1, 4, none⟩ (.slice am v.m.length cm)) :=
       (((((Kept.refl _ _).setCell (p := ⟨w.heap.size + 1, 0, none⟩) (.inl (by simp)) _).setCell (p := ⟨w.heap.size + 1, 1, none⟩) (.inl (by simp)) _).setCell (p := ⟨w.heap.size + 1, 2, none⟩) (.inl (by simp)) _).setCell (p := ⟨w.heap.size + 1, 3, none⟩) (.inl (by simp)) _).setCell (p := ⟨w.heap.size + 1, 4, none⟩) (.inl (by simp)) _
      have x0 := cell_head (o := 0) (v := .int .i64 v.kind) hbf rfl
      have x1 := cell_head (o := 1) (v := .int .i64 v.num) hbf rfl
      have x2 := cell_head (o := 2) (v := .string v.s) hbf rfl
      have x3 := cell_head (o := 3) (v := .slice al v.l.length cl) hbf rfl
      have x4 := cell_head (o := 4) (v := .slice am v.m.length cm) hbf rfl
      clear hbf c0 c1 c2 c3 c4 r0 r1 r2 r3 r4 s0 s1 s2 s3 s4
      revert KF x0 x1 x2 x3 x4
      generalize ((((w5.setCell ⟨w.heap.size + 1, 0, none⟩ (.int .i64 v.kind)).setCell ⟨w.heap.size + 1, 1, none⟩ (.int .i64 v.num)).setCell ⟨w.heap.size + 1, 2, none⟩ (.string v.s)).setCell ⟨w.heap.size + 1, 3, none⟩ (.slice al v.l.length cl)).setCell ⟨w.heap.size + 1, 4, none⟩ (.slice am v.m.length cm) = WF
      intro KF x0 x1 x2 x3 x4
      have hz0 := Gd.o
      have hz1 := Gs.o.size
      have hz2 := Gr.o.size
      have hzL := Gn.o
      have hzr := Ga.o.kept.size
      have hsame : ∀ i, (Value.slice am v.m.length cm).ownBlock = some i → (Value.slice al v.l.length cl).ownBlock ≠ some i := fun i hi hx => by
       have h1 := (hmblk.o i hi).2.2
       have h2 := (hblk.o i (Option.mem_toList.2 hx)).2.2
       rw [h1] at h2
       exact absurd h2 (by decide)
      have hne : ∀ i, W0.heap.size ≤ i → (Value.slice am v.m.length cm).ownBlock ≠ some i → i ∉ (Value.slice am v.m.length cm).ownBlock.toList ++ [w.heap.size + 1] := fun i h1 h2 hx => by
       rcases List.mem_append.1 hx with hx | hx
       ·exact h2 (Option.mem_toList.1 hx)
       ·simp at hx; omega
      have K5F : Kept ((Value.slice am v.m.length cm).ownBlock.toList ++ [w.heap.size + 1]) wr WF := (Jc.o.mono (fun i hi => List.mem_append_left _ hi)).trans' (KF.mono (fun i hi => List.mem_append_right _ hi))
      have KLF : Kept ((Value.slice am v.m.length cm).ownBlock.toList ++ [w.heap.size + 1]) WL WF := (Ga.o.kept.mono (fun i hi => List.mem_append_left _ hi)).trans' K5F
      have hall : All2 (pairR (Rep n (fun g => W0.heap.size ≤ g ∧ (Value.slice al v.l.length cl).ownBlock ≠ some g ∧ (Value.slice am v.m.length cm).ownBlock ≠ some g) wr)) (ds0.map (fun x => (x.key, x.cs))) (v.m.map (pairMap (sortV n))) := by
       have h1 := Ga.o.all
       rw [List.take_length, List.drop_length, List.map_nil, List.append_nil, Jo.o] at h1
       exact h1
      have hsp := sorted_pairs hall Jp.o Jq.o (by rw [List.map_map]; exact Ji.o)
      have hdl : (ds.map (fun x => (x.key, x.cs))).length = v.m.length := by rw [hsp.1, List.length_mergeSort, List.length_map]
      have hpe : pairCs (ds.map (fun x => (x.key, x.cs))) = ds.flatMap PC.enc := by
       unfold pairCs
       rw [List.flatMap_map]
       rfl
      have hown : OwnRep (n + 1) w.heap.size WF [.int .i64 v.kind, .int .i64 v.num, .string v.s, .slice al v.l.length cl, .slice am v.m.length cm] (sortV (n + 1) v) := by
       rw [sortV_eq]
       refine ⟨_, _, lsF, ds.map (fun x => (x.key, x.cs)), rfl, ?h1, ?h2, ?h3, ?h4, Jg.o.1, Jg.o.2⟩
       case h1 =>
        simp only [List.length_map]
        exact row_base (row_kept Gc.o.row KLF (fun i hi => hne i ((hblk.o i (Option.mem_toList.2 hi)).1) (fun hx => hsame i hx hi))) (fun i hi => by have := (hblk.o i (Option.mem_toList.2 hi)).1; omega)
       case h2 =>
        have h1 := Gc.o.all
        rw [List.take_length, List.drop_length, List.map_nil, List.append_nil] at h1
        exact h1.mono fun _ _ _ r => r.move KLF (fun i _ ⟨q1, q2, q3⟩ => ⟨hne i q1 q3, by omega, q2, q3⟩)
       case h3 =>
        simp only [List.length_mergeSort, List.length_map]
        rw [hpe]
        exact row_base (row_kept Jr.o KF (fun i hi hx => by have := (hmblk.o i hi).1; simp at hx; omega)) (fun i hi => by have := (hmblk.o i hi).1; omega)
       case h4 =>
        exact hsp.mono fun _ _ _ r => ⟨r.1, r.2.move K5F (fun i _ ⟨q1, q2, q3⟩ => ⟨hne i q1 q3, by omega, q2, q3⟩)⟩
      have hkw : Kept [] w WF := ((Jf.o.then Gs.o).trans Jh.o (fun i hi => by
       rcases List.mem_append.1 hi with hi | hi
       ·have := (hblk.o i hi).1; exact .inr (by omega)
       ·have := (hmblk.o i (Option.mem_toList.1 hi)).1; exact .inr (by omega))).trans KF (fun i hi => by simp at hi; exact .inr (by omega))
      exact bodyPost_ret (v := .agg #[.int .i64 v.kind, .int .i64 v.num, .string v.s, .slice al v.l.length cl, .slice am v.m.length cm]) (by simp [results, Tryz.results177, go_sem, x0, x1, x2, x3, x4]) rfl ⟨⟨_, rfl, hown⟩, hkw⟩
theorem sorted_any_known : ∀ (n : Nat), sorted_anyKnown n
 | 0 => fun v {_} {_} {_} h _ _ => h.elim
 | n + 1 => sorted_any_step (sorted_any_known n)
theorem sorted_any : ∀ (n : Nat) (v : V n) {S : Nat → Prop} {w : World} {cs : List Value}, Rep n S w cs v → Small n v → rightV n v = true →
  Calls Tryz.prog 177 #[.agg cs.toArray] w fun e w' => (∃ cs' : List Value, e = .returned (.agg cs'.toArray) ∧ OwnRep n w.heap.size w' cs' (sortV n v)) ∧ Kept [] w w' := fun n => sorted_any_known n
end Go.Proofs.YtckbnjipecclaaaGreatDoor

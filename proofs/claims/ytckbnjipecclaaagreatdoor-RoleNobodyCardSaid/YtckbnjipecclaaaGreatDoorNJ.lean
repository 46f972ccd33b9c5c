/- Parts of one proof, merged: XKT XKE XSn XKH XKI XKJ. -/
import Derived.Test.YtckbnjipecclaaaGreatDoorNI
import Derived.Test.YtckbnjipecclaaaGreatDoorNB
import Derived.BigQuiet
import Derived.Maps.OwnSet
import Derived.StringKeys
import Derived.Test.YtckbnjipecclaaaGreatDoorNC
import Derived.Deep.DeepCutAuto
import Derived.Deep.CutBlock
set_option linter.all false
set_option maxHeartbeats 12800000
set_option maxRecDepth 10000
set_option linter.unusedVariables false
set_option linter.unusedSimpArgs false
set_option linter.unnecessarySimpa false
namespace Go.Proofs.YtckbnjipecclaaaGreatDoor
open Go.RowKit
def TabsB (b : Nat) (W : World) : Prop := ∃ Wt, Tabs Wt ∧ Kept [] Wt W ∧ Wt.heap.size ≤ b
theorem TabsB.at {b : Nat} {W w : World} (h : TabsB b W) (k : Kept [b] W w) : Tabs w := by
 obtain ⟨Wt, h1, h2, h3⟩ := h
 exact h1.kept0 (h2.trans k (fun i hi => by simp at hi; subst hi; exact .inr h3))
theorem wbyte_44 {T : Nat} (hT : Lies T) {W w : World} {b : Nat} {l : List UInt8} (h : BW T W b w l) (hl : l.length ≤ 100000000) :
  Calls Tryz.prog 88 #[.pointer (some ⟨b, 0, none⟩), .int .u8 44] w fun e w' => e = .returned .nilIface ∧ BW T W b w' (l ++ [44]) ∧ KeptB b w w' := wbyte_any hT h hl 44
theorem wbyte_58 {T : Nat} (hT : Lies T) {W w : World} {b : Nat} {l : List UInt8} (h : BW T W b w l) (hl : l.length ≤ 100000000) :
  Calls Tryz.prog 88 #[.pointer (some ⟨b, 0, none⟩), .int .u8 58] w fun e w' => e = .returned .nilIface ∧ BW T W b w' (l ++ [58]) ∧ KeptB b w w' := wbyte_any hT h hl 58
theorem wquote_any {W w : World} {b : Nat} {l : List UInt8} (h : BW 172 W b w l) (ht : TabsB b W) (hl : l.length ≤ 90000000) (s : ByteArray) (hs : s.size ≤ 1000000) (hv : bytesOk s = true) :
  Calls Tryz.prog 173 #[.pointer (some ⟨b, 0, none⟩), .string s] w fun e w' => e = .returned (.tuple #[]) ∧ BW 172 W b w' (l ++ quoteL s.data.toList) ∧ KeptB b w w' := by
 have CQ := qI (utfQuote (ht.at h.kept) s hs hv)
 have HB := qI h
 have HL : Hid ((strB (quoteL s.data.toList)).size ≤ 100000000) := qI (by
  have := quote_len s.data.toList
  rw [strB_size]
  have e : s.data.toList.length = s.size := by simp
  omega)
 clear h ht hv
 go_enter Tryz.func173, Tryz.ntmps173
 go_wp2_with (first
  | (go_at_call 206; refine CQ.o.mono ?_; rintro e w1 ⟨rfl, hk1⟩; have Gm := qI hk1; clear hk1)
  | (go_at_call 171; refine (wstring_any lies_writer (HB.o.stay Gm.o) (by omega) (strB (quoteL s.data.toList)) HL.o).mono ?_; rintro e w2 ⟨rfl, hb2, hk2⟩; rw [strB_list] at hb2; have Ge := qI hb2; have Gc := qI hk2; clear hb2 hk2))
 go_end0
 exact ⟨rfl, Ge.o, (KeptB.of0 Gm.o).trans Gc.o⟩
theorem between1_any {W w : World} {b b2 b3 n : Nat} {l : List UInt8} {J : World → Prop} {it : Nat → List UInt8} {o c : UInt8}
  (HJ : ∀ w1 w2, J w1 → KeptB b w1 w2 → J w2)
  (HC : ∀ k w1 l1, k < n → J w1 → BW 172 W b w1 l1 → l1.length + (it k).length ≤ 50000000 → Calls Tryz.prog 175 #[.int .i64 k, .pointer (some ⟨b2, 0, none⟩), .pointer (some ⟨b3, 0, none⟩)] w1 fun r w2 => r = .returned (.tuple #[]) ∧ BW 172 W b w2 (l1 ++ it k) ∧ KeptB b w1 w2)
  (hJ : J w) (hb : BW 172 W b w l) (hn : n ≤ 20000) (hl : l.length + (preC it n).length ≤ 49999998) :
  Calls Tryz.prog 174 #[.pointer (some ⟨b, 0, none⟩), .int .u8 o.toNat, .int .i64 n, .func (.func 175) #[] #[.pointer (some ⟨b2, 0, none⟩), .pointer (some ⟨b3, 0, none⟩)], .int .u8 c.toNat] w
   fun r w' => r = .returned (.tuple #[]) ∧ BW 172 W b w' (l ++ (o :: (preC it n ++ [c]))) ∧ KeptB b w w' := by
 have HB := qI hb
 have Gy := qI hJ
 have Gz := qI HC
 have Ja := qI HJ
 clear hb hJ HC HJ
 go_enter Tryz.func174, Tryz.ntmps174
 go_wp2_with (go_at_call 88; refine (wbyte_any lies_writer HB.o (by omega) o).mono ?_; rintro e w1 ⟨rfl, hb1, hk1⟩; have Jj := qI hb1; have Gm := qI hk1; clear hb1 hk1)
 go_loopw [17] (fun i wr => ∃ k : Nat, i = .int .i64 k ∧ k ≤ n ∧ BW 172 W b wr (l ++ [o] ++ preC it k) ∧ KeptB b w wr) (fun i _ => n - (intOf i).toNat)
 case atStart => exact ⟨0, rfl, Nat.zero_le _, by rw [preC_zero, List.append_nil]; exact Jj.o, Gm.o⟩
 case round =>
  obtain ⟨k, rfl, hk, hb, hkw⟩ := hrel
  have Gs := qI hb
  have Gd := qI hkw
  have hle := preC_le it hk
  have hlen : (l ++ [o] ++ preC it k).length = l.length + 1 + (preC it k).length := by simp only [List.length_append, List.length_cons, List.length_nil]
  clear hb hkw
  by_cases hlt : k < n
  ·have hltI : (k : Int) < n := by omega
   have hst := preC_len it k
   have hle2 := preC_le it (show k + 1 ≤ n from hlt)
   by_cases h0 : k = 0
   ·subst h0
    have CI := qI (Gz.o _ _ _ hlt (Ja.o _ _ Gy.o Gd.o) Gs.o (by simp only [if_true] at hst; omega))
    have HE : Hid (l ++ [o] ++ preC it 0 ++ it 0 = l ++ [o] ++ preC it (0 + 1)) := qI (by rw [preC_zero, preC_one, List.append_nil])
    clear hst hlen hle hle2
    rw [show (((0 : Nat) : Nat) : Int) = 0 from rfl] at *
    go_wp2_with (go_at_call 175; refine CI.o.mono ?_; rintro e w2 ⟨rfl, hb2, hk2⟩; rw [HE.o] at hb2; have Ge := qI hb2; have Gc := qI hk2; clear hb2 hk2)
    case roundEnd => exact ⟨⟨0 + 1, by go_num, by omega, Ge.o, Gd.o.trans Gc.o⟩, by simp [intOf]; omega⟩
   ·have h0I : (0 : Int) < k := by omega
    rw [if_neg h0] at hst
    have HE : Hid (l ++ [o] ++ preC it k ++ [44] ++ it k = l ++ [o] ++ preC it (k + 1)) := qI (by rw [preC_succ it (by omega)]; simp)
    go_wp2_with (first
     | (go_at_call 88; refine (wbyte_44 lies_writer Gs.o (by omega)).mono ?_; rintro e w2 ⟨rfl, hb2, hk2⟩; have Ge := qI hb2; have Gc := qI hk2; clear hb2 hk2)
     | (go_at_call 175; refine (Gz.o _ _ _ hlt (Ja.o _ _ Gy.o (Gd.o.trans Gc.o)) Ge.o (by rw [List.length_append, hlen]; simp only [List.length_cons, List.length_nil]; omega)).mono ?_; rintro e w3 ⟨rfl, hb3, hk3⟩; rw [HE.o] at hb3; have Ga := qI hb3; have Gi := qI hk3; clear hb3 hk3))
    case roundEnd => exact ⟨⟨k + 1, by go_num, by omega, Ga.o, (Gd.o.trans Gc.o).trans Gi.o⟩, by simp [intOf]; omega⟩
  ·obtain rfl : k = n := by omega
   have HE : Hid (l ++ [o] ++ preC it k ++ [c] = l ++ (o :: (preC it k ++ [c]))) := qI (by simp)
   go_wp2_with (go_at_call 88; refine (wbyte_any lies_writer Gs.o (by omega) c).mono ?_; rintro e w2 ⟨rfl, hb2, hk2⟩; rw [HE.o] at hb2; have Ge := qI hb2; have Gc := qI hk2; clear hb2 hk2)
   go_end0
   exact ⟨rfl, Ge.o, Gd.o.trans Gc.o⟩
theorem between2_any {W w : World} {b b2 b3 n : Nat} {l : List UInt8} {J : World → Prop} {it : Nat → List UInt8} {o c : UInt8}
  (HJ : ∀ w1 w2, J w1 → KeptB b w1 w2 → J w2)
  (HC : ∀ k w1 l1, k < n → J w1 → BW 172 W b w1 l1 → l1.length + (it k).length ≤ 50000000 → Calls Tryz.prog 176 #[.int .i64 k, .pointer (some ⟨b2, 0, none⟩), .pointer (some ⟨b3, 0, none⟩)] w1 fun r w2 => r = .returned (.tuple #[]) ∧ BW 172 W b w2 (l1 ++ it k) ∧ KeptB b w1 w2)
  (hJ : J w) (hb : BW 172 W b w l) (hn : n ≤ 20000) (hl : l.length + (preC it n).length ≤ 49999998) :
  Calls Tryz.prog 174 #[.pointer (some ⟨b, 0, none⟩), .int .u8 o.toNat, .int .i64 n, .func (.func 176) #[] #[.pointer (some ⟨b2, 0, none⟩), .pointer (some ⟨b3, 0, none⟩)], .int .u8 c.toNat] w
   fun r w' => r = .returned (.tuple #[]) ∧ BW 172 W b w' (l ++ (o :: (preC it n ++ [c]))) ∧ KeptB b w w' := by
 have HB := qI hb
 have Gy := qI hJ
 have Gz := qI HC
 have Ja := qI HJ
 clear hb hJ HC HJ
 go_enter Tryz.func174, Tryz.ntmps174
 go_wp2_with (go_at_call 88; refine (wbyte_any lies_writer HB.o (by omega) o).mono ?_; rintro e w1 ⟨rfl, hb1, hk1⟩; have Jj := qI hb1; have Gm := qI hk1; clear hb1 hk1)
 go_loopw [17] (fun i wr => ∃ k : Nat, i = .int .i64 k ∧ k ≤ n ∧ BW 172 W b wr (l ++ [o] ++ preC it k) ∧ KeptB b w wr) (fun i _ => n - (intOf i).toNat)
 case atStart => exact ⟨0, rfl, Nat.zero_le _, by rw [preC_zero, List.append_nil]; exact Jj.o, Gm.o⟩
 case round =>
  obtain ⟨k, rfl, hk, hb, hkw⟩ := hrel
  have Gs := qI hb
  have Gd := qI hkw
  have hle := preC_le it hk
  have hlen : (l ++ [o] ++ preC it k).length = l.length + 1 + (preC it k).length := by simp only [List.length_append, List.length_cons, List.length_nil]
  clear hb hkw
  by_cases hlt : k < n
  ·have hltI : (k : Int) < n := by omega
   have hst := preC_len it k
   have hle2 := preC_le it (show k + 1 ≤ n from hlt)
   by_cases h0 : k = 0
   ·subst h0
    have CI := qI (Gz.o _ _ _ hlt (Ja.o _ _ Gy.o Gd.o) Gs.o (by simp only [if_true] at hst; omega))
    have HE : Hid (l ++ [o] ++ preC it 0 ++ it 0 = l ++ [o] ++ preC it (0 + 1)) := qI (by rw [preC_zero, preC_one, List.append_nil])
    clear hst hlen hle hle2
    rw [show (((0 : Nat) : Nat) : Int) = 0 from rfl] at *
    go_wp2_with (go_at_call 176; refine CI.o.mono ?_; rintro e w2 ⟨rfl, hb2, hk2⟩; rw [HE.o] at hb2; have Ge := qI hb2; have Gc := qI hk2; clear hb2 hk2)
    case roundEnd => exact ⟨⟨0 + 1, by go_num, by omega, Ge.o, Gd.o.trans Gc.o⟩, by simp [intOf]; omega⟩
   ·have h0I : (0 : Int) < k := by omega
    rw [if_neg h0] at hst
    have HE : Hid (l ++ [o] ++ preC it k ++ [44] ++ it k = l ++ [o] ++ preC it (k + 1)) := qI (by rw [preC_succ it (by omega)]; simp)
    go_wp2_with (first
     | (go_at_call 88; refine (wbyte_44 lies_writer Gs.o (by omega)).mono ?_; rintro e w2 ⟨rfl, hb2, hk2⟩; have Ge := qI hb2; have Gc := qI hk2; clear hb2 hk2)
     | (go_at_call 176; refine (Gz.o _ _ _ hlt (Ja.o _ _ Gy.o (Gd.o.trans Gc.o)) Ge.o (by rw [List.length_append, hlen]; simp only [List.length_cons, List.length_nil]; omega)).mono ?_; rintro e w3 ⟨rfl, hb3, hk3⟩; rw [HE.o] at hb3; have Ga := qI hb3; have Gi := qI hk3; clear hb3 hk3))
    case roundEnd => exact ⟨⟨k + 1, by go_num, by omega, Ga.o, (Gd.o.trans Gc.o).trans Gi.o⟩, by simp [intOf]; omega⟩
  ·obtain rfl : k = n := by omega
   have HE : Hid (l ++ [o] ++ preC it k ++ [c] = l ++ (o :: (preC it k ++ [c]))) := qI (by simp)
   go_wp2_with (go_at_call 88; refine (wbyte_any lies_writer Gs.o (by omega) c).mono ?_; rintro e w2 ⟨rfl, hb2, hk2⟩; rw [HE.o] at hb2; have Ge := qI hb2; have Gc := qI hk2; clear hb2 hk2)
   go_end0
   exact ⟨rfl, Ge.o, Gd.o.trans Gc.o⟩
theorem isEmpty_len {α : Type} (l : List α) : l.isEmpty = decide (l.length = 0) := by cases l <;> simp
open Go.Maps (Keyed)
theorem keyStr : Keyed Tryz.prog 9 := Maps.string_keyed Tryz.underlying9
theorem sameStr (x y : List UInt8) : (Lit.string x).sameKey (.string y) = decide (x = y) := by
 by_cases h : x = y <;> simp [Lit.sameKey, h]
theorem keyOfStr (s : ByteArray) (hs : s.size ≤ 281474976710656) : keyOf Tryz.prog 9 (.string s) = some (.string s.data.toList) := Go.WideMaps.keyOf_string_mk (P := Tryz.prog) Tryz.underlying9 (by simp only [maxLen]; omega)
def SeenAt (w : World) (b : Nat) (seen : List ByteArray) : Prop :=
 ∃ n M, MapAt Tryz.prog w 9 b n M ∧ n ≤ seen.length ∧ ∀ s : ByteArray, M (.string s.data.toList) = if seen.any (fun k => decide (k = s)) = true then some (Value.bool true) else none
theorem seen_new {w : World} {b : Nat} (hb : w.heap.size = b) : SeenAt (w.alloc (.map #[] 0)) b [] := by
 subst hb
 exact ⟨0, _, mapAt_made _ w _, Nat.le_refl _, fun s => by simp⟩
theorem SeenAt.kept {w w' : World} {b : Nat} {seen : List ByteArray} {X : List Nat} (h : SeenAt w b seen) (k : Kept X w w') (hb : b ∉ X) : SeenAt w' b seen := by
 obtain ⟨n, M, h1, h2, h3⟩ := h
 exact ⟨n, M, h1.kept k hb, h2, h3⟩
theorem SeenAt.kept0 {w w' : World} {b : Nat} {seen : List ByteArray} (h : SeenAt w b seen) (k : Kept [] w w') : SeenAt w' b seen := h.kept k (by simp)
theorem SeenAt.look {w : World} {b : Nat} {seen : List ByteArray} (h : SeenAt w b seen) (s : ByteArray) (hs : s.size ≤ 281474976710656) :
  (Instr.lookup 99 (.map (some b)) (.string s) false).run Tryz.prog w = .ok (.bool (seen.any (fun k => decide (k = s)))) w := by
 obtain ⟨n, M, h1, h2, h3⟩ := h
 have h4 := (h1.lookup keyStr Tryz.underlying99 (z := .bool false) (Tryz.zeroValue4 w) (keyOfStr s hs)).2
 rw [h4, h3 s]
 cases seen.any (fun k => decide (k = s)) <;> rfl
theorem SeenAt.put {w : World} {b : Nat} {seen : List ByteArray} (h : SeenAt w b seen) (s : ByteArray) (hs : s.size ≤ 281474976710656) (hl : seen.length ≤ 100000000) :
  ∃ w', (Instr.mapUpdate 99 (.map (some b)) (.string s) (.bool true)).run Tryz.prog w = .ok () w' ∧ SeenAt w' b (seen ++ [s]) ∧ Kept [b] w w' := by
 obtain ⟨n, M, h1, h2, h3⟩ := h
 obtain ⟨w', hr, h4, h5, _⟩ := h1.update keyStr Tryz.underlying99 (by simp only [maxLen]; omega) (keyOfStr s hs) (.bool true)
 refine ⟨w', hr, ⟨n + 1, _, h4, by rw [List.length_append]; simp; omega, fun t => ?_⟩, h5⟩
 show (if (Lit.string t.data.toList).sameKey (.string s.data.toList) = true then some (Value.bool true) else M (.string t.data.toList)) = _
 rw [sameStr, List.any_append]
 by_cases e : t = s
 ·subst e
  rw [if_pos (by simp), if_pos (by simp)]
 ·have h7 : t.data.toList ≠ s.data.toList := fun q => e (ba_eq q)
  have h8 : [s].any (fun k => decide (k = t)) = false := by simp [Ne.symm e]
  rw [if_neg (by simpa using h7), h3 t, h8, Bool.or_false]
def keysGo : List ByteArray → List ByteArray → Bool
 | _, [] => true
 | seen, k :: t => !(seen.any (fun x => decide (x = k))) && bytesOk k && keysGo (seen ++ [k]) t
theorem keysGo_eq : ∀ (l seen : List ByteArray), seen.Nodup → (keysGo seen l = true ↔ (∀ k, k ∈ l → bytesOk k = true) ∧ (seen ++ l).Nodup)
 | [], seen, hs => by simp [keysGo, hs]
 | k :: t, seen, hs => by
  unfold keysGo
  rw [Bool.and_eq_true, Bool.and_eq_true]
  by_cases hk : k ∈ seen
  ·have h1 : (seen.any (fun x => decide (x = k))) = true := List.any_eq_true.2 ⟨k, hk, by simp⟩
   rw [h1]
   constructor
   ·rintro ⟨⟨h, _⟩, _⟩; simp at h
   ·rintro ⟨_, h⟩
    exact absurd rfl ((List.nodup_append.1 h).2.2 k hk k (by simp))
  ·have h1 : (seen.any (fun x => decide (x = k))) = false := by
    rw [List.any_eq_false]
    intro x hx e
    rw [decide_eq_true_iff] at e
    exact hk (e ▸ hx)
   have hs' : (seen ++ [k]).Nodup := by
    refine List.nodup_append.2 ⟨hs, by simp, ?_⟩
    intro a ha b hb e
    simp at hb
    exact hk (by rw [← hb, ← e]; exact ha)
   rw [h1, keysGo_eq t (seen ++ [k]) hs']
   simp only [List.append_assoc, List.cons_append, List.nil_append, Bool.not_false, true_and, List.mem_cons, forall_eq_or_imp]
   constructor
   ·rintro ⟨h2, h3, h4⟩; exact ⟨⟨h2, h3⟩, h4⟩
   ·rintro ⟨⟨h2, h3⟩, h4⟩; exact ⟨h2, h3, h4⟩
theorem keysGo_all {α : Type} (m : List (ByteArray × α)) : keysGo [] (m.map (fun p => p.1)) = keysOk m := by
 rw [Bool.eq_iff_iff, keysGo_eq _ [] List.nodup_nil]
 unfold keysOk
 rw [Bool.and_eq_true, List.all_eq_true, decide_eq_true_iff, List.nil_append]
 constructor
 ·rintro ⟨h1, h2⟩; exact ⟨fun p hp => h1 p.1 (List.mem_map.2 ⟨p, hp, rfl⟩), h2⟩
 ·rintro ⟨h1, h2⟩; exact ⟨fun k hk => by obtain ⟨p, hp, rfl⟩ := List.mem_map.1 hk; exact h1 p hp, h2⟩
theorem keys_any {n : Nat} {v : VS (V n)} {S : Nat → Prop} {w : World} {cs : List Value} {vl : Value} {b : Option Addr} {e : Nat} {lcs : List (List Value)} {mcs : List (ByteArray × List Value)}
  (h : RepOne (Rep n S w) S w cs v vl (.slice b v.m.length e) lcs mcs) (hm : v.m.length ≤ 20000) (hk : ∀ p, p ∈ v.m → p.1.size ≤ 400000) (ht : Tabs w) :
  Calls Tryz.prog 225 #[.slice b v.m.length e] w fun e w' => e = .returned (.bool (keysOk v.m)) ∧ Kept [] w w' := by
 have H := qI h
 have Gt := qI hk
 have HT := qI ht
 have Jk := qI (keysGo_all v.m)
 obtain ⟨W0, Gk⟩ : ∃ W0, Hid (W0 = w.alloc (.map #[] 0)) := ⟨_, qI rfl⟩
 have Gh : Hid (Kept [] w W0) := qI (by rw [Gk.o]; exact (Kept.refl _ _).alloc _)
 have Ju : Hid (SeenAt W0 w.heap.size []) := qI (by rw [Gk.o]; exact seen_new rfl)
 clear h hk ht
 have hmm := @run_makeMap Tryz.prog
 go_enter Tryz.func225, Tryz.ntmps225
 go_wp2_with fail
 clear hmm
 rw [← Gk.o]
 go_loopw [9] (fun i wr => ∃ k : Nat, i = .int .i64 k ∧ k ≤ v.m.length ∧ SeenAt wr w.heap.size ((v.m.take k).map (fun p => p.1)) ∧ keysGo ((v.m.take k).map (fun p => p.1)) ((v.m.drop k).map (fun p => p.1)) = keysGo [] (v.m.map (fun p => p.1)) ∧ Kept [] w wr) (fun i _ => v.m.length - (intOf i).toNat)
 case atStart => exact ⟨0, rfl, Nat.zero_le _, Ju.o, rfl, Gh.o⟩
 case round =>
  obtain ⟨k, rfl, hk, hs, hg, hkr⟩ := hrel
  have HS := qI hs
  have HG := qI hg
  have Gd := qI hkr
  clear hs hg hkr
  by_cases hlt : k < v.m.length
  ·have hltI : (k : Int) < v.m.length := by omega
   obtain ⟨g, o, cap, kd, nm, st, a1, b1, he, q0, q1, q2, q3, q4, q5, hr⟩ := H.o.at_m Gd.o k hlt
   simp only [Value.slice.injEq] at he
   obtain ⟨rfl, -, rfl⟩ := he
   obtain ⟨p1, i1, d1, p2, i2, d2, rfl, rfl⟩ := hr.sl
   have hks : v.m[k].1.size ≤ 400000 := Gt.o _ (List.getElem_mem hlt)
   have Gn : Hid ((v.m.take (k + 1)).map (fun p => p.1) = (v.m.take k).map (fun p => p.1) ++ [v.m[k].1]) := qI (take_map_succ _ _ _ hlt)
   have HD : Hid (keysGo ((v.m.take k).map (fun p => p.1)) ((v.m.drop k).map (fun p => p.1)) = (!(((v.m.take k).map (fun p => p.1)).any (fun x => decide (x = v.m[k].1))) && bytesOk v.m[k].1 && keysGo ((v.m.take k).map (fun p => p.1) ++ [v.m[k].1]) ((v.m.drop (k + 1)).map (fun p => p.1)))) := qI (by
    conv => lhs; rw [List.drop_eq_getElem_cons hlt]
    rfl)
   have hsl : ((v.m.take k).map (fun p => p.1)).length ≤ 20000 := by rw [List.length_map, List.length_take]; omega
   clear hr
   revert q0 hks Gn HD
   generalize v.m[k].1 = key
   intro q0 hks Gn HD
   have HA := qI ((Kept.refl [] wr).alloc (.cells #[.string key, .int .i64 kd, .int .i64 nm, .string st, .slice p1 i1 d1, .slice p2 i2 d2] 78))
   have hlook := (HS.o.kept0 HA.o).look key (by omega)
   have Jv := qI (pbox_at (w := wr) rfl key kd nm st (.slice p1 i1 d1) (.slice p2 i2 d2) 78)
   have CV := qI (utfValid (HT.o.kept0 (Gd.o.then HA.o)) key (by omega))
   revert hlook HD CV
   generalize ((v.m.take k).map (fun p => p.1)).any (fun x => decide (x = key)) = r
   generalize bytesOk key = ok
   intro HD hlook CV
   cases r with
   | true =>
    go_wp2_with fail
    go_ret
    rw [← Jk.o, ← HG.o, HD.o]
    exact ⟨by simp, Gd.o.then HA.o⟩
   | false =>
    cases ok with
    | false =>
     go_wp2_with (go_at_call 82; refine CV.o.mono ?_; rintro e w2 ⟨rfl, hk2⟩)
     go_ret
     rw [← Jk.o, ← HG.o, HD.o]
     exact ⟨by simp, (Gd.o.then HA.o).then hk2⟩
    | true =>
     go_wp2_with (go_at_call 82; refine CV.o.mono ?_; rintro e w2 ⟨rfl, hk2⟩; have Gc := qI (HA.o.then hk2); obtain ⟨y0, -, -, -, -, -⟩ := Jv.o.kept0 hk2; obtain ⟨w3, hput, hs3, hk3⟩ := (HS.o.kept0 Gc.o).put key (by omega) (by omega); have Jw := qI hs3; have Gi := qI hk3; clear hk2 hs3 hk3)
     case roundEnd =>
      refine ⟨⟨k + 1, by go_num, by omega, ?_, ?_, ?_⟩, by simp [intOf]; omega⟩
      ·rw [Gn.o]; exact Jw.o
      ·rw [← HG.o, HD.o, Gn.o]; simp
      ·exact (Gd.o.then Gc.o).trans Gi.o (fun i hi => by simp at hi; subst hi; exact .inr (Nat.le_refl _))
  ·obtain rfl : k = v.m.length := by omega
   go_wp2_with fail
   go_ret
   rw [← Jk.o, ← HG.o, List.drop_length]
   exact ⟨rfl, Gd.o⟩
def PlainIs {α : Type} (v : VS α) (ok : Bool) (m : Int) (s : ByteArray) (l k : Nat) : Prop := ownRight v = (ok && decide (v.num = m) && decide (v.s = s) && decide (v.l.length = l) && decide (v.m.length = k))
theorem str_beq (a b : ByteArray) : (a.toList == b.toList) = decide (a = b) := by
 by_cases h : a = b
 ·rw [(str_eq h).1, decide_eq_true h]
 ·rw [(str_ne h).1, decide_eq_false h]
theorem nat_beq (a b : Nat) : ((a : Int) == (b : Int)) = decide (a = b) := by
 by_cases h : a = b
 ·rw [(nat_eq h).1, decide_eq_true h]
 ·rw [(nat_ne h).1, decide_eq_false h]
theorem plain_1 {α : Type} {v : VS α} (h : v.kind = 1) : PlainIs v true 0 ⟨#[]⟩ 0 0 := by
 unfold PlainIs ownRight noneS; simp only [isEmpty_len]; rw [h]; simp
theorem plain_2 {α : Type} {v : VS α} (h : v.kind = 2) : PlainIs v (decide (v.num = 0 ∨ v.num = 1)) v.num ⟨#[]⟩ 0 0 := by
 unfold PlainIs ownRight noneS; simp only [isEmpty_len]; rw [h]; simp
theorem plain_3 {α : Type} {v : VS α} (h : v.kind = 3) : PlainIs v (decide (-9007199254740991 ≤ v.num ∧ v.num ≤ 9007199254740991)) v.num ⟨#[]⟩ 0 0 := by
 unfold PlainIs ownRight noneS; simp only [isEmpty_len]; rw [h]; simp
theorem plain_4 {α : Type} {v : VS α} (h : v.kind = 4) : PlainIs v (bytesOk v.s) 0 v.s 0 0 := by
 unfold PlainIs ownRight noneS; simp only [isEmpty_len]; rw [h]; simp [Bool.and_assoc]
theorem plain_5 {α : Type} {v : VS α} (h : v.kind = 5) : PlainIs v true 0 ⟨#[]⟩ v.l.length 0 := by
 unfold PlainIs ownRight noneS; simp only [isEmpty_len]; rw [h]; simp
theorem plain_6 {α : Type} {v : VS α} (h : v.kind = 6) : PlainIs v (keysOk v.m) 0 ⟨#[]⟩ 0 v.m.length := by
 unfold PlainIs ownRight noneS; simp only [isEmpty_len]; rw [h]; simp
theorem plain_else {α : Type} {v : VS α} (h : ¬ (v.kind = 1 ∨ v.kind = 2 ∨ v.kind = 3 ∨ v.kind = 4 ∨ v.kind = 5 ∨ v.kind = 6)) : ownRight v = false := by
 unfold ownRight
 rw [if_neg (by omega), if_neg (by omega), if_neg (by omega), if_neg (by omega), if_neg (by omega), if_neg (by omega)]
set_option maxRecDepth 100000 in
theorem plain_any {n : Nat} {v : VS (V n)} {S : Nat → Prop} {w : World} {cs : List Value} (h : Rep (n + 1) S w cs v) (hs : Small (n + 1) v) (ht : Tabs w) :
  Calls Tryz.prog 204 #[.agg cs.toArray] w fun e w' => e = .returned (.bool (ownRight v)) ∧ Kept [] w w' := by
 have Jb := qI h
 have Jh := qI hs
 have HT := qI ht
 obtain ⟨vl, vm, lcs, mcs, h⟩ := h
 obtain ⟨a, c, b, e, rfl, rfl, rfl⟩ := h.forms
 have H := qI h
 obtain ⟨W1, Gj⟩ : ∃ W1, Hid (W1 = (w.alloc (.cells #[.int .i64 v.kind, .int .i64 v.num, .string v.s, .slice a v.l.length c, .slice b v.m.length e] 28)).alloc (.cells #[.int .i64 v.kind, .int .i64 0, .string ⟨#[]⟩, .slice none 0 0, .slice none 0 0] 28)) := ⟨_, qI rfl⟩
 have HB : Hid (BoxAt W1 w.heap.size v.kind v.num v.s (.slice a v.l.length c) (.slice b v.m.length e)) := qI (by rw [Gj.o]; exact (box_at w v.kind v.num v.s (.slice a v.l.length c) (.slice b v.m.length e) 28).kept0 ((Kept.refl _ _).alloc _))
 have Gh : Hid (Kept [] w W1) := qI (by rw [Gj.o]; exact ((Kept.refl [] w).alloc _).alloc _)
 have Ge : Hid (W1.heap[w.heap.size + 1]? = some (.cells (valA v.kind 0 ⟨#[]⟩ (.slice none 0 0) (.slice none 0 0)) 28 (0, 0))) := qI (by rw [Gj.o]; exact block_alloc (by simp))
 have hsv : (v.s.size : Int) ≤ 400000 := by have := hs.2; have e : bytesV (n + 1) v = v.s.size + v.keyBytes + (v.kids.map (bytesV n)).sum := rfl; omega
 have Gt : Hid (∀ p, p ∈ v.m → p.1.size ≤ 400000) := qI fun p hp => Nat.le_trans (key_le hp) hs.2
 have HM : Hid (v.m.length ≤ 20000) := qI (by have := hs.few; omega)
 have Jc : Hid (∀ {w'}, Kept [] w w' → RepOne (Rep n S w') S w' _ v _ _ lcs mcs) := qI fun k => { cells := h.cells, slcl := h.slcl.kept0 k, alll := h.alll.mono fun _ _ _ r => r.kept0 k, slcm := h.slcm.kept0 k, allm := h.allm.mono fun _ _ _ r => ⟨r.1, r.2.kept0 k⟩, inl := h.inl, inm := h.inm, wfk := h.wfk, wfn := h.wfn }
 obtain ⟨c0, c1, c2, c3, c4⟩ := HB.o
 rw [Gj.o] at c0 c1 c2 c3 c4
 clear h hs ht
 go_enter Tryz.func204, Tryz.ntmps204
 go_upto_block 0 with fail
 rw [← Gj.o]
 rw [← Gj.o] at c0 c1 c2 c3 c4
 go_cut [4] from 10 to 58 (fun q wr => ∃ (ok : Bool) (m : Int) (s : ByteArray) (l k : Nat) (al am : Option Addr) (cl cm : Nat), q = .bool ok ∧ Kept [w.heap.size + 1] W1 wr ∧ BoxAt wr (w.heap.size + 1) v.kind m s (.slice al l cl) (.slice am k cm) ∧ Hid (PlainIs v ok m s l k))
 case first =>
  by_cases k1 : v.kind = 1
  ·have f1 := (int_eq k1).1
   have Gf := qI (plain_1 k1)
   clear k1
   go_wp2_with fail
   go_meet
   exact ⟨true, 0, ⟨#[]⟩, 0, 0, _, _, _, _, rfl, Kept.refl _ _, ⟨cell_head Ge.o rfl, cell_head Ge.o rfl, cell_head Ge.o rfl, cell_head Ge.o rfl, cell_head Ge.o rfl⟩, Gf⟩
  have f1 := (int_ne k1).1
  by_cases k2 : v.kind = 2
  ·have f2 := (int_eq k2).1
   have Gf := qI (plain_2 k2)
   by_cases n0 : v.num = 0
   ·have g1 := (int_eq n0).1
    have Gf : Hid (PlainIs v true v.num ⟨#[]⟩ 0 0) := qI (by have := Gf.o; rw [decide_eq_true (.inl n0)] at this; exact this)
    clear k1 k2 n0
    go_wp2_with fail
    refine wp_region_last' (n := 13) (fun w' : World => w'.cell? ⟨w.heap.size, 1, none⟩ = some (.int .i64 v.num)) 12 (by kernel_rfl) (by kernel_rfl) ?_
    change wpAnyT _ _ _ _ _ _ _ _ _ W1.drew
    have hSS : (fun w' : World => w'.cell? ⟨w.heap.size, 1, none⟩ = some (.int .i64 v.num)) W1.drew := c1
    have hb2 : W1.drew.heap[w.heap.size + 1]? = some (.cells (valA v.kind 0 ⟨#[]⟩ (.slice none 0 0) (.slice none 0 0)) 28 (0, 0)) := Ge.o
    have Gb : Hid (Kept [w.heap.size + 1] W1 W1.drew) := qI (Kept.refl _ _).drew
    have Gg : Hid (Kept [] w W1.drew) := qI Gh.o.drew
    clear c0 c1 c2 c3 c4
    revert hSS hb2 Gb Gg
    generalize W1.drew = W2
    intro hSS hb2 Gb Gg
    refine wpAnyT_start ?_
    intro O R hO hR
    have hQp : ∀ c a (d : Nat) v w, R (.panic c) (a.put (some d) v) w → R (.panic c) a w := by subst hR; exact fun _ _ _ _ _ h => h
    refine wpAnyT_take' (i := 0) (v := ?_) hO rfl rfl (by kernel_rfl) (by kernel_rfl) (by kernel_rfl) (by kernel_rfl) hQp (Or.inl ⟨by kernel_rfl, fun w hSw => ?_⟩) hSS ?_
    rotate_left
    ·go_simp; try with_reducible rfl
    try simp only [zA,zN,zB,zC,zD]
    refine wpAnyT_take' (i := 1) (v := ?_) hO rfl rfl (by kernel_rfl) (by kernel_rfl) (by kernel_rfl) (by kernel_rfl) hQp (Or.inl ⟨by kernel_rfl, fun w hSw => ?_⟩) hSS ?_
    rotate_left
    ·go_simp; try with_reducible rfl
    try simp only [zA,zN,zB,zC,zD]
    refine wpAnyT_take' (i := 2) (v := ?_) hO rfl rfl (by kernel_rfl) (by kernel_rfl) (by kernel_rfl) (by kernel_rfl) hQp (Or.inl ⟨by kernel_rfl, fun w hSw => ?_⟩) hSS ?_
    rotate_left
    ·go_simp; try with_reducible rfl
    try simp only [zA,zN,zB,zC,zD]
    refine wpAnyT_take' (i := 3) (v := ?_) hO rfl rfl (by kernel_rfl) (by kernel_rfl) (by kernel_rfl) (by kernel_rfl) hQp (Or.inl ⟨by kernel_rfl, fun w hSw => ?_⟩) hSS ?_
    rotate_left
    ·go_simp; try with_reducible rfl
    try simp only [zA,zN,zB,zC,zD]
    refine wpAnyT_take' (i := 4) (v := ?_) hO rfl rfl (by kernel_rfl) (by kernel_rfl) (by kernel_rfl) (by kernel_rfl) hQp (Or.inl ⟨by kernel_rfl, fun w hSw => ?_⟩) hSS ?_
    rotate_left
    ·go_simp; try with_reducible rfl
    try simp only [zA,zN,zB,zC,zD]
    refine wpAnyT_take' (i := 5) (v := ?_) hO rfl rfl (by kernel_rfl) (by kernel_rfl) (by kernel_rfl) (by kernel_rfl) hQp (Or.inl ⟨by kernel_rfl, fun w hSw => ?_⟩) hSS ?_
    rotate_left
    ·go_simp; try with_reducible rfl
    try simp only [zA,zN,zB,zC,zD]
    refine wpAnyT_take' (i := 6) (v := undef) hO rfl rfl (by kernel_rfl) (by kernel_rfl) (by kernel_rfl) (by kernel_rfl) hQp (Or.inr ⟨by kernel_rfl, rfl⟩) hSS ?_
    try simp only [zA,zN,zB,zC,zD]
    refine wpAnyT_take' (i := 7) (v := undef) hO rfl rfl (by kernel_rfl) (by kernel_rfl) (by kernel_rfl) (by kernel_rfl) hQp (Or.inr ⟨by kernel_rfl, rfl⟩) hSS ?_
    try simp only [zA,zN,zB,zC,zD]
    refine wpAnyT_take' (i := 8) (v := undef) hO rfl rfl (by kernel_rfl) (by kernel_rfl) (by kernel_rfl) (by kernel_rfl) hQp (Or.inr ⟨by kernel_rfl, rfl⟩) hSS ?_
    try simp only [zA,zN,zB,zC,zD]
    refine wpAnyT_take' (i := 9) (v := ?_) hO rfl rfl (by kernel_rfl) (by kernel_rfl) (by kernel_rfl) (by kernel_rfl) hQp (Or.inl ⟨by kernel_rfl, fun w hSw => ?_⟩) hSS ?_
    rotate_left
    ·go_simp; try with_reducible rfl
    try simp only [zA,zN,zB,zC,zD]
    refine wpAnyT_take' (i := 10) (v := ?_) hO rfl rfl (by kernel_rfl) (by kernel_rfl) (by kernel_rfl) (by kernel_rfl) hQp (Or.inl ⟨by kernel_rfl, fun w hSw => ?_⟩) hSS ?_
    rotate_left
    ·go_simp; try with_reducible rfl
    try simp only [zA,zN,zB,zC,zD]
    have hc2 := cell_head (o := 1) hb2 rfl
    have hf2 := free_head (o := 1) hb2
    refine wpAnyT_one' (i := 11) hO rfl (by kernel_rfl) (by kernel_rfl) (fun K hK => ?_)
    go_simp
    have KS := (Kept.refl [w.heap.size + 1] W2).setCell (p := ⟨w.heap.size + 1, 1, none⟩) (.inl (by simp)) (.int .i64 v.num)
    have hS2 : (fun w' : World => w'.cell? ⟨w.heap.size, 1, none⟩ = some (.int .i64 v.num)) (W2.setCell ⟨w.heap.size + 1, 1, none⟩ (.int .i64 v.num)) := KS.cell hSS (by simp)
    have hb3 : (W2.setCell ⟨w.heap.size + 1, 1, none⟩ (.int .i64 v.num)).heap[w.heap.size + 1]? = some (.cells #[.int .i64 v.kind, .int .i64 v.num, .string ⟨#[]⟩, .slice none 0 0, .slice none 0 0] 28 (0, 0)) := block_setCell hb2 rfl
    have Ga := qI hb3
    have Gi := qI (Gb.o.trans' KS)
    refine hK _ _ (.inr hS2) ?_
    clear hK K
    try simp only [zA,zN,zB,zC,zD]
    clear hSS hc2 hf2 hb2 hb3 KS
    have hSS := hS2
    clear hS2
    refine wpAnyT_one' (i := 12) hO rfl (by kernel_rfl) (by kernel_rfl) (fun K hK => ?_)
    go_simp
    refine hK _ _ (.inl rfl) ?_
    clear hK K
    try simp only [zA,zN,zB,zC,zD]
    refine wpAnyT_done' hO (by kernel_rfl) ?_ _
    subst hR
    try clear hQp hO O
    go_wp2_with fail
    go_meet
    exact ⟨true, v.num, ⟨#[]⟩, 0, 0, _, _, _, _, rfl, Gi.o, ⟨cell_head Ga.o rfl, cell_head Ga.o rfl, cell_head Ga.o rfl, cell_head Ga.o rfl, cell_head Ga.o rfl⟩, Gf⟩
   have g1 := (int_ne n0).1
   by_cases n1 : v.num = 1
   ·have g2 := (int_eq n1).1
    have Gf : Hid (PlainIs v true v.num ⟨#[]⟩ 0 0) := qI (by have := Gf.o; rw [decide_eq_true (.inr n1)] at this; exact this)
    clear k1 k2 n0 n1
    go_wp2_with fail
    refine wp_region_last' (n := 13) (fun w' : World => w'.cell? ⟨w.heap.size, 1, none⟩ = some (.int .i64 v.num)) 12 (by kernel_rfl) (by kernel_rfl) ?_
    change wpAnyT _ _ _ _ _ _ _ _ _ W1.drew
    have hSS : (fun w' : World => w'.cell? ⟨w.heap.size, 1, none⟩ = some (.int .i64 v.num)) W1.drew := c1
    have hb2 : W1.drew.heap[w.heap.size + 1]? = some (.cells (valA v.kind 0 ⟨#[]⟩ (.slice none 0 0) (.slice none 0 0)) 28 (0, 0)) := Ge.o
    have Gb : Hid (Kept [w.heap.size + 1] W1 W1.drew) := qI (Kept.refl _ _).drew
    have Gg : Hid (Kept [] w W1.drew) := qI Gh.o.drew
    clear c0 c1 c2 c3 c4
    revert hSS hb2 Gb Gg
    generalize W1.drew = W2
    intro hSS hb2 Gb Gg
    refine wpAnyT_start ?_
    intro O R hO hR
    have hQp : ∀ c a (d : Nat) v w, R (.panic c) (a.put (some d) v) w → R (.panic c) a w := by subst hR; exact fun _ _ _ _ _ h => h
    refine wpAnyT_take' (i := 0) (v := ?_) hO rfl rfl (by kernel_rfl) (by kernel_rfl) (by kernel_rfl) (by kernel_rfl) hQp (Or.inl ⟨by kernel_rfl, fun w hSw => ?_⟩) hSS ?_
    rotate_left
    ·go_simp; try with_reducible rfl
    try simp only [zA,zN,zB,zC,zD]
    refine wpAnyT_take' (i := 1) (v := ?_) hO rfl rfl (by kernel_rfl) (by kernel_rfl) (by kernel_rfl) (by kernel_rfl) hQp (Or.inl ⟨by kernel_rfl, fun w hSw => ?_⟩) hSS ?_
    rotate_left
    ·go_simp; try with_reducible rfl
    try simp only [zA,zN,zB,zC,zD]
    refine wpAnyT_take' (i := 2) (v := ?_) hO rfl rfl (by kernel_rfl) (by kernel_rfl) (by kernel_rfl) (by kernel_rfl) hQp (Or.inl ⟨by kernel_rfl, fun w hSw => ?_⟩) hSS ?_
    rotate_left
    ·go_simp; try with_reducible rfl
    try simp only [zA,zN,zB,zC,zD]
    refine wpAnyT_take' (i := 3) (v := ?_) hO rfl rfl (by kernel_rfl) (by kernel_rfl) (by kernel_rfl) (by kernel_rfl) hQp (Or.inl ⟨by kernel_rfl, fun w hSw => ?_⟩) hSS ?_
    rotate_left
    ·go_simp; try with_reducible rfl
    try simp only [zA,zN,zB,zC,zD]
    refine wpAnyT_take' (i := 4) (v := ?_) hO rfl rfl (by kernel_rfl) (by kernel_rfl) (by kernel_rfl) (by kernel_rfl) hQp (Or.inl ⟨by kernel_rfl, fun w hSw => ?_⟩) hSS ?_
    rotate_left
    ·go_simp; try with_reducible rfl
    try simp only [zA,zN,zB,zC,zD]
    refine wpAnyT_take' (i := 5) (v := ?_) hO rfl rfl (by kernel_rfl) (by kernel_rfl) (by kernel_rfl) (by kernel_rfl) hQp (Or.inl ⟨by kernel_rfl, fun w hSw => ?_⟩) hSS ?_
    rotate_left
    ·go_simp; try with_reducible rfl
    try simp only [zA,zN,zB,zC,zD]
    refine wpAnyT_take' (i := 6) (v := ?_) hO rfl rfl (by kernel_rfl) (by kernel_rfl) (by kernel_rfl) (by kernel_rfl) hQp (Or.inl ⟨by kernel_rfl, fun w hSw => ?_⟩) hSS ?_
    rotate_left
    ·go_simp; try with_reducible rfl
    try simp only [zA,zN,zB,zC,zD]
    refine wpAnyT_take' (i := 7) (v := ?_) hO rfl rfl (by kernel_rfl) (by kernel_rfl) (by kernel_rfl) (by kernel_rfl) hQp (Or.inl ⟨by kernel_rfl, fun w hSw => ?_⟩) hSS ?_
    rotate_left
    ·go_simp; try with_reducible rfl
    try simp only [zA,zN,zB,zC,zD]
    refine wpAnyT_take' (i := 8) (v := ?_) hO rfl rfl (by kernel_rfl) (by kernel_rfl) (by kernel_rfl) (by kernel_rfl) hQp (Or.inl ⟨by kernel_rfl, fun w hSw => ?_⟩) hSS ?_
    rotate_left
    ·go_simp; try with_reducible rfl
    try simp only [zA,zN,zB,zC,zD]
    refine wpAnyT_take' (i := 9) (v := ?_) hO rfl rfl (by kernel_rfl) (by kernel_rfl) (by kernel_rfl) (by kernel_rfl) hQp (Or.inl ⟨by kernel_rfl, fun w hSw => ?_⟩) hSS ?_
    rotate_left
    ·go_simp; try with_reducible rfl
    try simp only [zA,zN,zB,zC,zD]
    refine wpAnyT_take' (i := 10) (v := ?_) hO rfl rfl (by kernel_rfl) (by kernel_rfl) (by kernel_rfl) (by kernel_rfl) hQp (Or.inl ⟨by kernel_rfl, fun w hSw => ?_⟩) hSS ?_
    rotate_left
    ·go_simp; try with_reducible rfl
    try simp only [zA,zN,zB,zC,zD]
    have hc2 := cell_head (o := 1) hb2 rfl
    have hf2 := free_head (o := 1) hb2
    refine wpAnyT_one' (i := 11) hO rfl (by kernel_rfl) (by kernel_rfl) (fun K hK => ?_)
    go_simp
    have KS := (Kept.refl [w.heap.size + 1] W2).setCell (p := ⟨w.heap.size + 1, 1, none⟩) (.inl (by simp)) (.int .i64 v.num)
    have hS2 : (fun w' : World => w'.cell? ⟨w.heap.size, 1, none⟩ = some (.int .i64 v.num)) (W2.setCell ⟨w.heap.size + 1, 1, none⟩ (.int .i64 v.num)) := KS.cell hSS (by simp)
    have hb3 : (W2.setCell ⟨w.heap.size + 1, 1, none⟩ (.int .i64 v.num)).heap[w.heap.size + 1]? = some (.cells #[.int .i64 v.kind, .int .i64 v.num, .string ⟨#[]⟩, .slice none 0 0, .slice none 0 0] 28 (0, 0)) := block_setCell hb2 rfl
    have Ga := qI hb3
    have Gi := qI (Gb.o.trans' KS)
    refine hK _ _ (.inr hS2) ?_
    clear hK K
    try simp only [zA,zN,zB,zC,zD]
    clear hSS hc2 hf2 hb2 hb3 KS
    have hSS := hS2
    clear hS2
    refine wpAnyT_one' (i := 12) hO rfl (by kernel_rfl) (by kernel_rfl) (fun K hK => ?_)
    go_simp
    refine hK _ _ (.inl rfl) ?_
    clear hK K
    try simp only [zA,zN,zB,zC,zD]
    refine wpAnyT_done' hO (by kernel_rfl) ?_ _
    subst hR
    try clear hQp hO O
    go_wp2_with fail
    go_meet
    exact ⟨true, v.num, ⟨#[]⟩, 0, 0, _, _, _, _, rfl, Gi.o, ⟨cell_head Ga.o rfl, cell_head Ga.o rfl, cell_head Ga.o rfl, cell_head Ga.o rfl, cell_head Ga.o rfl⟩, Gf⟩
   ·have g2 := (int_ne n1).1
    have Gf : Hid (PlainIs v false v.num ⟨#[]⟩ 0 0) := qI (by have := Gf.o; rw [decide_eq_false (by rintro (q | q); exact n0 q; exact n1 q)] at this; exact this)
    clear k1 k2 n0 n1
    go_wp2_with fail
    refine wp_region_last' (n := 13) (fun w' : World => w'.cell? ⟨w.heap.size, 1, none⟩ = some (.int .i64 v.num)) 12 (by kernel_rfl) (by kernel_rfl) ?_
    change wpAnyT _ _ _ _ _ _ _ _ _ W1.drew
    have hSS : (fun w' : World => w'.cell? ⟨w.heap.size, 1, none⟩ = some (.int .i64 v.num)) W1.drew := c1
    have hb2 : W1.drew.heap[w.heap.size + 1]? = some (.cells (valA v.kind 0 ⟨#[]⟩ (.slice none 0 0) (.slice none 0 0)) 28 (0, 0)) := Ge.o
    have Gb : Hid (Kept [w.heap.size + 1] W1 W1.drew) := qI (Kept.refl _ _).drew
    have Gg : Hid (Kept [] w W1.drew) := qI Gh.o.drew
    clear c0 c1 c2 c3 c4
    revert hSS hb2 Gb Gg
    generalize W1.drew = W2
    intro hSS hb2 Gb Gg
    refine wpAnyT_start ?_
    intro O R hO hR
    have hQp : ∀ c a (d : Nat) v w, R (.panic c) (a.put (some d) v) w → R (.panic c) a w := by subst hR; exact fun _ _ _ _ _ h => h
    refine wpAnyT_take' (i := 0) (v := ?_) hO rfl rfl (by kernel_rfl) (by kernel_rfl) (by kernel_rfl) (by kernel_rfl) hQp (Or.inl ⟨by kernel_rfl, fun w hSw => ?_⟩) hSS ?_
    rotate_left
    ·go_simp; try with_reducible rfl
    try simp only [zA,zN,zB,zC,zD]
    refine wpAnyT_take' (i := 1) (v := ?_) hO rfl rfl (by kernel_rfl) (by kernel_rfl) (by kernel_rfl) (by kernel_rfl) hQp (Or.inl ⟨by kernel_rfl, fun w hSw => ?_⟩) hSS ?_
    rotate_left
    ·go_simp; try with_reducible rfl
    try simp only [zA,zN,zB,zC,zD]
    refine wpAnyT_take' (i := 2) (v := ?_) hO rfl rfl (by kernel_rfl) (by kernel_rfl) (by kernel_rfl) (by kernel_rfl) hQp (Or.inl ⟨by kernel_rfl, fun w hSw => ?_⟩) hSS ?_
    rotate_left
    ·go_simp; try with_reducible rfl
    try simp only [zA,zN,zB,zC,zD]
    refine wpAnyT_take' (i := 3) (v := ?_) hO rfl rfl (by kernel_rfl) (by kernel_rfl) (by kernel_rfl) (by kernel_rfl) hQp (Or.inl ⟨by kernel_rfl, fun w hSw => ?_⟩) hSS ?_
    rotate_left
    ·go_simp; try with_reducible rfl
    try simp only [zA,zN,zB,zC,zD]
    refine wpAnyT_take' (i := 4) (v := ?_) hO rfl rfl (by kernel_rfl) (by kernel_rfl) (by kernel_rfl) (by kernel_rfl) hQp (Or.inl ⟨by kernel_rfl, fun w hSw => ?_⟩) hSS ?_
    rotate_left
    ·go_simp; try with_reducible rfl
    try simp only [zA,zN,zB,zC,zD]
    refine wpAnyT_take' (i := 5) (v := ?_) hO rfl rfl (by kernel_rfl) (by kernel_rfl) (by kernel_rfl) (by kernel_rfl) hQp (Or.inl ⟨by kernel_rfl, fun w hSw => ?_⟩) hSS ?_
    rotate_left
    ·go_simp; try with_reducible rfl
    try simp only [zA,zN,zB,zC,zD]
    refine wpAnyT_take' (i := 6) (v := ?_) hO rfl rfl (by kernel_rfl) (by kernel_rfl) (by kernel_rfl) (by kernel_rfl) hQp (Or.inl ⟨by kernel_rfl, fun w hSw => ?_⟩) hSS ?_
    rotate_left
    ·go_simp; try with_reducible rfl
    try simp only [zA,zN,zB,zC,zD]
    refine wpAnyT_take' (i := 7) (v := ?_) hO rfl rfl (by kernel_rfl) (by kernel_rfl) (by kernel_rfl) (by kernel_rfl) hQp (Or.inl ⟨by kernel_rfl, fun w hSw => ?_⟩) hSS ?_
    rotate_left
    ·go_simp; try with_reducible rfl
    try simp only [zA,zN,zB,zC,zD]
    refine wpAnyT_take' (i := 8) (v := ?_) hO rfl rfl (by kernel_rfl) (by kernel_rfl) (by kernel_rfl) (by kernel_rfl) hQp (Or.inl ⟨by kernel_rfl, fun w hSw => ?_⟩) hSS ?_
    rotate_left
    ·go_simp; try with_reducible rfl
    try simp only [zA,zN,zB,zC,zD]
    refine wpAnyT_take' (i := 9) (v := ?_) hO rfl rfl (by kernel_rfl) (by kernel_rfl) (by kernel_rfl) (by kernel_rfl) hQp (Or.inl ⟨by kernel_rfl, fun w hSw => ?_⟩) hSS ?_
    rotate_left
    ·go_simp; try with_reducible rfl
    try simp only [zA,zN,zB,zC,zD]
    refine wpAnyT_take' (i := 10) (v := ?_) hO rfl rfl (by kernel_rfl) (by kernel_rfl) (by kernel_rfl) (by kernel_rfl) hQp (Or.inl ⟨by kernel_rfl, fun w hSw => ?_⟩) hSS ?_
    rotate_left
    ·go_simp; try with_reducible rfl
    try simp only [zA,zN,zB,zC,zD]
    have hc2 := cell_head (o := 1) hb2 rfl
    have hf2 := free_head (o := 1) hb2
    refine wpAnyT_one' (i := 11) hO rfl (by kernel_rfl) (by kernel_rfl) (fun K hK => ?_)
    go_simp
    have KS := (Kept.refl [w.heap.size + 1] W2).setCell (p := ⟨w.heap.size + 1, 1, none⟩) (.inl (by simp)) (.int .i64 v.num)
    have hS2 : (fun w' : World => w'.cell? ⟨w.heap.size, 1, none⟩ = some (.int .i64 v.num)) (W2.setCell ⟨w.heap.size + 1, 1, none⟩ (.int .i64 v.num)) := KS.cell hSS (by simp)
    have hb3 : (W2.setCell ⟨w.heap.size + 1, 1, none⟩ (.int .i64 v.num)).heap[w.heap.size + 1]? = some (.cells #[.int .i64 v.kind, .int .i64 v.num, .string ⟨#[]⟩, .slice none 0 0, .slice none 0 0] 28 (0, 0)) := block_setCell hb2 rfl
    have Ga := qI hb3
    have Gi := qI (Gb.o.trans' KS)
    refine hK _ _ (.inr hS2) ?_
    clear hK K
    try simp only [zA,zN,zB,zC,zD]
    clear hSS hc2 hf2 hb2 hb3 KS
    have hSS := hS2
    clear hS2
    refine wpAnyT_one' (i := 12) hO rfl (by kernel_rfl) (by kernel_rfl) (fun K hK => ?_)
    go_simp
    refine hK _ _ (.inl rfl) ?_
    clear hK K
    try simp only [zA,zN,zB,zC,zD]
    refine wpAnyT_done' hO (by kernel_rfl) ?_ _
    subst hR
    try clear hQp hO O
    go_wp2_with fail
    go_meet
    exact ⟨false, v.num, ⟨#[]⟩, 0, 0, _, _, _, _, rfl, Gi.o, ⟨cell_head Ga.o rfl, cell_head Ga.o rfl, cell_head Ga.o rfl, cell_head Ga.o rfl, cell_head Ga.o rfl⟩, Gf⟩
  have f2 := (int_ne k2).1
  by_cases k3 : v.kind = 3
  ·have f3 := (int_eq k3).1
   have Gf := qI (plain_3 k3)
   by_cases n0 : -9007199254740991 ≤ v.num
   ·by_cases n1 : v.num ≤ 9007199254740991
    ·have Gf : Hid (PlainIs v true v.num ⟨#[]⟩ 0 0) := qI (by have := Gf.o; rw [decide_eq_true ⟨n0, n1⟩] at this; exact this)
     clear k1 k2 k3
     go_wp2_with fail
     refine wp_region_last' (n := 13) (fun w' : World => w'.cell? ⟨w.heap.size, 1, none⟩ = some (.int .i64 v.num)) 12 (by kernel_rfl) (by kernel_rfl) ?_
     change wpAnyT _ _ _ _ _ _ _ _ _ W1.drew
     have hSS : (fun w' : World => w'.cell? ⟨w.heap.size, 1, none⟩ = some (.int .i64 v.num)) W1.drew := c1
     have hb2 : W1.drew.heap[w.heap.size + 1]? = some (.cells (valA v.kind 0 ⟨#[]⟩ (.slice none 0 0) (.slice none 0 0)) 28 (0, 0)) := Ge.o
     have Gb : Hid (Kept [w.heap.size + 1] W1 W1.drew) := qI (Kept.refl _ _).drew
     have Gg : Hid (Kept [] w W1.drew) := qI Gh.o.drew
     clear c0 c1 c2 c3 c4
     revert hSS hb2 Gb Gg
     generalize W1.drew = W2
     intro hSS hb2 Gb Gg
     refine wpAnyT_start ?_
     intro O R hO hR
     have hQp : ∀ c a (d : Nat) v w, R (.panic c) (a.put (some d) v) w → R (.panic c) a w := by subst hR; exact fun _ _ _ _ _ h => h
     refine wpAnyT_take' (i := 0) (v := ?_) hO rfl rfl (by kernel_rfl) (by kernel_rfl) (by kernel_rfl) (by kernel_rfl) hQp (Or.inl ⟨by kernel_rfl, fun w hSw => ?_⟩) hSS ?_
     rotate_left
     ·go_simp; try with_reducible rfl
     try simp only [zA,zN,zB,zC,zD]
     refine wpAnyT_take' (i := 1) (v := ?_) hO rfl rfl (by kernel_rfl) (by kernel_rfl) (by kernel_rfl) (by kernel_rfl) hQp (Or.inl ⟨by kernel_rfl, fun w hSw => ?_⟩) hSS ?_
     rotate_left
     ·go_simp; try with_reducible rfl
     try simp only [zA,zN,zB,zC,zD]
     refine wpAnyT_take' (i := 2) (v := ?_) hO rfl rfl (by kernel_rfl) (by kernel_rfl) (by kernel_rfl) (by kernel_rfl) hQp (Or.inl ⟨by kernel_rfl, fun w hSw => ?_⟩) hSS ?_
     rotate_left
     ·go_simp; try with_reducible rfl
     try simp only [zA,zN,zB,zC,zD]
     refine wpAnyT_take' (i := 3) (v := ?_) hO rfl rfl (by kernel_rfl) (by kernel_rfl) (by kernel_rfl) (by kernel_rfl) hQp (Or.inl ⟨by kernel_rfl, fun w hSw => ?_⟩) hSS ?_
     rotate_left
     ·go_simp; try with_reducible rfl
     try simp only [zA,zN,zB,zC,zD]
     refine wpAnyT_take' (i := 4) (v := ?_) hO rfl rfl (by kernel_rfl) (by kernel_rfl) (by kernel_rfl) (by kernel_rfl) hQp (Or.inl ⟨by kernel_rfl, fun w hSw => ?_⟩) hSS ?_
     rotate_left
     ·go_simp; try with_reducible rfl
     try simp only [zA,zN,zB,zC,zD]
     refine wpAnyT_take' (i := 5) (v := ?_) hO rfl rfl (by kernel_rfl) (by kernel_rfl) (by kernel_rfl) (by kernel_rfl) hQp (Or.inl ⟨by kernel_rfl, fun w hSw => ?_⟩) hSS ?_
     rotate_left
     ·go_simp; try with_reducible rfl
     try simp only [zA,zN,zB,zC,zD]
     refine wpAnyT_take' (i := 6) (v := ?_) hO rfl rfl (by kernel_rfl) (by kernel_rfl) (by kernel_rfl) (by kernel_rfl) hQp (Or.inl ⟨by kernel_rfl, fun w hSw => ?_⟩) hSS ?_
     rotate_left
     ·go_simp; try with_reducible rfl
     try simp only [zA,zN,zB,zC,zD]
     refine wpAnyT_take' (i := 7) (v := ?_) hO rfl rfl (by kernel_rfl) (by kernel_rfl) (by kernel_rfl) (by kernel_rfl) hQp (Or.inl ⟨by kernel_rfl, fun w hSw => ?_⟩) hSS ?_
     rotate_left
     ·go_simp; try with_reducible rfl
     try simp only [zA,zN,zB,zC,zD]
     refine wpAnyT_take' (i := 8) (v := ?_) hO rfl rfl (by kernel_rfl) (by kernel_rfl) (by kernel_rfl) (by kernel_rfl) hQp (Or.inl ⟨by kernel_rfl, fun w hSw => ?_⟩) hSS ?_
     rotate_left
     ·go_simp; try with_reducible rfl
     try simp only [zA,zN,zB,zC,zD]
     refine wpAnyT_take' (i := 9) (v := ?_) hO rfl rfl (by kernel_rfl) (by kernel_rfl) (by kernel_rfl) (by kernel_rfl) hQp (Or.inl ⟨by kernel_rfl, fun w hSw => ?_⟩) hSS ?_
     rotate_left
     ·go_simp; try with_reducible rfl
     try simp only [zA,zN,zB,zC,zD]
     refine wpAnyT_take' (i := 10) (v := ?_) hO rfl rfl (by kernel_rfl) (by kernel_rfl) (by kernel_rfl) (by kernel_rfl) hQp (Or.inl ⟨by kernel_rfl, fun w hSw => ?_⟩) hSS ?_
     rotate_left
     ·go_simp; try with_reducible rfl
     try simp only [zA,zN,zB,zC,zD]
     have hc2 := cell_head (o := 1) hb2 rfl
     have hf2 := free_head (o := 1) hb2
     refine wpAnyT_one' (i := 11) hO rfl (by kernel_rfl) (by kernel_rfl) (fun K hK => ?_)
     go_simp
     have KS := (Kept.refl [w.heap.size + 1] W2).setCell (p := ⟨w.heap.size + 1, 1, none⟩) (.inl (by simp)) (.int .i64 v.num)
     have hS2 : (fun w' : World => w'.cell? ⟨w.heap.size, 1, none⟩ = some (.int .i64 v.num)) (W2.setCell ⟨w.heap.size + 1, 1, none⟩ (.int .i64 v.num)) := KS.cell hSS (by simp)
     have hb3 : (W2.setCell ⟨w.heap.size + 1, 1, none⟩ (.int .i64 v.num)).heap[w.heap.size + 1]? = some (.cells #[.int .i64 v.kind, .int .i64 v.num, .string ⟨#[]⟩, .slice none 0 0, .slice none 0 0] 28 (0, 0)) := block_setCell hb2 rfl
     have Ga := qI hb3
     have Gi := qI (Gb.o.trans' KS)
     refine hK _ _ (.inr hS2) ?_
     clear hK K
     try simp only [zA,zN,zB,zC,zD]
     clear hSS hc2 hf2 hb2 hb3 KS
     have hSS := hS2
     clear hS2
     refine wpAnyT_one' (i := 12) hO rfl (by kernel_rfl) (by kernel_rfl) (fun K hK => ?_)
     go_simp
     refine hK _ _ (.inl rfl) ?_
     clear hK K
     try simp only [zA,zN,zB,zC,zD]
     refine wpAnyT_done' hO (by kernel_rfl) ?_ _
     subst hR
     try clear hQp hO O
     go_wp2_with fail
     go_meet
     exact ⟨true, v.num, ⟨#[]⟩, 0, 0, _, _, _, _, rfl, Gi.o, ⟨cell_head Ga.o rfl, cell_head Ga.o rfl, cell_head Ga.o rfl, cell_head Ga.o rfl, cell_head Ga.o rfl⟩, Gf⟩
    ·have Gf : Hid (PlainIs v false v.num ⟨#[]⟩ 0 0) := qI (by have := Gf.o; rw [decide_eq_false (fun q => n1 q.2)] at this; exact this)
     have g2 := decide_eq_false n1
     clear k1 k2 k3 n1
     go_wp2_with fail
     refine wp_region_last' (n := 13) (fun w' : World => w'.cell? ⟨w.heap.size, 1, none⟩ = some (.int .i64 v.num)) 12 (by kernel_rfl) (by kernel_rfl) ?_
     change wpAnyT _ _ _ _ _ _ _ _ _ W1.drew
     have hSS : (fun w' : World => w'.cell? ⟨w.heap.size, 1, none⟩ = some (.int .i64 v.num)) W1.drew := c1
     have hb2 : W1.drew.heap[w.heap.size + 1]? = some (.cells (valA v.kind 0 ⟨#[]⟩ (.slice none 0 0) (.slice none 0 0)) 28 (0, 0)) := Ge.o
     have Gb : Hid (Kept [w.heap.size + 1] W1 W1.drew) := qI (Kept.refl _ _).drew
     have Gg : Hid (Kept [] w W1.drew) := qI Gh.o.drew
     clear c0 c1 c2 c3 c4
     revert hSS hb2 Gb Gg
     generalize W1.drew = W2
     intro hSS hb2 Gb Gg
     refine wpAnyT_start ?_
     intro O R hO hR
     have hQp : ∀ c a (d : Nat) v w, R (.panic c) (a.put (some d) v) w → R (.panic c) a w := by subst hR; exact fun _ _ _ _ _ h => h
     refine wpAnyT_take' (i := 0) (v := ?_) hO rfl rfl (by kernel_rfl) (by kernel_rfl) (by kernel_rfl) (by kernel_rfl) hQp (Or.inl ⟨by kernel_rfl, fun w hSw => ?_⟩) hSS ?_
     rotate_left
     ·go_simp; try with_reducible rfl
     try simp only [zA,zN,zB,zC,zD]
     refine wpAnyT_take' (i := 1) (v := ?_) hO rfl rfl (by kernel_rfl) (by kernel_rfl) (by kernel_rfl) (by kernel_rfl) hQp (Or.inl ⟨by kernel_rfl, fun w hSw => ?_⟩) hSS ?_
     rotate_left
     ·go_simp; try with_reducible rfl
     try simp only [zA,zN,zB,zC,zD]
     refine wpAnyT_take' (i := 2) (v := ?_) hO rfl rfl (by kernel_rfl) (by kernel_rfl) (by kernel_rfl) (by kernel_rfl) hQp (Or.inl ⟨by kernel_rfl, fun w hSw => ?_⟩) hSS ?_
     rotate_left
     ·go_simp; try with_reducible rfl
     try simp only [zA,zN,zB,zC,zD]
     refine wpAnyT_take' (i := 3) (v := ?_) hO rfl rfl (by kernel_rfl) (by kernel_rfl) (by kernel_rfl) (by kernel_rfl) hQp (Or.inl ⟨by kernel_rfl, fun w hSw => ?_⟩) hSS ?_
     rotate_left
     ·go_simp; try with_reducible rfl
     try simp only [zA,zN,zB,zC,zD]
     refine wpAnyT_take' (i := 4) (v := ?_) hO rfl rfl (by kernel_rfl) (by kernel_rfl) (by kernel_rfl) (by kernel_rfl) hQp (Or.inl ⟨by kernel_rfl, fun w hSw => ?_⟩) hSS ?_
     rotate_left
     ·go_simp; try with_reducible rfl
     try simp only [zA,zN,zB,zC,zD]
     refine wpAnyT_take' (i := 5) (v := ?_) hO rfl rfl (by kernel_rfl) (by kernel_rfl) (by kernel_rfl) (by kernel_rfl) hQp (Or.inl ⟨by kernel_rfl, fun w hSw => ?_⟩) hSS ?_
     rotate_left
     ·go_simp; try with_reducible rfl
     try simp only [zA,zN,zB,zC,zD]
     refine wpAnyT_take' (i := 6) (v := ?_) hO rfl rfl (by kernel_rfl) (by kernel_rfl) (by kernel_rfl) (by kernel_rfl) hQp (Or.inl ⟨by kernel_rfl, fun w hSw => ?_⟩) hSS ?_
     rotate_left
     ·go_simp; try with_reducible rfl
     try simp only [zA,zN,zB,zC,zD]
     refine wpAnyT_take' (i := 7) (v := ?_) hO rfl rfl (by kernel_rfl) (by kernel_rfl) (by kernel_rfl) (by kernel_rfl) hQp (Or.inl ⟨by kernel_rfl, fun w hSw => ?_⟩) hSS ?_
     rotate_left
     ·go_simp; try with_reducible rfl
     try simp only [zA,zN,zB,zC,zD]
     refine wpAnyT_take' (i := 8) (v := ?_) hO rfl rfl (by kernel_rfl) (by kernel_rfl) (by kernel_rfl) (by kernel_rfl) hQp (Or.inl ⟨by kernel_rfl, fun w hSw => ?_⟩) hSS ?_
     rotate_left
     ·go_simp; try with_reducible rfl
     try simp only [zA,zN,zB,zC,zD]
     refine wpAnyT_take' (i := 9) (v := ?_) hO rfl rfl (by kernel_rfl) (by kernel_rfl) (by kernel_rfl) (by kernel_rfl) hQp (Or.inl ⟨by kernel_rfl, fun w hSw => ?_⟩) hSS ?_
     rotate_left
     ·go_simp; try with_reducible rfl
     try simp only [zA,zN,zB,zC,zD]
     refine wpAnyT_take' (i := 10) (v := ?_) hO rfl rfl (by kernel_rfl) (by kernel_rfl) (by kernel_rfl) (by kernel_rfl) hQp (Or.inl ⟨by kernel_rfl, fun w hSw => ?_⟩) hSS ?_
     rotate_left
     ·go_simp; try with_reducible rfl
     try simp only [zA,zN,zB,zC,zD]
     have hc2 := cell_head (o := 1) hb2 rfl
     have hf2 := free_head (o := 1) hb2
     refine wpAnyT_one' (i := 11) hO rfl (by kernel_rfl) (by kernel_rfl) (fun K hK => ?_)
     go_simp
     have KS := (Kept.refl [w.heap.size + 1] W2).setCell (p := ⟨w.heap.size + 1, 1, none⟩) (.inl (by simp)) (.int .i64 v.num)
     have hS2 : (fun w' : World => w'.cell? ⟨w.heap.size, 1, none⟩ = some (.int .i64 v.num)) (W2.setCell ⟨w.heap.size + 1, 1, none⟩ (.int .i64 v.num)) := KS.cell hSS (by simp)
     have hb3 : (W2.setCell ⟨w.heap.size + 1, 1, none⟩ (.int .i64 v.num)).heap[w.heap.size + 1]? = some (.cells #[.int .i64 v.kind, .int .i64 v.num, .string ⟨#[]⟩, .slice none 0 0, .slice none 0 0] 28 (0, 0)) := block_setCell hb2 rfl
     have Ga := qI hb3
     have Gi := qI (Gb.o.trans' KS)
     refine hK _ _ (.inr hS2) ?_
     clear hK K
     try simp only [zA,zN,zB,zC,zD]
     clear hSS hc2 hf2 hb2 hb3 KS
     have hSS := hS2
     clear hS2
     refine wpAnyT_one' (i := 12) hO rfl (by kernel_rfl) (by kernel_rfl) (fun K hK => ?_)
     go_simp
     refine hK _ _ (.inl rfl) ?_
     clear hK K
     try simp only [zA,zN,zB,zC,zD]
     refine wpAnyT_done' hO (by kernel_rfl) ?_ _
     subst hR
     try clear hQp hO O
     go_wp2_with fail
     go_meet
     exact ⟨false, v.num, ⟨#[]⟩, 0, 0, _, _, _, _, rfl, Gi.o, ⟨cell_head Ga.o rfl, cell_head Ga.o rfl, cell_head Ga.o rfl, cell_head Ga.o rfl, cell_head Ga.o rfl⟩, Gf⟩
   ·have Gf : Hid (PlainIs v false v.num ⟨#[]⟩ 0 0) := qI (by have := Gf.o; rw [decide_eq_false (fun q => n0 q.1)] at this; exact this)
    have g2 := decide_eq_false n0
    clear k1 k2 k3 n0
    go_wp2_with fail
    refine wp_region_last' (n := 13) (fun w' : World => w'.cell? ⟨w.heap.size, 1, none⟩ = some (.int .i64 v.num)) 12 (by kernel_rfl) (by kernel_rfl) ?_
    change wpAnyT _ _ _ _ _ _ _ _ _ W1.drew
    have hSS : (fun w' : World => w'.cell? ⟨w.heap.size, 1, none⟩ = some (.int .i64 v.num)) W1.drew := c1
    have hb2 : W1.drew.heap[w.heap.size + 1]? = some (.cells (valA v.kind 0 ⟨#[]⟩ (.slice none 0 0) (.slice none 0 0)) 28 (0, 0)) := Ge.o
    have Gb : Hid (Kept [w.heap.size + 1] W1 W1.drew) := qI (Kept.refl _ _).drew
    have Gg : Hid (Kept [] w W1.drew) := qI Gh.o.drew
    clear c0 c1 c2 c3 c4
    revert hSS hb2 Gb Gg
    generalize W1.drew = W2
    intro hSS hb2 Gb Gg
    refine wpAnyT_start ?_
    intro O R hO hR
    have hQp : ∀ c a (d : Nat) v w, R (.panic c) (a.put (some d) v) w → R (.panic c) a w := by subst hR; exact fun _ _ _ _ _ h => h
    refine wpAnyT_take' (i := 0) (v := ?_) hO rfl rfl (by kernel_rfl) (by kernel_rfl) (by kernel_rfl) (by kernel_rfl) hQp (Or.inl ⟨by kernel_rfl, fun w hSw => ?_⟩) hSS ?_
    rotate_left
    ·go_simp; try with_reducible rfl
    try simp only [zA,zN,zB,zC,zD]
    refine wpAnyT_take' (i := 1) (v := ?_) hO rfl rfl (by kernel_rfl) (by kernel_rfl) (by kernel_rfl) (by kernel_rfl) hQp (Or.inl ⟨by kernel_rfl, fun w hSw => ?_⟩) hSS ?_
    rotate_left
    ·go_simp; try with_reducible rfl
    try simp only [zA,zN,zB,zC,zD]
    refine wpAnyT_take' (i := 2) (v := ?_) hO rfl rfl (by kernel_rfl) (by kernel_rfl) (by kernel_rfl) (by kernel_rfl) hQp (Or.inl ⟨by kernel_rfl, fun w hSw => ?_⟩) hSS ?_
    rotate_left
    ·go_simp; try with_reducible rfl
    try simp only [zA,zN,zB,zC,zD]
    refine wpAnyT_take' (i := 3) (v := ?_) hO rfl rfl (by kernel_rfl) (by kernel_rfl) (by kernel_rfl) (by kernel_rfl) hQp (Or.inl ⟨by kernel_rfl, fun w hSw => ?_⟩) hSS ?_
    rotate_left
    ·go_simp; try with_reducible rfl
    try simp only [zA,zN,zB,zC,zD]
    refine wpAnyT_take' (i := 4) (v := ?_) hO rfl rfl (by kernel_rfl) (by kernel_rfl) (by kernel_rfl) (by kernel_rfl) hQp (Or.inl ⟨by kernel_rfl, fun w hSw => ?_⟩) hSS ?_
    rotate_left
    ·go_simp; try with_reducible rfl
    try simp only [zA,zN,zB,zC,zD]
    refine wpAnyT_take' (i := 5) (v := ?_) hO rfl rfl (by kernel_rfl) (by kernel_rfl) (by kernel_rfl) (by kernel_rfl) hQp (Or.inl ⟨by kernel_rfl, fun w hSw => ?_⟩) hSS ?_
    rotate_left
    ·go_simp; try with_reducible rfl
    try simp only [zA,zN,zB,zC,zD]
    refine wpAnyT_take' (i := 6) (v := undef) hO rfl rfl (by kernel_rfl) (by kernel_rfl) (by kernel_rfl) (by kernel_rfl) hQp (Or.inr ⟨by kernel_rfl, rfl⟩) hSS ?_
    try simp only [zA,zN,zB,zC,zD]
    refine wpAnyT_take' (i := 7) (v := undef) hO rfl rfl (by kernel_rfl) (by kernel_rfl) (by kernel_rfl) (by kernel_rfl) hQp (Or.inr ⟨by kernel_rfl, rfl⟩) hSS ?_
    try simp only [zA,zN,zB,zC,zD]
    refine wpAnyT_take' (i := 8) (v := undef) hO rfl rfl (by kernel_rfl) (by kernel_rfl) (by kernel_rfl) (by kernel_rfl) hQp (Or.inr ⟨by kernel_rfl, rfl⟩) hSS ?_
    try simp only [zA,zN,zB,zC,zD]
    refine wpAnyT_take' (i := 9) (v := ?_) hO rfl rfl (by kernel_rfl) (by kernel_rfl) (by kernel_rfl) (by kernel_rfl) hQp (Or.inl ⟨by kernel_rfl, fun w hSw => ?_⟩) hSS ?_
    rotate_left
    ·go_simp; try with_reducible rfl
    try simp only [zA,zN,zB,zC,zD]
    refine wpAnyT_take' (i := 10) (v := ?_) hO rfl rfl (by kernel_rfl) (by kernel_rfl) (by kernel_rfl) (by kernel_rfl) hQp (Or.inl ⟨by kernel_rfl, fun w hSw => ?_⟩) hSS ?_
    rotate_left
    ·go_simp; try with_reducible rfl
    try simp only [zA,zN,zB,zC,zD]
    have hc2 := cell_head (o := 1) hb2 rfl
    have hf2 := free_head (o := 1) hb2
    refine wpAnyT_one' (i := 11) hO rfl (by kernel_rfl) (by kernel_rfl) (fun K hK => ?_)
    go_simp
    have KS := (Kept.refl [w.heap.size + 1] W2).setCell (p := ⟨w.heap.size + 1, 1, none⟩) (.inl (by simp)) (.int .i64 v.num)
    have hS2 : (fun w' : World => w'.cell? ⟨w.heap.size, 1, none⟩ = some (.int .i64 v.num)) (W2.setCell ⟨w.heap.size + 1, 1, none⟩ (.int .i64 v.num)) := KS.cell hSS (by simp)
    have hb3 : (W2.setCell ⟨w.heap.size + 1, 1, none⟩ (.int .i64 v.num)).heap[w.heap.size + 1]? = some (.cells #[.int .i64 v.kind, .int .i64 v.num, .string ⟨#[]⟩, .slice none 0 0, .slice none 0 0] 28 (0, 0)) := block_setCell hb2 rfl
    have Ga := qI hb3
    have Gi := qI (Gb.o.trans' KS)
    refine hK _ _ (.inr hS2) ?_
    clear hK K
    try simp only [zA,zN,zB,zC,zD]
    clear hSS hc2 hf2 hb2 hb3 KS
    have hSS := hS2
    clear hS2
    refine wpAnyT_one' (i := 12) hO rfl (by kernel_rfl) (by kernel_rfl) (fun K hK => ?_)
    go_simp
    refine hK _ _ (.inl rfl) ?_
    clear hK K
    try simp only [zA,zN,zB,zC,zD]
    refine wpAnyT_done' hO (by kernel_rfl) ?_ _
    subst hR
    try clear hQp hO O
    go_wp2_with fail
    go_meet
    exact ⟨false, v.num, ⟨#[]⟩, 0, 0, _, _, _, _, rfl, Gi.o, ⟨cell_head Ga.o rfl, cell_head Ga.o rfl, cell_head Ga.o rfl, cell_head Ga.o rfl, cell_head Ga.o rfl⟩, Gf⟩
  have f3 := (int_ne k3).1
  by_cases k4 : v.kind = 4
  ·have f4 := (int_eq k4).1
   have Gf := qI (plain_4 k4)
   clear k1 k2 k3 k4
   go_wp2_with fail
   refine wp_region_last' (n := 8) (fun w' : World => w'.cell? ⟨w.heap.size, 2, none⟩ = some (.string v.s)) 7 (by kernel_rfl) (by kernel_rfl) ?_
   change wpAnyT _ _ _ _ _ _ _ _ _ W1.drew
   have hSS : (fun w' : World => w'.cell? ⟨w.heap.size, 2, none⟩ = some (.string v.s)) W1.drew := c2
   have hb2 : W1.drew.heap[w.heap.size + 1]? = some (.cells (valA v.kind 0 ⟨#[]⟩ (.slice none 0 0) (.slice none 0 0)) 28 (0, 0)) := Ge.o
   have Gb : Hid (Kept [w.heap.size + 1] W1 W1.drew) := qI (Kept.refl _ _).drew
   have Gg : Hid (Kept [] w W1.drew) := qI Gh.o.drew
   clear c0 c1 c2 c3 c4
   revert hSS hb2 Gb Gg
   generalize W1.drew = W2
   intro hSS hb2 Gb Gg
   refine wpAnyT_start ?_
   intro O R hO hR
   have hQp : ∀ c a (d : Nat) v w, R (.panic c) (a.put (some d) v) w → R (.panic c) a w := by subst hR; exact fun _ _ _ _ _ h => h
   refine wpAnyT_take' (i := 0) (v := ?_) hO rfl rfl (by kernel_rfl) (by kernel_rfl) (by kernel_rfl) (by kernel_rfl) hQp (Or.inl ⟨by kernel_rfl, fun w hSw => ?_⟩) hSS ?_
   rotate_left
   ·go_simp; try with_reducible rfl
   try simp only [zA,zN,zB,zC,zD]
   refine wpAnyT_take' (i := 1) (v := ?_) hO rfl rfl (by kernel_rfl) (by kernel_rfl) (by kernel_rfl) (by kernel_rfl) hQp (Or.inl ⟨by kernel_rfl, fun w hSw => ?_⟩) hSS ?_
   rotate_left
   ·go_simp; try with_reducible rfl
   try simp only [zA,zN,zB,zC,zD]
   refine wpAnyT_take' (i := 2) (v := ?_) hO rfl rfl (by kernel_rfl) (by kernel_rfl) (by kernel_rfl) (by kernel_rfl) hQp (Or.inl ⟨by kernel_rfl, fun w hSw => ?_⟩) hSS ?_
   rotate_left
   ·go_simp; try with_reducible rfl
   try simp only [zA,zN,zB,zC,zD]
   refine wpAnyT_take' (i := 3) (v := ?_) hO rfl rfl (by kernel_rfl) (by kernel_rfl) (by kernel_rfl) (by kernel_rfl) hQp (Or.inl ⟨by kernel_rfl, fun w hSw => ?_⟩) hSS ?_
   rotate_left
   ·go_simp; try with_reducible rfl
   try simp only [zA,zN,zB,zC,zD]
   refine wpAnyT_take' (i := 5) (v := ?_) hO rfl rfl (by kernel_rfl) (by kernel_rfl) (by kernel_rfl) (by kernel_rfl) hQp (Or.inl ⟨by kernel_rfl, fun w hSw => ?_⟩) hSS ?_
   rotate_left
   ·go_simp; try with_reducible rfl
   try simp only [zA,zN,zB,zC,zD]
   refine wpAnyT_one' (i := 4) hO rfl (by kernel_rfl) (by kernel_rfl) (fun K hK => ?_)
   go_simp
   refine Calls.mono (utfValid (HT.o.kept0 Gg.o) v.s (by omega)) ?_; rintro e w3 ⟨rfl, hk3⟩
   have hS2 : (fun w' : World => w'.cell? ⟨w.heap.size, 2, none⟩ = some (.string v.s)) w3 := hk3.cell hSS (by simp)
   have hb3 := hk3.heap hb2 (by simp)
   have Jd := qI (Gb.o.then hk3)
   refine hK _ _ (.inr hS2) ?_
   clear hK K
   try simp only [zA,zN,zB,zC,zD]
   clear hSS hb2 hk3 Gb
   have hSS := hS2
   have hb2 := hb3
   have Gb := Jd
   clear hS2 hb3 Jd
   revert hSS hb2 Gb
   generalize w3 = W2
   intro hSS hb2 Gb
   have hc2 := cell_head (o := 2) hb2 rfl
   have hf2 := free_head (o := 2) hb2
   refine wpAnyT_one' (i := 6) hO rfl (by kernel_rfl) (by kernel_rfl) (fun K hK => ?_)
   go_simp
   have KS := (Kept.refl [w.heap.size + 1] W2).setCell (p := ⟨w.heap.size + 1, 2, none⟩) (.inl (by simp)) (.string v.s)
   have hS2 : (fun w' : World => w'.cell? ⟨w.heap.size, 2, none⟩ = some (.string v.s)) (W2.setCell ⟨w.heap.size + 1, 2, none⟩ (.string v.s)) := KS.cell hSS (by simp)
   have hb3 : (W2.setCell ⟨w.heap.size + 1, 2, none⟩ (.string v.s)).heap[w.heap.size + 1]? = some (.cells #[.int .i64 v.kind, .int .i64 0, .string v.s, .slice none 0 0, .slice none 0 0] 28 (0, 0)) := block_setCell hb2 rfl
   have Ga := qI hb3
   have Gi := qI (Gb.o.trans' KS)
   refine hK _ _ (.inr hS2) ?_
   clear hK K
   try simp only [zA,zN,zB,zC,zD]
   clear hSS hc2 hf2 hb2 hb3 KS
   have hSS := hS2
   clear hS2
   refine wpAnyT_one' (i := 7) hO rfl (by kernel_rfl) (by kernel_rfl) (fun K hK => ?_)
   go_simp
   refine hK _ _ (.inl rfl) ?_
   clear hK K
   try simp only [zA,zN,zB,zC,zD]
   refine wpAnyT_done' hO (by kernel_rfl) ?_ _
   subst hR
   try clear hQp hO O
   go_wp2_with fail
   go_meet
   exact ⟨bytesOk v.s, 0, v.s, 0, 0, _, _, _, _, rfl, Gi.o, ⟨cell_head Ga.o rfl, cell_head Ga.o rfl, cell_head Ga.o rfl, cell_head Ga.o rfl, cell_head Ga.o rfl⟩, Gf⟩
  have f4 := (int_ne k4).1
  by_cases k5 : v.kind = 5
  ·have f5 := (int_eq k5).1
   have Gf := qI (plain_5 k5)
   have hc2 := cell_head (o := 3) Ge.o rfl
   have hf2 := free_head (o := 3) Ge.o
   clear k1 k2 k3 k4 k5
   go_wp2_with fail
   have hb3 : (W1.setCell ⟨w.heap.size + 1, 3, none⟩ (.slice a v.l.length c)).heap[w.heap.size + 1]? = some (.cells #[.int .i64 v.kind, .int .i64 0, .string ⟨#[]⟩, .slice a v.l.length c, .slice none 0 0] 28 (0, 0)) := block_setCell Ge.o rfl
   have Ga := qI hb3
   go_meet
   exact ⟨true, 0, ⟨#[]⟩, v.l.length, 0, _, _, _, _, rfl, (Kept.refl [w.heap.size + 1] W1).setCell (p := ⟨w.heap.size + 1, 3, none⟩) (.inl (by simp)) _, ⟨cell_head Ga.o rfl, cell_head Ga.o rfl, cell_head Ga.o rfl, cell_head Ga.o rfl, cell_head Ga.o rfl⟩, Gf⟩
  have f5 := (int_ne k5).1
  by_cases k6 : v.kind = 6
  ·have f6 := (int_eq k6).1
   have Gf := qI (plain_6 k6)
   clear k1 k2 k3 k4 k5 k6
   go_wp2_with fail
   refine wp_region_last' (n := 8) (fun w' : World => w'.cell? ⟨w.heap.size, 4, none⟩ = some (.slice b v.m.length e)) 7 (by kernel_rfl) (by kernel_rfl) ?_
   change wpAnyT _ _ _ _ _ _ _ _ _ W1.drew
   have hSS : (fun w' : World => w'.cell? ⟨w.heap.size, 4, none⟩ = some (.slice b v.m.length e)) W1.drew := c4
   have hb2 : W1.drew.heap[w.heap.size + 1]? = some (.cells (valA v.kind 0 ⟨#[]⟩ (.slice none 0 0) (.slice none 0 0)) 28 (0, 0)) := Ge.o
   have Gb : Hid (Kept [w.heap.size + 1] W1 W1.drew) := qI (Kept.refl _ _).drew
   have Gg : Hid (Kept [] w W1.drew) := qI Gh.o.drew
   clear c0 c1 c2 c3 c4
   revert hSS hb2 Gb Gg
   generalize W1.drew = W2
   intro hSS hb2 Gb Gg
   refine wpAnyT_start ?_
   intro O R hO hR
   have hQp : ∀ c a (d : Nat) v w, R (.panic c) (a.put (some d) v) w → R (.panic c) a w := by subst hR; exact fun _ _ _ _ _ h => h
   refine wpAnyT_take' (i := 0) (v := ?_) hO rfl rfl (by kernel_rfl) (by kernel_rfl) (by kernel_rfl) (by kernel_rfl) hQp (Or.inl ⟨by kernel_rfl, fun w hSw => ?_⟩) hSS ?_
   rotate_left
   ·go_simp; try with_reducible rfl
   try simp only [zA,zN,zB,zC,zD]
   refine wpAnyT_take' (i := 1) (v := ?_) hO rfl rfl (by kernel_rfl) (by kernel_rfl) (by kernel_rfl) (by kernel_rfl) hQp (Or.inl ⟨by kernel_rfl, fun w hSw => ?_⟩) hSS ?_
   rotate_left
   ·go_simp; try with_reducible rfl
   try simp only [zA,zN,zB,zC,zD]
   refine wpAnyT_take' (i := 2) (v := ?_) hO rfl rfl (by kernel_rfl) (by kernel_rfl) (by kernel_rfl) (by kernel_rfl) hQp (Or.inl ⟨by kernel_rfl, fun w hSw => ?_⟩) hSS ?_
   rotate_left
   ·go_simp; try with_reducible rfl
   try simp only [zA,zN,zB,zC,zD]
   refine wpAnyT_take' (i := 3) (v := ?_) hO rfl rfl (by kernel_rfl) (by kernel_rfl) (by kernel_rfl) (by kernel_rfl) hQp (Or.inl ⟨by kernel_rfl, fun w hSw => ?_⟩) hSS ?_
   rotate_left
   ·go_simp; try with_reducible rfl
   try simp only [zA,zN,zB,zC,zD]
   refine wpAnyT_take' (i := 5) (v := ?_) hO rfl rfl (by kernel_rfl) (by kernel_rfl) (by kernel_rfl) (by kernel_rfl) hQp (Or.inl ⟨by kernel_rfl, fun w hSw => ?_⟩) hSS ?_
   rotate_left
   ·go_simp; try with_reducible rfl
   try simp only [zA,zN,zB,zC,zD]
   refine wpAnyT_one' (i := 4) hO rfl (by kernel_rfl) (by kernel_rfl) (fun K hK => ?_)
   go_simp
   refine Calls.mono (keys_any (Jc.o Gg.o) HM.o Gt.o (HT.o.kept0 Gg.o)) ?_; rintro e w3 ⟨rfl, hk3⟩
   have hS2 : (fun w' : World => w'.cell? ⟨w.heap.size, 4, none⟩ = some (.slice b v.m.length e)) w3 := hk3.cell hSS (by simp)
   have hb3 := hk3.heap hb2 (by simp)
   have Jd := qI (Gb.o.then hk3)
   refine hK _ _ (.inr hS2) ?_
   clear hK K
   try simp only [zA,zN,zB,zC,zD]
   clear hSS hb2 hk3 Gb
   have hSS := hS2
   have hb2 := hb3
   have Gb := Jd
   clear hS2 hb3 Jd
   revert hSS hb2 Gb
   generalize w3 = W2
   intro hSS hb2 Gb
   have hc2 := cell_head (o := 4) hb2 rfl
   have hf2 := free_head (o := 4) hb2
   refine wpAnyT_one' (i := 6) hO rfl (by kernel_rfl) (by kernel_rfl) (fun K hK => ?_)
   go_simp
   have KS := (Kept.refl [w.heap.size + 1] W2).setCell (p := ⟨w.heap.size + 1, 4, none⟩) (.inl (by simp)) (.slice b v.m.length e)
   have hS2 : (fun w' : World => w'.cell? ⟨w.heap.size, 4, none⟩ = some (.slice b v.m.length e)) (W2.setCell ⟨w.heap.size + 1, 4, none⟩ (.slice b v.m.length e)) := KS.cell hSS (by simp)
   have hb3 : (W2.setCell ⟨w.heap.size + 1, 4, none⟩ (.slice b v.m.length e)).heap[w.heap.size + 1]? = some (.cells #[.int .i64 v.kind, .int .i64 0, .string ⟨#[]⟩, .slice none 0 0, .slice b v.m.length e] 28 (0, 0)) := block_setCell hb2 rfl
   have Ga := qI hb3
   have Gi := qI (Gb.o.trans' KS)
   refine hK _ _ (.inr hS2) ?_
   clear hK K
   try simp only [zA,zN,zB,zC,zD]
   clear hSS hc2 hf2 hb2 hb3 KS
   have hSS := hS2
   clear hS2
   refine wpAnyT_one' (i := 7) hO rfl (by kernel_rfl) (by kernel_rfl) (fun K hK => ?_)
   go_simp
   refine hK _ _ (.inl rfl) ?_
   clear hK K
   try simp only [zA,zN,zB,zC,zD]
   refine wpAnyT_done' hO (by kernel_rfl) ?_ _
   subst hR
   try clear hQp hO O
   go_wp2_with fail
   go_meet
   exact ⟨keysOk v.m, 0, ⟨#[]⟩, 0, v.m.length, _, _, _, _, rfl, Gi.o, ⟨cell_head Ga.o rfl, cell_head Ga.o rfl, cell_head Ga.o rfl, cell_head Ga.o rfl, cell_head Ga.o rfl⟩, Gf⟩
  ·have f6 := (int_ne k6).1
   have HF : Hid (ownRight v = false) := qI (plain_else (by omega))
   clear k1 k2 k3 k4 k5 k6
   go_wp2_with fail
   go_ret
   rw [HF.o]
   exact ⟨rfl, Gh.o⟩
 case rest =>
  obtain ⟨ok, m, s, l, k, al, am, cl, cm, rfl, hkr, hb, HP⟩ := hcut
  have Gd : Hid (Kept [] w wc) := qI (Gh.o.trans hkr (by intro i hi; simp at hi; subst hi; exact .inr (Nat.le_succ _)))
  have hb1 := HB.o.kept hkr (by simp)
  clear c0 c1 c2 c3 c4
  obtain ⟨c0, c1, c2, c3, c4⟩ := hb1
  obtain ⟨d0, d1, d2, d3, d4⟩ := hb
  have t1 : (v.num == m) = decide (v.num = m) := rfl
  have t2 := str_beq v.s s
  have t3 := nat_beq v.l.length l
  have t4 := nat_beq v.m.length k
  clear hkr
  unfold PlainIs at HP
  revert HP t1 t2 t3 t4
  generalize decide (v.num = m) = q1
  generalize decide (v.s = s) = q2
  generalize decide (v.l.length = l) = q3
  generalize decide (v.m.length = k) = q4
  intro HP t1 t2 t3 t4
  have HF : Hid (ownRight v = (ok && q1 && q2 && q3 && q4)) := HP
  clear HP
  cases ok
  ·go_wp2_with fail
   go_ret
   rw [HF.o]
   exact ⟨rfl, Gd.o⟩
  cases q1
  ·go_wp2_with fail
   go_ret
   rw [HF.o]
   exact ⟨rfl, Gd.o⟩
  cases q2
  ·go_wp2_with fail
   go_ret
   rw [HF.o]
   exact ⟨rfl, Gd.o⟩
  cases q3
  ·go_wp2_with fail
   go_ret
   rw [HF.o]
   exact ⟨rfl, Gd.o⟩
  ·go_wp2_with fail
   go_ret
   rw [HF.o]
   exact ⟨ret_bool (by simp), Gd.o⟩
def WAt (w : World) (b : Nat) (d c : Nat) (r : Bool) : Prop := w.heap[b]? = some (.cells #[.int .i64 d, .int .i64 c, .bool r] 169 (0, 0))
theorem WAt.kept {w w' : World} {b d c : Nat} {r : Bool} {X : List Nat} (h : WAt w b d c r) (k : Kept X w w') (hb : b ∉ X) : WAt w' b d c r := k.heap h hb
structure Seen {n : Nat} (v : VS (V n)) (d c : Nat) (r : Bool) (k : Nat) (ks : List (V n)) (D C : Nat) (R : Bool) : Prop where
 hd : D = max (max d k) (k + maxL (ks.map (depthV n)))
 hc : C = c + 1 + (ks.map (countV n)).sum
 hr : R = (r || !(ownRight v && ks.all (rightV n)))
theorem Seen.snoc {n : Nat} {v : VS (V n)} {d c : Nat} {r : Bool} {k : Nat} {ks : List (V n)} {D C : Nat} {R : Bool} (h : Seen v d c r k ks D C R) (x : V n) (hx : 1 ≤ depthV n x) :
  Seen v d c r k (ks ++ [x]) (max D (k + 1 + depthV n x - 1)) (C + countV n x) (R || !rightV n x) := by
 obtain ⟨h1, h2, h3⟩ := h
 refine ⟨?_, ?_, ?_⟩
 ·rw [h1, List.map_append, maxL_app]
  simp only [List.map_cons, List.map_nil, maxL]
  omega
 ·rw [h2, List.map_append, List.sum_append]
  simp only [List.map_cons, List.map_nil, List.sum_cons, List.sum_nil]
  omega
 ·rw [h3, List.all_append]
  simp only [List.all_cons, List.all_nil, Bool.and_true]
  cases r <;> cases ownRight v <;> cases ks.all (rightV n) <;> cases rightV n x <;> rfl
theorem Seen.all {n : Nat} {v : VS (V n)} {d c : Nat} {r : Bool} {k : Nat} {D C : Nat} {R : Bool} (h : Seen v d c r k v.kids D C R) :
  D = max d (k + depthV (n + 1) v - 1) ∧ C = c + countV (n + 1) v ∧ R = (r || !rightV (n + 1) v) := by
 obtain ⟨h1, h2, h3⟩ := h
 have e1 : depthV (n + 1) v = 1 + maxL (v.kids.map (depthV n)) := rfl
 have e2 : countV (n + 1) v = 1 + (v.kids.map (countV n)).sum := rfl
 have e3 : rightV (n + 1) v = (ownRight v && v.kids.all (rightV n)) := rfl
 exact ⟨by omega, by omega, by rw [h3, e3]⟩
theorem depth_pos : ∀ {n : Nat} (x : V n), 1 ≤ depthV n x
 | 0, x => nomatch x
 | n + 1, (x : VS (V n)) => by
  have e1 : depthV (n + 1) x = 1 + maxL (x.kids.map (depthV n)) := rfl
  omega
theorem RepOne.keptX {n : Nat} {S : Nat → Prop} {w w' : World} {cs : List Value} {v : VS (V n)} {vl vm : Value} {lcs : List (List Value)} {mcs : List (ByteArray × List Value)} {X : List Nat}
  (h : RepOne (Rep n S w) S w cs v vl vm lcs mcs) (k : Kept X w w') (hX : ∀ x, x ∈ X → ¬ S x) : RepOne (Rep n S w') S w' cs v vl vm lcs mcs :=
 {cells := h.cells
  slcl := h.slcl.kept k (fun g hg hx => hX g hx (h.inl g hg))
  alll := h.alll.mono fun _ _ _ r => Rep.kept r k hX
  slcm := h.slcm.kept k (fun g hg hx => hX g hx (h.inm g hg))
  allm := h.allm.mono fun _ _ _ r => ⟨r.1, Rep.kept r.2 k hX⟩
  inl := h.inl
  inm := h.inm
  wfk := h.wfk
  wfn := h.wfn }
theorem sum_take_le {α : Type} (f : α → Nat) (l : List α) (j : Nat) (h : j < l.length) : ((l.take j).map f).sum + f l[j] ≤ (l.map f).sum := by
 have h1 : (l.map f).sum = ((l.take (j + 1)).map f).sum + ((l.drop (j + 1)).map f).sum := by
  rw [← List.sum_append, ← List.map_append, List.take_append_drop]
 rw [h1, take_map_succ f l j h, List.sum_append]
 simp only [List.sum_cons, List.sum_nil]
 omega
def down_anyKnown (n : Nat) : Prop := ∀ (v : V n) {S : Nat → Prop} {w : World} {cs : List Value} {Wt : World} {b d c k : Nat} {r : Bool}, Rep n S w cs v → Small n v → n + k ≤ 1000 → d ≤ 100000 → c + countV n v ≤ 100000 → Tabs Wt → Kept [] Wt w → Wt.heap.size ≤ b → WAt w b d c r → (∀ g, S g → g ≠ b) →
    Calls Tryz.prog 170 #[.pointer (some ⟨b, 0, none⟩), .agg cs.toArray, .int .i64 k] w fun e w' => e = .returned (.tuple #[]) ∧ WAt w' b (max d (k + depthV n v - 1)) (c + countV n v) (r || !rightV n v) ∧ Kept [b] w w'
theorem down_any_step {n : Nat} (known : down_anyKnown n) : down_anyKnown (n + 1) := fun (v : VS (V n)) {S} {w} {cs} {Wt} {b} {d} {c} {k} {r} h hs hn hd hc ht hkt hbt hw hS => by
  have Jb := qI h
  have Jh := qI hs
  have HT := qI ht
  have Jl := qI hkt
  have HW := qI hw
  have Ji := qI hS
  obtain ⟨vl, vm, lcs, mcs, h⟩ := h
  obtain ⟨a, ca, ba, ea, rfl, rfl, rfl⟩ := h.forms
  have H := qI h
  have IH := qI known
  have hlv : v.l.length ≤ 20000 := by have := hs.few; omega
  have hmv : v.m.length ≤ 20000 := by have := hs.few; omega
  have hbl : b < w.heap.size := lt_of_block hw
  obtain ⟨W0, Gk⟩ : ∃ W0, Hid (W0 = w.alloc (.cells #[.int .i64 v.kind, .int .i64 v.num, .string v.s, .slice a v.l.length ca, .slice ba v.m.length ea] 28)) := ⟨_, qI rfl⟩
  have Gh : Hid (Kept [] w W0) := qI (by rw [Gk.o]; exact (Kept.refl [] w).alloc _)
  have Jm : Hid (BoxAt W0 w.heap.size v.kind v.num v.s (.slice a v.l.length ca) (.slice ba v.m.length ea)) := qI (by rw [Gk.o]; exact box_at w v.kind v.num v.s (.slice a v.l.length ca) (.slice ba v.m.length ea) 28)
  have Gu : Hid (W0.heap[b]? = some (.cells #[.int .i64 d, .int .i64 c, .bool r] 169 (0, 0))) := qI (Gh.o.heap hw (by simp))
  obtain ⟨c0, c1, c2, c3, c4⟩ := Jm.o
  clear h hs ht hkt hw hS
  go_enter Tryz.func170, Tryz.ntmps170
  go_upto_region 1 with fail
  rw [← Gk.o]
  have w0 := cell_head (o := 0) (v := .int .i64 d) Gu.o rfl
  have w1 := cell_head (o := 1) (v := .int .i64 c) Gu.o rfl
  have w2 := cell_head (o := 2) (v := .bool r) Gu.o rfl
  have f0 := free_head (o := 0) Gu.o
  have f1 := free_head (o := 1) Gu.o
  have f2 := free_head (o := 2) Gu.o
  go_upto_region 2 with fail
  have Gj := qI (block_setCell (v := .int .i64 ((c : Int) + 1)) (i := 1) Gu.o rfl)
  have Gm : Hid (Kept [b] W0 (W0.setCell ⟨b, 1, none⟩ (.int .i64 ((c : Int) + 1)))) := qI ((Kept.refl _ _).setCell (.inl (by simp)) _)
  clear w0 w1 w2 f0 f1 f2
  revert Gj Gm
  generalize W0.setCell ⟨b, 1, none⟩ (.int .i64 ((c : Int) + 1)) = W1
  intro Gj Gm
  have w0 := cell_head (o := 0) (v := .int .i64 d) Gj.o rfl
  have w1 := cell_head (o := 1) (v := .int .i64 ((c : Int) + 1)) Gj.o rfl
  have w2 := cell_head (o := 2) (v := .bool r) Gj.o rfl
  have f0 := free_head (o := 0) Gj.o
  have f1 := free_head (o := 1) Gj.o
  have f2 := free_head (o := 2) Gj.o
  go_upto_region 3 with fail
  rw [show max (d : Int) (k : Int) = ((max d k : Nat) : Int) by omega]
  have Gl := qI (block_setCell (v := .int .i64 ((max d k : Nat) : Int)) (i := 0) Gj.o rfl)
  have Gc : Hid (Kept [b] W0 (W1.setCell ⟨b, 0, none⟩ (.int .i64 ((max d k : Nat) : Int)))) := qI (Gm.o.setCell (.inl (by simp)) _)
  clear w0 w1 w2 f0 f1 f2 Gj Gm c0 c1 c2 c3 c4
  revert Gl Gc
  generalize W1.setCell ⟨b, 0, none⟩ (.int .i64 ((max d k : Nat) : Int)) = W2
  intro Gl Gc
  have Gv : Hid (Kept [b] w W2) := qI ((Gh.o.mono (by simp)).trans' Gc.o)
  have Gq : Hid (Rep (n + 1) S W2 [.int .i64 v.kind, .int .i64 v.num, .string v.s, .slice a v.l.length ca, .slice ba v.m.length ea] v) := qI (Jb.o.kept Gv.o (fun g hg hSg => Ji.o g hSg (by simpa using hg)))
  have Jq : Hid (Tabs W2) := qI (HT.o.kept0 (Jl.o.trans Gv.o (fun i hi => by simp at hi; subst hi; exact .inr hbt)))
  have hbne : w.heap.size ≠ b := by omega
  obtain ⟨c0, c1, c2, c3, c4⟩ := Jm.o.kept Gc.o (by simpa using hbne)
  go_cut [] from 26 to 37 (fun wr => WAt wr b (max d k) (c + 1) (r || !ownRight v) ∧ Kept [b] W0 wr)
  case first =>
   cases r with
   | true =>
    have w0 := cell_head (o := 0) (v := .int .i64 ((max d k : Nat) : Int)) Gl.o rfl
    have w1 := cell_head (o := 1) (v := .int .i64 ((c : Int) + 1)) Gl.o rfl
    have w2 := cell_head (o := 2) (v := .bool true) Gl.o rfl
    have f0 := free_head (o := 0) Gl.o
    have f1 := free_head (o := 1) Gl.o
    have f2 := free_head (o := 2) Gl.o
    go_wp2_with fail
    go_meet
    exact ⟨block_setCell Gl.o rfl, Gc.o.setCell (.inl (by simp)) _⟩
   | false =>
    have CP := qI (plain_any Gq.o Jh.o Jq.o)
    have w2 := cell_head (o := 2) (v := .bool false) Gl.o rfl
    go_wp2_with (go_at_call 204; refine CP.o.mono ?_; rintro e w3 ⟨rfl, hk3⟩; have Jn := qI (hk3.heap Gl.o (by simp)); have Gi := qI hk3; clear hk3 w2; have w2 := cell_head (o := 2) (v := .bool false) Jn.o rfl; have f2 := free_head (o := 2) Jn.o)
    go_meet
    exact ⟨block_setCell Jn.o (by simp), (Gc.o.then Gi.o).setCell (.inl (by simp)) _⟩
  case rest =>
   obtain ⟨hwc, hkc⟩ := hcut
   clear Gl Gc Gv Gq Jq c0 c1 c2 c3 c4
   have Jx := qI hwc
   have Jr : Hid (Kept [b] w wc) := qI ((Gh.o.mono (by simp)).trans' hkc)
   have Js := qI (Jm.o.kept hkc (by simpa using hbne))
   have HX : Hid (∀ {wr}, Kept [b] w wr → RepOne (Rep n S wr) S wr _ v _ _ lcs mcs) := qI fun k => H.o.keptX k (fun x hx hSx => Ji.o x hSx (by simpa using hx))
   have Jt : Hid (countV (n + 1) v = 1 + ((v.l.map (countV n)).sum + (v.m.map (fun p => countV n p.2)).sum)) := qI (by rw [← kids_sum]; rfl)
   have Jo : Hid (Seen v d c r k [] (max d k) (c + 1) (r || !ownRight v)) := qI ⟨by simp [maxL], by simp, by simp⟩
   clear hwc hkc
   obtain ⟨c0, c1, c2, c3, c4⟩ := Js.o
   go_wp2_with fail
   clear c0 c1 c2 c3 c4
   go_loopw [41] (fun i wr => ∃ (j D C : Nat) (R : Bool), i = .int .i64 j ∧ j ≤ v.l.length ∧ WAt wr b D C R ∧ Seen v d c r k (v.l.take j) D C R ∧ Kept [b] wc wr) (fun i _ => v.l.length - (intOf i).toNat)
   case atStart => exact ⟨0, _, _, _, rfl, Nat.zero_le _, Jx.o, Jo.o, Kept.refl _ _⟩
   case round =>
    obtain ⟨j, D, C, R, rfl, hj, hwt, hse, hkr⟩ := hrel
    have Gr := qI hwt
    have Gp := qI hse
    have Gw := qI hkr
    have Gd := qI (Jr.o.trans' hkr)
    clear hwt hse hkr
    by_cases hlt : j < v.l.length
    ·have hltI : (j : Int) < v.l.length := by omega
     obtain ⟨g, o, cap, kd, nm, st, a1, b1, he, q0, q1, q2, q3, q4, hr⟩ := (HX.o Gd.o).at_l (Kept.refl _ _) j hlt
     simp only [Value.slice.injEq] at he
     obtain ⟨rfl, -, rfl⟩ := he
     obtain ⟨p1, i1, d1, p2, i2, d2, rfl, rfl⟩ := hr.sl
     have hD : D ≤ 100000 := by
      rw [Gp.o.hd]
      have : maxL ((v.l.take j).map (depthV n)) ≤ n := maxL_le.2 (fun x hx => by obtain ⟨y, _, rfl⟩ := List.mem_map.1 hx; exact depth_le' n y)
      omega
     have hC : C + countV n v.l[j] ≤ 100000 := by
      rw [Gp.o.hc]
      have := sum_take_le (countV n) v.l j hlt
      have := Jt.o
      omega
     have HA := qI ((Kept.refl [] wr).alloc (.cells #[.int .i64 kd, .int .i64 nm, .string st, .slice p1 i1 d1, .slice p2 i2 d2] 28))
     have CL := qI (IH.o v.l[j] (hr.kept0 HA.o) (Jh.o.kid (mem_l (List.getElem_mem hlt))) (k := k + 1) (by omega) hD hC HT.o ((Jl.o.trans Gd.o (fun i hi => by simp at hi; subst hi; exact .inr hbt)).then HA.o) hbt (Gr.o.kept HA.o (by simp)) Ji.o)
     rw [show ((k + 1 : Nat) : Int) = (k : Int) + 1 from rfl] at CL
     have Gx := qI (Gp.o.snoc v.l[j] (depth_pos _))
     have Gn : Hid (v.l.take (j + 1) = v.l.take j ++ [v.l[j]]) := qI (List.take_succ_eq_append_getElem hlt)
     clear hr hD hC
     go_wp2_with (go_at_call 170; refine CL.o.mono ?_; rintro e w2 ⟨rfl, hw2, hk2⟩; have Gl := qI hw2; have Gc := qI hk2; clear hw2 hk2)
     case roundEnd => exact ⟨⟨j + 1, _, _, _, by go_num, by omega, Gl.o, by rw [Gn.o]; exact Gx.o, (Gw.o.then HA.o).trans' Gc.o⟩, by simp [intOf]; omega⟩
    ·obtain rfl : j = v.l.length := by omega
     obtain ⟨c0, c1, c2, c3, c4⟩ := Js.o.kept Gw.o (by simpa using hbne)
     have Je : Hid (Seen v d c r k (v.l ++ (v.m.take 0).map (fun p => p.2)) D C R) := qI (by have := Gp.o; rw [List.take_length] at this; simpa using this)
     have Jf := qI Gr.o
     have Jg := qI Gw.o
     clear Gp Gr Gw Gd
     go_wp2_with fail
     clear c0 c1 c2 c3 c4
     go_loopw [54] (fun i wr => ∃ (j D C : Nat) (R : Bool), i = .int .i64 j ∧ j ≤ v.m.length ∧ WAt wr b D C R ∧ Seen v d c r k (v.l ++ (v.m.take j).map (fun p => p.2)) D C R ∧ Kept [b] wc wr) (fun i _ => v.m.length - (intOf i).toNat)
     case atStart => exact ⟨0, _, _, _, rfl, Nat.zero_le _, Jf.o, Je.o, Jg.o⟩
     case round =>
      obtain ⟨j, D, C, R, rfl, hj, hwt, hse, hkr⟩ := hrel
      clear Je Jf Jg
      have Gr := qI hwt
      have Gp := qI hse
      have Gw := qI hkr
      have Gd := qI (Jr.o.trans' hkr)
      clear hwt hse hkr
      by_cases hlt : j < v.m.length
      ·have hltI : (j : Int) < v.m.length := by omega
       obtain ⟨g, o, cap, kd, nm, st, a1, b1, he, q0, q1, q2, q3, q4, q5, hr⟩ := (HX.o Gd.o).at_m (Kept.refl _ _) j hlt
       simp only [Value.slice.injEq] at he
       obtain ⟨rfl, -, rfl⟩ := he
       obtain ⟨p1, i1, d1, p2, i2, d2, rfl, rfl⟩ := hr.sl
       have hD : D ≤ 100000 := by
        rw [Gp.o.hd]
        have : maxL ((v.l ++ (v.m.take j).map (fun p => p.2)).map (depthV n)) ≤ n := maxL_le.2 (fun x hx => by obtain ⟨y, _, rfl⟩ := List.mem_map.1 hx; exact depth_le' n y)
        omega
       have hC : C + countV n v.m[j].2 ≤ 100000 := by
        rw [Gp.o.hc, List.map_append, List.sum_append, List.map_map]
        have := sum_take_le (fun p : ByteArray × V n => countV n p.2) v.m j hlt
        have := Jt.o
        have e : ((v.m.take j).map (countV n ∘ fun p => p.2)).sum = ((v.m.take j).map (fun p => countV n p.2)).sum := rfl
        omega
       have Gn : Hid (v.l ++ (v.m.take (j + 1)).map (fun p => p.2) = (v.l ++ (v.m.take j).map (fun p => p.2)) ++ [v.m[j].2]) := qI (by rw [take_map_succ _ _ _ hlt, List.append_assoc])
       have Gx := qI (Gp.o.snoc v.m[j].2 (depth_pos _))
       have HA := qI ((Kept.refl [] wr).alloc (.cells #[.string v.m[j].1, .int .i64 kd, .int .i64 nm, .string st, .slice p1 i1 d1, .slice p2 i2 d2] 78))
       have CL := qI (IH.o v.m[j].2 (hr.kept0 HA.o) (Jh.o.kid (mem_m (List.getElem_mem hlt))) (k := k + 1) (by omega) hD hC HT.o ((Jl.o.trans Gd.o (fun i hi => by simp at hi; subst hi; exact .inr hbt)).then HA.o) hbt (Gr.o.kept HA.o (by simp)) Ji.o)
       rw [show ((k + 1 : Nat) : Int) = (k : Int) + 1 from rfl] at CL
       clear hr hD hC
       revert q0 Gn Gx HA CL
       generalize v.m[j] = pr
       obtain ⟨key, x⟩ := pr
       intro q0 Gn Gx HA CL
       simp only at q0 Gn Gx HA CL
       go_wp2_with (go_at_call 170; refine CL.o.mono ?_; rintro e w2 ⟨rfl, hw2, hk2⟩; have Gl := qI hw2; have Gc := qI hk2; clear hw2 hk2)
       case roundEnd => exact ⟨⟨j + 1, _, _, _, by go_num, by omega, Gl.o, by rw [Gn.o]; exact Gx.o, (Gw.o.then HA.o).trans' Gc.o⟩, by simp [intOf]; omega⟩
      ·obtain rfl : j = v.m.length := by omega
       have Jy : Hid (Seen v d c r k v.kids D C R) := qI (by have := Gp.o; rw [List.take_length] at this; exact this)
       obtain ⟨e1, e2, e3⟩ := Jy.o.all
       have Jp : Hid (WAt wr b (max d (k + depthV (n + 1) v - 1)) (c + countV (n + 1) v) (r || !rightV (n + 1) v)) := qI (by rw [← e1, ← e2, ← e3]; exact Gr.o)
       clear e1 e2 e3
       go_wp2_with fail
       go_end0
       exact ⟨rfl, Jp.o, Gd.o⟩
theorem down_any_known : ∀ (n : Nat), down_anyKnown n
 | 0 => fun v {_} {_} {_} {_} {_} {_} {_} {_} {_} h _ _ _ _ _ _ _ _ _ => h.elim
 | n + 1 => down_any_step (down_any_known n)
theorem down_any : ∀ (n : Nat) (v : V n) {S : Nat → Prop} {w : World} {cs : List Value} {Wt : World} {b d c k : Nat} {r : Bool}, Rep n S w cs v → Small n v → n + k ≤ 1000 → d ≤ 100000 → c + countV n v ≤ 100000 → Tabs Wt → Kept [] Wt w → Wt.heap.size ≤ b → WAt w b d c r → (∀ g, S g → g ≠ b) →
  Calls Tryz.prog 170 #[.pointer (some ⟨b, 0, none⟩), .agg cs.toArray, .int .i64 k] w fun e w' => e = .returned (.tuple #[]) ∧ WAt w' b (max d (k + depthV n v - 1)) (c + countV n v) (r || !rightV n v) ∧ Kept [b] w w' := fun n => down_any_known n
theorem look_any {n : Nat} {v : V n} {S : Nat → Prop} {w : World} {cs : List Value} (h : Rep n S w cs v) (hs : Small n v) (hn : n ≤ 100) (ht : Tabs w) :
  Calls Tryz.prog 131 #[.agg cs.toArray] w fun e w' => (∃ b, e = .returned (.pointer (some ⟨b, 0, none⟩)) ∧ WAt w' b (depthV n v) (countV n v) (!rightV n v)) ∧ Kept [] w w' := by
 obtain ⟨kd, nm, st, a1, b1, rfl⟩ := h.five
 obtain ⟨p1, i1, d1, p2, i2, d2, rfl, rfl⟩ := h.sl
 obtain ⟨W0, Gk⟩ : ∃ W0, Hid (W0 = w.alloc (.cells #[.int .i64 kd, .int .i64 nm, .string st, .slice p1 i1 d1, .slice p2 i2 d2] 28)) := ⟨_, qI rfl⟩
 obtain ⟨W1, Gj⟩ : ∃ W1, Hid (W1 = W0.alloc (.cells #[.int .i64 0, .int .i64 0, .bool false] 169)) := ⟨_, qI rfl⟩
 have Gh : Hid (Kept [] w W0) := qI (by rw [Gk.o]; exact (Kept.refl [] w).alloc _)
 have Gm : Hid (Kept [] w W1) := qI (by rw [Gj.o]; exact Gh.o.alloc _)
 have Jz : Hid (W0.heap.size = w.heap.size + 1) := qI (by rw [Gk.o]; simp)
 have Ma : Hid (BoxAt W1 w.heap.size kd nm st (.slice p1 i1 d1) (.slice p2 i2 d2)) := qI (by rw [Gj.o, Gk.o]; exact (box_at _ _ _ _ _ _ _).kept0 ((Kept.refl _ _).alloc _))
 have Gr : Hid (WAt W1 (w.heap.size + 1) 0 0 false) := qI (by rw [Gj.o]; exact block_alloc Jz.o)
 have hct := hs.1
 have CL := qI (down_any n v ((h.mono (T := fun g => g < w.heap.size) (fun g hg _ => hg)).kept0 Gm.o) hs (k := 1) (by omega) (Nat.zero_le _) (by omega) ht Gm.o (Nat.le_succ _) Gr.o (fun g hg => by omega))
 clear h hs ht hct
 rw [show ((1 : Nat) : Int) = 1 from rfl] at CL
 have HD : Hid (max 0 (1 + depthV n v - 1) = depthV n v ∧ 0 + countV n v = countV n v) := qI (by omega)
 go_enter Tryz.func131, Tryz.ntmps131
 go_wp2_with fail
 rw [← Gk.o, ← Gj.o]
 refine CL.o.mono ?_
 rintro e w2 ⟨rfl, hw2, hk2⟩
 have Gl : Hid (WAt w2 (w.heap.size + 1) (depthV n v) (countV n v) (!rightV n v)) := qI (by rw [HD.o.1, HD.o.2] at hw2; simpa using hw2)
 have Gc := qI hk2
 clear hw2 hk2
 go_wp2_with fail
 go_ret
 exact ⟨⟨_, rfl, Gl.o⟩, Gm.o.trans Gc.o (fun i hi => by simp at hi; subst hi; exact .inr (Nat.le_succ _))⟩
theorem check_any {n : Nat} {v : V n} {S : Nat → Prop} {w : World} {cs : List Value} (h : Rep n S w cs v) (hs : Small n v) (hn : n ≤ 100) (ht : Tabs w) :
  Calls Tryz.prog 98 #[.agg cs.toArray] w fun e w' => e = .returned (.int .i64 (checkV n v)) ∧ Kept [] w w' := by
 obtain ⟨kd, nm, st, a1, b1, rfl⟩ := h.five
 obtain ⟨p1, i1, d1, p2, i2, d2, rfl, rfl⟩ := h.sl
 obtain ⟨W0, Gk⟩ : ∃ W0, Hid (W0 = w.alloc (.cells #[.int .i64 kd, .int .i64 nm, .string st, .slice p1 i1 d1, .slice p2 i2 d2] 28)) := ⟨_, qI rfl⟩
 have Gh : Hid (Kept [] w W0) := qI (by rw [Gk.o]; exact (Kept.refl [] w).alloc _)
 have CL := qI (look_any (h.kept0 Gh.o) hs hn (ht.kept0 Gh.o))
 have hct := hs.1
 have hdt : depthV n v ≤ 100 := Nat.le_trans (depth_le' n v) hn
 have HC : Hid (checkV n v = if 12 < depthV n v then 41 else if 4096 < countV n v then 42 else if rightV n v then 0 else 40) := qI rfl
 clear h hs ht
 revert CL hct hdt HC
 generalize depthV n v = D
 generalize countV n v = C
 generalize rightV n v = R
 generalize checkV n v = K
 intro CL hct hdt HC
 by_cases h1 : 12 < D
 ·have h1I : (12 : Int) < D := by omega
  have HF : Hid (K = 41) := qI (by rw [HC.o, if_pos h1])
  go_enter Tryz.func98, Tryz.ntmps98
  go_wp2_with fail
  rw [← Gk.o]
  refine CL.o.mono ?_
  rintro e w2 ⟨⟨b, rfl, hw2⟩, hk2⟩
  have c0 := cell_head (o := 0) (v := .int .i64 D) hw2 rfl
  have c1 := cell_head (o := 1) (v := .int .i64 C) hw2 rfl
  have c2 := cell_head (o := 2) (v := .bool (!R)) hw2 rfl
  have Gc := qI (Gh.o.then hk2)
  clear hw2 hk2
  go_wp2_with fail
  go_ret
  rw [HF.o]
  exact ⟨rfl, Gc.o⟩
 have h1I : ¬ (12 : Int) < D := by omega
 by_cases h2 : 4096 < C
 ·have h2I : (4096 : Int) < C := by omega
  have HF : Hid (K = 42) := qI (by rw [HC.o, if_neg h1, if_pos h2])
  go_enter Tryz.func98, Tryz.ntmps98
  go_wp2_with fail
  rw [← Gk.o]
  refine CL.o.mono ?_
  rintro e w2 ⟨⟨b, rfl, hw2⟩, hk2⟩
  have c0 := cell_head (o := 0) (v := .int .i64 D) hw2 rfl
  have c1 := cell_head (o := 1) (v := .int .i64 C) hw2 rfl
  have c2 := cell_head (o := 2) (v := .bool (!R)) hw2 rfl
  have Gc := qI (Gh.o.then hk2)
  clear hw2 hk2
  go_wp2_with fail
  go_ret
  rw [HF.o]
  exact ⟨rfl, Gc.o⟩
 have h2I : ¬ (4096 : Int) < C := by omega
 cases R with
 | true =>
  have HF : Hid (K = 0) := qI (by rw [HC.o, if_neg h1, if_neg h2, if_pos rfl])
  clear h1 h2
  go_enter Tryz.func98, Tryz.ntmps98
  go_wp2_with fail
  rw [← Gk.o]
  refine CL.o.mono ?_
  rintro e w2 ⟨⟨b, rfl, hw2⟩, hk2⟩
  have c0 := cell_head (o := 0) (v := .int .i64 D) hw2 rfl
  have c1 := cell_head (o := 1) (v := .int .i64 C) hw2 rfl
  have c2 := cell_head (o := 2) (v := .bool false) hw2 rfl
  have Gc := qI (Gh.o.then hk2)
  clear hw2 hk2
  go_wp2_with fail
  go_ret
  rw [HF.o]
  exact ⟨rfl, Gc.o⟩
 | false =>
  have HF : Hid (K = 40) := qI (by rw [HC.o, if_neg h1, if_neg h2, if_neg (by simp)])
  clear h1 h2
  go_enter Tryz.func98, Tryz.ntmps98
  go_wp2_with fail
  rw [← Gk.o]
  refine CL.o.mono ?_
  rintro e w2 ⟨⟨b, rfl, hw2⟩, hk2⟩
  have c0 := cell_head (o := 0) (v := .int .i64 D) hw2 rfl
  have c1 := cell_head (o := 1) (v := .int .i64 C) hw2 rfl
  have c2 := cell_head (o := 2) (v := .bool true) hw2 rfl
  have Gc := qI (Gh.o.then hk2)
  clear hw2 hk2
  go_wp2_with fail
  go_ret
  rw [HF.o]
  exact ⟨rfl, Gc.o⟩
end Go.Proofs.YtckbnjipecclaaaGreatDoor

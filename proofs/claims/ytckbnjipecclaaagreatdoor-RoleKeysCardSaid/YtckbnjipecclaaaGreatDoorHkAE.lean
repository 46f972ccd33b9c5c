/- Parts of one proof, merged: XRA XWr XWs XGR XJP. -/
import Derived.Test.YtckbnjipecclaaaGreatDoorHkI
import Derived.Laws.OwnMore
import Derived.Test.YtckbnjipecclaaaGreatDoorHkQ
import Derived.Test.YtckbnjipecclaaaGreatDoorHkAB
import Derived.Test.YtckbnjipecclaaaGreatDoorHkAD
import Derived.Test.YtckbnjipecclaaaGreatDoorHkS
import Derived.ChangeKeysEq
import Derived.Test.YtckbnjipecclaaaGreatDoorHkF
import Derived.Lib.Hide
set_option linter.all false
set_option maxHeartbeats 12800000
set_option maxRecDepth 10000
set_option linter.unusedVariables false
set_option linter.unusedSimpArgs false
set_option linter.unnecessarySimpa false
namespace Go.Proofs.YtckbnjipecclaaaGreatDoor
open Go.RowKit
theorem one_digit (k : Nat) (hk : k < 10) : (⟨#[48, 49, 50, 51, 52, 53, 54, 55, 56, 57]⟩ : ByteArray).extract k (k + 1) = ⟨#[UInt8.ofNat (48 + k)]⟩ := by
 have : k = 0 ∨ k = 1 ∨ k = 2 ∨ k = 3 ∨ k = 4 ∨ k = 5 ∨ k = 6 ∨ k = 7 ∨ k = 8 ∨ k = 9 := by omega
 rcases this with rfl | rfl | rfl | rfl | rfl | rfl | rfl | rfl | rfl | rfl <;> rfl
theorem digits_len (u : Nat) (h : u ≤ 9223372036854775808) : (Lib.decDigits u).length ≤ 21 := by
 by_cases h0 : u = 0
 ·subst h0
  rw [Lib.decDigits]
  simp
 ·have := Lib.itoa_length_le (-(u : Int)) (by omega) (by omega)
  rw [Lib.itoa_neg u (by omega)] at this
  simp at this
  omega
theorem below_any (u : Nat) : u ≤ 9223372036854775808 → ∀ w : World, Calls Tryz.prog 142 #[.int .i64 (-(u : Int))] w fun e w' => e = .returned (.string ⟨(Lib.decDigits u).toArray⟩) ∧ w = w' := by
 induction u using Nat.strongRecOn with
 | ind u ih =>
  intro hu w
  have hq : (-(u : Int)).tdiv 10 = -((u / 10 : Nat) : Int) := by rw [Int.neg_tdiv]; rfl
  have hr : (-(u : Int)).tmod 10 = -((u % 10 : Nat) : Int) := by rw [Int.neg_tmod]; rfl
  have hs := qI (one_digit (u % 10) (Nat.mod_lt _ (by decide)))
  have hl := digits_len u hu
  have hm : u % 10 < 10 := Nat.mod_lt _ (by decide)
  by_cases h10 : 10 ≤ u
  ·have hi := qI (ih (u / 10) (by omega) (by omega))
   have hl2 := digits_len (u / 10) (by omega)
   have hd : Hid ((⟨(Lib.decDigits u).toArray⟩ : ByteArray) = ⟨(Lib.decDigits (u / 10)).toArray⟩ ++ ⟨#[UInt8.ofNat (48 + u % 10)]⟩) := qI (by
    rw [Lib.decDigits, dif_neg (by omega)]
    apply ByteArray.ext
    simp)
   have hsz : ¬ 9223372036854775807 < (⟨(Lib.decDigits (u / 10)).toArray⟩ : ByteArray).size + 1 := by simp [ByteArray.size]; omega
   revert hd hi hsz
   generalize (⟨(Lib.decDigits (u / 10)).toArray⟩ : ByteArray) = t
   intro hi hd hsz
   clear ih hl hl2
   go_enter Tryz.func142, Tryz.ntmps142
   go_wp2_with (go_at_call 142; refine (hi.o _).mono ?_; rintro e w' ⟨rfl, rfl⟩)
   go_ret
   exact ⟨by rw [hd.o, ← hs.o]; rfl, rfl⟩
  ·have hd : Hid ((⟨(Lib.decDigits u).toArray⟩ : ByteArray) = ⟨#[UInt8.ofNat (48 + u % 10)]⟩) := qI (by
    rw [Lib.decDigits, dif_pos (by omega), Nat.mod_eq_of_lt (by omega)])
   have hn : ¬ (-(u : Int)) ≤ -10 := by omega
   clear ih hl
   go_enter Tryz.func142, Tryz.ntmps142
   go_wp2_with fail
   go_ret
   exact ⟨by rw [hd.o, ← hs.o]; exact congrArg (fun b => Ending.returned (Value.string b)) (by apply ByteArray.ext; simp), rfl⟩
theorem refDigits_any (n : Int) (h0 : -9223372036854775808 ≤ n) (h1 : n ≤ 9223372036854775807) (w : World) : Calls Tryz.prog 106 #[.int .i64 n] w fun e w' => e = .returned (.string ⟨(Lib.itoa n).toArray⟩) ∧ w = w' := by
 by_cases hn : n < 0
 ·obtain ⟨u, rfl⟩ : ∃ u : Nat, n = -(u : Int) := ⟨n.natAbs, by omega⟩
  have hb := qI (below_any u (by omega) w)
  have hd : Hid ((⟨(Lib.itoa (-(u : Int))).toArray⟩ : ByteArray) = ⟨#[45]⟩ ++ ⟨(Lib.decDigits u).toArray⟩) := qI (by
   rw [Lib.itoa_neg u (by omega)]
   apply ByteArray.ext
   simp)
  have hl := digits_len u (by omega)
  have hsz : ¬ 9223372036854775807 < 1 + (⟨(Lib.decDigits u).toArray⟩ : ByteArray).size := by simp [ByteArray.size]; omega
  rw [hd.o]
  clear hl
  revert hb hsz
  generalize (⟨(Lib.decDigits u).toArray⟩ : ByteArray) = t
  intro hb hsz
  clear hd
  go_enter Tryz.func106, Tryz.ntmps106
  go_wp2_with (go_at_call 142; refine hb.o.mono ?_; rintro e w' ⟨rfl, rfl⟩)
  go_ret
  exact ⟨rfl, rfl⟩
 ·obtain ⟨u, rfl⟩ := Int.eq_ofNat_of_zero_le (show 0 ≤ n by omega)
  have hb := qI (below_any u (by omega) w)
  rw [Lib.itoa_nonneg]
  generalize (⟨(Lib.decDigits u).toArray⟩ : ByteArray) = t at hb ⊢
  have hw : IntKind.i64.wrap (-(u : Int)) = -(u : Int) := by rw [IntKind.wrap_i64]; omega
  go_enter Tryz.func106, Tryz.ntmps106
  go_wp2_with (go_at_call 142; refine hb.o.mono ?_; rintro e w' ⟨rfl, rfl⟩)
  go_ret
  exact ⟨rfl, rfl⟩
theorem refDigits_str (n : Int) (h0 : -9223372036854775808 ≤ n) (h1 : n ≤ 9223372036854775807) (w : World) : Calls Tryz.prog 106 #[.int .i64 n] w fun e w' => e = .returned (.string (strB (Lib.itoa n))) ∧ w = w' := refDigits_any n h0 h1 w
theorem one_hex (k : Nat) (hk : k < 16) : (⟨#[48, 49, 50, 51, 52, 53, 54, 55, 56, 57, 97, 98, 99, 100, 101, 102]⟩ : ByteArray).extract k (k + 1) = ⟨#[hexd k]⟩ := by
 have : k = 0 ∨ k = 1 ∨ k = 2 ∨ k = 3 ∨ k = 4 ∨ k = 5 ∨ k = 6 ∨ k = 7 ∨ k = 8 ∨ k = 9 ∨ k = 10 ∨ k = 11 ∨ k = 12 ∨ k = 13 ∨ k = 14 ∨ k = 15 := by omega
 rcases this with rfl | rfl | rfl | rfl | rfl | rfl | rfl | rfl | rfl | rfl | rfl | rfl | rfl | rfl | rfl | rfl <;> rfl
theorem refHex_any (z : Int) (h0 : 0 ≤ z) (h1 : z < 16) (w : World) : Calls Tryz.prog 143 #[.int .i64 z] w fun e w' => e = .returned (.string ⟨#[hexd z.toNat]⟩) ∧ w = w' := by
 obtain ⟨k, rfl⟩ := Int.eq_ofNat_of_zero_le h0
 have hk : k < 16 := by omega
 have hs := qI (one_hex k hk)
 have hT : Hid ((k : Int).toNat = k) := qI (by simp)
 clear h0 h1
 go_enter Tryz.func143, Tryz.ntmps143
 go_wp2_with fail
 go_ret
 rw [hT.o, ← hs.o]
 exact ⟨rfl, rfl⟩
theorem quote_at (s : ByteArray) (k : Nat) (h : k < s.size) : 34 :: (s.data.toList.take (k + 1)).flatMap quoteB = (34 :: (s.data.toList.take k).flatMap quoteB) ++ quoteB (s[k]'h) := by
 rw [List.take_succ_eq_append_getElem (by simpa using h), List.flatMap_append, List.cons_append]
 simp only [List.flatMap_cons, List.flatMap_nil, List.append_nil]
 rfl
theorem refQuote_any (s : ByteArray) (hs : s.size ≤ 1000000) (w : World) :
  Calls Tryz.prog 107 #[.string s] w fun e w' => e = .returned (.string (strB (quoteL s.data.toList))) ∧ Kept [] w w' := by
 have HL : Hid (s.data.toList.length = s.size) := qI (by simp)
 have Jh : Hid ((w.alloc (.cells #[.int .u8 34] 5)).ownsRow w.heap.size 5 1 (.slice (some ⟨w.heap.size, 0, none⟩) 1 1) 1 [.int .u8 34]) := qI (World.ownsRow_lit w #[.int .u8 34] 1 (Nat.le_refl _) (by decide) rfl)
 have Gh : Hid (Kept [] w (w.alloc (.cells #[.int .u8 34] 5))) := qI ((Kept.refl [] w).alloc _)
 go_enter Tryz.func107, Tryz.ntmps107
 go_wp2_with fail
 go_loopw [3, 4] (fun o i wr => ∃ (k : Nat) (a : Option Addr) (c : Nat) (L : List UInt8), i = .int .i64 k ∧ k ≤ s.size ∧ L = 34 :: (s.data.toList.take k).flatMap quoteB ∧ o = .slice a L.length c ∧ wr.ownsRow w.heap.size 5 1 (.slice a L.length c) L.length (L.map bv) ∧ Kept [] w wr) (fun _ i _ => s.size - (intOf i).toNat)
 case atStart => exact ⟨0, _, _, [34], rfl, Nat.zero_le _, rfl, rfl, Jh.o, Gh.o⟩
 case round =>
  obtain ⟨k, a, c, L, rfl, hk, hL, rfl, hr, hkw⟩ := hrel
  have HR := qI hr
  have Gb := qI hkw
  have hq : L.length ≤ 6000001 := by
   have := quote_take s.data.toList k
   rw [HL.o] at this
   rw [hL, List.length_cons]
   omega
  have Jc := qI hL
  have Gt := qI hr.lt
  clear hr hkw hL
  by_cases hlt : k < s.size
  ·have hltI : (k : Int) < s.size := by omega
   have Gq : Hid (34 :: (s.data.toList.take (k + 1)).flatMap quoteB = L ++ quoteB (s[k]'hlt)) := qI (by rw [Jc.o]; exact quote_at s k hlt)
   have hx : ((s[k]'hlt).toNat : Int) ≤ 255 := by have := (s[k]'hlt).toNat_lt; omega
   revert hx Gq
   generalize hsk : s[k]'hlt = x
   intro Gq hx
   by_cases h32 : x.toNat < 32
   ·obtain ⟨z, hz⟩ : ∃ z : Int, z = (x.toNat : Int) := ⟨_, rfl⟩
    have hz0 : 0 ≤ z := by omega
    have hz1 : z < 32 := by omega
    have hne : (z == 34) = false ∧ (z == 92) = false := ⟨(int_ne (by omega)).1, (int_ne (by omega)).1⟩
    obtain ⟨g1, g2⟩ := hne
    have hsk2 : ((s[k]'hlt).toNat : Int) = z := by rw [hsk]; exact hz.symm
    have HQ : Hid (quoteB x = [92, 117, 48, 48, hexd (z / 16).toNat, hexd (z % 16).toNat]) := qI (by
     unfold quoteB
     rw [if_pos h32, hz]
     have e1 : ((x.toNat : Int) / 16).toNat = x.toNat / 16 := by omega
     have e2 : ((x.toNat : Int) % 16).toNat = x.toNat % 16 := by omega
     rw [e1, e2])
    have hq0 : 0 ≤ z / 16 := by omega
    have hq1 : z / 16 < 16 := by omega
    have hr0 : 0 ≤ z % 16 := by omega
    have hr1 : z % 16 < 16 := by omega
    obtain ⟨i0, hi, hz0', hz1', hz2'⟩ := info_parts tyByte.info
    have HI := qI hi
    have HZ := qI (And.intro hz0' (And.intro hz1' hz2'))
    clear hi hz0' hz1' hz2' hz hsk hx h32
    have Gu : Hid (((⟨#[92, 117, 48, 48]⟩ : ByteArray) ++ ⟨#[hexd (z / 16).toNat]⟩ ++ ⟨#[hexd (z % 16).toNat]⟩).size = 6 ∧ ((⟨#[92, 117, 48, 48]⟩ : ByteArray) ++ ⟨#[hexd (z / 16).toNat]⟩ ++ ⟨#[hexd (z % 16).toNat]⟩).data.toList = quoteB x) := qI ⟨by simp [ByteArray.size_append]; rfl, by rw [HQ.o]; simp⟩
    go_wp2_with (first
     | (go_at_call 143; refine (refHex_any _ (by omega) (by omega) _).mono ?_; rintro e w' ⟨rfl, rfl⟩)
     | (at_builtin; refine Lib.wpList_append_own_string _ rfl _ _ 82 9 rfl w.heap.size 5 i0 Tryz.underlying82 Tryz.underlying9 HI.o HZ.o.1 HZ.o.2.1 HZ.o.2.2 (.slice a L.length c) L.length (L.map bv) rfl HR.o ((⟨#[92, 117, 48, 48]⟩ : ByteArray) ++ ⟨#[hexd (z / 16).toNat]⟩ ++ ⟨#[hexd (z % 16).toNat]⟩) rfl (by rw [Gu.o.1]; simp only [maxLen]; omega) (by rw [Gu.o.1]; omega) Gb.o.size ?_; intro v2 w2 hown2 hg2 _; have Gc := qI hown2; have Ji := qI hg2; clear hown2 hg2))
    case roundEnd =>
     have h9 := Gc.o
     rw [show Lib.strCells ((⟨#[92, 117, 48, 48]⟩ : ByteArray) ++ ⟨#[hexd (z / 16).toNat]⟩ ++ ⟨#[hexd (z % 16).toNat]⟩) = (((⟨#[92, 117, 48, 48]⟩ : ByteArray) ++ ⟨#[hexd (z / 16).toNat]⟩ ++ ⟨#[hexd (z % 16).toNat]⟩).data.toList).map bv from rfl, Gu.o.2, Gu.o.1] at h9
     obtain ⟨a', c', rfl, -, -⟩ := (Slc.of_row h9).form
     have hl6 : (L ++ quoteB x).length = L.length + 6 := by rw [HQ.o]; simp
     refine ⟨⟨k + 1, a', c', L ++ quoteB x, by go_num, by omega, Gq.o.symm, by rw [hl6], by rw [hl6, List.map_append]; exact h9, ?_⟩, by simp [intOf]; omega⟩
     exact Gb.o.grown Ji.o (fun g hg => .inr (Gt.o g hg).1)
   ·have h32I : ¬ (x.toNat : Int) < 32 := by omega
    by_cases hc : x = 34 ∨ x = 92
    ·have HQ : Hid (quoteB x = [92, x]) := qI (by unfold quoteB; rw [if_neg h32, if_pos hc])
     have hg : ((x.toNat : Int) == 34) = true ∨ (((x.toNat : Int) == 34) = false ∧ ((x.toNat : Int) == 92) = true) := by
      rcases hc with rfl | rfl
      ·exact .inl rfl
      ·exact .inr ⟨rfl, rfl⟩
     have Gd := qI (slc_new wr [.int .u8 92, bv x] 1 2 5 wr.heap.size rfl rfl (by decide))
     have Ge := qI (row_kept HR.o ((Kept.refl [] wr).alloc (.cells #[.int .u8 92, bv x] 5)) (by simp))
     have Gw : Hid (∀ (v' : Value) (w' : World), w'.ownsRow w.heap.size 5 1 v' (L.length + 2) (L.map bv ++ [.int .u8 92, bv x]) → ∃ a' c', v' = .slice a' (L ++ quoteB x).length c' ∧ w'.ownsRow w.heap.size 5 1 (.slice a' (L ++ quoteB x).length c') (L ++ quoteB x).length ((L ++ quoteB x).map bv)) := qI (by
      intro v' w' h
      obtain ⟨a', c', rfl, -, -⟩ := (Slc.of_row h).form
      rw [HQ.o]
      exact ⟨a', c', by simp, by simpa [bv] using h⟩)
     clear hc h32
     unfold bv at Gd Ge
     rcases hg with g1 | ⟨g1, g2⟩
     all_goals
      go_wp2_with (at_builtin; refine wpList_append_slc tyByte Ge.o Gd.o (by intro u hu; simp at hu; rcases hu with rfl | rfl <;> rfl) (by simp only [maxLen]; omega) (by omega) (by have := Gb.o.size; simp; omega) rfl _ _ rfl rfl rfl ?_; intro v' w' hown hk2 _ hbk; have Gc := qI hown; have Gf := qI hk2; clear hown hk2 hbk)
      case roundEnd =>
       obtain ⟨a', c', rfl, h9⟩ := Gw.o _ _ Gc.o
       refine ⟨⟨k + 1, a', c', _, by go_num, by omega, Gq.o.symm, rfl, h9, ?_⟩, by simp [intOf]; omega⟩
       exact ((Gb.o.alloc _).trans Gf.o (fun i hi => .inr (Gt.o i (Option.mem_toList.1 hi)).1))
    ·have HQ : Hid (quoteB x = [x]) := qI (by unfold quoteB; rw [if_neg h32, if_neg hc])
     have hg1 : ((x.toNat : Int) == 34) = false := (int_ne (fun e => hc (.inl (UInt8.toNat_inj.1 (show x.toNat = 34 by omega))))).1
     have hg2 : ((x.toNat : Int) == 92) = false := (int_ne (fun e => hc (.inr (UInt8.toNat_inj.1 (show x.toNat = 92 by omega))))).1
     have Gd := qI (slc_new wr [bv x] 1 1 5 wr.heap.size rfl rfl (by decide))
     have Ge := qI (row_kept HR.o ((Kept.refl [] wr).alloc (.cells #[bv x] 5)) (by simp))
     have Gw : Hid (∀ (v' : Value) (w' : World), w'.ownsRow w.heap.size 5 1 v' (L.length + 1) (L.map bv ++ [bv x]) → ∃ a' c', v' = .slice a' (L ++ quoteB x).length c' ∧ w'.ownsRow w.heap.size 5 1 (.slice a' (L ++ quoteB x).length c') (L ++ quoteB x).length ((L ++ quoteB x).map bv)) := qI (by
      intro v' w' h
      obtain ⟨a', c', rfl, -, -⟩ := (Slc.of_row h).form
      rw [HQ.o]
      exact ⟨a', c', by simp, by simpa [bv] using h⟩)
     clear hc h32
     unfold bv at Gd Ge
     go_wp2_with (at_builtin; refine wpList_append_slc tyByte Ge.o Gd.o (by intro u hu; simp at hu; rcases hu with rfl | rfl <;> rfl) (by simp only [maxLen]; omega) (by omega) (by have := Gb.o.size; simp; omega) rfl _ _ rfl rfl rfl ?_; intro v' w' hown hk2 _ hbk; have Gc := qI hown; have Gf := qI hk2; clear hown hk2 hbk)
     case roundEnd =>
      obtain ⟨a', c', rfl, h9⟩ := Gw.o _ _ Gc.o
      refine ⟨⟨k + 1, a', c', _, by go_num, by omega, Gq.o.symm, rfl, h9, ?_⟩, by simp [intOf]; omega⟩
      exact ((Gb.o.alloc _).trans Gf.o (fun i hi => .inr (Gt.o i (Option.mem_toList.1 hi)).1))
  ·obtain rfl : k = s.size := by omega
   have HE : Hid (L ++ [34] = quoteL s.data.toList) := qI (by rw [Jc.o, List.take_of_length_le (by rw [HL.o]; exact Nat.le_refl _)]; rfl)
   have Gd := qI (slc_new wr [.int .u8 34] 1 1 5 wr.heap.size rfl rfl (by decide))
   have Ge := qI (row_kept HR.o ((Kept.refl [] wr).alloc (.cells #[.int .u8 34] 5)) (by simp))
   have Jj : Hid (∀ (v' : Value) (w' : World), w'.ownsRow w.heap.size 5 1 v' (L.length + 1) (L.map bv ++ [.int .u8 34]) → (convert 82 9 v').run Tryz.prog w' = .ok (.string (strB (quoteL s.data.toList))) w') := qI (by
    intro v' w' h
    rw [← HE.o]
    refine Bytes.toStr ?_
    have h2 := Slc.of_row h
    unfold Bytes
    simpa [bv] using h2)
   go_wp2_with (at_builtin; refine wpList_append_slc tyByte Ge.o Gd.o (by intro u hu; simp at hu; subst hu; rfl) (by simp only [maxLen]; omega) (by omega) (by have := Gb.o.size; simp; omega) rfl _ _ rfl rfl rfl ?_; intro v' w' hown hk2 _ hbk; have Gf := qI hk2; have hcv := Jj.o _ _ hown; clear hown hk2 hbk)
   go_ret
   exact ⟨rfl, (Gb.o.alloc _).trans Gf.o (fun i hi => .inr (Gt.o i (Option.mem_toList.1 hi)).1)⟩
theorem strB_app (a b : List UInt8) : strB (a ++ b) = strB a ++ strB b := by
 apply ByteArray.ext
 simp [strB]
theorem getD_map {α β : Type} (f : α → β) (l : List α) (k : Nat) (h : k < l.length) (d : β) : (l.map f).getD k d = f l[k] := by
 rw [List.getD_eq_getElem?_getD, List.getElem?_map, List.getElem?_eq_getElem h]
 rfl
def refWrite_anyKnown (n : Nat) : Prop := ∀ (v : V n) {S : Nat → Prop} {w : World} {cs : List Value}, Rep n S w cs v → Small n v → rightV n v = true →
    Calls Tryz.prog 64 #[.agg cs.toArray] w fun e w' => e = .returned (.string (strB (writeV n v))) ∧ Kept [] w w'
theorem refWrite_any_step {n : Nat} (known : refWrite_anyKnown n) : refWrite_anyKnown (n + 1) := fun (v : VS (V n)) {S} {w} {cs} h hs hr0 => by
  have Gv := qI hs
  have Jd := qI hr0
  obtain ⟨vl, vm, lcs, mcs, h⟩ := h
  obtain ⟨a, c, b, e, rfl, rfl, rfl⟩ := h.forms
  have H := qI h
  have IH := qI known
  have hlv : v.l.length ≤ 20000 := by have := hs.few; omega
  have hmv : v.m.length ≤ 20000 := by have := hs.few; omega
  have Je := qI (write_small hr0 hs)
  obtain ⟨W0, Ga⟩ : ∃ W0, Hid (W0 = w.alloc (.cells #[.int .i64 v.kind, .int .i64 v.num, .string v.s, .slice a v.l.length c, .slice b v.m.length e] 28)) := ⟨_, qI rfl⟩
  have Gh : Hid (Kept [] w W0) := qI (by rw [Ga.o]; exact (Kept.refl [] w).alloc _)
  have hown := own_cases (right_own hr0)
  have Gk : Hid (∀ k : Int, v.kind = k → BoxAt W0 w.heap.size k v.num v.s (.slice a v.l.length c) (.slice b v.m.length e)) := qI (fun k hk => by rw [Ga.o, ← hk]; exact box_at _ _ _ _ _ _ _)
  clear h hs hr0
  rcases hown with g | g | g | g | g | g
  ·have HE := qI (write_1 g.1)
   rw [g.1] at Ga ⊢
   clear g Gk
   obtain ⟨c0, c1, c2, c3, c4⟩ := box_at w 1 v.num v.s (.slice a v.l.length c) (.slice b v.m.length e) 28
   go_enter Tryz.func64, Tryz.ntmps64
   go_wp2_with fail
   go_ret
   rw [HE.o, ← Ga.o]
   exact ⟨rfl, Gh.o⟩
  ·have HE := qI (write_2 g.1)
   have hn := g.2.1
   rw [g.1] at Ga ⊢
   clear g Gk
   obtain ⟨c0, c1, c2, c3, c4⟩ := box_at w 2 v.num v.s (.slice a v.l.length c) (.slice b v.m.length e) 28
   rcases hn with hn | hn
   ·rw [hn] at Ga HE c1 ⊢
    clear hn
    go_enter Tryz.func64, Tryz.ntmps64
    go_wp2_with fail
    go_ret
    rw [HE.o, ← Ga.o]
    exact ⟨rfl, Gh.o⟩
   ·rw [hn] at Ga HE c1 ⊢
    clear hn
    go_enter Tryz.func64, Tryz.ntmps64
    go_wp2_with fail
    go_ret
    rw [HE.o, ← Ga.o]
    exact ⟨rfl, Gh.o⟩
  ·have HE := qI (write_3 g.1)
   have CD := qI (refDigits_str v.num (by omega) (by omega) W0)
   rw [g.1] at Ga ⊢
   clear g Gk
   obtain ⟨c0, c1, c2, c3, c4⟩ := box_at w 3 v.num v.s (.slice a v.l.length c) (.slice b v.m.length e) 28
   go_enter Tryz.func64, Tryz.ntmps64
   go_wp2_with fail
   rw [← Ga.o]
   refine CD.o.mono ?_
   rintro e w1 ⟨rfl, rfl⟩
   go_wp2_with fail
   go_ret
   rw [HE.o]
   exact ⟨rfl, Gh.o⟩
  ·have HE := qI (write_4 g.1)
   have hsz : v.s.size ≤ 1000000 := by
    have h1 := Gv.o.2
    have h2 : v.s.size ≤ bytesV (n + 1) v := Nat.le_trans (Nat.le_add_right _ _) (Nat.le_add_right _ _)
    omega
   have CD := qI (refQuote_any v.s hsz W0)
   rw [g.1] at Ga ⊢
   clear g Gk hsz
   obtain ⟨c0, c1, c2, c3, c4⟩ := box_at w 4 v.num v.s (.slice a v.l.length c) (.slice b v.m.length e) 28
   go_enter Tryz.func64, Tryz.ntmps64
   go_wp2_with fail
   rw [← Ga.o]
   refine CD.o.mono ?_
   rintro e w1 ⟨rfl, hk1⟩
   go_wp2_with fail
   go_ret
   rw [HE.o]
   exact ⟨rfl, Gh.o.then hk1⟩
  ·have HE := qI (write_5 g.1)
   have HL : Hid ((preC (fun k => (v.l.map (writeV n)).getD k []) v.l.length).length ≤ 3000000) := qI (by have h1 := Je.o; rw [HE.o, List.length_cons, List.length_append] at h1; omega)
   have Gm := qI (Gk.o 5 g.1)
   rw [g.1] at Ga ⊢
   clear g Gk
   obtain ⟨c0, c1, c2, c3, c4⟩ := box_at w 5 v.num v.s (.slice a v.l.length c) (.slice b v.m.length e) 28
   go_enter Tryz.func64, Tryz.ntmps64
   go_wp2_with fail
   rw [← Ga.o]
   clear c0 c1 c2 c3 c4
   generalize hit : (fun k => (v.l.map (writeV n)).getD k []) = it at HE HL
   have Gx : Hid (∀ (k : Nat) (h : k < v.l.length), it k = writeV n v.l[k]) := qI (fun k h => by rw [← hit]; exact getD_map _ _ _ h _)
   clear hit
   go_loopw [3, 4] (fun q i wr => ∃ k : Nat, i = .int .i64 k ∧ k ≤ v.l.length ∧ q = .string (strB (91 :: preC it k)) ∧ Kept [] W0 wr) (fun _ i _ => v.l.length - (intOf i).toNat)
   case atStart => exact ⟨0, rfl, Nat.zero_le _, rfl, Kept.refl _ _⟩
   case round =>
    obtain ⟨k, rfl, hk, rfl, hkw⟩ := hrel
    have Gb := qI hkw
    obtain ⟨d0, d1, d2, d3, d4⟩ := Gm.o.kept0 hkw
    have hle := preC_le it hk
    have Gg : Hid ((strB (91 :: preC it k)).size ≤ 3000001) := qI (by rw [strB_size, List.length_cons]; have := HL.o; omega)
    clear hkw hle
    by_cases hlt : k < v.l.length
    ·have hltI : (k : Int) < v.l.length := by omega
     obtain ⟨g, o, cap, kd, nm, st, a1, b1, he, q0, q1, q2, q3, q4, hr⟩ := H.o.at_l (Gh.o.then Gb.o) k hlt
     simp only [Value.slice.injEq] at he
     obtain ⟨rfl, -, rfl⟩ := he
     obtain ⟨p1, i1, d1', p2, i2, d2', rfl, rfl⟩ := hr.sl
     have CW := qI (IH.o v.l[k] hr (Gv.o.kid (mem_l (List.getElem_mem hlt))) (right_kid Jd.o (mem_l (List.getElem_mem hlt))))
     rw [← Gx.o k hlt] at CW
     have hst := preC_len it k
     have hle2 := preC_le it (show k + 1 ≤ v.l.length from hlt)
     have Gl : Hid ((strB (it k)).size ≤ 3000001) := qI (by rw [strB_size]; have := HL.o; omega)
     have Gi : Hid (strB (91 :: preC it (k + 1)) = if k = 0 then strB (91 :: preC it k) ++ strB (it k) else strB (91 :: preC it k) ++ ⟨#[44]⟩ ++ strB (it k)) := qI (by
      by_cases h0 : k = 0
      ·rw [if_pos h0, h0, preC_one, preC_zero, ← strB_app]; rfl
      ·rw [if_neg h0, preC_succ it (by omega), show (⟨#[44]⟩ : ByteArray) = strB [44] from rfl, ← strB_app, ← strB_app]; simp)
     clear hr hst hle2
     revert Gg Gl Gi CW
     generalize strB (91 :: preC it k) = T
     generalize strB (it k) = U
     intro Gg CW Gl Gi
     have hsT := Gg.o
     have hsU := Gl.o
     have hz1 : ¬ 9223372036854775807 < T.size + 1 := by omega
     have hz2 : ¬ 9223372036854775807 < T.size + 1 + U.size := by omega
     have hz3 : ¬ 9223372036854775807 < T.size + U.size := by omega
     clear hsT hsU
     by_cases h0 : k = 0
     ·have hst := Gi.o
      rw [if_pos h0] at hst
      have Gj := qI hst
      have h0I : decide (0 < k) = false := decide_eq_false (by omega)
      clear h0 hst
      go_wp2_with (go_at_call 64; refine CW.o.mono ?_; rintro e w2 ⟨rfl, hk2⟩; have Gf := qI hk2; clear hk2)
      case roundEnd => exact ⟨⟨k + 1, by go_num, by omega, by rw [Gj.o], Gb.o.then Gf.o⟩, by simp [intOf]; omega⟩
     ·have hst := Gi.o
      rw [if_neg h0] at hst
      have Gj := qI hst
      have h0I : decide (0 < k) = true := decide_eq_true (by omega)
      clear h0 hst
      go_wp2_with (go_at_call 64; refine CW.o.mono ?_; rintro e w2 ⟨rfl, hk2⟩; have Gf := qI hk2; clear hk2)
      case roundEnd => exact ⟨⟨k + 1, by go_num, by omega, by rw [Gj.o], Gb.o.then Gf.o⟩, by simp [intOf]; omega⟩
    ·obtain rfl : k = v.l.length := by omega
     have Gn : Hid (strB (writeV (n + 1) v) = strB (91 :: preC it v.l.length) ++ ⟨#[93]⟩) := qI (by rw [HE.o, show (⟨#[93]⟩ : ByteArray) = strB [93] from rfl, ← strB_app]; rfl)
     revert Gg Gn
     generalize strB (91 :: preC it v.l.length) = T
     intro Gg Gn
     have hsT := Gg.o
     have hz1 : ¬ 9223372036854775807 < T.size + 1 := by omega
     clear hsT
     go_wp2_with fail
     go_ret
     rw [Gn.o]
     exact ⟨rfl, Gh.o.then Gb.o⟩
  ·have HE := qI (write_6 g.1)
   have HL : Hid ((preC (fun k => (v.m.map (fun p => quoteL p.1.data.toList ++ (58 :: writeV n p.2))).getD k []) v.m.length).length ≤ 3000000) := qI (by have h1 := Je.o; rw [HE.o, List.length_cons, List.length_append] at h1; omega)
   have Gm := qI (Gk.o 6 g.1)
   rw [g.1] at Ga ⊢
   clear g Gk
   obtain ⟨c0, c1, c2, c3, c4⟩ := box_at w 6 v.num v.s (.slice a v.l.length c) (.slice b v.m.length e) 28
   go_enter Tryz.func64, Tryz.ntmps64
   go_wp2_with fail
   rw [← Ga.o]
   clear c0 c1 c2 c3 c4
   generalize hit : (fun k => (v.m.map (fun p => quoteL p.1.data.toList ++ (58 :: writeV n p.2))).getD k []) = it at HE HL
   have Gx : Hid (∀ (k : Nat) (h : k < v.m.length), it k = quoteL v.m[k].1.data.toList ++ (58 :: writeV n v.m[k].2)) := qI (fun k h => by rw [← hit]; exact getD_map _ _ _ h _)
   clear hit
   go_loopw [5, 6] (fun q i wr => ∃ k : Nat, i = .int .i64 k ∧ k ≤ v.m.length ∧ q = .string (strB (123 :: preC it k)) ∧ Kept [] W0 wr) (fun _ i _ => v.m.length - (intOf i).toNat)
   case atStart => exact ⟨0, rfl, Nat.zero_le _, rfl, Kept.refl _ _⟩
   case round =>
    obtain ⟨k, rfl, hk, rfl, hkw⟩ := hrel
    have Gb := qI hkw
    obtain ⟨d0, d1, d2, d3, d4⟩ := Gm.o.kept0 hkw
    have hle := preC_le it hk
    have Gg : Hid ((strB (123 :: preC it k)).size ≤ 3000001) := qI (by rw [strB_size, List.length_cons]; have := HL.o; omega)
    clear hkw hle
    by_cases hlt : k < v.m.length
    ·have hltI : (k : Int) < v.m.length := by omega
     obtain ⟨g, o, cap, kd, nm, st, a1, b1, he, q0, q1, q2, q3, q4, q5, hr⟩ := H.o.at_m (Gh.o.then Gb.o) k hlt
     simp only [Value.slice.injEq] at he
     obtain ⟨rfl, -, rfl⟩ := he
     obtain ⟨p1, i1, d1', p2, i2, d2', rfl, rfl⟩ := hr.sl
     have CW : Hid (∀ z : Ext wr, _) := qI (fun z : Ext wr => IH.o v.m[k].2 (hr.kept0 z.k) (Gv.o.kid (mem_m (List.getElem_mem hlt))) (right_kid Jd.o (mem_m (List.getElem_mem hlt))))
     have hkS : v.m[k].1.size ≤ 1000000 := by have h1 := Gv.o.2; have h2 := key_le (List.getElem_mem hlt); omega
     have CQ : Hid (∀ z : Ext wr, _) := qI (fun z : Ext wr => refQuote_any v.m[k].1 hkS z.w)
     have hst := preC_len it k
     have hle2 := preC_le it (show k + 1 ≤ v.m.length from hlt)
     have hitk := Gx.o k hlt
     have hitl : (it k).length ≤ 3000001 := by have := HL.o; omega
     rw [hitk, List.length_append, List.length_cons] at hitl
     have Gr : Hid ((strB (quoteL v.m[k].1.data.toList)).size ≤ 3000001) := qI (by rw [strB_size]; omega)
     have Gl : Hid ((strB (writeV n v.m[k].2)).size ≤ 3000001) := qI (by rw [strB_size]; omega)
     have Gi : Hid (strB (123 :: preC it (k + 1)) = (if k = 0 then strB (123 :: preC it k) else strB (123 :: preC it k) ++ ⟨#[44]⟩) ++ strB (quoteL v.m[k].1.data.toList) ++ ⟨#[58]⟩ ++ strB (writeV n v.m[k].2)) := qI (by
      rw [show (⟨#[58]⟩ : ByteArray) = strB [58] from rfl]
      by_cases h0 : k = 0
      ·have e0 : preC it (k + 1) = it k := by rw [h0]; exact preC_one it
       have e1 : preC it k = [] := by rw [h0]; exact preC_zero it
       rw [if_pos h0, e0, e1, ← strB_app, ← strB_app, ← strB_app, hitk]
       simp
      ·rw [if_neg h0, preC_succ it (by omega), show (⟨#[44]⟩ : ByteArray) = strB [44] from rfl, ← strB_app, ← strB_app, ← strB_app, ← strB_app, hitk]
       simp)
     clear hr hst hle2 hitk hitl hkS
     generalize hky : v.m[k].1 = key at q0 Gr Gi CQ
     clear hky
     revert Gg CW Gl Gi Gr CQ
     generalize strB (123 :: preC it k) = T
     generalize strB (writeV n v.m[k].2) = U
     generalize strB (quoteL key.data.toList) = Q
     intro Gg CW Gl Gr Gi CQ
     by_cases h0 : k = 0
     ·have hst := Gi.o
      rw [if_pos h0] at hst
      have Gs := qI hst
      have h0I : decide (0 < k) = false := decide_eq_false (by omega)
      clear h0 hst Gi
      go_wp2_with fail
      have Gj : Hid (T.size ≤ 3000002) := qI (by have := Gg.o; omega)
      obtain ⟨T2, rfl⟩ : ∃ T2, T2 = T := ⟨_, rfl⟩
      have hs2 := Gj.o
      have hq0 := Gr.o
      have hu0 := Gl.o
      have hz2 : ¬ 9223372036854775807 < T2.size + Q.size := by omega
      have hz3 : ¬ 9223372036854775807 < T2.size + Q.size + 1 := by omega
      have hz4 : ¬ 9223372036854775807 < T2.size + Q.size + 1 + U.size := by omega
      have e4 := ext_cell d4
      have r0 := ext_cell q0
      have r1 := ext_cell q1
      have r2 := ext_cell q2
      have r3 := ext_cell q3
      have r4 := ext_cell q4
      have r5 := ext_cell q5
      refine wp_region_ext wr (by kernel_rfl) (by kernel_rfl) (Kept.refl _ _) ?_
      clear hs2 hq0 hu0 d0 d1 d2 d3 d4 q0 q1 q2 q3 q4 q5
      repeat go_big_quiet_step (first | (go_at_call 107; exact ext_of (CQ.o _)) | (go_at_call 64; exact ext_of (CW.o _)))
      refine wpQuiet_nil ?_
      intro w2 hk2
      have Gf := qI hk2
      clear hk2 e4 r0 r1 r2 r3 r4 r5 hz2 hz3 hz4
      go_wp2_with fail
      case roundEnd => exact ⟨⟨k + 1, by go_num, by omega, by rw [Gs.o], Gb.o.then Gf.o⟩, by simp [intOf]; omega⟩
     ·have hst := Gi.o
      rw [if_neg h0] at hst
      have Gs := qI hst
      have h0I : decide (0 < k) = true := decide_eq_true (by omega)
      have hsz := Gg.o
      have hz1 : ¬ 9223372036854775807 < T.size + 1 := by omega
      clear h0 hst Gi hsz
      go_wp2_with fail
      have Gj : Hid ((T ++ ⟨#[44]⟩).size ≤ 3000002) := qI (by rw [ByteArray.size_append, show (⟨#[44]⟩ : ByteArray).size = 1 from rfl]; have := Gg.o; omega)
      clear hz1
      revert Gs Gj
      generalize T ++ (⟨#[44]⟩ : ByteArray) = T2
      intro Gs Gj
      have hs2 := Gj.o
      have hq0 := Gr.o
      have hu0 := Gl.o
      have hz2 : ¬ 9223372036854775807 < T2.size + Q.size := by omega
      have hz3 : ¬ 9223372036854775807 < T2.size + Q.size + 1 := by omega
      have hz4 : ¬ 9223372036854775807 < T2.size + Q.size + 1 + U.size := by omega
      have e4 := ext_cell d4
      have r0 := ext_cell q0
      have r1 := ext_cell q1
      have r2 := ext_cell q2
      have r3 := ext_cell q3
      have r4 := ext_cell q4
      have r5 := ext_cell q5
      refine wp_region_ext wr (by kernel_rfl) (by kernel_rfl) (Kept.refl _ _) ?_
      clear hs2 hq0 hu0 d0 d1 d2 d3 d4 q0 q1 q2 q3 q4 q5
      repeat go_big_quiet_step (first | (go_at_call 107; exact ext_of (CQ.o _)) | (go_at_call 64; exact ext_of (CW.o _)))
      refine wpQuiet_nil ?_
      intro w2 hk2
      have Gf := qI hk2
      clear hk2 e4 r0 r1 r2 r3 r4 r5 hz2 hz3 hz4
      go_wp2_with fail
      case roundEnd => exact ⟨⟨k + 1, by go_num, by omega, by rw [Gs.o], Gb.o.then Gf.o⟩, by simp [intOf]; omega⟩
    ·obtain rfl : k = v.m.length := by omega
     have Gn : Hid (strB (writeV (n + 1) v) = strB (123 :: preC it v.m.length) ++ ⟨#[125]⟩) := qI (by rw [HE.o, show (⟨#[125]⟩ : ByteArray) = strB [125] from rfl, ← strB_app]; rfl)
     revert Gg Gn
     generalize strB (123 :: preC it v.m.length) = T
     intro Gg Gn
     have hsT := Gg.o
     have hz1 : ¬ 9223372036854775807 < T.size + 1 := by omega
     clear hsT
     go_wp2_with fail
     go_ret
     rw [Gn.o]
     exact ⟨rfl, Gh.o.then Gb.o⟩
theorem refWrite_any_known : ∀ (n : Nat), refWrite_anyKnown n
 | 0 => fun v {_} {_} {_} h _ _ => h.elim
 | n + 1 => refWrite_any_step (refWrite_any_known n)
theorem refWrite_any : ∀ (n : Nat) (v : V n) {S : Nat → Prop} {w : World} {cs : List Value}, Rep n S w cs v → Small n v → rightV n v = true →
  Calls Tryz.prog 64 #[.agg cs.toArray] w fun e w' => e = .returned (.string (strB (writeV n v))) ∧ Kept [] w w' := fun n => refWrite_any_known n
theorem keyR_right (k : KeyS) (h : mayKey k = true) : rightV 3 (keyR k) = true ∧ checkV 3 (keyR k) = 0 := by
 have hv := (checkV_zero.1 (key_check k h)).2.2
 have e : rightV 3 (keyV k) = (ownRight (keyV k : VS (V 2)) && (keyV k : VS (V 2)).kids.all (rightV 2)) := rfl
 rw [e, Bool.and_eq_true, List.all_eq_true] at hv
 have hval : rightV 2 (valV k) = true := hv.2 (valV k) (List.Mem.tail _ (List.Mem.tail _ (List.Mem.head _)))
 obtain ⟨-, -, -, l4, l5, l6, l7, l8⟩ := lits_ok
 have hr : rightV 3 (keyR k) = true := by
  refine right_map (n := 2) _ (by simp [l4, l5, l6]) (by simp only [List.map_cons, List.map_nil]; decide) ?_
  intro p hp
  simp only [List.mem_cons, List.not_mem_nil, or_false] at hp
  rcases hp with rfl | rfl | rfl
  ·exact right_text (n := 1) _ l7
  ·exact hval
  ·exact right_text (n := 1) _ l8
 exact ⟨hr, checkV_zero.2 ⟨Nat.le_trans (depth_le 3 _) (by decide), by show (7 : Nat) ≤ 4096; omega, hr⟩⟩
theorem keyR_small (k : KeyS) (h : k.root.length = 32) : Small 3 (keyR k) := by
 have e := (small_val k h).2
 have e2 : bytesV 3 (keyR k) = 0 + (7 + (6 + (6 + 0))) + ((14 + 0 + 0) + (bytesV 2 (valV k) + ((6 + 0 + 0) + 0))) := rfl
 have e3 : bytesV 2 (valV k) = 0 + (4 + (6 + (6 + 0))) + ((0 + 0 + 0) + ((0 + 0 + 0) + (((hexS k.root).size + 0 + 0) + 0))) := rfl
 have e4 := hexS_size k.root
 exact ⟨by show (7 : Nat) ≤ 20000; omega, by rw [e2, e3, e4, h]; omega⟩
theorem keyR_sort (k : KeyS) : sortV 3 (keyR k) = sortV 3 (keyV k) := by
 have hn : ((((keyR k : VS (V 2)).m.map (fun p => (p.1, sortV 2 p.2))).mergeSort leK).map (fun p => p.1)).Nodup := by
  refine ((List.mergeSort_perm ((keyR k : VS (V 2)).m.map (fun p => (p.1, sortV 2 p.2))) leK).map (fun p : ByteArray × V 2 => p.1)).nodup_iff.2 ?_
  show ([⟨#[107, 101, 121, 116, 121, 112, 101]⟩, ⟨#[107, 101, 121, 118, 97, 108]⟩, ⟨#[115, 99, 104, 101, 109, 101]⟩] : List ByteArray).Nodup
  decide
 have hp : (((keyR k : VS (V 2)).m.map (fun p => (p.1, sortV 2 p.2))).mergeSort leK).Perm (((keyV k : VS (V 2)).m.map (fun p => (p.1, sortV 2 p.2))).mergeSort leK) := by
  refine ((List.mergeSort_perm _ _).trans ?_).trans (List.mergeSort_perm _ _).symm
  refine List.Perm.map _ ?_
  exact List.Perm.cons _ (List.Perm.swap _ _ _)
 have he := sorted_unique hp (List.pairwise_mergeSort leK_trans leK_total _) (List.pairwise_mergeSort leK_trans leK_total _) hn
 show (⟨6, 0, ⟨#[]⟩, [], _⟩ : VS (V 2)) = ⟨6, 0, ⟨#[]⟩, [], _⟩
 exact congrArg (fun m => (⟨6, 0, ⟨#[]⟩, [], m⟩ : VS (V 2))) he
theorem keyR_same (k : KeyS) (h : mayKey k = true) : sameV 3 (keyV k) (keyR k) = true := by
 unfold sameV
 rw [decide_eq_true (key_check k h), decide_eq_true (keyR_right k h).2, keyR_sort, (eqV_iff 3 _ _).2 rfl]
 rfl
theorem keyR_enc (k : KeyS) (hr : k.root.length = 32) (h : mayKey k = true) : writeV 3 (sortV 3 (keyR k)) = (encV 3 (keyV k)).1 ∧ (writeV 3 (sortV 3 (keyR k))).length ≤ 262144 := by
 have hc := key_check k h
 have hl := (key_enc k hr h)
 rw [keyR_sort]
 by_cases q : (writeV 3 (sortV 3 (keyV k))).length ≤ 262144
 ·rw [encV_fine hc q]; exact ⟨rfl, q⟩
 ·exfalso
  rw [encV_long hc (by omega)] at hl
  cases hl.1
theorem small_sorted {n : Nat} {v : V n} (h : Small n v) : Small n (sortV n v) := ⟨by rw [count_sort]; exact h.1, by rw [bytes_sort]; exact h.2⟩
theorem refKeyId_any (k : KeyS) (hb : wf64I k.bits) (hr : k.root.length = 32) (w : World) : Calls Tryz.prog 15 #[.agg (keyA k)] w fun e w' => e = .returned (.string (keyIdS k)) ∧ Kept [] w w' := by
 obtain ⟨W0, Ga⟩ : ∃ W0, Hid (W0 = w.alloc (.cells (keyA k) 24)) := ⟨_, qI rfl⟩
 have Gh : Hid (Kept [] w W0) := qI (by rw [Ga.o]; exact (Kept.refl _ w).alloc _)
 have HA : Hid (KeyAt W0 w.heap.size k) := qI (by rw [Ga.o]; exact block_alloc rfl)
 have Gp := qI hr
 have CM := qI (refMayKey_any k hb W0)
 have CV := qI (refKeyValue_any k hb hr)
 have Gy : Hid (keyIdS k = if mayKey k = true then hexS (shaL (encV 3 (keyV k)).1) else ⟨#[]⟩) := qI rfl
 clear hb hr
 by_cases hm : mayKey k = true
 rotate_left
 ·have Gz : Hid (keyIdS k = ⟨#[]⟩) := qI (by rw [Gy.o, if_neg hm])
  have hm2 : mayKey k = false := by simpa using hm
  rw [hm2] at CM
  clear hm hm2
  go_enter Tryz.func15, Tryz.ntmps15
  go_upto_region 1 with fail
  rw [← Ga.o]
  go_wp2_with first
   | (refine wpList_load34 (by rfl) (.tmp 1) (by rfl) HA.o Gp.o (by rfl) ?_)
   | (go_at_call 51; refine CM.o.mono ?_; rintro e w1 ⟨rfl, hk1⟩; have Ja := qI hk1; clear hk1)
  go_ret
  exact ⟨by rw [Gz.o]; rfl, Gh.o.then Ja.o⟩
 obtain ⟨X, HX⟩ : ∃ X, Hid (X = writeV 3 (sortV 3 (keyR k))) := ⟨_, qI rfl⟩
 have Gz : Hid (keyIdS k = hexS (shaL X)) := qI (by rw [Gy.o, if_pos hm, HX.o, (keyR_enc k Gp.o hm).1])
 have Jf : Hid (X.length ≤ 262144) := qI (by rw [HX.o]; exact (keyR_enc k Gp.o hm).2)
 have CV2 : Hid (∀ w1, Calls Tryz.prog 12 #[.agg (keyA k)] w1 fun e w' => (∃ k3 m3 s3 p3 i3 c3 q3 j3 e3, e = .returned (.agg #[.int .i64 k3, .int .i64 m3, .string s3, .slice p3 i3 c3, .slice q3 j3 e3]) ∧ Rep 3 (fun _ => True) w' [.int .i64 k3, .int .i64 m3, .string s3, .slice p3 i3 c3, .slice q3 j3 e3] (keyR k)) ∧ Kept [] w1 w') := qI (fun w1 => by
  refine (CV.o w1).mono ?_
  rintro e w' ⟨h9, hk9⟩
  unfold KeyAnsR at h9
  rw [if_pos hm] at h9
  obtain ⟨cs, rfl, h8⟩ := h9
  obtain ⟨k3, m3, s3, p3, i3, c3, q3, j3, e3, rfl⟩ := h8.conv
  exact ⟨⟨k3, m3, s3, p3, i3, c3, q3, j3, e3, rfl, h8.mono (fun _ _ _ => trivial)⟩, hk9⟩)
 have CSO : Hid (∀ (w1 : World) (cs : List Value), Rep 3 (fun _ => True) w1 cs (keyR k) → Calls Tryz.prog 53 #[.agg cs.toArray] w1 fun e w' => (∃ k3 m3 s3 p3 i3 c3 q3 j3 e3, e = .returned (.agg #[.int .i64 k3, .int .i64 m3, .string s3, .slice p3 i3 c3, .slice q3 j3 e3]) ∧ Rep 3 (fun _ => True) w' [.int .i64 k3, .int .i64 m3, .string s3, .slice p3 i3 c3, .slice q3 j3 e3] (sortV 3 (keyR k))) ∧ Kept [] w1 w') := qI (fun w1 cs hc => by
  refine (refSort_any 3 (keyR k) hc (keyR_small k Gp.o) (keyR_right k hm).1).mono ?_
  rintro e w' ⟨⟨cs', rfl, h8⟩, hk9⟩
  have h8 := h8.rep
  obtain ⟨k3, m3, s3, p3, i3, c3, q3, j3, e3, rfl⟩ := h8.conv
  exact ⟨⟨k3, m3, s3, p3, i3, c3, q3, j3, e3, rfl, h8.mono (fun _ _ _ => trivial)⟩, hk9⟩)
 have CWR : Hid (∀ (w1 : World) (cs : List Value), Rep 3 (fun _ => True) w1 cs (sortV 3 (keyR k)) → Calls Tryz.prog 64 #[.agg cs.toArray] w1 fun e w' => e = .returned (.string (strB X)) ∧ Kept [] w1 w') := qI (fun w1 cs hc => by
  rw [HX.o]
  exact refWrite_any 3 (sortV 3 (keyR k)) hc (small_sorted (keyR_small k Gp.o)) (by rw [right_sort]; exact (keyR_right k hm).1))
 rw [hm] at CM
 clear hm CV Gy
 go_enter Tryz.func15, Tryz.ntmps15
 go_upto_region 1 with fail
 rw [← Ga.o]
 go_upto_region 3 with first
  | (refine wpList_load34 (by rfl) (.tmp 1) (by rfl) HA.o Gp.o (by rfl) ?_)
  | (go_at_call 51; refine CM.o.mono ?_; rintro e w1 ⟨rfl, hk1⟩; have Ja := qI hk1; have Jk := qI (KeyAt.kept0 HA.o hk1); clear hk1)
 go_upto_region 4 with first
  | (refine wpList_load34 (by rfl) (.tmp 1) (by rfl) Jk.o Gp.o (by rfl) ?_)
  | (go_at_call 12; refine (CV2.o _).mono ?_; rintro e w2 ⟨⟨k3, m3, s3, p3, i3, c3, q3, j3, e3, rfl, h3⟩, hk2⟩; have H3 := qI h3; have Gf := qI (Ja.o.then hk2); clear hk2 h3)
  | (go_at_call 53; refine (CSO.o _ _ H3.o).mono ?_; rintro e w3 ⟨⟨k4, m4, s4, p4, i4, c4, q4, j4, e4, rfl, h4⟩, hk3⟩; have H4 := qI h4; have Jl := qI (Gf.o.then hk3); clear hk3 h4)
  | (go_at_call 64; refine (CWR.o _ _ H4.o).mono ?_; rintro e w4 ⟨rfl, hk4⟩; have Jm := qI (Jl.o.then hk4); clear hk4; obtain ⟨ba, bn, bc, w5, hcv, hbn, hb5, hk5⟩ := str_bytes w4 (strB X) (by rw [strB_size]; have := Jf.o; omega); rw [strB_list] at hbn hb5; subst hbn; have Jr := qI hb5; have Jn := qI (Jm.o.then hk5); have CO := qI (refSha_any w5 ba bc X hb5 (by have := Jf.o; omega)); clear hk5 hb5)
  | (go_at_call 63; refine CO.o.mono ?_; rintro e w6 ⟨rfl, hk6⟩; have Jo := qI (Jn.o.then hk6); clear hk6)
  | (refine wpList_store32 (by rfl) (.tmp 3) (.tmp 12) (by rfl) (g := w6.heap.size) (l := shaL X) (l0 := outK startS 0) (block_alloc rfl) (outK_len _ _) (shaL_len X) (by rfl) (by rfl) ?_; intro w7 h7 hk7; have Jg := qI h7; have Jb : Hid (Kept [] w6 w7) := qI (((Kept.refl [] w6).alloc _).trans hk7 (by intro i hi; simp at hi; subst hi; exact .inr (Nat.le_refl _))); clear h7 hk7; simp only [Act.put])
 have Jp : Hid (Calls Tryz.prog 57 #[.slice (some ⟨w6.heap.size, 0, none⟩) 32 32] w7 fun e w' => e = .returned (.string (hexS (shaL X))) ∧ Kept [] w7 w') := qI (by
  have hb : Bytes w7 (.slice (some ⟨w6.heap.size, 0, none⟩) (shaL X).length 32) (shaL X) := ⟨by simp, .inr (.inr ⟨w6.heap.size, 0, 32, rfl, by rw [shaL_len]; omega, by decide, ⟨Jg.o.range, Jg.o.lt⟩⟩)⟩
  have h9 := refHexes_any hb (by rw [shaL_len]; decide)
  rw [shaL_len] at h9
  exact h9)
 go_wp2_with (go_at_call 57; refine Jp.o.mono ?_; rintro e w8 ⟨rfl, hk8⟩; have Jq := qI hk8; clear hk8)
 go_ret
 exact ⟨by rw [Gz.o]; rfl, ((Gh.o.then Jo.o).then Jb.o).then Jq.o⟩
section
variable {P : Program} (w : World)
theorem eqItems_self (d : Nat) {e : TypeId} {q : IntKind} (he : P.plainKey e = true) (hu : P.underlying e = some (.int q)) (c : Nat) (xs : Array Value) : ∀ is : List Nat, (∀ i, i ∈ is → ∃ z, xs[i * c]? = some (.int q z)) → (Op.eqItems (d + 1) e c xs xs is).run P w = .ok true w
 | [], _ => by simp [Op.eqItems]
 | i :: is, h => by
  obtain ⟨z, hz⟩ := h i (List.mem_cons_self ..)
  have h1 := run_part_plain (P := P) w he hz
  have h2 := run_equalIn_int (P := P) w d e q q z z hu
  have h3 := eqItems_self d he hu c xs is (fun j hj => h j (List.mem_cons_of_mem _ hj))
  simp only [Op.eqItems, Sem.run_bind, h1, h2, h3, Result.andThen_ok, beq_self_eq_true, Bool.not_true, Bool.false_eq_true, if_false]
end
theorem wpList_split {P : Program} {ops : Array Oper} {Q : Exit → Act → World → Prop} : ∀ (l1 l2 : List Oper) (a : Act) (w : World), wpList P ops (fun e a w => e = .normal ∧ wpList P ops Q l2 a w) l1 a w → wpList P ops Q (l1 ++ l2) a w
 | [], l2, a, w, h => h.2
 | o :: l1, l2, a, w, h => by
  rw [List.cons_append]
  unfold wpList at h ⊢
  split at h
  ·rename_i hw
   rw [if_pos hw]
   rcases h with h | h
   ·refine .inl ?_
    unfold Oper.wp at *
    generalize (execOp a.eval o).run P w = r at *
    cases r with
    | ok n w' =>
     cases n <;> simp only [Oper.upon] at h ⊢
     case value v => exact wpList_split l1 l2 _ _ h
     case skip => exact wpList_split l1 l2 _ _ h
     case defer d => exact wpList_split l1 l2 _ _ h
     case enter f args =>
      exact Calls.mono h (fun e w'' he => by
       cases e
       all_goals first
        | exact wpList_split l1 l2 _ _ he
        | exact nomatch he.1
        | exact (fun ⟨_, _, h⟩ => nomatch h.1) he)
     case row r args => exact Rows.mono h (fun _ _ he => wpList_split l1 l2 _ _ he)
    | halt x w' => cases x <;> simp only [Oper.upon] at h ⊢ <;> exact nomatch h.1
   ·exact .inr ⟨h.1, (fun ⟨_, _, h⟩ => nomatch h.1) h.2⟩
  ·rename_i hw
   rw [if_neg hw]
   exact wpList_split l1 l2 _ _ h
theorem wpList_at {P : Program} {ops : Array Oper} {Q : Exit → Act → World → Prop} (n : Nat) {l : List Oper} {a : Act} {w : World} (h : wpList P ops (fun e a w => e = .normal ∧ Hid (wpList P ops Q (l.drop n) a w)) (l.take n) a w) : wpList P ops Q l a w := by
 have := wpList_split (l.take n) (l.drop n) a w (by
  have e : (fun e a w => e = Exit.normal ∧ Hid (wpList P ops Q (l.drop n) a w)) = (fun e a w => e = Exit.normal ∧ wpList P ops Q (l.drop n) a w) := by
   funext e a w
   exact propext ⟨fun h => ⟨h.1, h.2.o⟩, fun h => ⟨h.1, qI h.2⟩⟩
  rw [e] at h
  exact h)
 rwa [List.take_append_drop] at this
end Go.Proofs.YtckbnjipecclaaaGreatDoor

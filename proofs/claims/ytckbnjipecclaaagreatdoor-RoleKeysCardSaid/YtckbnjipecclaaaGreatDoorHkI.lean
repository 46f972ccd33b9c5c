/- Parts of one proof, merged: XSl. -/
import Derived.Test.YtckbnjipecclaaaGreatDoorHkH
import Derived.Lib.SmallJoins
set_option linter.all false
set_option maxHeartbeats 12800000
set_option maxRecDepth 10000
set_option linter.unusedVariables false
set_option linter.unusedSimpArgs false
set_option linter.unnecessarySimpa false
namespace Go.Proofs.YtckbnjipecclaaaGreatDoor
open Go.RowKit
open Go.Lib (decodeL)
structure Tabs (w : World) : Prop where
 utf : Lib.Utf8Tabs (Tryz.shDecode_ren.g 3) (Tryz.shDecode_ren.g 4) w
 pow : Lib.TabIs Tryz.prog w "internal/strconv.uint64pow10" .u64 Lib.pow10Tab
theorem Tabs.kept0 {w w' : World} (h : Tabs w) (k : Kept [] w w') : Tabs w' := by
 obtain ⟨h1, h3⟩ := h
 refine ⟨⟨fun c hc => k.cell (h1.1 c hc) (by simp), fun i hi => ⟨k.cell (h1.2 i hi).1 (by simp), k.cell (h1.2 i hi).2 (by simp)⟩⟩, ?_⟩
 ·have hs : (Tryz.prog.globalNamed "internal/strconv.uint64pow10").isSome = true := by kernel_rfl
  obtain ⟨g, hg⟩ := Option.isSome_iff_exists.1 hs
  exact Go.Joins.tab_stays hg h3 (k.below (Nat.le_refl _) (by simp)) (Nat.le_refl _)
theorem of_below {P : Program} {f : FuncId} {args : Array Value} {w : World} {r : Ending} (h : Calls P f args w fun e w' => e = r ∧ Below w.heap.size w w') : Calls P f args w fun e w' => e = r ∧ Kept [] w w' :=
 h.mono fun _ _ ⟨h1, h2⟩ => ⟨h1, Kept.of_below h2⟩
theorem of_same {P : Program} {f : FuncId} {args : Array Value} {w : World} {r : Ending} (h : Calls P f args w fun e w' => e = r ∧ w' = w) : Calls P f args w fun e w' => e = r ∧ w = w' :=
 h.mono fun _ _ ⟨h1, h2⟩ => ⟨h1, h2.symm⟩
theorem libValid {w : World} (ht : Tabs w) (s : ByteArray) (hs : s.size ≤ 281474976710656) : Calls Tryz.prog 118 #[.string s] w fun e w' => e = .returned (.bool (bytesOk s)) ∧ Kept [] w w' :=
 of_below (Any.utf8_ValidString Tryz.shValid s w (by omega) ht.utf)
theorem libIndexByte (s : ByteArray) (c : Int) (w : World) : Calls Tryz.prog 92 #[.string s, .int .u8 c] w fun e w' => e = .returned (.int .i64 (Lib.indexByte s.data.toList c.toNat.toUInt8)) ∧ w = w' :=
 of_same (Any.strings_IndexByte Tryz.shIndexByte s c w)
theorem libHasPrefix (s p : ByteArray) (w : World) : Calls Tryz.prog 153 #[.string s, .string p] w fun e w' => e = .returned (.bool (p.data.toList.isPrefixOf s.data.toList)) ∧ w = w' :=
 of_same (Any.strings_HasPrefix Tryz.shHasPrefix s p w)
theorem libFormatBool (b : Bool) (w : World) : Calls Tryz.prog 172 #[.bool b] w fun e w' => e = .returned (.string (strB (Lib.formatBool b))) ∧ w = w' :=
 of_same (Any.strconv_FormatBool Tryz.shFormatBool b w)
theorem kept_grow {w : World} (n : Nat) (os : Array Obj) : Kept [] w (Sort.grow (w.drewN n) os) :=
 ⟨rfl, rfl, rfl, by simp [Sort.grow], fun k hk _ => by
  show (w.heap ++ os)[k]? = w.heap[k]?
  rw [Array.getElem?_append_left hk]⟩
theorem libItoa {w : World} (ht : Tabs w) (n : Int) (h0 : -9223372036854775808 ≤ n) (h1 : n ≤ 9223372036854775807) : Calls Tryz.prog 157 #[.int .i64 n] w fun e w' => e = .returned (.string (strB (Lib.itoa n))) ∧ Kept [] w w' :=
 (Any.strconv_Itoa Tryz.shItoa n h0 h1 w ht.pow).mono fun e w' ⟨h1, k, os, h2⟩ => ⟨h1, by rw [h2]; exact kept_grow k os⟩
theorem libTrim (s cs : ByteArray) (w : World) (hs : s.size ≤ 281474976710656) (h1 : cs.size ≤ 100) (h2 : ∀ (j : Nat) b, cs.data.toList[j]? = some b → b.toNat < 128) : Calls Tryz.prog 90 #[.string s, .string cs] w fun e w' => e = .returned (.string (strB (Lib.trimS s.data.toList cs.data.toList))) ∧ Kept [] w w' :=
 of_below (Any.strings_Trim_laid Tryz.shTrim (by kernel_rfl) s cs w (by omega) (by omega) h2)
theorem utfValid {w : World} (ht : Tabs w) (s : ByteArray) (hs : s.size ≤ 281474976710656) : Calls Tryz.prog 82 #[.string s] w fun e w' => e = .returned (.bool (bytesOk s)) ∧ Kept [] w w' := by
 have C := qI (libValid ht s hs)
 clear ht
 go_enter Tryz.func82, Tryz.ntmps82
 go_wp2_with (go_at_call 118; refine C.o.mono ?_; rintro e w2 ⟨rfl, hk2⟩)
 go_ret
 exact ⟨rfl, hk2⟩
theorem Bytes.at {w : World} {a : Option Addr} {c : Nat} {l : List UInt8} (h : Bytes w (.slice a l.length c) l) {k : Nat} (hk : k < l.length) : ∃ g o, a = some ⟨g, o, none⟩ ∧ w.cell? ⟨g, o + k, none⟩ = some (.int .u8 l[k].toNat) := by
 rcases h.2 with ⟨_, h0⟩ | ⟨h0, _⟩ | ⟨g, o, cap, hv, _, _, hrow⟩
 ·omega
 ·omega
 ·simp only [Value.slice.injEq] at hv
  exact ⟨g, o, hv.1, hrow.cells k (bv l[k]) (by simp [hk])⟩
def hexL (l : List UInt8) : List UInt8 := l.flatMap (fun c => [hexd (c.toNat / 16), hexd (c.toNat % 16)])
theorem hexL_snoc (l : List UInt8) (c : UInt8) : hexL (l ++ [c]) = (hexL l ++ [hexd (c.toNat / 16)]) ++ [hexd (c.toNat % 16)] := by simp [hexL]
theorem hexL_len : ∀ (l : List UInt8), (hexL l).length = 2 * l.length
 | [] => rfl
 | c :: l => by
  have := hexL_len l
  simp only [hexL, List.flatMap_cons, List.length_append, List.length_cons, List.length_nil] at *
  omega
theorem hexc : ∀ (k : Nat) (h : k < 16), (⟨#[48, 49, 50, 51, 52, 53, 54, 55, 56, 57, 97, 98, 99, 100, 101, 102]⟩ : ByteArray)[k]'h = hexd k := by
 have h : ∀ k : Fin 16, (⟨#[48, 49, 50, 51, 52, 53, 54, 55, 56, 57, 97, 98, 99, 100, 101, 102]⟩ : ByteArray)[k.val]'k.isLt = hexd k.val := by decide
 exact fun k hk => h ⟨k, hk⟩
theorem hex_any {w : World} {a : Option Addr} {c : Nat} {l : List UInt8} (h : Bytes w (.slice a l.length c) l) (hl : l.length ≤ 1000000) (h0 : l ≠ []) :
  Calls Tryz.prog 44 #[.slice a l.length c] w fun e w' => e = .returned (.string (strB (hexL l))) ∧ Kept [] w w' := by
 have H := qI h
 obtain ⟨W0, Gb⟩ : ∃ W0, Hid (W0 = w.alloc (.cells #[.pointer none, .slice none 0 0] 121)) := ⟨_, qI rfl⟩
 have Gc : Hid (Kept [] w W0) := qI (by rw [Gb.o]; exact (Kept.refl _ _).alloc _)
 have Ge : Hid (BW 121 W0 w.heap.size W0 []) := qI (BW.new (by rw [Gb.o]; exact block_alloc rfl))
 clear h
 go_enter Tryz.func44, Tryz.ntmps44
 go_wp2_with fail
 rw [← Gb.o]
 go_loopw [8] (fun i wr => ∃ k : Nat, i = .int .i64 k ∧ k ≤ l.length ∧ BW 121 W0 w.heap.size wr (hexL (l.take k))) (fun i _ => l.length - (intOf i).toNat)
 case atStart => exact ⟨0, rfl, Nat.zero_le _, Ge.o⟩
 case round =>
  obtain ⟨k, rfl, hk, hb⟩ := hrel
  have HB := qI hb
  have Gi : Hid (Kept [] w wr) := qI (Gc.o.trans hb.kept (by intro i hi; simp at hi; subst hi; exact .inr (Nat.le_refl _)))
  clear hb
  by_cases hlt : k < l.length
  ·have hltI : (k : Int) < l.length := by omega
   obtain ⟨g, o, rfl, q0⟩ := Bytes.at (H.o.kept0 Gi.o) hlt
   have hx : (l[k].toNat : Int) ≤ 255 := by have := l[k].toNat_lt; omega
   have Ga : Hid (hexL (l.take (k + 1)) = (hexL (l.take k) ++ [hexd (l[k].toNat / 16)]) ++ [hexd (l[k].toNat % 16)]) := qI (by rw [List.take_succ_eq_append_getElem hlt, hexL_snoc])
   revert q0 hx Ga
   generalize l[k] = x
   intro q0 hx Ga
   have hlen : (hexL (l.take k)).length ≤ 50000000 := by rw [hexL_len, List.length_take]; omega
   go_wp2_with fail
   refine (wbyte_any lies_builder HB.o (by omega) _).mono ?_
   rintro e w1 ⟨rfl, hb1, -⟩
   rw [hexc _ (by omega)] at hb1
   have Gf := qI hb1
   clear hb1
   go_wp2_with fail
   refine (wbyte_any lies_builder Gf.o (by rw [List.length_append]; simp only [List.length_cons, List.length_nil]; omega) _).mono ?_
   rintro e w2 ⟨rfl, hb2, -⟩
   rw [hexc _ (by omega), ← Ga.o] at hb2
   have Gg := qI hb2
   clear hb2
   go_wp2_with fail
   case roundEnd => exact ⟨⟨k + 1, by go_num, by omega, Gg.o⟩, by simp [intOf]; omega⟩
  ·obtain rfl : k = l.length := by omega
   have Gf : Hid (BW 121 W0 w.heap.size wr (hexL l)) := qI (by have := HB.o; rw [List.take_length] at this; exact this)
   have H0 := qI h0
   clear h0
   have hlen : (hexL l).length ≤ 50000000 := by rw [hexL_len]; omega
   go_wp2_with (go_at_call 89; refine (bstring_any Gf.o (by omega) (by intro e; have h1 := congrArg List.length e; rw [hexL_len] at h1; simp only [List.length_nil] at h1; exact H0.o (List.eq_nil_of_length_eq_zero (by omega)))).mono ?_; rintro e w2 ⟨rfl, hk2, -⟩)
   go_ret
   exact ⟨rfl, Gc.o.trans hk2 (by intro i hi; simp at hi; subst hi; exact .inr (Nat.le_refl _))⟩
theorem wbyte_34 {T : Nat} (hT : Lies T) {W w : World} {b : Nat} {l : List UInt8} (h : BW T W b w l) (hl : l.length ≤ 100000000) :
  Calls Tryz.prog 88 #[.pointer (some ⟨b, 0, none⟩), .int .u8 34] w fun e w' => e = .returned .nilIface ∧ BW T W b w' (l ++ [34]) ∧ KeptB b w w' := wbyte_any hT h hl 34
theorem wbyte_92 {T : Nat} (hT : Lies T) {W w : World} {b : Nat} {l : List UInt8} (h : BW T W b w l) (hl : l.length ≤ 100000000) :
  Calls Tryz.prog 88 #[.pointer (some ⟨b, 0, none⟩), .int .u8 92] w fun e w' => e = .returned .nilIface ∧ BW T W b w' (l ++ [92]) ∧ KeptB b w w' := wbyte_any hT h hl 92
theorem quoteB_len (c : UInt8) : (quoteB c).length ≤ 6 := by
 unfold quoteB
 split
 ·simp
 ·split <;> simp
theorem quote_take (s : List UInt8) (k : Nat) : (((s.take k).flatMap quoteB)).length ≤ 6 * s.length := by
 have h : ∀ l : List UInt8, (l.flatMap quoteB).length ≤ 6 * l.length := by
  intro l
  induction l with
  | nil => simp
  | cons c l ih =>
   have := quoteB_len c
   simp only [List.flatMap_cons, List.length_append, List.length_cons]
   omega
 have h1 := h (s.take k)
 rw [List.length_take] at h1
 omega
theorem utfQuote {w : World} (ht : Tabs w) (s : ByteArray) (hs : s.size ≤ 1000000) (hv : bytesOk s = true) :
  Calls Tryz.prog 206 #[.string s] w fun e w' => e = .returned (.tuple #[.string (strB (quoteL s.data.toList)), .int .i64 0]) ∧ Kept [] w w' := by
 have CV := qI (utfValid ht s (by omega))
 rw [hv] at CV
 have HL : Hid (s.data.toList.length = s.size) := qI (by simp)
 clear ht hv
 go_enter Tryz.func206, Tryz.ntmps206
 go_wp2_with (go_at_call 82; refine CV.o.mono ?_; rintro e w1 ⟨rfl, hk1⟩; have Gj := qI hk1; clear hk1)
 obtain ⟨W0, Gb⟩ : ∃ W0, Hid (W0 = w1.alloc (.cells #[.pointer none, .slice none 0 0] 121)) := ⟨_, qI rfl⟩
 have Gc : Hid (Kept [] w1 W0) := qI (by rw [Gb.o]; exact (Kept.refl _ _).alloc _)
 have Ge : Hid (BW 121 W0 w1.heap.size W0 []) := qI (BW.new (by rw [Gb.o]; exact block_alloc rfl))
 rw [← Gb.o]
 refine (wbyte_34 lies_builder Ge.o (by simp)).mono ?_
 rintro e w2 ⟨rfl, hb2, -⟩
 have Gg := qI hb2
 clear hb2
 go_wp2_with fail
 go_loopw [13] (fun i wr => ∃ k : Nat, i = .int .i64 k ∧ k ≤ s.size ∧ BW 121 W0 w1.heap.size wr (34 :: (s.data.toList.take k).flatMap quoteB)) (fun i _ => s.size - (intOf i).toNat)
 case atStart => exact ⟨0, rfl, Nat.zero_le _, Gg.o⟩
 case round =>
  obtain ⟨k, rfl, hk, hb⟩ := hrel
  have HB := qI hb
  have Gi : Hid (Kept [] w1 wr) := qI (Gc.o.trans hb.kept (by intro i hi; simp at hi; subst hi; exact .inr (Nat.le_refl _)))
  clear hb
  have hq : (34 :: (s.data.toList.take k).flatMap quoteB : List UInt8).length ≤ 6000001 := by
   have := quote_take s.data.toList k
   rw [HL.o] at this
   rw [List.length_cons]
   omega
  by_cases hlt : k < s.size
  ·have hltI : (k : Int) < s.size := by omega
   have hlt' : k < s.data.toList.length := by rw [HL.o]; exact hlt
   have Ga : Hid (34 :: (s.data.toList.take (k + 1)).flatMap quoteB = (34 :: (s.data.toList.take k).flatMap quoteB) ++ quoteB (s[k]'hlt)) := qI (by
    rw [List.take_succ_eq_append_getElem hlt', List.flatMap_append, List.cons_append]
    simp only [List.flatMap_cons, List.flatMap_nil, List.append_nil]
    rfl)
   have hx : ((s[k]'hlt).toNat : Int) ≤ 255 := by have := (s[k]'hlt).toNat_lt; omega
   clear hlt'
   revert hx Ga
   generalize 34 :: (s.data.toList.take k).flatMap quoteB = L at *
   generalize hsk : s[k]'hlt = x
   intro Ga hx
   by_cases h32 : x.toNat < 32
   ·have h32I : (x.toNat : Int) < 32 := by omega
    have HQ : Hid (quoteB x = [92, 117, 48, 48] ++ hexL [x]) := qI (by unfold quoteB; rw [if_pos h32]; rfl)
    have CH := qI (hex_any (w := wr.alloc (.cells #[.int .u8 x.toNat] 5)) (a := some ⟨wr.heap.size, 0, none⟩) (c := 1) (l := [x]) (slc_one wr (bv x) 5 _ rfl) (by simp) (by simp))
    clear h32
    go_wp2_with (go_at_call 44; refine CH.o.mono ?_; rintro e w3 ⟨rfl, hk3⟩; have Gl := qI (((Kept.refl [] wr).alloc (.cells #[.int .u8 x.toNat] 5)).then hk3); clear hk3)
    have Gk : Hid ((({ data := #[92, 117, 48, 48] } : ByteArray) ++ strB (hexL [x])).data.toList = [92, 117, 48, 48] ++ hexL [x]) := qI (by
     rw [ByteArray.data_append, Array.toList_append, strB_list])
    refine (wstring_any lies_builder (HB.o.stay Gl.o) (by omega) _ (by rw [← ByteArray.size_data, ← Array.length_toList, Gk.o, List.length_append, hexL_len]; simp)).mono ?_
    rintro e w4 ⟨rfl, hb4, -⟩
    rw [Gk.o, ← HQ.o, ← Ga.o] at hb4
    have Gh := qI hb4
    clear hb4
    go_wp2_with fail
    case roundEnd => exact ⟨⟨k + 1, by go_num, by omega, Gh.o⟩, by simp [intOf]; omega⟩
   ·have h32I : ¬ (x.toNat : Int) < 32 := by omega
    by_cases hc : x = 34 ∨ x = 92
    ·have HQ : Hid (quoteB x = [92] ++ [x]) := qI (by unfold quoteB; rw [if_neg h32, if_pos hc]; rfl)
     have hg : ((x.toNat : Int) == 34) = true ∨ (((x.toNat : Int) == 34) = false ∧ ((x.toNat : Int) == 92) = true) := by
      rcases hc with rfl | rfl
      ·exact .inl rfl
      ·exact .inr ⟨rfl, rfl⟩
     clear hc h32
     rcases hg with g1 | ⟨g1, g2⟩
     all_goals
      go_wp2_with fail
      refine (wbyte_92 lies_builder HB.o (by omega)).mono ?_
      rintro e w3 ⟨rfl, hb3, -⟩
      have Gd := qI hb3
      clear hb3
      go_wp2_with fail
      refine (wbyte_any lies_builder Gd.o (by rw [List.length_append]; simp only [List.length_cons, List.length_nil]; omega) x).mono ?_
      rintro e w4 ⟨rfl, hb4, -⟩
      have Gh := qI hb4
      clear hb4
      go_wp2_with fail
      case roundEnd => exact ⟨⟨k + 1, by go_num, by omega, by rw [Ga.o, HQ.o, ← List.append_assoc]; exact Gh.o⟩, by simp [intOf]; omega⟩
    ·have HQ : Hid (quoteB x = [x]) := qI (by unfold quoteB; rw [if_neg h32, if_neg hc])
     have hn : ∀ v : UInt8, x ≠ v → ((x.toNat : Int) == (v.toNat : Int)) = false := fun v hv => (nat_ne (fun e => hv (UInt8.toNat_inj.1 e))).1
     have g1 : ((x.toNat : Int) == 34) = false := hn 34 (fun e => hc (.inl e))
     have g2 : ((x.toNat : Int) == 92) = false := hn 92 (fun e => hc (.inr e))
     clear hc h32 hn
     go_wp2_with fail
     refine (wbyte_any lies_builder HB.o (by omega) x).mono ?_
     rintro e w3 ⟨rfl, hb3, -⟩
     have Gd := qI hb3
     clear hb3
     go_wp2_with fail
     case roundEnd => exact ⟨⟨k + 1, by go_num, by omega, by rw [Ga.o, HQ.o]; exact Gd.o⟩, by simp [intOf]; omega⟩
  ·obtain rfl : k = s.size := by omega
   have HT : Hid ((34 :: (s.data.toList.take s.size).flatMap quoteB) ++ [34] = quoteL s.data.toList) := qI (by
    rw [List.take_of_length_le (by rw [HL.o]; exact Nat.le_refl _)]
    rfl)
   revert hq HB HT
   generalize 34 :: (s.data.toList.take s.size).flatMap quoteB = L
   intro HB hq HT
   go_wp2_with (first
    | (go_at_call 88; refine (wbyte_34 lies_builder HB.o (by omega)).mono ?_; rintro e w3 ⟨rfl, hb3, -⟩; rw [HT.o] at hb3; have Gd := qI hb3; clear hb3)
    | (go_at_call 89; refine (bstring_any Gd.o (by rw [← HT.o, List.length_append]; simp only [List.length_cons, List.length_nil]; omega) (by unfold quoteL; exact List.cons_ne_nil _ _)).mono ?_; rintro e w4 ⟨rfl, hk4, -⟩))
   go_ret2
   exact ⟨rfl, (Gj.o.then Gc.o).trans hk4 (by intro i hi; simp at hi; subst hi; exact .inr Gj.o.size)⟩
end Go.Proofs.YtckbnjipecclaaaGreatDoor

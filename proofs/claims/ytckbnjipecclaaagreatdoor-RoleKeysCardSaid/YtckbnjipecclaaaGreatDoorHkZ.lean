/- Parts of one proof, merged: XIW XIP XJK XJL XShK XMap XIQ. -/
import Derived.Test.YtckbnjipecclaaaGreatDoorHkY
import Derived.Test.YtckbnjipecclaaaGreatDoorHkU
import Derived.Test.YtckbnjipecclaaaGreatDoorHkX
import Derived.Test.YtckbnjipecclaaaGreatDoorHkT
import Derived.Test.YtckbnjipecclaaaGreatDoorHkA
import Derived.Shelf.SlIter.Nil
import Derived.Shelf.SortM.Plain
import Derived.Shelf.SortM.SortNone
import Derived.Shelf.SlGeneric
import Derived.Ground.GgzProg
import Derived.Ground.SlgmProg
import Derived.Test.YtckbnjipecclaaaGreatDoorProg
import Derived.Maps.OwnSet
import Derived.StringKeys
import Derived.Test.YtckbnjipecclaaaGreatDoorHkO
set_option linter.all false
set_option maxHeartbeats 12800000
set_option maxRecDepth 10000
set_option linter.unusedVariables false
set_option linter.unusedSimpArgs false
set_option linter.unnecessarySimpa false
namespace Go.Proofs.YtckbnjipecclaaaGreatDoor
open Go.RowKit
def headV : V 2 := (mapV [(⟨#[95, 116, 121, 112, 101]⟩, (textV ⟨#[114, 111, 111, 116]⟩ : VS (V 0))), (⟨#[115, 112, 101, 99, 95, 118, 101, 114, 115, 105, 111, 110]⟩, textV ⟨#[49, 46, 48, 46, 48]⟩), (⟨#[118, 101, 114, 115, 105, 111, 110]⟩, intV 3), (⟨#[101, 120, 112, 105, 114, 101, 115]⟩, textV ⟨#[49, 57, 55, 48, 45, 48, 49, 45, 48, 50, 84, 48, 48, 58, 48, 48, 58, 48, 48, 90]⟩)] : VS (V 1))
def headM : List (ByteArray × V 1) := [(⟨#[95, 116, 121, 112, 101]⟩, (textV ⟨#[114, 111, 111, 116]⟩ : VS (V 0))), (⟨#[115, 112, 101, 99, 95, 118, 101, 114, 115, 105, 111, 110]⟩, (textV ⟨#[49, 46, 48, 46, 48]⟩ : VS (V 0))), (⟨#[118, 101, 114, 115, 105, 111, 110]⟩, (intV 3 : VS (V 0))), (⟨#[101, 120, 112, 105, 114, 101, 115]⟩, (textV ⟨#[49, 57, 55, 48, 45, 48, 49, 45, 48, 50, 84, 48, 48, 58, 48, 48, 58, 48, 48, 90]⟩ : VS (V 0)))]
theorem small_head : Small 2 headV := ⟨by decide +kernel, by decide +kernel⟩
theorem heads_rep (w : World) : All2 (pairR (Rep 1 (fun _ => True) w)) [(⟨#[95, 116, 121, 112, 101]⟩, [.int .i64 4, .int .i64 0, .string ⟨#[114, 111, 111, 116]⟩, .slice none 0 0, .slice none 0 0]), (⟨#[115, 112, 101, 99, 95, 118, 101, 114, 115, 105, 111, 110]⟩, [.int .i64 4, .int .i64 0, .string ⟨#[49, 46, 48, 46, 48]⟩, .slice none 0 0, .slice none 0 0]), (⟨#[118, 101, 114, 115, 105, 111, 110]⟩, [.int .i64 3, .int .i64 3, .string ⟨#[]⟩, .slice none 0 0, .slice none 0 0]), (⟨#[101, 120, 112, 105, 114, 101, 115]⟩, [.int .i64 4, .int .i64 0, .string ⟨#[49, 57, 55, 48, 45, 48, 49, 45, 48, 50, 84, 48, 48, 58, 48, 48, 58, 48, 48, 90]⟩, .slice none 0 0, .slice none 0 0])] headM :=
 All2.cons ⟨rfl, rep_text (n := 0) _ _ _⟩ (All2.cons ⟨rfl, rep_text (n := 0) _ _ _⟩ (All2.cons ⟨rfl, rep_int (n := 0) _ _ _ ⟨by decide, by decide⟩⟩ (All2.cons ⟨rfl, rep_text (n := 0) _ _ _⟩ (All2.nil _))))
theorem headValue_any {w : World} (ht : Tabs w) : Calls Tryz.prog 35 #[.string ⟨#[114, 111, 111, 116]⟩, .int .i64 3, .int .i64 86400] w fun e w' => New 2 w w' e headV ∧ Kept [] w w' := by
 obtain ⟨W0, Ga⟩ : ∃ W0, Hid (W0 = w.alloc (.cells #[.int .i64 0, .int .i64 0, .string ⟨#[]⟩, .slice none 0 0, .slice none 0 0] 28)) := ⟨_, qI rfl⟩
 have Gc : Hid (Kept [] w W0) := qI (by rw [Ga.o]; exact (Kept.refl _ w).alloc _)
 have Je : Hid (W0.heap[w.heap.size]? = some (.cells #[.int .i64 0, .int .i64 0, .string ⟨#[]⟩, .slice none 0 0, .slice none 0 0] 28 (0, 0))) := qI (by rw [Ga.o]; exact block_alloc rfl)
 have Gd : Hid (W0.heap.size = w.heap.size + 1) := qI (by rw [Ga.o]; simp)
 have HT := qI (ht.kept0 Gc.o)
 have CT := qI (text_day HT.o)
 have CU : Hid (∀ w1, Kept [] W0 w1 → Calls Tryz.prog 82 #[.string ⟨#[114, 111, 111, 116]⟩] w1 fun e w' => e = .returned (.bool true) ∧ Kept [] w1 w') := qI (fun w1 hk => by
  have h1 := utfValid (HT.o.kept0 hk) ⟨#[114, 111, 111, 116]⟩ (by decide)
  rw [bytes_ascii (s := ⟨#[114, 111, 111, 116]⟩) (by decide)] at h1
  exact h1)
 clear ht
 go_enter Tryz.func35, Tryz.ntmps35
 go_upto_region 1 with fail
 rw [← Ga.o]
 go_upto_region 4 with first
  | (go_at_call 81; refine CT.o.mono ?_; rintro e w1 ⟨rfl, hk1⟩; have Gg := qI hk1; clear hk1)
  | (go_at_call 82; refine (CU.o _ Gg.o).mono ?_; rintro e w2 ⟨rfl, hk2⟩; have Gj := qI hk2; clear hk2)
 have Gh := qI (Gg.o.then Gj.o)
 have Jf := qI small_head
 have Gb : Hid (Kept [] w2 w2) := qI (Kept.refl _ _)
 go_wp2_with first
  | (go_at_call 40; refine (valMap_any (n := 1) (S := fun _ => True) (m := headM) (mcs := [(⟨#[95, 116, 121, 112, 101]⟩, [.int .i64 4, .int .i64 0, .string ⟨#[114, 111, 111, 116]⟩, .slice none 0 0, .slice none 0 0]), (⟨#[115, 112, 101, 99, 95, 118, 101, 114, 115, 105, 111, 110]⟩, [.int .i64 4, .int .i64 0, .string ⟨#[49, 46, 48, 46, 48]⟩, .slice none 0 0, .slice none 0 0]), (⟨#[118, 101, 114, 115, 105, 111, 110]⟩, [.int .i64 3, .int .i64 3, .string ⟨#[]⟩, .slice none 0 0, .slice none 0 0]), (⟨#[101, 120, 112, 105, 114, 101, 115]⟩, [.int .i64 4, .int .i64 0, .string ⟨#[49, 57, 55, 48, 45, 48, 49, 45, 48, 50, 84, 48, 48, 58, 48, 48, 58, 48, 48, 90]⟩, .slice none 0 0, .slice none 0 0])]) (slc_new _ [.string ⟨#[95, 116, 121, 112, 101]⟩, .int .i64 4, .int .i64 0, .string ⟨#[114, 111, 111, 116]⟩, .slice none 0 0, .slice none 0 0, .string ⟨#[115, 112, 101, 99, 95, 118, 101, 114, 115, 105, 111, 110]⟩, .int .i64 4, .int .i64 0, .string ⟨#[49, 46, 48, 46, 48]⟩, .slice none 0 0, .slice none 0 0, .string ⟨#[118, 101, 114, 115, 105, 111, 110]⟩, .int .i64 3, .int .i64 3, .string ⟨#[]⟩, .slice none 0 0, .slice none 0 0, .string ⟨#[101, 120, 112, 105, 114, 101, 115]⟩, .int .i64 4, .int .i64 0, .string ⟨#[49, 57, 55, 48, 45, 48, 49, 45, 48, 50, 84, 48, 48, 58, 48, 48, 58, 48, 48, 90]⟩, .slice none 0 0, .slice none 0 0] 6 4 _ _ rfl rfl (by decide)) (heads_rep _) Jf.o).mono ?_; rintro e w5 ⟨hn5, hk5⟩; obtain ⟨k6, m6, s6, p6, i6, c6, q6, j6, e6, rfl, ho6⟩ := new_fact hn5; have Jg := qI ho6; have Ge := qI (Gb.o.trans' (((Kept.refl [] _).alloc _).then hk5)); have Gn := qI ((Gh.o.then Ge.o).heap Je.o (by simp)); obtain ⟨r0, r1, r2, r3, r4⟩ := box_of Gn.o; have z : ∀ j, w5.frozen? ⟨w.heap.size, j, none⟩ = false := fun j => free_head Gn.o; clear hk5 ho6 hn5)
  | (go_at_call 41; refine (pair_any _ _ _ _ _ _ _ _ _ _ _).mono ?_; rintro e w4 ⟨rfl, hk4⟩; have Gb := qI (Gb.o.then hk4); clear hk4)
  | (go_at_call 42; refine (valInt_any _ _).mono ?_; rintro e w3 ⟨rfl, hk3⟩; have Gb := qI (Gb.o.then hk3); clear hk3)
  | (go_at_call 43; refine (valText_any _ _).mono ?_; rintro e w3 ⟨rfl, hk3⟩; have Gb := qI (Gb.o.then hk3); clear hk3)
 change bodyPost _ _ _ _ _ (put5 w5 w.heap.size k6 m6 s6 (.slice p6 i6 c6) (.slice q6 j6 e6))
 have Gk := put5_kept w5 w.heap.size k6 m6 s6 (.slice p6 i6 c6) (.slice q6 j6 e6)
 obtain ⟨y0, y1, y2, y3, y4⟩ := box_of (put5_at Gn.o k6 m6 s6 (.slice p6 i6 c6) (.slice q6 j6 e6))
 revert Gk y0 y1 y2 y3 y4
 generalize put5 w5 w.heap.size k6 m6 s6 (.slice p6 i6 c6) (.slice q6 j6 e6) = WF
 intro Gk y0 y1 y2 y3 y4
 refine bodyPost_ret (v := .agg #[.int .i64 k6, .int .i64 m6, .string s6, .slice p6 i6 c6, .slice q6 j6 e6]) (by simp [results, Tryz.results35, go_sem, y0, y1, y2, y3, y4]) rfl ?_
 have hs0 := Gd.o
 have hsr := Gh.o.size
 refine ⟨⟨_, rfl, ?_⟩, ((Gc.o.then Gh.o).then Ge.o).trans Gk (by intro i hi; simp at hi; subst hi; exact .inr (Nat.le_refl _))⟩
 refine OwnD.mono (OwnD.kept Jg.o Gk ?_) ?_
 ·intro k hk
  have hk34 := Gb.o.size
  simp at hk
  simp
  omega
 ·intro g' h56
  have hk34 := Gb.o.size
  simp at h56
  exact ⟨by omega, Nat.lt_of_lt_of_le h56.2 Gk.size⟩
theorem pairs_hex : ∀ (l : List UInt8), pairsH (hexL l) = l
 | [] => rfl
 | c :: l => by
  have h : ∀ n : Fin 256, UInt8.ofNat (hv (hexd ((UInt8.ofNat n.val).toNat / 16)) * 16 + hv (hexd ((UInt8.ofNat n.val).toNat % 16))) = UInt8.ofNat n.val := by decide +kernel
  have h1 := h ⟨c.toNat, UInt8.toNat_lt c⟩
  simp only [UInt8.ofNat_toNat] at h1
  have e : hexL (c :: l) = hexd (c.toNat / 16) :: hexd (c.toNat % 16) :: hexL l := rfl
  rw [e, pairsH, pairs_hex l, h1]
theorem unhex_hex (l : List UInt8) : unhexS (hexS l) = some l := by
 unfold unhexS
 have e : (hexS l).data.toList = hexL l := by simp [hexS, strB]
 rw [if_pos ⟨by rw [hexS_size]; omega, by rw [e]; exact List.all_eq_true.2 (hexL_low l)⟩, e, pairs_hex]
theorem fint_pos {n : Nat} {v : VS (V n)} {s : ByteArray} {lo hi : Int} {x : V n} (h : getV v s = some x) (h3 : kindV n x = 3) (h0 : lo ≤ numV n x) (h1 : numV n x ≤ hi) : fint v false s lo hi = (numV n x, false) := by
 unfold fint fget
 rw [h]
 simp only [Bool.false_eq_true, if_false]
 rw [if_pos ⟨h3, by simp [h0, h1]⟩]
theorem ftext_pos {n : Nat} {v : VS (V n)} {s : ByteArray} {most : Int} {x : V n} (h : getV v s = some x) (h3 : kindV n x = 4) (h0 : ((strV n x).size : Int) ≤ most) : ftext v false s most = (strV n x, false) := by
 unfold ftext fget
 rw [h]
 simp only [Bool.false_eq_true, if_false]
 rw [if_pos ⟨h3, by simp [h0]⟩]
theorem fmap_pos {n : Nat} {v : VS (V n)} {s : ByteArray} {x : V n} (h : getV v s = some x) (h3 : kindV n x = 6) : fmap v false s = (some x, false) := by
 unfold fmap fget
 rw [h]
 simp only [Bool.false_eq_true, if_false]
 rw [if_pos ⟨h3, trivial⟩]
theorem readKey_keyV {k : KeyS} (hm : mayKey k = true) (hr : k.root.length = 32) : readKeyV (n := 1) (keyV k) = some k := by
 have hm2 := hm
 unfold mayKey mayBits at hm2
 simp only [Bool.and_eq_true, decide_eq_true_eq] at hm2
 have t1 : ftext (n := 2) (keyV k) false ⟨#[107, 101, 121, 116, 121, 112, 101]⟩ 64 = (⟨#[108, 97, 109, 112, 111, 114, 116, 45, 109, 101, 114, 107, 108, 101]⟩, false) := ftext_pos (n := 2) (x := (textV ⟨#[108, 97, 109, 112, 111, 114, 116, 45, 109, 101, 114, 107, 108, 101]⟩ : VS (V 1))) (by kernel_rfl) rfl (by decide)
 have t2 : ftext (n := 2) (keyV k) false ⟨#[115, 99, 104, 101, 109, 101]⟩ 64 = (⟨#[115, 104, 97, 50, 53, 54]⟩, false) := ftext_pos (n := 2) (x := (textV ⟨#[115, 104, 97, 50, 53, 54]⟩ : VS (V 1))) (by kernel_rfl) rfl (by decide)
 have t3 : fmap (n := 2) (keyV k) false ⟨#[107, 101, 121, 118, 97, 108]⟩ = (some (valV k), false) := fmap_pos (n := 2) (by kernel_rfl) rfl
 have u1 : fint (n := 1) (valV k) false ⟨#[98, 105, 116, 115]⟩ 0 256 = (k.bits, false) := fint_pos (n := 1) (x := (intV k.bits : VS (V 0))) (by kernel_rfl) rfl (by show (0 : Int) ≤ k.bits; omega) (by show k.bits ≤ 256; omega)
 have u2 : fint (n := 1) (valV k) false ⟨#[104, 101, 105, 103, 104, 116]⟩ 0 6 = (k.height, false) := fint_pos (n := 1) (x := (intV k.height : VS (V 0))) (by kernel_rfl) rfl (by show (0 : Int) ≤ k.height; omega) (by show k.height ≤ 6; omega)
 have u3 : ftext (n := 1) (valV k) false ⟨#[112, 117, 98, 108, 105, 99]⟩ 64 = (hexS k.root, false) := ftext_pos (n := 1) (x := (textV (hexS k.root) : VS (V 0))) (by kernel_rfl) rfl (by show ((hexS k.root).size : Int) ≤ 64; rw [hexS_size, hr]; decide)
 have e : readS (n := 1) (keyV k) = ⟨(⟨#[108, 97, 109, 112, 111, 114, 116, 45, 109, 101, 114, 107, 108, 101]⟩, false), (⟨#[115, 104, 97, 50, 53, 54]⟩, false), (some (valV k), false), valV k, (k.bits, false), (k.height, false), (hexS k.root, false)⟩ := by
  unfold readS
  rw [show decide ((keyV k : VS (V 2)).kind ≠ 6) = false from rfl, t1]
  simp only
  rw [t2]
  simp only
  rw [t3]
  change (ReadS.mk (n := 1) _ _ _ (valV k) (fint (n := 1) (valV k) false ⟨#[98, 105, 116, 115]⟩ 0 256) (fint (n := 1) (valV k) (fint (n := 1) (valV k) false ⟨#[98, 105, 116, 115]⟩ 0 256).2 ⟨#[104, 101, 105, 103, 104, 116]⟩ 0 6) (ftext (n := 1) (valV k) (fint (n := 1) (valV k) (fint (n := 1) (valV k) false ⟨#[98, 105, 116, 115]⟩ 0 256).2 ⟨#[104, 101, 105, 103, 104, 116]⟩ 0 6).2 ⟨#[112, 117, 98, 108, 105, 99]⟩ 64)) = _
  rw [u1]
  change (ReadS.mk (n := 1) _ _ _ (valV k) _ (fint (n := 1) (valV k) false ⟨#[104, 101, 105, 103, 104, 116]⟩ 0 6) (ftext (n := 1) (valV k) (fint (n := 1) (valV k) false ⟨#[104, 101, 105, 103, 104, 116]⟩ 0 6).2 ⟨#[112, 117, 98, 108, 105, 99]⟩ 64)) = _
  rw [u2]
  change (ReadS.mk (n := 1) _ _ _ (valV k) _ _ (ftext (n := 1) (valV k) false ⟨#[112, 117, 98, 108, 105, 99]⟩ 64)) = _
  rw [u3]
 unfold readKeyV
 rw [e]
 simp only
 rw [unhex_hex]
 simp only
 rw [if_pos ⟨trivial, trivial, hr, trivial, trivial, hm⟩]
theorem head_type {w : World} {g : Nat} (h : Fld 1 w g headV false) : Calls Tryz.prog 24 #[.pointer (some ⟨g, 0, none⟩), .string ⟨#[95, 116, 121, 112, 101]⟩, .int .i64 64] w fun e w' => e = .returned (.string ⟨#[114, 111, 111, 116]⟩) ∧ Fld 1 w' g headV false ∧ Kept [g] w w' := by
 have h1 := ftext_any h small_head ⟨#[95, 116, 121, 112, 101]⟩ 64
 rw [show ftext (n := 1) headV false ⟨#[95, 116, 121, 112, 101]⟩ 64 = (⟨#[114, 111, 111, 116]⟩, false) from ftext_pos (n := 1) (x := (textV ⟨#[114, 111, 111, 116]⟩ : VS (V 0))) (by kernel_rfl) rfl (by decide)] at h1
 exact h1
theorem head_spec {w : World} {g : Nat} (h : Fld 1 w g headV false) : Calls Tryz.prog 24 #[.pointer (some ⟨g, 0, none⟩), .string ⟨#[115, 112, 101, 99, 95, 118, 101, 114, 115, 105, 111, 110]⟩, .int .i64 64] w fun e w' => e = .returned (.string ⟨#[49, 46, 48, 46, 48]⟩) ∧ Fld 1 w' g headV false ∧ Kept [g] w w' := by
 have h1 := ftext_any h small_head ⟨#[115, 112, 101, 99, 95, 118, 101, 114, 115, 105, 111, 110]⟩ 64
 rw [show ftext (n := 1) headV false ⟨#[115, 112, 101, 99, 95, 118, 101, 114, 115, 105, 111, 110]⟩ 64 = (⟨#[49, 46, 48, 46, 48]⟩, false) from ftext_pos (n := 1) (x := (textV ⟨#[49, 46, 48, 46, 48]⟩ : VS (V 0))) (by kernel_rfl) rfl (by decide)] at h1
 exact h1
theorem head_exp {w : World} {g : Nat} (h : Fld 1 w g headV false) : Calls Tryz.prog 24 #[.pointer (some ⟨g, 0, none⟩), .string ⟨#[101, 120, 112, 105, 114, 101, 115]⟩, .int .i64 64] w fun e w' => e = .returned (.string ⟨#[49, 57, 55, 48, 45, 48, 49, 45, 48, 50, 84, 48, 48, 58, 48, 48, 58, 48, 48, 90]⟩) ∧ Fld 1 w' g headV false ∧ Kept [g] w w' := by
 have h1 := ftext_any h small_head ⟨#[101, 120, 112, 105, 114, 101, 115]⟩ 64
 rw [show ftext (n := 1) headV false ⟨#[101, 120, 112, 105, 114, 101, 115]⟩ 64 = (⟨#[49, 57, 55, 48, 45, 48, 49, 45, 48, 50, 84, 48, 48, 58, 48, 48, 58, 48, 48, 90]⟩, false) from ftext_pos (n := 1) (x := (textV ⟨#[49, 57, 55, 48, 45, 48, 49, 45, 48, 50, 84, 48, 48, 58, 48, 48, 58, 48, 48, 90]⟩ : VS (V 0))) (by kernel_rfl) rfl (by decide)] at h1
 exact h1
theorem head_ver {w : World} {g : Nat} (h : Fld 1 w g headV false) : Calls Tryz.prog 23 #[.pointer (some ⟨g, 0, none⟩), .string ⟨#[118, 101, 114, 115, 105, 111, 110]⟩, .int .i64 1, .int .i64 1099511627776] w fun e w' => e = .returned (.int .i64 3) ∧ Fld 1 w' g headV false ∧ Kept [g] w w' := by
 have h1 := fint_any h small_head ⟨#[118, 101, 114, 115, 105, 111, 110]⟩ 1 1099511627776
 rw [show fint (n := 1) headV false ⟨#[118, 101, 114, 115, 105, 111, 110]⟩ 1 1099511627776 = (3, false) from fint_pos (n := 1) (x := (intV 3 : VS (V 0))) (by kernel_rfl) rfl (by decide) (by decide)] at h1
 exact h1
theorem readHead_root {S : Nat → Prop} {w : World} {cs : List Value} (h : Rep 2 S w cs headV) (hm : MaxW w) : Calls Tryz.prog 34 #[.agg cs.toArray, .string ⟨#[114, 111, 111, 116]⟩] w fun e w' => e = .returned (.tuple #[.int .i64 3, .int .i64 86400, .int .i64 0]) ∧ Kept [] w w' := by
 obtain ⟨kd, nm, st, pa, la, ca, pb, lb, cb, rfl⟩ := h.conv
 obtain ⟨W0, Ga⟩ : ∃ W0, Hid (W0 = w.alloc (.cells #[.int .i64 kd, .int .i64 nm, .string st, .slice pa la ca, .slice pb lb cb] 28)) := ⟨_, qI rfl⟩
 have HK : Hid (Kept [] w W0) := qI (by rw [Ga.o]; exact (Kept.refl _ w).alloc _)
 have Gi : Hid (BoxAt W0 w.heap.size kd nm st (.slice pa la ca) (.slice pb lb cb)) := qI (by rw [Ga.o]; exact box_at _ _ _ _ _ _ _)
 have Gd : Hid (W0.heap.size = w.heap.size + 1) := qI (by rw [Ga.o]; simp)
 have CO : Hid (Calls Tryz.prog 37 #[.agg #[.int .i64 kd, .int .i64 nm, .string st, .slice pa la ca, .slice pb lb cb]] W0 fun e w' => (∃ g, W0.heap.size ≤ g ∧ e = .returned (.pointer (some ⟨g, 0, none⟩)) ∧ Fld 1 w' g headV false) ∧ Kept [] W0 w') := qI (roleOf_any (n := 1) (h.kept0 HK.o))
 have CP := qI parse_day
 have CU := qI (fun (w1 : World) (hk : Kept [] w w1) => understood_one (hm.kept0 hk))
 obtain ⟨hq1, hq2⟩ := str_eq (rfl : (⟨#[114, 111, 111, 116]⟩ : ByteArray) = ⟨#[114, 111, 111, 116]⟩)
 obtain ⟨y0, y1, y2, y3, y4⟩ := Gi.o
 clear h hm
 go_enter Tryz.func34, Tryz.ntmps34
 go_upto_region 1 with fail
 rw [← Ga.o]
 go_wp2_with first
  | (go_at_call 24; refine (head_exp Gp.o).mono ?_; rintro e w6 ⟨rfl, hf, hk⟩; have Gq := qI hf; have Gr := qI (Gs.o.trans hk (by have := Gf.o; have := Gd.o; intro i hi; simp at hi; subst hi; exact .inr (by omega))); clear hf hk)
  | (go_at_call 24; refine (head_spec Gt.o).mono ?_; rintro e w4 ⟨rfl, hf, hk⟩; have Gu := qI hf; have Gj := qI (Gg.o.trans hk (by have := Gf.o; have := Gd.o; intro i hi; simp at hi; subst hi; exact .inr (by omega))); clear hf hk)
  | (go_at_call 23; refine (head_ver Gu.o).mono ?_; rintro e w5 ⟨rfl, hf, hk⟩; have Gp := qI hf; have Gs := qI (Gj.o.trans hk (by have := Gf.o; have := Gd.o; intro i hi; simp at hi; subst hi; exact .inr (by omega))); clear hf hk)
  | (go_at_call 24; refine (head_type Gv.o).mono ?_; rintro e w3 ⟨rfl, hf, hk⟩; have Gt := qI hf; have Gg := qI (Gc.o.trans hk (by have := Gf.o; have := Gd.o; intro i hi; simp at hi; subst hi; exact .inr (by omega))); clear hf hk)
  | (go_at_call 80; refine (CU.o _ Ge.o).mono ?_; rintro e w8 ⟨rfl, hk⟩; have Jb := qI (Ge.o.then hk); clear hk)
  | (go_at_call 30; refine Gw.o.mono ?_; rintro e w9 ⟨rfl, rfl⟩)
  | (go_at_call 79; refine (CP.o _).mono ?_; rintro e w7 ⟨rfl, hk⟩; have Ge := qI (Gr.o.then hk); have Gw := qI (fdone_any (Gq.o.kept0 hk)); clear hk)
  | (go_at_call 37; refine CO.o.mono ?_; rintro e w2 ⟨⟨g1, hg1, rfl, hf⟩, hk⟩; have Gf := qI hg1; have Gv := qI hf; have Gc := qI (HK.o.then hk); clear hg1 hf hk y0 y1 y2 y3 y4)
 refine bodyPost_ret (v := .tuple #[.int .i64 3, .int .i64 86400, .int .i64 0]) (by simp [results, Tryz.results34, go_sem]) rfl ?_
 exact ⟨rfl, Jb.o⟩
theorem readHead_other {S : Nat → Prop} {w : World} {cs : List Value} (h : Rep 2 S w cs headV) (hm : MaxW w) : Calls Tryz.prog 34 #[.agg cs.toArray, .string ⟨#[111, 116, 104, 101, 114]⟩] w fun e w' => e = .returned (.tuple #[.int .i64 0, .int .i64 0, .int .i64 130]) ∧ Kept [] w w' := by
 obtain ⟨kd, nm, st, pa, la, ca, pb, lb, cb, rfl⟩ := h.conv
 obtain ⟨W0, Ga⟩ : ∃ W0, Hid (W0 = w.alloc (.cells #[.int .i64 kd, .int .i64 nm, .string st, .slice pa la ca, .slice pb lb cb] 28)) := ⟨_, qI rfl⟩
 have HK : Hid (Kept [] w W0) := qI (by rw [Ga.o]; exact (Kept.refl _ w).alloc _)
 have Gi : Hid (BoxAt W0 w.heap.size kd nm st (.slice pa la ca) (.slice pb lb cb)) := qI (by rw [Ga.o]; exact box_at _ _ _ _ _ _ _)
 have Gd : Hid (W0.heap.size = w.heap.size + 1) := qI (by rw [Ga.o]; simp)
 have CO : Hid (Calls Tryz.prog 37 #[.agg #[.int .i64 kd, .int .i64 nm, .string st, .slice pa la ca, .slice pb lb cb]] W0 fun e w' => (∃ g, W0.heap.size ≤ g ∧ e = .returned (.pointer (some ⟨g, 0, none⟩)) ∧ Fld 1 w' g headV false) ∧ Kept [] W0 w') := qI (roleOf_any (n := 1) (h.kept0 HK.o))
 have CP := qI parse_day
 have CU := qI (fun (w1 : World) (hk : Kept [] w w1) => understood_one (hm.kept0 hk))
 obtain ⟨hq1, hq2⟩ := str_ne (show (⟨#[114, 111, 111, 116]⟩ : ByteArray) ≠ ⟨#[111, 116, 104, 101, 114]⟩ by decide)
 obtain ⟨y0, y1, y2, y3, y4⟩ := Gi.o
 clear h hm
 go_enter Tryz.func34, Tryz.ntmps34
 go_upto_region 1 with fail
 rw [← Ga.o]
 go_wp2_with first
  | (go_at_call 24; refine (head_exp Gp.o).mono ?_; rintro e w6 ⟨rfl, hf, hk⟩; have Gq := qI hf; have Gr := qI (Gs.o.trans hk (by have := Gf.o; have := Gd.o; intro i hi; simp at hi; subst hi; exact .inr (by omega))); clear hf hk)
  | (go_at_call 24; refine (head_spec Gt.o).mono ?_; rintro e w4 ⟨rfl, hf, hk⟩; have Gu := qI hf; have Gj := qI (Gg.o.trans hk (by have := Gf.o; have := Gd.o; intro i hi; simp at hi; subst hi; exact .inr (by omega))); clear hf hk)
  | (go_at_call 23; refine (head_ver Gu.o).mono ?_; rintro e w5 ⟨rfl, hf, hk⟩; have Gp := qI hf; have Gs := qI (Gj.o.trans hk (by have := Gf.o; have := Gd.o; intro i hi; simp at hi; subst hi; exact .inr (by omega))); clear hf hk)
  | (go_at_call 24; refine (head_type Gv.o).mono ?_; rintro e w3 ⟨rfl, hf, hk⟩; have Gt := qI hf; have Gg := qI (Gc.o.trans hk (by have := Gf.o; have := Gd.o; intro i hi; simp at hi; subst hi; exact .inr (by omega))); clear hf hk)
  | (go_at_call 80; refine (CU.o _ Ge.o).mono ?_; rintro e w8 ⟨rfl, hk⟩; have Jb := qI (Ge.o.then hk); clear hk)
  | (go_at_call 30; refine Gw.o.mono ?_; rintro e w9 ⟨rfl, rfl⟩)
  | (go_at_call 79; refine (CP.o _).mono ?_; rintro e w7 ⟨rfl, hk⟩; have Ge := qI (Gr.o.then hk); have Gw := qI (fdone_any (Gq.o.kept0 hk)); clear hk)
  | (go_at_call 37; refine CO.o.mono ?_; rintro e w2 ⟨⟨g1, hg1, rfl, hf⟩, hk⟩; have Gf := qI hg1; have Gv := qI hf; have Gc := qI (HK.o.then hk); clear hg1 hf hk y0 y1 y2 y3 y4)
 refine bodyPost_ret (v := .tuple #[.int .i64 0, .int .i64 0, .int .i64 130]) (by simp [results, Tryz.results34, go_sem]) rfl ?_
 exact ⟨rfl, Ge.o⟩
theorem takes_eq {α : Type} {a b : List α} {k : Nat} (h : a.take k = b.take k) (ha : k < a.length) (hb : k < b.length) (he : a[k] = b[k]) : a.take (k + 1) = b.take (k + 1) := by
 rw [List.take_succ_eq_append_getElem ha, List.take_succ_eq_append_getElem hb, h, he]
theorem sameT_any {w : World} {a b : Option Addr} {c d : Nat} {la lb : List ByteArray} (ha : Texts w (.slice a la.length c) la) (hb : Texts w (.slice b lb.length d) lb) (hn : la.length ≤ 1000000000000) (hm : lb.length ≤ 1000000000000) :
  Calls Tryz.prog 69 #[.slice a la.length c, .slice b lb.length d] w fun e w' => e = .returned (.bool (decide (la = lb))) ∧ Kept [] w w' := by
 have HA := qI ha
 have HB := qI hb
 obtain ⟨n, Gl⟩ : ∃ n, Hid (la.length = n) := ⟨_, qI rfl⟩
 obtain ⟨m, Gm⟩ : ∃ m, Hid (lb.length = m) := ⟨_, qI rfl⟩
 rw [Gl.o] at hn HA ⊢
 rw [Gm.o] at hm HB ⊢
 have hnI : (n : Int) ≤ 1000000000000 := by omega
 have hmI : (m : Int) ≤ 1000000000000 := by omega
 clear ha hb
 by_cases hnm : n = m
 rotate_left
 ·have HE : Hid (decide (la = lb) = false) := qI (decide_eq_false (fun e => hnm (by rw [← Gl.o, ← Gm.o, e])))
  obtain ⟨f1, f2⟩ := int_ne (a := (n : Int)) (b := (m : Int)) (by omega)
  clear hnm hn hm
  go_enter Tryz.func69, Tryz.ntmps69
  go_wp2_with fail
  go_ret
  rw [HE.o]
  exact ⟨rfl, Kept.refl _ _⟩
 subst hnm
 clear hn hm
 go_enter Tryz.func69, Tryz.ntmps69
 go_wp2_with fail
 go_loopw [5] (fun i wr => ∃ k : Nat, i = .int .i64 k ∧ k ≤ n ∧ Hid (la.take k = lb.take k) ∧ Kept [] w wr) (fun i _ => n - (intOf i).toNat)
 case atStart => exact ⟨0, rfl, Nat.zero_le _, qI rfl, Kept.refl _ _⟩
 case round =>
  obtain ⟨k, rfl, hk, ht, hkw⟩ := hrel
  have Gx := qI hkw
  by_cases hlt : k < n
  ·have hltI : (k : Int) < n := by omega
   have hka : k < la.length := by rw [Gl.o]; exact hlt
   have hkb : k < lb.length := by rw [Gm.o]; exact hlt
   obtain ⟨ga, oa, rfl, qa⟩ := Texts.at (l := la) (c := c) (by rw [Gl.o]; exact Texts.kept0 HA.o hkw) hka
   obtain ⟨gb, ob, rfl, qb⟩ := Texts.at (l := lb) (c := d) (by rw [Gm.o]; exact Texts.kept0 HB.o hkw) hkb
   have ea := ext_cell qa
   have eb := ext_cell qb
   have Gy := qI (takes_eq ht.o hka hkb)
   have Gz : Hid (la[k] ≠ lb[k] → decide (la = lb) = false) := qI (fun h => decide_eq_false (fun e => h (by subst e; rfl)))
   have Jc := qI hlt
   clear hk ht hkw qa qb
   revert ea eb Gy Gz
   generalize la[k] = x
   generalize lb[k] = y
   intro ea eb Gy Gz
   clear hlt hka hkb
   by_cases hxy : x = y
   ·obtain ⟨f1, f2⟩ := str_eq hxy
    have Ja := qI (Gy.o hxy)
    clear hxy
    go_wp2_with fail
    refine wp_region_ext wr (by kernel_rfl) (by kernel_rfl) (Kept.refl _ _) ?_
    repeat go_big_quiet_step (fail)
    refine wpQuiet_nil ?_
    intro w2 hk2
    clear ea eb
    go_wp2_with fail
    case roundEnd => exact ⟨⟨k + 1, by go_num, by have := Jc.o; omega, Ja, Gx.o.then hk2⟩, by have := Jc.o; simp [intOf]; omega⟩
   ·obtain ⟨f1, f2⟩ := str_ne hxy
    have Ja := qI (Gz.o hxy)
    clear hxy
    go_wp2_with fail
    refine wp_region_ext wr (by kernel_rfl) (by kernel_rfl) (Kept.refl _ _) ?_
    repeat go_big_quiet_step (fail)
    refine wpQuiet_nil ?_
    intro w2 hk2
    clear ea eb
    go_wp2_with fail
    go_ret
    rw [Ja.o]
    exact ⟨rfl, Gx.o.then hk2⟩
  ·obtain rfl : k = n := by omega
   have hltI : ¬ (k : Int) < k := by omega
   have HE : Hid (decide (la = lb) = true) := qI (decide_eq_true (by
    have h9 := ht.o
    rw [List.take_of_length_le (by rw [Gl.o]; exact Nat.le_refl _), List.take_of_length_le (by rw [Gm.o]; exact Nat.le_refl _)] at h9
    exact h9))
   clear hlt ht hkw hk
   go_wp2_with fail
   go_ret
   rw [HE.o]
   exact ⟨rfl, Gx.o⟩
def sameRoleB (r s : RoleS) : Bool := decide (r.thr = s.thr) && decide (r.keys = s.keys)
theorem sameRole_any {w : World} {a b : Option Addr} {c d : Nat} {r s : RoleS} (ha : Texts w (.slice a r.keys.length c) r.keys) (hb : Texts w (.slice b s.keys.length d) s.keys) (hn : r.keys.length ≤ 1000000000000) (hm : s.keys.length ≤ 1000000000000) :
  Calls Tryz.prog 22 #[.agg #[.slice a r.keys.length c, .int .i64 r.thr], .agg #[.slice b s.keys.length d, .int .i64 s.thr]] w fun e w' => e = .returned (.bool (sameRoleB r s)) ∧ Kept [] w w' := by
 obtain ⟨W0, Ga⟩ : ∃ W0, Hid (W0 = (w.alloc (.cells #[.slice a r.keys.length c, .int .i64 r.thr] 43)).alloc (.cells #[.slice b s.keys.length d, .int .i64 s.thr] 43)) := ⟨_, qI rfl⟩
 have Gc : Hid (Kept [] w W0) := qI (by rw [Ga.o]; exact ((Kept.refl _ w).alloc _).alloc _)
 have Gi : Hid (W0.heap[w.heap.size]? = some (.cells #[.slice a r.keys.length c, .int .i64 r.thr] 43 (0, 0))) := qI (by rw [Ga.o]; exact ((Kept.refl [] _).alloc _).heap (block_alloc rfl) (by simp))
 have Jd : Hid (W0.heap[w.heap.size + 1]? = some (.cells #[.slice b s.keys.length d, .int .i64 s.thr] 43 (0, 0))) := qI (by rw [Ga.o]; exact block_alloc (by simp))
 have CT := qI (sameT_any (ha.kept0 Gc.o) (hb.kept0 Gc.o) hn hm)
 have y0 := cell_head (o := 0) (v := .slice a r.keys.length c) Gi.o rfl
 have y1 := cell_head (o := 1) (v := .int .i64 r.thr) Gi.o rfl
 have z0 := cell_head (o := 0) (v := .slice b s.keys.length d) Jd.o rfl
 have z1 := cell_head (o := 1) (v := .int .i64 s.thr) Jd.o rfl
 have HS : Hid (sameRoleB r s = (decide (r.thr = s.thr) && decide (r.keys = s.keys))) := qI rfl
 clear ha hb hn hm
 revert CT HS
 generalize decide (r.keys = s.keys) = q
 intro CT HS
 by_cases ht : r.thr = s.thr
 ·obtain ⟨f1, f2⟩ := int_eq ht
  rw [decide_eq_true ht] at HS
  clear ht
  go_enter Tryz.func22, Tryz.ntmps22
  go_upto_region 1 with fail
  rw [← Ga.o]
  go_wp2_with (go_at_call 69; refine CT.o.mono ?_; rintro e w1 ⟨rfl, hk1⟩; have Gg := qI hk1; clear hk1)
  go_ret
  exact ⟨by rw [HS.o]; rfl, Gc.o.then Gg.o⟩
 ·obtain ⟨f1, f2⟩ := int_ne ht
  rw [decide_eq_false ht] at HS
  clear ht
  go_enter Tryz.func22, Tryz.ntmps22
  go_upto_region 1 with fail
  rw [← Ga.o]
  go_wp2_with fail
  go_ret
  exact ⟨by rw [HS.o]; rfl, Gc.o⟩
end Go.Proofs.YtckbnjipecclaaaGreatDoor
namespace Go.Proofs
open Go.Shelf
def Tryz.keysA_ren : Go.Shelf.Ren := ⟨fun | 7 => 78 | 10 => 111 | n => n, fun | 23 => 106 | 26 => 9 | 3 => 24 | 28 => 109 | 0 => 0 | 27 => 108 | 33 => 57 | 4 => 4 | n => n, fun | n => n⟩
theorem Tryz.keysA : Go.Proofs.SlLaysZ.n7 Tryz.prog Tryz.keysA_ren := {
 mixed := by kernel_rfl
 f7 := ⟨Tryz.f78.name, by decide, Tryz.func78.trans (congrArg some (by kernel_rfl))⟩
 f10 := ⟨Tryz.f111.name, by decide, Tryz.func111.trans (congrArg some (by kernel_rfl))⟩
 t0 := Tryz.underlying0
 a0 := Tryz.isAgg0
 z0 := Tryz.sizeOf0
 v0 := Tryz.zeroValue0
 t4 := Tryz.underlying4
 a4 := Tryz.isAgg4
 z4 := Tryz.sizeOf4
 v4 := Tryz.zeroValue4
 t23 := Tryz.underlying106
 a23 := Tryz.isAgg106
 z23 := Tryz.sizeOf106
 v23 := Tryz.zeroValue106
 t26 := Tryz.underlying9
 a26 := Tryz.isAgg9
 z26 := Tryz.sizeOf9
 v26 := Tryz.zeroValue9
 t27 := Tryz.underlying108
 a27 := Tryz.isAgg108
 z27 := Tryz.sizeOf108
 v27 := Tryz.zeroValue108
 t28 := Tryz.underlying109
 a28 := Tryz.isAgg109
 z28 := Tryz.sizeOf109
 v28 := Tryz.zeroValue109
 t33 := Tryz.underlying57
 a33 := Tryz.isAgg57
 z33 := Tryz.sizeOf57
 v33 := Tryz.zeroValue57 }
def Tryz.sortedA_ren : Go.Shelf.Ren := ⟨fun | 6 => 77 | 8 => 109 | 9 => 110 | 11 => 146 | 13 => 148 | 12 => 147 | 23 => 190 | 24 => 191 | 14 => 181 | 15 => 182 | 16 => 183 | 17 => 184 | 18 => 185 | 19 => 186 | 20 => 187 | 21 => 188 | 22 => 189 | 25 => 210 | 26 => 211 | 27 => 212 | 28 => 213 | 29 => 214 | 30 => 160 | 31 => 227 | n => n, fun | 26 => 9 | 28 => 109 | 24 => 41 | 0 => 0 | 3 => 3 | 37 => 125 | 48 => 139 | 50 => 225 | 4 => 4 | 40 => 217 | 39 => 216 | 45 => 221 | 5 => 5 | 9 => 9 | 51 => 235 | 55 => 239 | 57 => 249 | 58 => 164 | 33 => 57 | n => n, fun | n => n⟩
theorem Tryz.sortedA : Go.Proofs.SlLaysZ.n6 Tryz.prog Tryz.sortedA_ren := {
 mixed := by kernel_rfl
 f6 := ⟨Tryz.f77.name, by decide, Tryz.func77.trans (congrArg some (by kernel_rfl))⟩
 f8 := ⟨Tryz.f109.name, by decide, Tryz.func109.trans (congrArg some (by kernel_rfl))⟩
 f11 := ⟨Tryz.f146.name, by decide, Tryz.func146.trans (congrArg some (by kernel_rfl))⟩
 t0 := Tryz.underlying0
 a0 := Tryz.isAgg0
 z0 := Tryz.sizeOf0
 v0 := Tryz.zeroValue0
 t24 := Tryz.underlying41
 a24 := Tryz.isAgg41
 z24 := Tryz.sizeOf41
 v24 := Tryz.zeroValue41
 t26 := Tryz.underlying9
 a26 := Tryz.isAgg9
 z26 := Tryz.sizeOf9
 v26 := Tryz.zeroValue9
 t28 := Tryz.underlying109
 a28 := Tryz.isAgg109
 z28 := Tryz.sizeOf109
 v28 := Tryz.zeroValue109
 i26 := by kernel_rfl }
def Tryz.sortA_ren : Go.Shelf.Ren := ⟨fun | 6 => 110 | 8 => 148 | 9 => 147 | 19 => 190 | 20 => 191 | 21 => 181 | 22 => 182 | 23 => 183 | 24 => 184 | 25 => 185 | 26 => 186 | 27 => 187 | 28 => 188 | 29 => 189 | 36 => 210 | 31 => 211 | 32 => 212 | 37 => 213 | 38 => 214 | 39 => 160 | 41 => 227 | n => n, fun | 27 => 41 | 29 => 9 | 3 => 3 | 32 => 125 | 26 => 41 | 0 => 0 | 44 => 139 | 46 => 225 | 4 => 4 | 36 => 217 | 35 => 216 | 41 => 221 | 5 => 5 | 9 => 9 | 53 => 235 | 57 => 239 | 63 => 249 | 64 => 164 | n => n, fun | n => n⟩
theorem Tryz.sortA : Go.Proofs.SlLaysM.n6 Tryz.prog Tryz.sortA_ren := {
 mixed := by kernel_rfl
 f6 := ⟨Tryz.f110.name, by decide, Tryz.func110.trans (congrArg some (by kernel_rfl))⟩
 f8 := Tryz.func148.trans (congrArg some (by kernel_rfl))
 f9 := ⟨Tryz.f147.name, by decide, Tryz.func147.trans (congrArg some (by kernel_rfl))⟩
 f19 := Tryz.func190.trans (congrArg some (by kernel_rfl))
 f20 := Tryz.func191.trans (congrArg some (by kernel_rfl))
 f21 := ⟨Tryz.f181.name, by decide, Tryz.func181.trans (congrArg some (by kernel_rfl))⟩
 f22 := ⟨Tryz.f182.name, by decide, Tryz.func182.trans (congrArg some (by kernel_rfl))⟩
 f23 := ⟨Tryz.f183.name, by decide, Tryz.func183.trans (congrArg some (by kernel_rfl))⟩
 f24 := ⟨Tryz.f184.name, by decide, Tryz.func184.trans (congrArg some (by kernel_rfl))⟩
 f25 := ⟨Tryz.f185.name, by decide, Tryz.func185.trans (congrArg some (by kernel_rfl))⟩
 f26 := ⟨Tryz.f186.name, by decide, Tryz.func186.trans (congrArg some (by kernel_rfl))⟩
 f27 := ⟨Tryz.f187.name, by decide, Tryz.func187.trans (congrArg some (by kernel_rfl))⟩
 f28 := ⟨Tryz.f188.name, by decide, Tryz.func188.trans (congrArg some (by kernel_rfl))⟩
 f29 := ⟨Tryz.f189.name, by decide, Tryz.func189.trans (congrArg some (by kernel_rfl))⟩
 f31 := Tryz.func211.trans (congrArg some (by kernel_rfl))
 f32 := Tryz.func212.trans (congrArg some (by kernel_rfl))
 f36 := ⟨Tryz.f210.name, by decide, Tryz.func210.trans (congrArg some (by kernel_rfl))⟩
 f37 := ⟨Tryz.f213.name, by decide, Tryz.func213.trans (congrArg some (by kernel_rfl))⟩
 f38 := ⟨Tryz.f214.name, by decide, Tryz.func214.trans (congrArg some (by kernel_rfl))⟩
 f39 := ⟨Tryz.f160.name, by decide, Tryz.func160.trans (congrArg some (by kernel_rfl))⟩
 f41 := ⟨Tryz.f227.name, by decide, Tryz.func227.trans (congrArg some (by kernel_rfl))⟩
 t0 := Tryz.underlying0
 a0 := Tryz.isAgg0
 z0 := Tryz.sizeOf0
 v0 := Tryz.zeroValue0
 t3 := Tryz.underlying3
 a3 := Tryz.isAgg3
 z3 := Tryz.sizeOf3
 v3 := Tryz.zeroValue3
 t4 := Tryz.underlying4
 a4 := Tryz.isAgg4
 z4 := Tryz.sizeOf4
 v4 := Tryz.zeroValue4
 t5 := Tryz.underlying5
 a5 := Tryz.isAgg5
 z5 := Tryz.sizeOf5
 v5 := Tryz.zeroValue5
 t9 := Tryz.underlying9
 a9 := Tryz.isAgg9
 z9 := Tryz.sizeOf9
 v9 := Tryz.zeroValue9
 t26 := Tryz.underlying41
 a26 := Tryz.isAgg41
 z26 := Tryz.sizeOf41
 v26 := Tryz.zeroValue41
 t27 := Tryz.underlying41
 a27 := Tryz.isAgg41
 z27 := Tryz.sizeOf41
 v27 := Tryz.zeroValue41
 t29 := Tryz.underlying9
 a29 := Tryz.isAgg9
 z29 := Tryz.sizeOf9
 v29 := Tryz.zeroValue9
 t32 := Tryz.underlying125
 a32 := Tryz.isAgg125
 z32 := Tryz.sizeOf125
 v32 := Tryz.zeroValue125
 t35 := Tryz.underlying216
 a35 := Tryz.isAgg216
 z35 := Tryz.sizeOf216
 v35 := Tryz.zeroValue216
 t36 := Tryz.underlying217
 a36 := Tryz.isAgg217
 z36 := Tryz.sizeOf217
 v36 := Tryz.zeroValue217
 t41 := Tryz.underlying221
 a41 := Tryz.isAgg221
 z41 := Tryz.sizeOf221
 v41 := Tryz.zeroValue221
 t44 := Tryz.underlying139
 a44 := Tryz.isAgg139
 z44 := Tryz.sizeOf139
 v44 := Tryz.zeroValue139
 t46 := Tryz.underlying225
 a46 := Tryz.isAgg225
 z46 := Tryz.sizeOf225
 v46 := Tryz.zeroValue225
 t53 := Tryz.underlying235
 a53 := Tryz.isAgg235
 z53 := Tryz.sizeOf235
 v53 := Tryz.zeroValue235
 t57 := Tryz.underlying239
 a57 := Tryz.isAgg239
 z57 := Tryz.sizeOf239
 v57 := Tryz.zeroValue239
 t63 := Tryz.underlying249
 a63 := Tryz.isAgg249
 z63 := Tryz.sizeOf249
 v63 := Tryz.zeroValue249
 t64 := Tryz.underlying164
 a64 := Tryz.isAgg164
 z64 := Tryz.sizeOf164
 v64 := Tryz.zeroValue164 }
end Go.Proofs
namespace Go.Proofs.YtckbnjipecclaaaGreatDoor
open Go.RowKit
open Go.Maps (Keyed)
def MapIs (P : Program) (w : World) (k b c : Nat) (M : Lit → Option Value) : Prop :=
 ∃ D, w.ownsMap P k heldE b c D ∧ Maps.size D = c ∧ ∀ kl, M kl = look D kl ∧ (Maps.has D kl = (M kl).isSome)
section
variable {P : Program} {w : World} {k b c : Nat} {M : Lit → Option Value}
theorem MapIs.at (h : MapIs P w k b c M) : MapAt P w k b c M := by
 obtain ⟨D, h1, -, h3⟩ := h
 exact ⟨D, h1, h3⟩
theorem MapIs.kept {X : List Nat} {w' : World} (h : MapIs P w k b c M) (hk : Kept X w w') (hb : b ∉ X) : MapIs P w' k b c M := by
 obtain ⟨D, ⟨es, clock, h1, h2⟩, hs, h3⟩ := h
 exact ⟨D, ⟨es, clock, hk.heap h1 hb, h2⟩, hs, h3⟩
theorem MapIs.kept0 {w' : World} (h : MapIs P w k b c M) (hk : Kept [] w w') : MapIs P w' k b c M := h.kept hk (List.not_mem_nil)
theorem mapIs_made (P : Program) (w : World) (k : Nat) : MapIs P (w.alloc (.map #[] 0)) k w.heap.size 0 (fun _ => none) :=
 ⟨.map [], World.ownsMap_made _ _ _ _, rfl, fun kl => ⟨by simp [look, DataW.atKey], by simp [Maps.has]⟩⟩
theorem turned_kept {w' : World} (h : w.mapTurned w' b) : Kept [b] w w' ∧ w'.heap.size = w.heap.size := by
 refine ⟨(Kept.refl _ _).grown h.grown (fun k e => by simp at e; simp [e]), ?_⟩
 obtain ⟨_, _, _, _, _, rfl⟩ := h
 simp [Go.ChangeMaps.setBlock]
theorem MapIs.update {t e : TypeId} (h : MapIs P w k b c M) (K : Keyed P k) (ht : P.underlying t = some (.map k e)) (hn : c < maxLen) {key : Value} {kl : Lit} (hkey : keyOf P k key = some kl) (val : Value) :
  ∃ w', (Instr.mapUpdate t (.map (some b)) key val).run P w = .ok () w' ∧ MapIs P w' k b (if (M kl).isSome then c else c + 1) (fun z => if z.sameKey kl then some val else M z) ∧ Kept [b] w w' ∧ w'.heap.size = w.heap.size := by
 obtain ⟨D, hown, hs, h3⟩ := h
 obtain ⟨w', hrun, r1, r2⟩ := hown.store K ht hn hkey (val := val) (R := heldE) (d := .held val) (ps := []) rfl
 have hsz := Maps.size_put (k := kl) (hown.tidy K) (.held val)
 rw [(h3 kl).2, hs] at hsz
 obtain ⟨k1, k2⟩ := turned_kept r2
 refine ⟨w', hrun, ⟨_, ?_, hsz, ?_⟩, k1, k2⟩
 ·obtain ⟨es, clock, hb, F, hle, e1⟩ := r1
  refine ⟨es, clock, hb, F, ?_, e1⟩
  rw [e1] at hsz
  rw [← hsz]
  simp [Maps.size, Go.length_sorted]
 ·intro z
  show (if z.sameKey kl then some val else M z) = look (D.put kl (.held val)) z ∧ Maps.has (D.put kl (.held val)) z = (if z.sameKey kl then some val else M z).isSome
  by_cases hz : z.sameKey kl = true
  ·have hz' := WideAt.sameKey_eq hz
   subst hz'
   rw [if_pos hz]
   refine ⟨?_, Maps.has_put_same hown.isMap (isKey_of K hkey) _⟩
   rw [look, Maps.atKey_put_same hown.isMap (isKey_of K hkey)]
  ·have hne : z ≠ kl := by
    intro e
    subst e
    exact hz (WideAt.sameKey_self (isKey_of K hkey))
   rw [if_neg hz]
   exact ⟨by rw [look, Maps.atKey_put_other hne]; exact (h3 z).1, by rw [Maps.has_put_other hne]; exact (h3 z).2⟩
end
open Go.RowKit Go.Maps Go.Sort Go.Shelf Go.WideElems Go.WideShapes
theorem sortsK (m : Nat) : AnyZ.SortsIn Tryz.prog Tryz.sortedA_ren Fence.wide m :=
 ⟨fun blk off cap ss W hH hblk hsz => callsIn_wide.2 (AnyM.slices_Sort_string Tryz.sortA blk off cap ss W hH hblk hsz),
  fun p cap W => callsIn_wide.2 (AnyM.slices_Sort_string_none Tryz.sortA p cap W)⟩
def oneM (x : List UInt8) (v : Value) : Lit → Option Value := fun z => if z.sameKey (.string x) = true then some v else none
theorem one_perm {w : World} {mb cnt : Nat} {D : DataW Value} {x : List UInt8} {v : Value} (hown : w.ownsMap Tryz.prog 9 heldE mb cnt D) (hD : ∀ kl, oneM x v kl = look D kl ∧ (Maps.has D kl = (oneM x v kl).isSome)) : [x].Perm (strKeys D) := by
 obtain ⟨es, rfl, hp, _⟩ := hown.entries keyStr
 obtain ⟨es', clock, _, F, hs, hDD⟩ := hown
 have hk : ∀ p ∈ es, ∃ x, p.1 = Lit.string x := by
  intro p hp'
  have e : es = (es'.toList.map (rg Tryz.prog 9 heldE)).foldr DataW.insert [] := DataW.map.inj hDD
  rw [e] at hp'
  obtain ⟨x, hx, rfl⟩ := List.mem_map.1 (mem_sorted.1 hp')
  obtain ⟨y, hy⟩ := F.reads x hx
  rw [rg_of hy]
  obtain ⟨n, _, h2, _⟩ := Maps.keyOf_str Tryz.underlying9 (rd_key hy)
  exact ⟨n, h2⟩
 refine perm_strKeys hp hk (List.nodup_cons.2 ⟨List.not_mem_nil, List.nodup_nil⟩) fun y => ?_
 rw [(hD _).2]
 unfold oneM
 rw [sameStr]
 by_cases e : y = x <;> simp [e]
theorem keysOne_any {w : World} {mb : Nat} {id : ByteArray} {v : Value} (h : MapIs Tryz.prog w 9 mb 1 (oneM id.data.toList v)) :
  (Calls Tryz.prog 78 #[.map (some mb)] w fun e w' => e = .returned (.func (.func 111) #[] #[.pointer (some ⟨w.heap.size, 0, none⟩)]) ∧ w' = w.alloc (.cells #[.map (some mb)] 106)) ∧
  Calls Tryz.prog 77 #[.func (.func 111) #[] #[.pointer (some ⟨w.heap.size, 0, none⟩)]] (w.alloc (.cells #[.map (some mb)] 106)) fun e w' => ∃ a c, e = .returned (.slice a 1 c) ∧ Slc w' 1 (.slice a 1 c) 1 [.string id] ∧ Kept [] w w' := by
 obtain ⟨D, hown, hsz, hD⟩ := h
 have hperm := one_perm hown hD
 have hbl := hown.lt
 have hseq : SeqGives Fence.wide 2 Tryz.prog 111 #[.pointer (some ⟨w.heap.size, 0, none⟩)] encStr (fun ss => ss.Perm (strKeys D)) (Maps.size D) (w.alloc (.cells #[.map (some mb)] 106)) :=
  AnyZ.keys_gives (ρ := Tryz.keysA_ren) { Tryz.keysA with } Fence.wide _ trivial rfl (by omega) w.heap.size mb 1 D _ (by simp) (by simp) (by
   obtain ⟨es, clock, hb, Ft, hs, hDD⟩ := hown
   exact ⟨es, clock, (Below.heap_alloc _ _ mb hbl).trans hb, Ft, hs, hDD⟩)
 refine ⟨callsIn_wide.1 (AnyZ.keys_in Tryz.keysA Fence.wide 5 trivial rfl (some mb) w), ?_⟩
 have cS := AnyZ.sorted_in Tryz.sortedA Fence.wide 5 trivial trivial trivial trivial rfl (by omega) (sortsK _) (enters_of Tryz.func110 (by kernel_rfl) rfl) 111 #[.pointer (some ⟨w.heap.size, 0, none⟩)] trivial (enters_of Tryz.func111 (by kernel_rfl) rfl) _ _ (by rw [hsz]; simp only [maxLen]; omega) (by rw [hsz]; omega) _ hseq
 change CallsIn _ _ Tryz.prog 77 _ _ _ at cS
 refine (callsIn_wide.1 cS).mono ?_
 rintro e w1 ⟨v, ss, rfl, hS, hrow, hnil, hb⟩
 have e0 : [id.data.toList].mergeSort leB = [id.data.toList] := by simp
 have e1 : ss.mergeSort leB = [id.data.toList] := (mergeSort_of_perm (hS.trans hperm.symm)).trans e0
 have e2 : ss.length = 1 := (hS.trans hperm.symm).length_eq
 rw [show (fun x y : List UInt8 => decide (x ≤ y)) = leB from rfl, e1, e2] at hrow
 obtain ⟨va, vc, rfl, -, -⟩ := (Slc.of_row hrow).form
 have hs2 := Slc.of_row hrow
 have e3 : [id.data.toList].map encStr = [Value.string id] := by
  show [Value.string ⟨id.data.toList.toArray⟩] = _
  cases id; simp
 rw [e3] at hs2
 exact ⟨va, vc, rfl, hs2, ((Kept.refl [] w).alloc _).then (Kept.of_below (hb.mono (by simp)))⟩
end Go.Proofs.YtckbnjipecclaaaGreatDoor

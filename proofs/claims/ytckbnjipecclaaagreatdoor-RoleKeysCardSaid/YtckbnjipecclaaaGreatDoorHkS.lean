/- Parts of one proof, merged: XID XIE XIF XIG. -/
import Derived.Test.YtckbnjipecclaaaGreatDoorHkR
import Derived.Lib.ValidLaws
set_option linter.all false
set_option maxHeartbeats 12800000
set_option maxRecDepth 10000
set_option linter.unusedVariables false
set_option linter.unusedSimpArgs false
set_option linter.unnecessarySimpa false
namespace Go.Proofs.YtckbnjipecclaaaGreatDoor
open Go.RowKit
theorem bytes_ascii {s : ByteArray} (h : ∀ b, b ∈ s.data.toList → b.toNat < 128) : bytesOk s = true := by
 unfold bytesOk
 rw [Lib.validD_ascii s.data.toList.length _ (fun b hb => h b (List.mem_of_mem_take hb)), List.drop_length]
 rfl
theorem hexd_low (n : Nat) : isLow (hexd n) = true ∨ 16 ≤ n := by
 rcases Nat.lt_or_ge n 16 with h | h
 ·refine .inl ?_
  have : ∀ m : Fin 16, isLow (hexd m.val) = true := by decide
  exact this ⟨n, h⟩
 ·exact .inr h
theorem low_128 {b : UInt8} (h : isLow b = true) : b.toNat < 128 := by
 have : ∀ c : Fin 256, isLow (UInt8.ofNat c.val) = true → (UInt8.ofNat c.val).toNat < 128 := by decide +kernel
 have h2 := this ⟨b.toNat, UInt8.toNat_lt b⟩
 simp only [UInt8.ofNat_toNat] at h2
 exact h2 h
theorem hexL_low (l : List UInt8) : ∀ b, b ∈ hexL l → isLow b = true := by
 intro b hb
 obtain ⟨c, -, hc⟩ := List.mem_flatMap.1 hb
 have hc' := UInt8.toNat_lt c
 simp only [List.mem_cons, List.not_mem_nil, or_false] at hc
 rcases hc with rfl | rfl
 ·exact (hexd_low _).resolve_right (by omega)
 ·exact (hexd_low _).resolve_right (by omega)
theorem hexS_list (l : List UInt8) : (hexS l).data.toList = hexL l := by rw [hexS]; exact strB_list _
theorem hexS_ok (l : List UInt8) : bytesOk (hexS l) = true := bytes_ascii fun b hb => low_128 (hexL_low l b (by rwa [hexS_list] at hb))
theorem lits_ok : bytesOk ⟨#[98, 105, 116, 115]⟩ = true ∧ bytesOk ⟨#[104, 101, 105, 103, 104, 116]⟩ = true ∧ bytesOk ⟨#[112, 117, 98, 108, 105, 99]⟩ = true ∧ bytesOk ⟨#[107, 101, 121, 116, 121, 112, 101]⟩ = true ∧ bytesOk ⟨#[115, 99, 104, 101, 109, 101]⟩ = true ∧ bytesOk ⟨#[107, 101, 121, 118, 97, 108]⟩ = true ∧ bytesOk ⟨#[108, 97, 109, 112, 111, 114, 116, 45, 109, 101, 114, 107, 108, 101]⟩ = true ∧ bytesOk ⟨#[115, 104, 97, 50, 53, 54]⟩ = true := by
 refine ⟨?_, ?_, ?_, ?_, ?_, ?_, ?_, ?_⟩
 all_goals exact bytes_ascii (by decide)
theorem right_map {n : Nat} (m : List (ByteArray × V n)) (h1 : ∀ p, p ∈ m → bytesOk p.1 = true) (h2 : (m.map (fun p => p.1)).Nodup) (h3 : ∀ p, p ∈ m → rightV n p.2 = true) : rightV (n + 1) (mapV m : VS (V n)) = true := by
 have e : rightV (n + 1) (mapV m : VS (V n)) = (ownRight (mapV m) && (mapV m).kids.all (rightV n)) := rfl
 rw [e, Bool.and_eq_true]
 refine ⟨?_, ?_⟩
 ·have e2 : ownRight (mapV m : VS (V n)) = (keysOk m && true && true && true) := rfl
  rw [e2, Bool.and_true, Bool.and_true, Bool.and_true, keysOk, decide_eq_true h2, Bool.and_true, List.all_eq_true]
  exact h1
 ·rw [List.all_eq_true]
  intro x hx
  obtain ⟨p, hp, rfl⟩ := List.mem_map.1 (by simpa [VS.kids, mapV] using hx : x ∈ m.map (fun p => p.2))
  exact h3 p hp
theorem right_text {n : Nat} (s : ByteArray) (h : bytesOk s = true) : rightV (n + 1) (textV s : VS (V n)) = true := by
 have e : rightV (n + 1) (textV s : VS (V n)) = (ownRight (textV s : VS (V n)) && (textV s : VS (V n)).kids.all (rightV n)) := rfl
 rw [e, Bool.and_eq_true]
 have e2 : ownRight (textV s : VS (V n)) = (bytesOk s && true && true && true) := rfl
 exact ⟨by rw [e2, h]; rfl, rfl⟩
theorem right_int {n : Nat} (z : Int) (h0 : -9007199254740991 ≤ z) (h1 : z ≤ 9007199254740991) : rightV (n + 1) (intV z : VS (V n)) = true := by
 have e : rightV (n + 1) (intV z : VS (V n)) = (ownRight (intV z : VS (V n)) && (intV z : VS (V n)).kids.all (rightV n)) := rfl
 rw [e, Bool.and_eq_true]
 have e2 : ownRight (intV z : VS (V n)) = (decide (-9007199254740991 ≤ z ∧ z ≤ 9007199254740991) && true && true && true) := rfl
 exact ⟨by rw [e2, decide_eq_true ⟨h0, h1⟩]; rfl, rfl⟩
theorem key_check (k : KeyS) (h : mayKey k = true) : checkV 3 (keyV k) = 0 := by
 unfold mayKey mayBits at h
 simp only [Bool.and_eq_true, decide_eq_true_eq] at h
 obtain ⟨l1, l2, l3, l4, l5, l6, l7, l8⟩ := lits_ok
 rw [checkV_zero]
 refine ⟨by show (3 : Nat) ≤ 12; omega, by show (7 : Nat) ≤ 4096; omega, ?_⟩
 refine right_map (n := 2) _ (by simp [l4, l5, l6]) (by simp only [List.map_cons, List.map_nil]; decide) ?_
 intro p hp
 simp only [List.mem_cons, List.not_mem_nil, or_false] at hp
 rcases hp with rfl | rfl | rfl
 ·exact right_text (n := 1) _ l7
 ·exact right_text (n := 1) _ l8
 refine right_map (n := 1) _ (by simp [l1, l2, l3]) (by simp only [List.map_cons, List.map_nil]; decide) ?_
 intro p hp
 simp only [List.mem_cons, List.not_mem_nil, or_false] at hp
 rcases hp with rfl | rfl | rfl
 ·exact right_int (n := 0) _ (by omega) (by omega)
 ·exact right_int (n := 0) _ (by omega) (by omega)
 ·exact right_text (n := 0) _ (hexS_ok _)
def keyIdS (k : KeyS) : ByteArray := if mayKey k = true then hexS (shaL (encV 3 (keyV k)).1) else ⟨#[]⟩
theorem small_key_b (k : KeyS) (h : k.root.length = 32) : bytesV 3 (keyV k) ≤ 200 := by
 have e2 : bytesV 3 (keyV k) = 0 + (7 + (6 + (6 + 0))) + ((14 + 0 + 0) + ((6 + 0 + 0) + (bytesV 2 (valV k) + 0))) := rfl
 have e3 : bytesV 2 (valV k) = 0 + (4 + (6 + (6 + 0))) + ((0 + 0 + 0) + ((0 + 0 + 0) + (((hexS k.root).size + 0 + 0) + 0))) := rfl
 have e4 := hexS_size k.root
 rw [e2, e3, e4, h]
 omega
theorem key_enc (k : KeyS) (hr : k.root.length = 32) (h : mayKey k = true) : (encV 3 (keyV k)).2 = 0 ∧ (encV 3 (keyV k)).1.length ≤ 262144 := by
 have hc := key_check k h
 have hl := write_len 3 (sortV 3 (keyV k)) (by rw [right_sort]; exact (checkV_zero.1 hc).2.2)
 rw [bytes_sort, count_sort] at hl
 have hb := small_key_b k hr
 have hq : countV 3 (keyV k) = 7 := rfl
 have hle : (writeV 3 (sortV 3 (keyV k))).length ≤ 262144 := by omega
 rw [encV_fine hc hle]
 exact ⟨rfl, hle⟩
def zeroV {α : Type} : VS α := ⟨0, 0, ⟨#[]⟩, [], []⟩
theorem rep_zero {n : Nat} (S : Nat → Prop) (w : World) : Rep (n + 1) S w [.int .i64 0, .int .i64 0, .string ⟨#[]⟩, .slice none 0 0, .slice none 0 0] (zeroV : VS (V n)) := rep_leaf S w (zeroV : VS (V n)) rfl rfl (wf64 (i := 0) (by decide) (by decide)) (wf64 (i := 0) (by decide) (by decide))
theorem small_zero {n : Nat} : Small (n + 1) (zeroV : VS (V n)) := ⟨by show 1 + 0 ≤ 20000; omega, by show 0 + 0 + 0 ≤ 400000; omega⟩
theorem enc_zero {n : Nat} : encV (n + 1) (zeroV : VS (V n)) = ([], 40) := by
 have h : checkV (n + 1) (zeroV : VS (V n)) = 40 := rfl
 have h2 := encV_bad (n := n + 1) (v := (zeroV : VS (V n))) (by rw [h]; decide)
 rw [h] at h2
 exact h2
theorem keyId_any (k : KeyS) (hb : wf64I k.bits) (hr : k.root.length = 32) (w : World) (ht : Tabs w) (hks : KsAt w) : Calls Tryz.prog 14 #[.agg (keyA k)] w fun e w' => e = .returned (.string (keyIdS k)) ∧ Kept [] w w' := by
 obtain ⟨W0, Ga⟩ : ∃ W0, Hid (W0 = w.alloc (.cells (keyA k) 24)) := ⟨_, qI rfl⟩
 have Gc : Hid (Kept [] w W0) := qI (by rw [Ga.o]; exact (Kept.refl _ w).alloc _)
 have HA : Hid (KeyAt W0 w.heap.size k) := qI (by rw [Ga.o]; exact block_alloc rfl)
 have CV := qI (keyValue_any k hb hr W0)
 have Jd := qI hr
 have HT := qI (ht.kept0 Gc.o)
 have Gl := qI (hks.kept0 Gc.o)
 have Gp : Hid (keyIdS k = if mayKey k = true then hexS (shaL (encV 3 (keyV k)).1) else ⟨#[]⟩) := qI rfl
 have Ji := qI (key_enc k hr)
 have CZ : Hid (∀ w1 : World, Kept [] W0 w1 → Calls Tryz.prog 61 #[zero5] w1 fun e w' => (∃ a c, e = .returned (.tuple #[.slice a 0 c, .int .i64 40])) ∧ Kept [] w1 w') := qI (fun w1 hk => by
  refine (encode_any (n := 1) (rep_zero (n := 0) (fun _ => True) w1) small_zero (by decide) ((ht.kept0 Gc.o).kept0 hk)).mono ?_
  rintro e w' ⟨⟨a, c, he, -⟩, hk'⟩
  rw [enc_zero] at he
  exact ⟨⟨a, c, he⟩, hk'⟩)
 obtain ⟨KV, Gy⟩ : ∃ KV, Hid (KV = keyV k) := ⟨_, qI rfl⟩
 obtain ⟨X, HX⟩ : ∃ X, Hid (X = (encV 3 (keyV k)).1) := ⟨_, qI rfl⟩
 have CE : Hid (mayKey k = true → ∀ (w1 : World) (cs : List Value) (S : Nat → Prop), Kept [] W0 w1 → Rep 3 S w1 cs KV → Calls Tryz.prog 61 #[.agg cs.toArray] w1 fun e w' => (∃ a c, e = .returned (.tuple #[.slice a X.length c, .int .i64 0]) ∧ Bytes w' (.slice a X.length c) X) ∧ Kept [] w1 w') := qI (fun hm w1 cs S hk hrep => by
  rw [Gy.o] at hrep
  have h1 := encode_any hrep (small_key k hr) (by decide) ((ht.kept0 Gc.o).kept0 hk)
  rw [(key_enc k hr hm).1, ← HX.o] at h1
  exact h1)
 have Gz : Hid (mayKey k = true → X.length ≤ 262144) := qI (fun hm => by rw [HX.o]; exact (key_enc k hr hm).2)
 have Je : Hid (keyIdS k = if mayKey k = true then hexS (shaL X) else ⟨#[]⟩) := qI (by rw [HX.o]; exact Gp.o)
 clear hb hr ht hks Ji HX Gp
 by_cases hm : mayKey k = true
 rotate_left
 ·have Gv : Hid (∀ w' e, KeyAns W0 w' e k = (e = .returned zero5)) := qI (fun w' e => by unfold KeyAns; rw [if_neg hm])
  have Gw : Hid (keyIdS k = ⟨#[]⟩) := qI (by rw [Je.o, if_neg hm])
  clear hm
  go_enter Tryz.func14, Tryz.ntmps14
  go_upto_region 1 with fail
  rw [← Ga.o]
  go_wp2_with first
   | (refine wpList_load34 (by rfl) (.tmp 1) (by rfl) HA.o Jd.o (by rfl) ?_)
   | (go_at_call 8; refine CV.o.mono ?_; rintro e w1 ⟨he, hk1⟩; rw [Gv.o] at he; subst he; have Gg := qI hk1; clear hk1)
   | (go_at_call 61; refine (CZ.o _ Gg.o).mono ?_; rintro e w2 ⟨⟨a2, c2, rfl⟩, hk2⟩; have Gi := qI hk2; clear hk2)
  go_ret
  exact ⟨by rw [Gw.o]; rfl, (Gc.o.then Gg.o).then Gi.o⟩
 have Gv : Hid (∀ w' e, KeyAns W0 w' e k = New 3 W0 w' e (keyV k)) := qI (fun w' e => by unfold KeyAns; rw [if_pos hm])
 have Gw : Hid (keyIdS k = hexS (shaL X)) := qI (by rw [Je.o, if_pos hm])
 have CE := qI (CE.o hm)
 have Gz := qI (Gz.o hm)
 rw [← Gy.o] at Gv
 clear hm Gy
 go_enter Tryz.func14, Tryz.ntmps14
 go_upto_region 1 with fail
 rw [← Ga.o]
 go_upto_region 4 with first
  | (refine wpList_load34 (by rfl) (.tmp 1) (by rfl) HA.o Jd.o (by rfl) ?_)
  | (go_at_call 8; refine CV.o.mono ?_; rintro e w1 ⟨he, hk1⟩; rw [Gv.o] at he; obtain ⟨k3, m3, s3, p3, i3, c3, q3, j3, e3, rfl, ho3⟩ := new_fact he; have Gx := qI ho3; have Gg := qI hk1; clear hk1 he ho3)
  | (go_at_call 61; refine (CE.o _ _ _ Gg.o Gx.o.rep).mono ?_; rintro e w2 ⟨⟨a2, c2, rfl, hb2⟩, hk2⟩; have Jj := qI hb2; have Gi := qI hk2; clear hk2 hb2)
 have CO : Hid (Calls Tryz.prog 62 #[.slice (some ⟨w2.heap.size, 0, none⟩) 1 1] (w2.alloc (.cells #[.slice a2 X.length c2] 82)) fun e w' => e = .returned (.agg ((shaL X).map bv).toArray) ∧ Kept [] (w2.alloc (.cells #[.slice a2 X.length c2] 82)) w') := qI (by
  have hka := (Kept.refl [] w2).alloc (.cells #[.slice a2 X.length c2] 82)
  have h1 := of_any (w2.alloc (.cells #[.slice a2 X.length c2] 82)) w2.heap.size 0 1 [.slice a2 X.length c2] [X] (row_new w2 [.slice a2 X.length c2] _) ((All2.nil _).cons (Jj.o.kept0 hka)) (by have := Gz.o; simp; omega) (by simp) ((Gl.o.kept0 (Gg.o.then Gi.o)).kept0 hka)
  rw [List.flatten_cons, List.flatten_nil, List.append_nil] at h1
  exact h1)
 have Gq : Hid (Kept [] w2 (w2.alloc (.cells #[.slice a2 X.length c2] 82))) := qI ((Kept.refl _ _).alloc _)
 have Jf : Hid (∀ (w4 : World) (g : Nat), Sum32 w4 g (shaL X) → Calls Tryz.prog 44 #[.slice (some ⟨g, 0, none⟩) 32 32] w4 fun e w' => e = .returned (.string (hexS (shaL X))) ∧ Kept [] w4 w') := qI (fun w4 g h => by
  have hb : Bytes w4 (.slice (some ⟨g, 0, none⟩) (shaL X).length 32) (shaL X) := ⟨by simp, .inr (.inr ⟨g, 0, 32, rfl, by rw [shaL_len]; omega, by decide, ⟨h.range, h.lt⟩⟩)⟩
  have h1 := hex_any hb (by rw [shaL_len]; decide) (by intro e; have := shaL_len X; rw [e] at this; cases this)
  rw [shaL_len] at h1
  exact h1)
 generalize hsx : hexS (shaL X) = hx at Jf Gw
 clear hsx
 go_wp2_with first
  | (go_at_call 62; refine CO.o.mono ?_; rintro e w3 ⟨rfl, hk3⟩; have Ge := qI hk3; clear hk3)
  | (refine wpList_store32 (by rfl) (.tmp 5) (.tmp 16) (by rfl) (g := w3.heap.size) (l0 := outK startS 0) (block_alloc rfl) (outK_len _ _) (shaL_len _) (by rfl) (by rfl) ?_; intro w4 h4 hk4; have H4 := qI h4; have Gh := qI hk4; clear h4 hk4; simp only [Act.put])
  | (go_at_call 44; refine (Jf.o _ _ H4.o).mono ?_; rintro e w5 ⟨rfl, hk5⟩; have Gr := qI hk5; clear hk5)
 go_ret
 exact ⟨by rw [Gw.o]; rfl, (((((Gc.o.then Gg.o).then Gi.o).then Gq.o).then Ge.o).alloc _).trans Gh.o (by intro i hi; simp at hi; subst hi; refine .inr ?_; have := ((((Gc.o.then Gg.o).then Gi.o).then Gq.o).then Ge.o).size; omega) |>.then Gr.o⟩
def Fld (n : Nat) (w : World) (g : Nat) (v : VS (V n)) (bad : Bool) : Prop :=
 ∃ p c q d, w.heap[g]? = some (.cells #[.int .i64 v.kind, .int .i64 v.num, .string v.s, .slice p v.l.length c, .slice q v.m.length d, .bool bad] 103 (0, 0)) ∧
  Rep (n + 1) (fun k => k < g) w [.int .i64 v.kind, .int .i64 v.num, .string v.s, .slice p v.l.length c, .slice q v.m.length d] v
theorem Fld.kept {n : Nat} {X : List Nat} {w w' : World} {g : Nat} {v : VS (V n)} {bad : Bool} (h : Fld n w g v bad) (k : Kept X w w') (hX : ∀ i, i ∈ X → g < i) : Fld n w' g v bad := by
 obtain ⟨p, c, q, d, h1, h2⟩ := h
 exact ⟨p, c, q, d, k.heap h1 (fun e => by have := hX g e; omega), h2.kept k (fun i hi => by have := hX i hi; omega)⟩
theorem Fld.kept0 {n : Nat} {w w' : World} {g : Nat} {v : VS (V n)} {bad : Bool} (h : Fld n w g v bad) (k : Kept [] w w') : Fld n w' g v bad := h.kept k (by simp)
theorem Fld.lt {n : Nat} {w : World} {g : Nat} {v : VS (V n)} {bad : Bool} (h : Fld n w g v bad) : g < w.heap.size := by
 obtain ⟨p, c, q, d, h1, h2⟩ := h
 exact lt_of_block h1
theorem Fld.put {n : Nat} {w : World} {g : Nat} {v : VS (V n)} {bad : Bool} (h : Fld n w g v bad) (b : Bool) : Fld n (w.setCell ⟨g, 5, none⟩ (.bool b)) g v b := by
 obtain ⟨p, c, q, d, h1, h2⟩ := h
 exact ⟨p, c, q, d, block_setCell h1 rfl, h2.kept ((Kept.refl [g] w).setCell (.inl (by simp)) _) (fun i hi => by simp at hi; omega)⟩
theorem roleOf_any {n : Nat} {S : Nat → Prop} {w : World} {cs : List Value} {v : VS (V n)} (h : Rep (n + 1) S w cs v) : Calls Tryz.prog 37 #[.agg cs.toArray] w fun e w' => (∃ g, w.heap.size ≤ g ∧ e = .returned (.pointer (some ⟨g, 0, none⟩)) ∧ Fld n w' g v (decide (v.kind ≠ 6))) ∧ Kept [] w w' := by
 obtain ⟨vl, vm, lcs, mcs, ho⟩ := Rep.open_ h
 obtain ⟨p, c, q, d, rfl, rfl, rfl⟩ := ho.forms
 have H := qI h
 obtain ⟨W0, Ga⟩ : ∃ W0, Hid (W0 = w.alloc (.cells #[.int .i64 v.kind, .int .i64 v.num, .string v.s, .slice p v.l.length c, .slice q v.m.length d] 28)) := ⟨_, qI rfl⟩
 have Gc : Hid (Kept [] w W0) := qI (by rw [Ga.o]; exact (Kept.refl _ w).alloc _)
 have HB : Hid (BoxAt W0 w.heap.size v.kind v.num v.s (.slice p v.l.length c) (.slice q v.m.length d)) := qI (by rw [Ga.o]; exact box_at _ _ _ _ _ _ _)
 have HS : Hid (W0.heap.size = w.heap.size + 1) := qI (by rw [Ga.o]; simp)
 obtain ⟨c0, c1, c2, c3, c4⟩ := HB.o
 have HE : Hid (decide (v.kind ≠ 6) = (v.kind != 6)) := qI (by by_cases k : v.kind = 6 <;> simp [k])
 clear h ho
 go_enter Tryz.func37, Tryz.ntmps37
 go_upto_region 1 with fail
 rw [← Ga.o]
 go_wp2_with fail
 go_ret
 rw [HE.o]
 have hk := (Kept.refl [] W0).alloc (.cells #[.int .i64 v.kind, .int .i64 v.num, .string v.s, .slice p v.l.length c, .slice q v.m.length d, .bool (v.kind != 6)] 103)
 refine ⟨⟨W0.heap.size, by have := HS.o; omega, rfl, p, c, q, d, block_alloc rfl, Rep.kept0 (Rep.kept0 (Rep.mono H.o (T := fun k => k < W0.heap.size) (fun k hk _ => by have := HS.o; omega)) Gc.o) hk⟩, Gc.o.then hk⟩
section
variable {n : Nat} {w : World} {g : Nat} {v : VS (V n)} {bad : Bool}
theorem fok_any (h : Fld n w g v bad) : Calls Tryz.prog 75 #[.pointer (some ⟨g, 0, none⟩)] w fun e w' => e = .returned (.bool (!bad)) ∧ w = w' := by
 obtain ⟨p, c, q, d, h1, -⟩ := h
 have c5 := cell_head (o := 5) (v := .bool bad) h1 rfl
 clear h1
 cases bad
 all_goals
  go_enter Tryz.func75, Tryz.ntmps75
  go_wp2_with fail
  go_ret
  exact ⟨rfl, rfl⟩
theorem spoil_any (h : Fld n w g v bad) : Calls Tryz.prog 28 #[.pointer (some ⟨g, 0, none⟩)] w fun e w' => e = .returned (.tuple #[]) ∧ Fld n w' g v true ∧ Kept [g] w w' := by
 have H := qI h
 obtain ⟨p, c, q, d, h1, -⟩ := h
 have c5 := cell_head (o := 5) (v := .bool bad) h1 rfl
 have z5 := free_head (o := 5) h1
 clear h1
 go_enter Tryz.func28, Tryz.ntmps28
 go_wp2_with fail
 go_end0
 exact ⟨rfl, H.o.put true, (Kept.refl _ _).setCell (.inl (by simp)) _⟩
def doneZ (bad : Bool) : Int := if bad then 130 else 0
theorem fdone_any (h : Fld n w g v bad) : Calls Tryz.prog 30 #[.pointer (some ⟨g, 0, none⟩)] w fun e w' => e = .returned (.int .i64 (doneZ bad)) ∧ w = w' := by
 have CO := qI (fok_any h)
 clear h
 cases bad
 all_goals
  go_enter Tryz.func30, Tryz.ntmps30
  go_wp2_with (go_at_call 75; refine CO.o.mono ?_; rintro e w1 ⟨rfl, rfl⟩)
  go_ret
  exact ⟨rfl, rfl⟩
def hasV (v : VS (V n)) (bad : Bool) (s : ByteArray) : Bool := !bad && (getV v s).isSome
theorem fhas_any (h : Fld n w g v bad) (hs : Small (n + 1) v) (s : ByteArray) : Calls Tryz.prog 29 #[.pointer (some ⟨g, 0, none⟩), .string s] w fun e w' => e = .returned (.bool (hasV v bad s)) ∧ Kept [] w w' := by
 have CO := qI (fok_any h)
 obtain ⟨p, c, q, d, h1, h2⟩ := h
 have CG := qI (get_any h2 hs s)
 have HH : Hid (hasV v bad s = (!bad && (getV v s).isSome)) := qI rfl
 have c0 := cell_head (o := 0) (v := .int .i64 v.kind) h1 rfl
 have c1 := cell_head (o := 1) (v := .int .i64 v.num) h1 rfl
 have c2 := cell_head (o := 2) (v := .string v.s) h1 rfl
 have c3 := cell_head (o := 3) (v := .slice p v.l.length c) h1 rfl
 have c4 := cell_head (o := 4) (v := .slice q v.m.length d) h1 rfl
 clear h1 h2 hs
 revert CG HH
 generalize getV v s = r
 intro CG HH
 cases bad with
 | true =>
  go_enter Tryz.func29, Tryz.ntmps29
  go_wp2_with (go_at_call 75; refine CO.o.mono ?_; rintro e w1 ⟨rfl, rfl⟩)
  go_ret
  exact ⟨by rw [HH.o]; rfl, Kept.refl _ _⟩
 | false =>
  cases r with
  | none =>
   go_enter Tryz.func29, Tryz.ntmps29
   go_wp2_with first
    | (go_at_call 75; refine CO.o.mono ?_; rintro e w1 ⟨rfl, rfl⟩)
    | (go_at_call 76; refine CG.o.mono ?_; rintro e w1 ⟨he, hk1⟩; change e = _ at he; subst he; unfold zero5; have Gg := qI hk1; clear hk1)
   go_ret
   exact ⟨by rw [HH.o]; rfl, Gg.o.alloc _⟩
  | some x =>
   go_enter Tryz.func29, Tryz.ntmps29
   go_wp2_with first
    | (go_at_call 75; refine CO.o.mono ?_; rintro e w1 ⟨rfl, rfl⟩)
    | (go_at_call 76; refine CG.o.mono ?_; rintro e w1 ⟨⟨cs, he, ho1⟩, hk1⟩; obtain ⟨k3, m3, s3, p3, i3, c3, q3, j3, e3, rfl⟩ := ho1.rep.conv; subst he; clear ho1; have Gg := qI hk1; clear hk1)
   go_ret
   exact ⟨by rw [HH.o]; rfl, Gg.o.alloc _⟩
end
def kindV : (n : Nat) → V n → Int
 | 0, _ => 0
 | _ + 1, (v : VS (V _)) => v.kind
def numV : (n : Nat) → V n → Int
 | 0, _ => 0
 | _ + 1, (v : VS (V _)) => v.num
def strV : (n : Nat) → V n → ByteArray
 | 0, _ => ⟨#[]⟩
 | _ + 1, (v : VS (V _)) => v.s
def lenV : (n : Nat) → V n → Nat
 | 0, _ => 0
 | _ + 1, (v : VS (V _)) => v.l.length
theorem Rep.heads : ∀ {n : Nat} {S : Nat → Prop} {w : World} {k m : Int} {s : ByteArray} {a b : Value} {x : V n}, Rep n S w [.int .i64 k, .int .i64 m, .string s, a, b] x → k = kindV n x ∧ m = numV n x ∧ s = strV n x ∧ ∃ p c, a = .slice p (lenV n x) c
 | 0, _, _, _, _, _, _, _, x, _ => nomatch x
 | n + 1, S, w, k, m, s, a, b, x, h => by
  obtain ⟨vl, vm, lcs, mcs, ho⟩ := Rep.open_ h
  obtain ⟨p, c, q, d, -, -, e⟩ := ho.forms
  simp only [List.cons.injEq, Value.int.injEq, Value.string.injEq, and_true, true_and] at e
  exact ⟨e.1, e.2.1, e.2.2.1, p, c, e.2.2.2.1⟩
def fget {n : Nat} (v : VS (V n)) (bad : Bool) (s : ByteArray) (kind : Int) (may : V n → Bool) : Option (V n) × Bool :=
 if bad then (none, true) else match getV v s with
 | none => (none, true)
 | some x => if kindV n x = kind ∧ may x = true then (some x, false) else (none, true)
def Given (n : Nat) (w w' : World) (e : Ending) : Option (V n) → Prop
 | none => e = .returned zero5
 | some x => New n w w' e x
section
variable {n : Nat} {w : World} {g : Nat} {v : VS (V n)} {bad : Bool}
theorem fget_any (F : FuncId) (caps : Array Value) (may : V n → Bool) (h : Fld n w g v bad) (hs : Small (n + 1) v) (s : ByteArray) (kind : Int)
  (hF : ∀ (args : Array Value) (w : World), (callFunc F args).run Tryz.prog w = .ok (.enter F args) w)
  (hmay : ∀ (x : V n) (S : Nat → Prop) (w1 : World) (cs : List Value), Kept [] w w1 → Rep n S w1 cs x → Calls Tryz.prog F (#[.agg cs.toArray] ++ caps) w1 fun e w' => e = .returned (.bool (may x)) ∧ Kept [] w1 w') :
  Calls Tryz.prog 70 #[.pointer (some ⟨g, 0, none⟩), .string s, .int .i64 kind, .func (.func F) #[] caps] w fun e w' => Given n w w' e (fget v bad s kind may).1 ∧ Fld n w' g v (fget v bad s kind may).2 ∧ Kept [g] w w' := by
 obtain ⟨W0, Ga⟩ : ∃ W0, Hid (W0 = w.alloc (.cells #[.int .i64 0, .int .i64 0, .string ⟨#[]⟩, .slice none 0 0, .slice none 0 0] 28)) := ⟨_, qI rfl⟩
 have Gc : Hid (Kept [] w W0) := qI (by rw [Ga.o]; exact (Kept.refl _ w).alloc _)
 have Gj : Hid (W0.heap[w.heap.size]? = some (.cells #[.int .i64 0, .int .i64 0, .string ⟨#[]⟩, .slice none 0 0, .slice none 0 0] 28 (0, 0))) := qI (by rw [Ga.o]; exact block_alloc rfl)
 have Gs : Hid (W0.heap.size = w.heap.size + 1) := qI (by rw [Ga.o]; simp)
 have HG : Hid (g < w.heap.size) := qI h.lt
 have HF := qI hF
 have HM := qI hmay
 have Jk := qI hs
 have Gm := qI (h.kept0 Gc.o)
 have CO := qI (fok_any Gm.o)
 have Gt : Hid (fget v bad s kind may = if bad then (none, true) else match getV v s with
  | none => (none, true)
  | some x => if kindV n x = kind ∧ may x = true then (some x, false) else (none, true)) := qI rfl
 have HZ : Hid (∀ w1 : World, w1.heap[w.heap.size]? = some (.cells #[.int .i64 0, .int .i64 0, .string ⟨#[]⟩, .slice none 0 0, .slice none 0 0] 28 (0, 0)) → BoxAt w1 w.heap.size 0 0 ⟨#[]⟩ (.slice none 0 0) (.slice none 0 0) ∧ ∀ j, w1.frozen? ⟨w.heap.size, j, none⟩ = false) := qI (fun w1 hb => ⟨box_of hb, fun j => free_head hb⟩)
 clear hF hmay hs h
 cases bad with
 | true =>
  obtain ⟨⟨r0, r1, r2, r3, r4⟩, z⟩ := HZ.o _ Gj.o
  go_enter Tryz.func70, Tryz.ntmps70
  go_upto_region 1 with fail
  rw [← Ga.o]
  go_wp2_with (go_at_call 75; refine CO.o.mono ?_; rintro e w1 ⟨rfl, rfl⟩)
  change bodyPost _ _ _ _ _ (put5 W0 w.heap.size 0 0 ⟨#[]⟩ (.slice none 0 0) (.slice none 0 0))
  have Gb := put5_kept W0 w.heap.size 0 0 ⟨#[]⟩ (.slice none 0 0) (.slice none 0 0)
  obtain ⟨y0, y1, y2, y3, y4⟩ := box_of (put5_at Gj.o 0 0 ⟨#[]⟩ (.slice none 0 0) (.slice none 0 0))
  revert Gb y0 y1 y2 y3 y4
  generalize put5 W0 w.heap.size 0 0 ⟨#[]⟩ (.slice none 0 0) (.slice none 0 0) = WF
  intro Gb y0 y1 y2 y3 y4
  refine bodyPost_ret (v := zero5) (by simp [results, Tryz.results70, go_sem, y0, y1, y2, y3, y4, zero5]) rfl ?_
  rw [Gt.o]
  exact ⟨rfl, Gm.o.kept Gb (by intro i hi; simp at hi; subst hi; exact HG.o), (Gc.o.trans Gb (by intro i hi; simp at hi; subst hi; exact .inr (Nat.le_refl _))).mono (by simp)⟩
 | false =>
  obtain ⟨p, c, q, d, h1, h2⟩ := Gm.o
  have CG := qI (get_any h2 Jk.o s)
  have c0 := cell_head (o := 0) (v := .int .i64 v.kind) h1 rfl
  have c1 := cell_head (o := 1) (v := .int .i64 v.num) h1 rfl
  have c2 := cell_head (o := 2) (v := .string v.s) h1 rfl
  have c3 := cell_head (o := 3) (v := .slice p v.l.length c) h1 rfl
  have c4 := cell_head (o := 4) (v := .slice q v.m.length d) h1 rfl
  clear h1 h2
  revert CG Gt
  generalize getV v s = r
  intro Gt CG
  cases r with
  | none =>
   have Gn : Hid (fget v false s kind may = (none, true)) := qI Gt.o
   go_enter Tryz.func70, Tryz.ntmps70
   go_upto_region 1 with fail
   rw [← Ga.o]
   go_upto_region 5 with first
    | (go_at_call 75; refine CO.o.mono ?_; rintro e w1 ⟨rfl, rfl⟩)
    | (go_at_call 76; refine CG.o.mono ?_; rintro e w2 ⟨he, hk2⟩; change e = _ at he; subst he; unfold zero5; have Gi := qI hk2; clear hk2)
   obtain ⟨w3, Gk⟩ : ∃ w3, Hid (w3 = w2.alloc (.cells #[.int .i64 0, .int .i64 0, .string ⟨#[]⟩, .slice none 0 0, .slice none 0 0] 28)) := ⟨_, qI rfl⟩
   have Ge : Hid (Kept [] W0 w3) := qI (by rw [Gk.o]; exact Gi.o.alloc _)
   have Ja := qI (Gm.o.kept0 Ge.o)
   have Jl := qI (Ge.o.heap Gj.o (by simp))
   have Jb : Hid (Kept [g] w w3) := qI ((Gc.o.then Ge.o).mono (by simp))
   rw [← Gk.o]
   clear c0 c1 c2 c3 c4
   go_wp2_with (go_at_call 28; refine (spoil_any Ja.o).mono ?_; rintro e w4 ⟨rfl, hf4, hk4⟩; have Gu := qI hf4; have Gl := qI (Jb.o.trans' hk4); have Gd := qI (hk4.heap Jl.o (by have := HG.o; simp; omega)); obtain ⟨⟨r0, r1, r2, r3, r4⟩, z⟩ := HZ.o _ Gd.o; clear hf4 hk4)
   change bodyPost _ _ _ _ _ (put5 w4 w.heap.size 0 0 ⟨#[]⟩ (.slice none 0 0) (.slice none 0 0))
   have Gb := put5_kept w4 w.heap.size 0 0 ⟨#[]⟩ (.slice none 0 0) (.slice none 0 0)
   obtain ⟨y0, y1, y2, y3, y4⟩ := box_of (put5_at Gd.o 0 0 ⟨#[]⟩ (.slice none 0 0) (.slice none 0 0))
   revert Gb y0 y1 y2 y3 y4
   generalize put5 w4 w.heap.size 0 0 ⟨#[]⟩ (.slice none 0 0) (.slice none 0 0) = WF
   intro Gb y0 y1 y2 y3 y4
   refine bodyPost_ret (v := zero5) (by simp [results, Tryz.results70, go_sem, y0, y1, y2, y3, y4, zero5]) rfl ?_
   rw [Gn.o]
   exact ⟨rfl, Gu.o.kept Gb (by intro i hi; simp at hi; subst hi; exact HG.o), Gl.o.trans Gb (by intro i hi; simp at hi; subst hi; exact .inr (Nat.le_refl _))⟩
  | some x =>
   have hkk : Hid (fget v false s kind may = if kindV n x = kind ∧ may x = true then (some x, false) else (none, true)) := qI Gt.o
   go_enter Tryz.func70, Tryz.ntmps70
   go_upto_region 1 with fail
   rw [← Ga.o]
   go_upto_region 4 with first
    | (go_at_call 75; refine CO.o.mono ?_; rintro e w1 ⟨rfl, rfl⟩)
    | (go_at_call 76; refine CG.o.mono ?_; rintro e w2 ⟨⟨cs2, he, ho2⟩, hk2⟩; obtain ⟨k3, m3, s3, p3, i3, c3', q3, j3, e3, rfl⟩ := ho2.rep.conv; subst he; obtain ⟨hkd, hnm, hst, -⟩ := ho2.rep.heads; have Jm := qI ho2; have Jg := qI hkd; have Gi := qI hk2; clear hk2 ho2 hkd hnm hst)
   obtain ⟨w3, Gk⟩ : ∃ w3, Hid (w3 = w2.alloc (.cells #[.int .i64 k3, .int .i64 m3, .string s3, .slice p3 i3 c3', .slice q3 j3 e3] 28)) := ⟨_, qI rfl⟩
   have Ge : Hid (Kept [] W0 w3) := qI (by rw [Gk.o]; exact Gi.o.alloc _)
   have Jh : Hid (w3.heap[w2.heap.size]? = some (.cells #[.int .i64 k3, .int .i64 m3, .string s3, .slice p3 i3 c3', .slice q3 j3 e3] 28 (0, 0))) := qI (by rw [Gk.o]; exact block_alloc rfl)
   have Gx : Hid (OwnD n (fun g => W0.heap.size ≤ g ∧ g < w2.heap.size) w3 [.int .i64 k3, .int .i64 m3, .string s3, .slice p3 i3 c3', .slice q3 j3 e3] x) := qI (by rw [Gk.o]; exact Jm.o.kept0 ((Kept.refl [] _).alloc _))
   have Jn := qI Gx.o.rep
   have Jc : Hid (w3.heap.size = w2.heap.size + 1) := qI (by rw [Gk.o]; simp)
   rw [← Gk.o]
   clear c0 c1 c2 c3 c4
   obtain ⟨b0, b1, b2, b3, b4⟩ := box_of Jh.o
   by_cases hkd : k3 = kind
   rotate_left
   ·have f1 := (int_ne hkd).2
    have Gn : Hid (fget v false s kind may = (none, true)) := qI (by rw [hkk.o, if_neg (fun h => hkd (by rw [Jg.o]; exact h.1))])
    clear hkd
    go_wp2_with (go_at_call 28; refine (spoil_any (Gm.o.kept0 Ge.o)).mono ?_; rintro e w4 ⟨rfl, hf4, hk4⟩; have Gu := qI hf4; have Gl : Hid (Kept [g] w w4) := qI (((Gc.o.then Ge.o).mono (by simp)).trans' hk4); have Gd := qI (hk4.heap ((Ge.o).heap Gj.o (by simp)) (by have := HG.o; simp; omega)); obtain ⟨⟨r0, r1, r2, r3, r4⟩, z⟩ := HZ.o _ Gd.o; clear hf4 hk4)
    change bodyPost _ _ _ _ _ (put5 w4 w.heap.size 0 0 ⟨#[]⟩ (.slice none 0 0) (.slice none 0 0))
    have Gb := put5_kept w4 w.heap.size 0 0 ⟨#[]⟩ (.slice none 0 0) (.slice none 0 0)
    obtain ⟨y0, y1, y2, y3, y4⟩ := box_of (put5_at Gd.o 0 0 ⟨#[]⟩ (.slice none 0 0) (.slice none 0 0))
    revert Gb y0 y1 y2 y3 y4
    generalize put5 w4 w.heap.size 0 0 ⟨#[]⟩ (.slice none 0 0) (.slice none 0 0) = WF
    intro Gb y0 y1 y2 y3 y4
    refine bodyPost_ret (v := zero5) (by simp [results, Tryz.results70, go_sem, y0, y1, y2, y3, y4, zero5]) rfl ?_
    rw [Gn.o]
    exact ⟨rfl, Gu.o.kept Gb (by intro i hi; simp at hi; subst hi; exact HG.o), Gl.o.trans Gb (by intro i hi; simp at hi; subst hi; exact .inr (Nat.le_refl _))⟩
   have f1 := (int_eq hkd).2
   have Jo : Hid (kindV n x = kind) := qI (by rw [← Jg.o, hkd])
   clear hkd
   have CM := qI (HM.o x _ w3 _ (Gc.o.then Ge.o) Jn.o)
   rcases Bool.eq_false_or_eq_true (may x) with hm | hm
   rotate_left
   ·rw [hm] at CM
    have Gn : Hid (fget v false s kind may = (none, true)) := qI (by rw [hkk.o, if_neg (fun h => by rw [hm] at h; cases h.2)])
    clear hm
    have hfe := HF.o
    go_wp2_with first
     | (refine CM.o.mono ?_; rintro e w3' ⟨rfl, hk3⟩; have Gh := qI hk3; clear hk3 b0 b1 b2 b3 b4)
     | (go_at_call 28; refine (spoil_any (Gm.o.kept0 (Ge.o.then Gh.o))).mono ?_; rintro e w4 ⟨rfl, hf4, hk4⟩; have Gu := qI hf4; have Gl : Hid (Kept [g] w w4) := qI (((Gc.o.then (Ge.o.then Gh.o)).mono (by simp)).trans' hk4); have Gd := qI (hk4.heap (((Ge.o.then Gh.o)).heap Gj.o (by simp)) (by have := HG.o; simp; omega)); obtain ⟨⟨r0, r1, r2, r3, r4⟩, z⟩ := HZ.o _ Gd.o; clear hf4 hk4)
    change bodyPost _ _ _ _ _ (put5 w4 w.heap.size 0 0 ⟨#[]⟩ (.slice none 0 0) (.slice none 0 0))
    have Gb := put5_kept w4 w.heap.size 0 0 ⟨#[]⟩ (.slice none 0 0) (.slice none 0 0)
    obtain ⟨y0, y1, y2, y3, y4⟩ := box_of (put5_at Gd.o 0 0 ⟨#[]⟩ (.slice none 0 0) (.slice none 0 0))
    revert Gb y0 y1 y2 y3 y4
    generalize put5 w4 w.heap.size 0 0 ⟨#[]⟩ (.slice none 0 0) (.slice none 0 0) = WF
    intro Gb y0 y1 y2 y3 y4
    refine bodyPost_ret (v := zero5) (by simp [results, Tryz.results70, go_sem, y0, y1, y2, y3, y4, zero5]) rfl ?_
    rw [Gn.o]
    exact ⟨rfl, Gu.o.kept Gb (by intro i hi; simp at hi; subst hi; exact HG.o), Gl.o.trans Gb (by intro i hi; simp at hi; subst hi; exact .inr (Nat.le_refl _))⟩
   rw [hm] at CM
   have Gn : Hid (fget v false s kind may = (some x, false)) := qI (by rw [hkk.o, if_pos ⟨Jo.o, hm⟩])
   clear hm
   have hfe := HF.o
   go_upto_region 7 with (refine CM.o.mono ?_; rintro e w3' ⟨rfl, hk3⟩; have Gh := qI hk3; clear hk3 b0 b1 b2 b3 b4)
   have Gr : Hid (Kept [] W0 w3') := qI (Ge.o.then Gh.o)
   have Jp := qI (Gh.o.heap Jh.o (by simp))
   have Gd := qI (Gr.o.heap Gj.o (by simp))
   obtain ⟨b0, b1, b2, b3, b4⟩ := box_of Jp.o
   obtain ⟨⟨r0, r1, r2, r3, r4⟩, z⟩ := HZ.o _ Gd.o
   clear hfe
   go_wp2_with fail
   change bodyPost _ _ _ _ _ (put5 w3' w.heap.size k3 m3 s3 (.slice p3 i3 c3') (.slice q3 j3 e3))
   have Gb := put5_kept w3' w.heap.size k3 m3 s3 (.slice p3 i3 c3') (.slice q3 j3 e3)
   obtain ⟨y0, y1, y2, y3, y4⟩ := box_of (put5_at Gd.o k3 m3 s3 (.slice p3 i3 c3') (.slice q3 j3 e3))
   revert Gb y0 y1 y2 y3 y4
   generalize put5 w3' w.heap.size k3 m3 s3 (.slice p3 i3 c3') (.slice q3 j3 e3) = WF
   intro Gb y0 y1 y2 y3 y4
   refine bodyPost_ret (v := .agg #[.int .i64 k3, .int .i64 m3, .string s3, .slice p3 i3 c3', .slice q3 j3 e3]) (by simp [results, Tryz.results70, go_sem, y0, y1, y2, y3, y4]) rfl ?_
   rw [Gn.o]
   have hsz := Gs.o
   have hs3 := Jc.o
   have hs4 := Gh.o.size
   have hsf := Gb.size
   refine ⟨⟨_, rfl, ((Gx.o.kept0 Gh.o).kept Gb (by intro k hk; simp at hk; subst hk; omega)).mono (fun g' ⟨h5, h6⟩ => ⟨by omega, by omega⟩)⟩, (Gm.o.kept0 Gr.o).kept Gb (by intro i hi; simp at hi; subst hi; exact HG.o), ((Gc.o.then Gr.o).mono (by simp)).trans Gb (by intro i hi; simp at hi; subst hi; exact .inr (Nat.le_refl _))⟩
end
def fint {n : Nat} (v : VS (V n)) (bad : Bool) (s : ByteArray) (lo hi : Int) : Int × Bool :=
 let r := fget v bad s 3 (fun x => decide (lo ≤ numV n x) && decide (numV n x ≤ hi))
 (match r.1 with | none => 0 | some x => numV n x, r.2)
def ftext {n : Nat} (v : VS (V n)) (bad : Bool) (s : ByteArray) (most : Int) : ByteArray × Bool :=
 let r := fget v bad s 4 (fun x => decide (((strV n x).size : Int) ≤ most))
 (match r.1 with | none => ⟨#[]⟩ | some x => strV n x, r.2)
def fmap {n : Nat} (v : VS (V n)) (bad : Bool) (s : ByteArray) : Option (V n) × Bool := fget v bad s 6 (fun _ => true)
def flist {n : Nat} (v : VS (V n)) (bad : Bool) (s : ByteArray) (most : Int) : Option (V n) × Bool := fget v bad s 5 (fun x => decide ((lenV n x : Int) ≤ most))
theorem fieldNum (W : World) (k m : Int) (s : ByteArray) (a b : Value) : (Instr.field 28 (.agg #[.int .i64 k, .int .i64 m, .string s, a, b]) 1).run Tryz.prog W = .ok (.int .i64 m) W := by kernel_rfl
theorem fieldStr (W : World) (k m : Int) (s : ByteArray) (a b : Value) : (Instr.field 28 (.agg #[.int .i64 k, .int .i64 m, .string s, a, b]) 2).run Tryz.prog W = .ok (.string s) W := by kernel_rfl
theorem fieldLst (W : World) (k m : Int) (s : ByteArray) (a b : Value) : (Instr.field 28 (.agg #[.int .i64 k, .int .i64 m, .string s, a, b]) 3).run Tryz.prog W = .ok a W := by kernel_rfl
theorem enterInt : ∀ (args : Array Value) (w : World), (callFunc 71 args).run Tryz.prog w = .ok (.enter 71 args) w := enters_of Tryz.func71 (by kernel_rfl) rfl
theorem enterText : ∀ (args : Array Value) (w : World), (callFunc 72 args).run Tryz.prog w = .ok (.enter 72 args) w := enters_of Tryz.func72 (by kernel_rfl) rfl
theorem enterList : ∀ (args : Array Value) (w : World), (callFunc 74 args).run Tryz.prog w = .ok (.enter 74 args) w := enters_of Tryz.func74 (by kernel_rfl) rfl
theorem enterAny : ∀ (args : Array Value) (w : World), (callFunc 73 args).run Tryz.prog w = .ok (.enter 73 args) w := enters_of Tryz.func73 (by kernel_rfl) rfl
theorem Rep.gone {n : Nat} {S : Nat → Prop} {w : World} {cs : List Value} {x : V n} (h : Rep n S w cs x) : ∃ s p c q j d, cs = [.int .i64 (kindV n x), .int .i64 (numV n x), .string s, .slice p (lenV n x) c, .slice q j d] ∧ s = strV n x := by
 obtain ⟨k, m, s, p, i, c, q, j, d, rfl⟩ := h.conv
 obtain ⟨rfl, rfl, h3, p', c', h4⟩ := h.heads
 simp only [Value.slice.injEq] at h4
 obtain ⟨rfl, rfl, rfl⟩ := h4
 exact ⟨s, _, _, q, j, d, rfl, h3⟩
section
variable {n : Nat} {w : World} {x : V n} {S : Nat → Prop} {cs : List Value}
theorem mayInt_any (h : Rep n S w cs x) {b1 b2 : Nat} {lo hi : Int} (h1 : w.cell? ⟨b1, 0, none⟩ = some (.int .i64 lo)) (h2 : w.cell? ⟨b2, 0, none⟩ = some (.int .i64 hi)) :
  Calls Tryz.prog 71 #[.agg cs.toArray, .pointer (some ⟨b1, 0, none⟩), .pointer (some ⟨b2, 0, none⟩)] w fun e w' => e = .returned (.bool (decide (lo ≤ numV n x) && decide (numV n x ≤ hi))) ∧ Kept [] w w' := by
 obtain ⟨s, p, c, q, j, d, rfl, -⟩ := h.gone
 generalize hz : numV n x = z
 clear hz h
 have c1 : ∀ o : Obj, (w.alloc o).cell? ⟨b1, 0, none⟩ = some (.int .i64 lo) := fun o => ((Kept.refl [] w).alloc o).cell h1 (by simp)
 have c2 : ∀ o : Obj, (w.alloc o).cell? ⟨b2, 0, none⟩ = some (.int .i64 hi) := fun o => ((Kept.refl [] w).alloc o).cell h2 (by simp)
 have HK : Hid (∀ o : Obj, Kept [] w (w.alloc o)) := qI (fun o => (Kept.refl [] w).alloc o)
 clear h1 h2
 by_cases k1 : lo ≤ z
 ·have d1 : decide (lo ≤ z) = true := decide_eq_true k1
  rw [d1]
  go_enter Tryz.func71, Tryz.ntmps71
  go_wp2_with fail
  go_ret
  exact ⟨by simp, HK.o _⟩
 ·have d1 : decide (lo ≤ z) = false := decide_eq_false k1
  rw [d1]
  go_enter Tryz.func71, Tryz.ntmps71
  go_wp2_with fail
  go_ret
  exact ⟨by simp, HK.o _⟩
theorem mayText_any (h : Rep n S w cs x) {b1 : Nat} {lo : Int} (h1 : w.cell? ⟨b1, 0, none⟩ = some (.int .i64 lo)) :
  Calls Tryz.prog 72 #[.agg cs.toArray, .pointer (some ⟨b1, 0, none⟩)] w fun e w' => e = .returned (.bool (decide (((strV n x).size : Int) ≤ lo))) ∧ Kept [] w w' := by
 obtain ⟨s, p, c, q, j, d, rfl, hs⟩ := h.gone
 rw [← hs]
 clear hs h
 have c1 : ∀ o : Obj, (w.alloc o).cell? ⟨b1, 0, none⟩ = some (.int .i64 lo) := fun o => ((Kept.refl [] w).alloc o).cell h1 (by simp)
 have HK : Hid (∀ o : Obj, Kept [] w (w.alloc o)) := qI (fun o => (Kept.refl [] w).alloc o)
 clear h1
 go_enter Tryz.func72, Tryz.ntmps72
 go_wp2_with fail
 go_ret
 exact ⟨rfl, HK.o _⟩
theorem mayList_any (h : Rep n S w cs x) {b1 : Nat} {lo : Int} (h1 : w.cell? ⟨b1, 0, none⟩ = some (.int .i64 lo)) :
  Calls Tryz.prog 74 #[.agg cs.toArray, .pointer (some ⟨b1, 0, none⟩)] w fun e w' => e = .returned (.bool (decide ((lenV n x : Int) ≤ lo))) ∧ Kept [] w w' := by
 obtain ⟨s, p, c, q, j, d, rfl, hs⟩ := h.gone
 generalize lenV n x = z
 clear hs h
 have c1 : ∀ o : Obj, (w.alloc o).cell? ⟨b1, 0, none⟩ = some (.int .i64 lo) := fun o => ((Kept.refl [] w).alloc o).cell h1 (by simp)
 have HK : Hid (∀ o : Obj, Kept [] w (w.alloc o)) := qI (fun o => (Kept.refl [] w).alloc o)
 clear h1
 go_enter Tryz.func74, Tryz.ntmps74
 go_wp2_with fail
 go_ret
 exact ⟨rfl, HK.o _⟩
theorem mayAny_any (h : Rep n S w cs x) : Calls Tryz.prog 73 #[.agg cs.toArray] w fun e w' => e = .returned (.bool true) ∧ Kept [] w w' := by
 obtain ⟨s, p, c, q, j, d, rfl, hs⟩ := h.gone
 clear hs h
 go_enter Tryz.func73, Tryz.ntmps73
 go_wp2_with fail
 go_ret
 exact ⟨rfl, (Kept.refl _ _).alloc _⟩
end
section
variable {n : Nat} {w : World} {g : Nat} {v : VS (V n)} {bad : Bool}
theorem fint_any (h : Fld n w g v bad) (hs : Small (n + 1) v) (s : ByteArray) (lo hi : Int) : Calls Tryz.prog 23 #[.pointer (some ⟨g, 0, none⟩), .string s, .int .i64 lo, .int .i64 hi] w fun e w' => e = .returned (.int .i64 (fint v bad s lo hi).1) ∧ Fld n w' g v (fint v bad s lo hi).2 ∧ Kept [g] w w' := by
 obtain ⟨W0, Ga⟩ : ∃ W0, Hid (W0 = (w.alloc (.cells #[.int .i64 lo] 3)).alloc (.cells #[.int .i64 hi] 3)) := ⟨_, qI rfl⟩
 have Gc : Hid (Kept [] w W0) := qI (by rw [Ga.o]; exact ((Kept.refl _ w).alloc _).alloc _)
 have h1 : W0.cell? ⟨w.heap.size, 0, none⟩ = some (.int .i64 lo) := by rw [Ga.o]; exact ((Kept.refl [] _).alloc _).cell (cell_head (block_alloc rfl) rfl) (by simp)
 have h2 : W0.cell? ⟨w.heap.size + 1, 0, none⟩ = some (.int .i64 hi) := by rw [Ga.o]; exact cell_head (block_alloc (by simp)) rfl
 have CG := qI (fget_any 71 #[.pointer (some ⟨w.heap.size, 0, none⟩), .pointer (some ⟨w.heap.size + 1, 0, none⟩)] (fun x => decide (lo ≤ numV n x) && decide (numV n x ≤ hi)) (h.kept0 Gc.o) hs s 3 enterInt (fun x S w1 cs hk hr => mayInt_any hr (hk.cell h1 (by simp)) (hk.cell h2 (by simp))))
 have HF : Hid (fint v bad s lo hi = (match (fget v bad s 3 (fun x => decide (lo ≤ numV n x) && decide (numV n x ≤ hi))).1 with | none => 0 | some x => numV n x, (fget v bad s 3 (fun x => decide (lo ≤ numV n x) && decide (numV n x ≤ hi))).2)) := qI rfl
 clear h1 h2 h hs
 revert CG HF
 generalize fget v bad s 3 (fun x => decide (lo ≤ numV n x) && decide (numV n x ≤ hi)) = R
 intro CG HF
 obtain ⟨r, b⟩ := R
 simp only at CG HF
 have hfd := fieldNum
 cases r with
 | none =>
  go_enter Tryz.func23, Tryz.ntmps23
  go_upto_region 1 with fail
  rw [← Ga.o]
  go_wp2_with (go_at_call 70; refine CG.o.mono ?_; rintro e w1 ⟨he, hf, hk⟩; change e = _ at he; subst he; unfold zero5; have Gf := qI hf; have HK := qI hk; clear hf hk)
  go_ret
  rw [HF.o]
  exact ⟨rfl, Gf.o, (Gc.o.mono (by simp)).trans' HK.o⟩
 | some x =>
  go_enter Tryz.func23, Tryz.ntmps23
  go_upto_region 1 with fail
  rw [← Ga.o]
  go_wp2_with (go_at_call 70; refine CG.o.mono ?_; rintro e w1 ⟨⟨cs, he, ho⟩, hf, hk⟩; obtain ⟨s3, p3, c3, q3, j3, d3, rfl, -⟩ := ho.rep.gone; subst he; have Gf := qI hf; have HK := qI hk; clear hf hk ho)
  go_ret
  rw [HF.o]
  exact ⟨rfl, Gf.o, (Gc.o.mono (by simp)).trans' HK.o⟩
theorem ftext_any (h : Fld n w g v bad) (hs : Small (n + 1) v) (s : ByteArray) (lo : Int) : Calls Tryz.prog 24 #[.pointer (some ⟨g, 0, none⟩), .string s, .int .i64 lo] w fun e w' => e = .returned (.string (ftext v bad s lo).1) ∧ Fld n w' g v (ftext v bad s lo).2 ∧ Kept [g] w w' := by
 obtain ⟨W0, Ga⟩ : ∃ W0, Hid (W0 = w.alloc (.cells #[.int .i64 lo] 3)) := ⟨_, qI rfl⟩
 have Gc : Hid (Kept [] w W0) := qI (by rw [Ga.o]; exact (Kept.refl _ w).alloc _)
 have h1 : W0.cell? ⟨w.heap.size, 0, none⟩ = some (.int .i64 lo) := by rw [Ga.o]; exact cell_head (block_alloc rfl) rfl
 have CG := qI (fget_any 72 #[.pointer (some ⟨w.heap.size, 0, none⟩)] (fun x => decide (((strV n x).size : Int) ≤ lo)) (h.kept0 Gc.o) hs s 4 enterText (fun x S w1 cs hk hr => mayText_any hr (hk.cell h1 (by simp))))
 have HF : Hid (ftext v bad s lo = (match (fget v bad s 4 (fun x => decide (((strV n x).size : Int) ≤ lo))).1 with | none => ⟨#[]⟩ | some x => strV n x, (fget v bad s 4 (fun x => decide (((strV n x).size : Int) ≤ lo))).2)) := qI rfl
 clear h1 h hs
 revert CG HF
 generalize fget v bad s 4 (fun x => decide (((strV n x).size : Int) ≤ lo)) = R
 intro CG HF
 obtain ⟨r, b⟩ := R
 simp only at CG HF
 have hfd := fieldStr
 cases r with
 | none =>
  go_enter Tryz.func24, Tryz.ntmps24
  go_upto_region 1 with fail
  rw [← Ga.o]
  go_wp2_with (go_at_call 70; refine CG.o.mono ?_; rintro e w1 ⟨he, hf, hk⟩; change e = _ at he; subst he; unfold zero5; have Gf := qI hf; have HK := qI hk; clear hf hk)
  go_ret
  rw [HF.o]
  exact ⟨rfl, Gf.o, (Gc.o.mono (by simp)).trans' HK.o⟩
 | some x =>
  go_enter Tryz.func24, Tryz.ntmps24
  go_upto_region 1 with fail
  rw [← Ga.o]
  go_wp2_with (go_at_call 70; refine CG.o.mono ?_; rintro e w1 ⟨⟨cs, he, ho⟩, hf, hk⟩; obtain ⟨s3, p3, c3, q3, j3, d3, rfl, hs3⟩ := ho.rep.gone; subst he; have Jq := qI hs3; clear hs3; have Gf := qI hf; have HK := qI hk; clear hf hk ho)
  go_ret
  rw [HF.o]
  exact ⟨by show _ = Ending.returned (.string (strV n x)); rw [← Jq.o]; rfl, Gf.o, (Gc.o.mono (by simp)).trans' HK.o⟩
theorem fmap_any (h : Fld n w g v bad) (hs : Small (n + 1) v) (s : ByteArray) : Calls Tryz.prog 26 #[.pointer (some ⟨g, 0, none⟩), .string s] w fun e w' => Given n w w' e (fmap v bad s).1 ∧ Fld n w' g v (fmap v bad s).2 ∧ Kept [g] w w' := by
 obtain ⟨W0, Ga⟩ : ∃ W0, Hid (W0 = w.alloc (.cells #[.int .i64 0, .int .i64 0, .string ⟨#[]⟩, .slice none 0 0, .slice none 0 0] 28)) := ⟨_, qI rfl⟩
 have Gc : Hid (Kept [] w W0) := qI (by rw [Ga.o]; exact (Kept.refl _ w).alloc _)
 have Gj : Hid (W0.heap[w.heap.size]? = some (.cells #[.int .i64 0, .int .i64 0, .string ⟨#[]⟩, .slice none 0 0, .slice none 0 0] 28 (0, 0))) := qI (by rw [Ga.o]; exact block_alloc rfl)
 have Gs : Hid (W0.heap.size = w.heap.size + 1) := qI (by rw [Ga.o]; simp)
 have HG : Hid (g < w.heap.size) := qI h.lt
 have CG := qI (fget_any 73 #[] (fun _ => true) (h.kept0 Gc.o) hs s 6 enterAny (fun x S w1 cs hk hr => mayAny_any hr))
 have HF : Hid (fmap v bad s = fget v bad s 6 (fun _ => true)) := qI rfl
 clear h hs
 revert CG HF
 generalize fget v bad s 6 (fun _ => true) = R
 intro CG HF
 obtain ⟨r, b⟩ := R
 simp only at CG HF
 cases r with
 | none =>
  go_enter Tryz.func26, Tryz.ntmps26
  go_upto_region 1 with fail
  rw [← Ga.o]
  go_wp2_with (go_at_call 70; refine CG.o.mono ?_; rintro e w1 ⟨he, hf, hk⟩; change e = _ at he; subst he; unfold zero5; have Gf := qI hf; have HK := qI hk; have Gd := qI (hk.heap Gj.o (by have := HG.o; simp; omega)); obtain ⟨r0, r1, r2, r3, r4⟩ := box_of Gd.o; have z : ∀ j, w1.frozen? ⟨w.heap.size, j, none⟩ = false := fun j => free_head Gd.o; clear hf hk)
  change bodyPost _ _ _ _ _ (put5 w1 w.heap.size 0 0 ⟨#[]⟩ (.slice none 0 0) (.slice none 0 0))
  have Gb := put5_kept w1 w.heap.size 0 0 ⟨#[]⟩ (.slice none 0 0) (.slice none 0 0)
  obtain ⟨y0, y1, y2, y3, y4⟩ := box_of (put5_at Gd.o 0 0 ⟨#[]⟩ (.slice none 0 0) (.slice none 0 0))
  revert Gb y0 y1 y2 y3 y4
  generalize put5 w1 w.heap.size 0 0 ⟨#[]⟩ (.slice none 0 0) (.slice none 0 0) = WF
  intro Gb y0 y1 y2 y3 y4
  refine bodyPost_ret (v := zero5) (by simp [results, Tryz.results26, go_sem, y0, y1, y2, y3, y4, zero5]) rfl ?_
  rw [HF.o]
  exact ⟨rfl, Gf.o.kept Gb (by intro i hi; simp at hi; subst hi; exact HG.o), ((Gc.o.mono (by simp)).trans' HK.o).trans Gb (by intro i hi; simp at hi; subst hi; exact .inr (Nat.le_refl _))⟩
 | some x =>
  go_enter Tryz.func26, Tryz.ntmps26
  go_upto_region 1 with fail
  rw [← Ga.o]
  go_wp2_with (go_at_call 70; refine CG.o.mono ?_; rintro e w1 ⟨he, hf, hk⟩; obtain ⟨k3, m3, s3, p3, i3, c3, q3, j3, e3, rfl, ho⟩ := new_fact he; have HO := qI ho; have Gf := qI hf; have HK := qI hk; have Gd := qI (hk.heap Gj.o (by have := HG.o; simp; omega)); obtain ⟨r0, r1, r2, r3, r4⟩ := box_of Gd.o; have z : ∀ j, w1.frozen? ⟨w.heap.size, j, none⟩ = false := fun j => free_head Gd.o; clear hf hk ho he)
  change bodyPost _ _ _ _ _ (put5 w1 w.heap.size k3 m3 s3 (.slice p3 i3 c3) (.slice q3 j3 e3))
  have Gb := put5_kept w1 w.heap.size k3 m3 s3 (.slice p3 i3 c3) (.slice q3 j3 e3)
  obtain ⟨y0, y1, y2, y3, y4⟩ := box_of (put5_at Gd.o k3 m3 s3 (.slice p3 i3 c3) (.slice q3 j3 e3))
  revert Gb y0 y1 y2 y3 y4
  generalize put5 w1 w.heap.size k3 m3 s3 (.slice p3 i3 c3) (.slice q3 j3 e3) = WF
  intro Gb y0 y1 y2 y3 y4
  refine bodyPost_ret (v := .agg #[.int .i64 k3, .int .i64 m3, .string s3, .slice p3 i3 c3, .slice q3 j3 e3]) (by simp [results, Tryz.results26, go_sem, y0, y1, y2, y3, y4]) rfl ?_
  rw [HF.o]
  have hs0 := Gs.o
  have hsf := Gb.size
  exact ⟨⟨_, rfl, (HO.o.kept Gb (by intro k hk; simp at hk; subst hk; omega)).mono (fun g' ⟨h5, h6⟩ => ⟨by omega, by omega⟩)⟩, Gf.o.kept Gb (by intro i hi; simp at hi; subst hi; exact HG.o), ((Gc.o.mono (by simp)).trans' HK.o).trans Gb (by intro i hi; simp at hi; subst hi; exact .inr (Nat.le_refl _))⟩
def ListAns (n : Nat) (w w' : World) (e : Ending) : Option (V n) → Prop
 | none => e = .returned (.slice none 0 0)
 | some x => ∃ s p c q j d, e = .returned (.slice p (lenV n x) c) ∧ OwnD n (fun g => w.heap.size ≤ g ∧ g < w'.heap.size) w' [.int .i64 (kindV n x), .int .i64 (numV n x), .string s, .slice p (lenV n x) c, .slice q j d] x
theorem flist_any (h : Fld n w g v bad) (hs : Small (n + 1) v) (s : ByteArray) (lo : Int) : Calls Tryz.prog 27 #[.pointer (some ⟨g, 0, none⟩), .string s, .int .i64 lo] w fun e w' => ListAns n w w' e (flist v bad s lo).1 ∧ Fld n w' g v (flist v bad s lo).2 ∧ Kept [g] w w' := by
 obtain ⟨W0, Ga⟩ : ∃ W0, Hid (W0 = w.alloc (.cells #[.int .i64 lo] 3)) := ⟨_, qI rfl⟩
 have Gc : Hid (Kept [] w W0) := qI (by rw [Ga.o]; exact (Kept.refl _ w).alloc _)
 have Gs : Hid (W0.heap.size = w.heap.size + 1) := qI (by rw [Ga.o]; simp)
 have h1 : W0.cell? ⟨w.heap.size, 0, none⟩ = some (.int .i64 lo) := by rw [Ga.o]; exact cell_head (block_alloc rfl) rfl
 have CG := qI (fget_any 74 #[.pointer (some ⟨w.heap.size, 0, none⟩)] (fun x => decide ((lenV n x : Int) ≤ lo)) (h.kept0 Gc.o) hs s 5 enterList (fun x S w1 cs hk hr => mayList_any hr (hk.cell h1 (by simp))))
 have HF : Hid (flist v bad s lo = fget v bad s 5 (fun x => decide ((lenV n x : Int) ≤ lo))) := qI rfl
 clear h1 h hs
 revert CG HF
 generalize fget v bad s 5 (fun x => decide ((lenV n x : Int) ≤ lo)) = R
 intro CG HF
 obtain ⟨r, b⟩ := R
 simp only at CG HF
 have hfd := fieldLst
 cases r with
 | none =>
  go_enter Tryz.func27, Tryz.ntmps27
  go_upto_region 1 with fail
  rw [← Ga.o]
  go_wp2_with (go_at_call 70; refine CG.o.mono ?_; rintro e w1 ⟨he, hf, hk⟩; change e = _ at he; subst he; unfold zero5; have Gf := qI hf; have HK := qI hk; clear hf hk)
  go_ret
  rw [HF.o]
  exact ⟨rfl, Gf.o, (Gc.o.mono (by simp)).trans' HK.o⟩
 | some x =>
  go_enter Tryz.func27, Tryz.ntmps27
  go_upto_region 1 with fail
  rw [← Ga.o]
  go_wp2_with (go_at_call 70; refine CG.o.mono ?_; rintro e w1 ⟨⟨cs, he, ho⟩, hf, hk⟩; obtain ⟨s3, p3, c3, q3, j3, d3, rfl, -⟩ := ho.rep.gone; subst he; have Gf := qI hf; have HK := qI hk; have HO := qI ho; clear hf hk ho)
  go_ret
  rw [HF.o]
  have hs0 := Gs.o
  exact ⟨⟨_, _, _, _, _, _, rfl, HO.o.mono (fun g' ⟨h5, h6⟩ => ⟨by omega, h6⟩)⟩, Gf.o, (Gc.o.mono (by simp)).trans' HK.o⟩
end
end Go.Proofs.YtckbnjipecclaaaGreatDoor

/- Parts of one proof, merged: XGS XAV XJS XJT XGU. -/
import Derived.Test.YtckbnjipecclaaaGreatDoorHkAF
import Derived.Test.YtckbnjipecclaaaGreatDoorHkAG
import Derived.Test.YtckbnjipecclaaaGreatDoorHkAD
import Derived.Test.YtckbnjipecclaaaGreatDoorHkK
import Derived.Deep.Slices
import Derived.OpenShut
import Derived.SizedLaws
import Derived.Test.YtckbnjipecclaaaGreatDoorHkT
import Derived.Test.YtckbnjipecclaaaGreatDoorHkQ
set_option linter.all false
set_option maxHeartbeats 12800000
set_option maxRecDepth 10000
set_option linter.unusedVariables false
set_option linter.unusedSimpArgs false
set_option linter.unnecessarySimpa false
namespace Go.Proofs.YtckbnjipecclaaaGreatDoor
open Go.RowKit
def kvL (k : KeyS) : V 3 := if mayKey k = true then keyV k else (zeroV : VS (V 2))
def kvR (k : KeyS) : V 3 := if mayKey k = true then keyR k else (zeroV : VS (V 2))
def keyKind (k : KeyS) : Int := if mayKey k = true then 6 else 0
theorem kvL_pos {k : KeyS} (h : mayKey k = true) : kvL k = keyV k := if_pos h
theorem kvR_pos {k : KeyS} (h : mayKey k = true) : kvR k = keyR k := if_pos h
theorem kvL_neg {k : KeyS} (h : ¬ mayKey k = true) : kvL k = (zeroV : VS (V 2)) := if_neg h
theorem kvR_neg {k : KeyS} (h : ¬ mayKey k = true) : kvR k = (zeroV : VS (V 2)) := if_neg h
theorem kvL_small {k : KeyS} (h : k.root.length = 32) : Small 3 (kvL k) := by
 by_cases hm : mayKey k = true
 ·rw [kvL_pos hm]; exact small_key k h
 ·rw [kvL_neg hm]; exact small_zero
theorem kvR_small {k : KeyS} (h : k.root.length = 32) : Small 3 (kvR k) := by
 by_cases hm : mayKey k = true
 ·rw [kvR_pos hm]; exact keyR_small k h
 ·rw [kvR_neg hm]; exact small_zero
theorem kv_same (k : KeyS) : sameV 3 (kvL k) (kvR k) = mayKey k := by
 by_cases h : mayKey k = true
 ·rw [kvL_pos h, kvR_pos h, h]; exact keyR_same k h
 ·rw [kvL_neg h, kvR_neg h]
  have h2 : mayKey k = false := by simpa using h
  rw [h2]
  have h3 : sameV 3 (zeroV : VS (V 2)) (zeroV : VS (V 2)) = false := by kernel_rfl
  exact h3
theorem keyAns_open {w w' : World} {e : Ending} {k : KeyS} (h : KeyAns w w' e k) : ∃ kd m s p i c q j d, e = .returned (.agg #[.int .i64 kd, .int .i64 m, .string s, .slice p i c, .slice q j d]) ∧ kd = keyKind k ∧ Rep 3 (fun _ => True) w' [.int .i64 kd, .int .i64 m, .string s, .slice p i c, .slice q j d] (kvL k) := by
 unfold KeyAns at h
 by_cases hm : mayKey k = true
 ·rw [if_pos hm] at h
  obtain ⟨kd, m, s, p, i, c, q, j, d, rfl, ho⟩ := new_fact h
  have hr := Rep.mono (T := fun _ => True) ho.rep (fun _ _ _ => trivial)
  exact ⟨kd, m, s, p, i, c, q, j, d, rfl, hr.heads.1.trans (if_pos hm).symm, by rw [kvL_pos hm]; exact hr⟩
 ·rw [if_neg hm] at h
  exact ⟨0, 0, _, none, 0, 0, none, 0, 0, h, (if_neg hm).symm, by rw [kvL_neg hm]; exact rep_zero _ _⟩
theorem keyAnsR_open {w w' : World} {e : Ending} {k : KeyS} (h : KeyAnsR w w' e k) : ∃ kd m s p i c q j d, e = .returned (.agg #[.int .i64 kd, .int .i64 m, .string s, .slice p i c, .slice q j d]) ∧ kd = keyKind k ∧ Rep 3 (fun _ => True) w' [.int .i64 kd, .int .i64 m, .string s, .slice p i c, .slice q j d] (kvR k) := by
 unfold KeyAnsR at h
 by_cases hm : mayKey k = true
 ·rw [if_pos hm] at h
  obtain ⟨cs, rfl, ho⟩ := h
  obtain ⟨kd, m, s, p, i, c, q, j, d, rfl⟩ := ho.conv
  have hr := Rep.mono (T := fun _ => True) ho (fun _ _ _ => trivial)
  exact ⟨kd, m, s, p, i, c, q, j, d, rfl, hr.heads.1.trans (if_pos hm).symm, by rw [kvR_pos hm]; exact hr⟩
 ·rw [if_neg hm] at h
  exact ⟨0, 0, _, none, 0, 0, none, 0, 0, h, (if_neg hm).symm, by rw [kvR_neg hm]; exact rep_zero _ _⟩
theorem ra_open {e : Ending} {o : Option KeyS} (h : ReadAns e o) : e = .returned (.tuple #[.agg (keyA (o.getD zeroKey)), .int .i64 (codeOf o.isSome)]) := by
 cases o <;> exact h
theorem raR_open {e : Ending} {o : Option KeyS} (h : ReadAnsR e o) : e = .returned (.tuple #[.agg (keyA (o.getD zeroKey)), .bool o.isSome]) := by
 cases o <;> exact h
theorem readKey_root {n : Nat} (v : VS (V (n + 1))) : ((readKeyV v).getD zeroKey).root.length = 32 := by
 unfold readKeyV
 simp only
 split
 ·rfl
 ·split
  ·rename_i h; exact h.2.2.1
  ·rfl
def whenFact (b : Bool) (v : Value) : Fact (Kept []) := ⟨fun u _ _ => b = false → u = v, fun _ _ _ _ h _ => h⟩
set_option maxRecDepth 100000 in
theorem roleKeys_any {n : Nat} {v : V n} {S : Nat → Prop} {w : World} {cs : List Value} {k : KeyS} (hb : wf64I k.bits ∧ k.root.length = 32) (hv : RepT n BB S w cs v) (ht : Tabs w) (hks : KsAt w) (hmx : MaxW w) :
  Calls Tryz.prog 3 #[.agg (keyA k), .agg cs.toArray] w fun e w' => e = .returned (.bool true) ∧ Kept [] w w' := by
 obtain ⟨vk, vn, vs, vp, vi, vc, vq, vj, vd, rfl⟩ := hv.1.conv
 obtain ⟨hb, hl⟩ := hb
 obtain ⟨W0, Gf⟩ : ∃ W0, Hid (W0 = (w.alloc (.cells (keyA k) 24)).alloc (.cells #[.int .i64 vk, .int .i64 vn, .string vs, .slice vp vi vc, .slice vq vj vd] 28)) := ⟨_, qI rfl⟩
 have Gb : Hid (Kept [] w W0) := qI (by rw [Gf.o]; exact ((Kept.refl _ w).alloc _).alloc _)
 have Jd : Hid (KeyAt W0 w.heap.size k) := qI (by rw [Gf.o]; exact ((Kept.refl [] _).alloc _).heap (block_alloc rfl) (by simp))
 have Gu : Hid (BoxAt W0 (w.heap.size + 1) vk vn vs (.slice vp vi vc) (.slice vq vj vd)) := qI (by rw [Gf.o]; exact box_at' (by simp) _ _ _ _ _ _)
 have CLL : Hid (∀ w1, Kept [] w w1 → Calls Tryz.prog 7 #[] w1 fun e w' => e = .returned (.bool true) ∧ Kept [] w1 w') := qI (fun w1 hk => lives_any (ht.kept0 hk) (hks.kept0 hk) (hmx.kept0 hk))
 have hin := incomingR hv
 have HL := qI hl
 have Gn := qI hb
 have CID : Hid (∀ w1, Kept [] w w1 → Calls Tryz.prog 14 #[.agg (keyA k)] w1 fun e w' => e = .returned (.string (keyIdS k)) ∧ Kept [] w1 w') := qI (fun w1 hk => keyId_any k Gn.o HL.o w1 (ht.kept0 hk) (hks.kept0 hk))
 have CIR : Hid (∀ w1, Calls Tryz.prog 15 #[.agg (keyA k)] w1 fun e w' => e = .returned (.string (keyIdS k)) ∧ Kept [] w1 w') := qI (fun w1 => refKeyId_any k Gn.o HL.o w1)
 obtain ⟨e0, e1, e2, e3, e4⟩ := Gu.o
 clear hv ht hks hmx hb hl
 rcases hin with LA | ⟨LA, v2, hrep, hsm⟩
 ·have LA := qI LA
  go_enter Tryz.func3, Tryz.ntmps3
  go_upto_region 1 with fail
  rw [← Gf.o]
  go_wp2_with first
   | (go_at_call 6; refine (LA.o _ Gb.o).mono ?_; rintro e w1 ⟨rfl, hk1⟩; have Gp := qI (Gb.o.then hk1); clear hk1)
   | (go_at_call 7; refine (CLL.o _ Gp.o).mono ?_; rintro e w2 ⟨rfl, hk2⟩; have Gv := qI (Gp.o.then hk2); clear hk2)
  go_ret
  exact ⟨rfl, Gv.o⟩
 have LA := qI LA
 have Gg := qI hrep
 have Je := qI hsm
 have CRV : Hid (∀ w1, Calls Tryz.prog 8 #[.agg (keyA k)] w1 fun e w' => KeyAns w1 w' e k ∧ Kept [] w1 w') := qI (fun w1 => keyValue_any k Gn.o HL.o w1)
 have CRW : Hid (∀ w1, Calls Tryz.prog 12 #[.agg (keyA k)] w1 fun e w' => KeyAnsR w1 w' e k ∧ Kept [] w1 w') := qI (fun w1 => refKeyValue_any k Gn.o HL.o w1)
 obtain ⟨xk, HX⟩ : ∃ xk : KeyS, Hid (xk = (readKeyV (n := 19) v2).getD zeroKey) := ⟨_, qI rfl⟩
 obtain ⟨ok, Jf⟩ : ∃ ok, Hid (ok = (readKeyV (n := 19) v2).isSome) := ⟨_, qI rfl⟩
 obtain ⟨z, Jg⟩ : ∃ z, Hid (z = codeOf ok) := ⟨_, qI rfl⟩
 have HE : Hid ((z == 0) = ok ∧ (ok = false → z = 130)) := qI (by rw [Jg.o]; exact codeOf_test ok)
 have Gh : Hid (xk.root.length = 32) := qI (by rw [HX.o]; exact readKey_root _)
 have CRD : Hid (∀ w1, Kept [] w w1 → Calls Tryz.prog 9 #[.agg #[.int .i64 vk, .int .i64 vn, .string vs, .slice vp vi vc, .slice vq vj vd]] w1 fun e w' => e = .returned (.tuple #[.agg (keyA xk), .int .i64 z]) ∧ Kept [] w1 w') := qI (fun w1 hk => by
  refine (readKey_any (n := 19) (Gg.o.kept0 hk) Je.o).mono ?_
  rintro e w' ⟨h9, hk9⟩
  rw [Jg.o, HX.o, Jf.o]
  exact ⟨ra_open h9, hk9⟩)
 have CRE : Hid (∀ w1, Kept [] w w1 → Calls Tryz.prog 10 #[.agg #[.int .i64 vk, .int .i64 vn, .string vs, .slice vp vi vc, .slice vq vj vd]] w1 fun e w' => e = .returned (.tuple #[.agg (keyA xk), .bool ok]) ∧ Kept [] w1 w') := qI (fun w1 hk => by
  refine (refReadKey_any (n := 19) (Gg.o.kept0 hk) Je.o).mono ?_
  rintro e w' ⟨h9, hk9⟩
  rw [HX.o, Jf.o]
  exact ⟨raR_open h9, hk9⟩)
 clear hrep hsm
 obtain ⟨mr, Gq⟩ : ∃ mr, Hid (mr = mayKey k) := ⟨_, qI rfl⟩
 go_enter Tryz.func3, Tryz.ntmps3
 go_upto_region 1 with fail
 rw [← Gf.o]
 go_upto_region 3 with (go_at_call 6; refine (LA.o _ Gb.o).mono ?_; rintro e w1 ⟨rfl, hk1⟩; have Gp := qI hk1; have Mb := qI (Gb.o.then hk1); have Jm := qI (Jd.o.kept0 hk1); clear hk1 e0 e1 e2 e3 e4)
 go_upto_region 4 with first
  | (refine wpList_load34 (by rfl) (.tmp 2) (by rfl) Jm.o HL.o (by rfl) ?_)
  | (go_at_call 8; refine (CRV.o _).mono ?_; rintro e w2 ⟨h2, hk2⟩; obtain ⟨kd, wm, ws, wp, wi, wc, wq, wj, wd, rfl, hkd, hrw⟩ := keyAns_open h2; have Gw := qI hkd; have Jn := qI hrw; have Gv := qI (Gp.o.then hk2); clear h2 hkd hrw hk2)
 obtain ⟨w3, Gr⟩ : ∃ w3, Hid (w3 = w2.alloc (.cells #[.int .i64 kd, .int .i64 wm, .string ws, .slice wp wi wc, .slice wq wj wd] 28)) := ⟨_, qI rfl⟩
 obtain ⟨b5, Jh⟩ : ∃ b5, Hid (b5 = w2.heap.size) := ⟨_, qI rfl⟩
 have Gs : Hid (Kept [] W0 w3) := qI (by rw [Gr.o]; exact Gv.o.alloc _)
 have Jo : Hid (BoxAt w3 b5 kd wm ws (.slice wp wi wc) (.slice wq wj wd)) := qI (by rw [Gr.o]; exact box_at' Jh.o.symm _ _ _ _ _ _)
 have Jp : Hid (Rep 3 (fun _ => True) w3 [.int .i64 kd, .int .i64 wm, .string ws, .slice wp wi wc, .slice wq wj wd] (kvL k)) := qI (Jn.o.kept0 (by rw [Gr.o]; exact (Kept.refl _ _).alloc _))
 rw [← Gr.o, ← Jh.o]
 obtain ⟨e0, e1, e2, e3, e4⟩ := Gu.o.kept0 Gs.o
 go_upto_region 5 with first
  | (go_at_call 9; refine (CRD.o _ (Gb.o.then Gs.o)).mono ?_; rintro e w4 ⟨rfl, hk4⟩; have Gx := qI hk4; have Jq := qI (Gs.o.then hk4); clear hk4 e0 e1 e2 e3 e4)
  | (refine wpList_store34 (by rfl) (.tmp 6) (.tmp 20) (by rfl) (g := w4.heap.size) (k := xk) (k0 := zeroKey) (block_alloc rfl) (by rfl) Gh.o (by rfl) (by rfl) ?_; intro w5 h8 hk8; have Ji := qI h8; have Gi : Hid (Kept [] w4 w5) := qI (((Kept.refl [] w4).alloc _).trans hk8 (by intro i hi; simp at hi; subst hi; exact .inr (Nat.le_refl _))); clear h8 hk8; simp only [Act.put])
 have Ga := qI (Jq.o.then Gi.o)
 obtain ⟨b6, Jr⟩ : ∃ b6, Hid (b6 = w4.heap.size) := ⟨_, qI rfl⟩
 rw [← Jr.o] at Ji ⊢
 obtain ⟨e0, e1, e2, e3, e4⟩ := Gu.o.kept0 Ga.o
 go_upto_region 6 with first
  | (go_at_call 10; refine (CRE.o _ (Gb.o.then Ga.o)).mono ?_; rintro e w6 ⟨rfl, hk6⟩; have Gy := qI hk6; have Js := qI (Ga.o.then hk6); clear hk6 e0 e1 e2 e3 e4)
  | (refine wpList_store34 (by rfl) (.tmp 8) (.tmp 25) (by rfl) (g := w6.heap.size) (k := xk) (k0 := zeroKey) (block_alloc rfl) (by rfl) Gh.o (by rfl) (by rfl) ?_; intro wS h8 hk8; have Jj := qI h8; have Gj : Hid (Kept [] w6 wS) := qI (((Kept.refl [] w6).alloc _).trans hk8 (by intro i hi; simp at hi; subst hi; exact .inr (Nat.le_refl _))); clear h8 hk8; simp only [Act.put])
 have Gt : Hid (Kept [] w wS) := qI ((Gb.o.then Js.o).then Gj.o)
 obtain ⟨b8, Jt⟩ : ∃ b8, Hid (b8 = w6.heap.size) := ⟨_, qI rfl⟩
 rw [← Jt.o] at Jj ⊢
 have Gk := qI (Gy.o.then Gj.o)
 have Gc := qI ((Gx.o.then Gi.o).then Gk.o)
 have Gz := qI (Gs.o.then Gc.o)
 have Ja := qI (Ji.o.kept0 Gk.o)
 have Gl := qI (Jo.o.kept0 Gc.o)
 have Gd := qI (Jd.o.kept0 Gz.o)
 have Jk := qI (Jp.o.kept0 Gc.o)
 have CLL6 : Hid (∀ w1, Kept [] wS w1 → Calls Tryz.prog 7 #[] w1 fun e w' => e = .returned (.bool true) ∧ Kept [] w1 w') := qI (fun w1 hk => CLL.o _ (Gt.o.then hk))
 have CID6 : Hid (∀ w1, Kept [] wS w1 → Calls Tryz.prog 14 #[.agg (keyA k)] w1 fun e w' => e = .returned (.string (keyIdS k)) ∧ Kept [] w1 w') := qI (fun w1 hk => CID.o _ (Gt.o.then hk))
 have CKV : Hid (∀ w1, Calls Tryz.prog 12 #[.agg (keyA k)] w1 fun e w' => (∃ k3 m s p i c q j d, e = .returned (.agg #[.int .i64 k3, .int .i64 m, .string s, .slice p i c, .slice q j d]) ∧ Rep 3 (fun _ => True) w' [.int .i64 k3, .int .i64 m, .string s, .slice p i c, .slice q j d] (kvR k)) ∧ Kept [] w1 w') := qI (fun w1 => by
  refine (CRW.o w1).mono ?_
  rintro e w' ⟨h9, hk9⟩
  obtain ⟨k3, m, s, p, i, c, q, j, d, rfl, -, h8⟩ := keyAnsR_open h9
  exact ⟨⟨k3, m, s, p, i, c, q, j, d, rfl, h8⟩, hk9⟩)
 have CKK : Hid (∀ w1, Calls Tryz.prog 12 #[.agg (keyA k)] w1 fun e w' => (∃ m s p i c q j d, e = .returned (.agg #[.int .i64 kd, .int .i64 m, .string s, .slice p i c, .slice q j d])) ∧ Kept [] w1 w') := qI (fun w1 => by
  refine (CRW.o w1).mono ?_
  rintro e w' ⟨h9, hk9⟩
  obtain ⟨k3, m, s, p, i, c, q, j, d, rfl, h8, -⟩ := keyAnsR_open h9
  rw [← Gw.o] at h8
  subst h8
  exact ⟨⟨m, s, p, i, c, q, j, d, rfl⟩, hk9⟩)
 have CKZ : Hid (mr = false → ∀ w1, Calls Tryz.prog 12 #[.agg (keyA k)] w1 fun e w' => e = .returned zero5 ∧ Kept [] w1 w') := qI (fun hm w1 => by
  refine (CRW.o w1).mono ?_
  rintro e w' ⟨h9, hk9⟩
  unfold KeyAnsR at h9
  rw [if_neg (by rw [← Gq.o, hm]; decide)] at h9
  exact ⟨h9, hk9⟩)
 have CCK : Hid (∀ w1, Calls Tryz.prog 13 #[zero5] w1 fun e w' => e = .returned (.int .i64 40) ∧ Kept [] w1 w') := qI (fun w1 => by
  have h9 := refCheck_any (n := 3) (rep_zero (n := 2) (fun _ => True) w1) small_zero (by decide)
  rw [show checkV 3 (zeroV : VS (V 2)) = 40 by kernel_rfl] at h9
  exact h9)
 have CSM : Hid (∀ w1, Kept [] wS w1 → ∀ cs : List Value, Rep 3 (fun _ => True) w1 cs (kvR k) → Calls Tryz.prog 11 #[.agg #[.int .i64 kd, .int .i64 wm, .string ws, .slice wp wi wc, .slice wq wj wd], .agg cs.toArray] w1 fun e w' => e = .returned (.bool mr) ∧ Kept [] w1 w') := qI (fun w1 hk cs hc => by
  have h9 := refSame_any (n := 3) (Jk.o.kept0 hk) hc (kvL_small HL.o) (kvR_small HL.o) (by decide)
  rw [kv_same, ← Gq.o] at h9
  exact h9)
 obtain ⟨w0, w1, w2', w3', w4'⟩ := Gl.o
 refine wp_grows (n := 91) 48 [Fact.is (.bool true),
  Fact.is (.bool false),
  Fact.is (.bool false),
  Fact.is (.agg #[.int .i64 kd, .int .i64 wm, .string ws, .slice wp wi wc, .slice wq wj wd]),
  Fact.is (.agg (keyA k)),
  repFact (fun _ => True) 3 (kvR k),
  Fact.is (.bool mr),
  Fact.is (.bool (!mr)),
  Fact.is (.bool (!mr)),
  whenFact mr (.agg (keyA k)),
  whenFact mr zero5,
  whenFact mr (.int .i64 40),
  whenFact mr (.bool false),
  Fact.is (.bool false),
  Fact.is (.bool false),
  Fact.is (.bool false),
  Fact.is (.pointer (some ⟨b5, 0, none⟩)),
  Fact.is (.int .i64 kd),
  Fact.is (.agg (keyA k)),
  kindFact kd,
  Fact.is (.int .i64 kd),
  Fact.is (.bool false),
  Fact.is (.bool false),
  Fact.is (.bool false),
  Fact.is (.agg (keyA k)),
  Fact.is (.string (keyIdS k)),
  Fact.is (.agg (keyA k)),
  Fact.is (.string (keyIdS k)),
  Fact.is (.bool false),
  Fact.is (.bool false),
  Fact.is (.bool false),
  Fact.is (.agg (keyA xk)),
  Fact.is (.agg (keyA xk)),
  Fact.is (.bool false),
  Fact.is (.bool false),
  Fact.is (.bool false),
  Fact.is (.int .i64 z),
  Fact.is (.bool ok),
  Fact.is (.bool ok),
  Fact.is (.bool false),
  Fact.is (.bool false),
  Fact.is (.bool false),
  Fact.is (.bool ok),
  Fact.is (.bool (!ok)),
  Fact.is (.bool (!ok)),
  errFact ok z,
  okFact ok,
  Fact.is (.bool false)] (by kernel_rfl) rfl (by kernel_rfl) (fun x => by simp only [List.map, puts, Act.put, List.setIfInBounds_toArray, List.set_cons_zero, List.set_cons_succ]; rfl) ?_ ?_
 ·refine ⟨fun x w2 hkw b hd => ?_, fun x w2 hkw b hd => ?_, fun x w2 hkw b hd => ?_, fun x w2 hkw b hd => ?_, fun x w2 hkw b hd => ?_, fun x w2 hkw b hd => ?_, fun x w2 hkw b hd => ?_, fun x w2 hkw b hd => ?_, fun x w2 hkw b hd => ?_, fun x w2 hkw b hd => ?_, fun x w2 hkw b hd => ?_, fun x w2 hkw b hd => ?_, fun x w2 hkw b hd => ?_, fun x w2 hkw b hd => ?_, fun x w2 hkw b hd => ?_, fun x w2 hkw b hd => ?_, fun x w2 hkw b hd => ?_, fun x w2 hkw b hd => ?_, fun x w2 hkw b hd => ?_, fun x w2 hkw b hd => ?_, fun x w2 hkw b hd => ?_, fun x w2 hkw b hd => ?_, fun x w2 hkw b hd => ?_, fun x w2 hkw b hd => ?_, fun x w2 hkw b hd => ?_, fun x w2 hkw b hd => ?_, fun x w2 hkw b hd => ?_, fun x w2 hkw b hd => ?_, fun x w2 hkw b hd => ?_, fun x w2 hkw b hd => ?_, fun x w2 hkw b hd => ?_, fun x w2 hkw b hd => ?_, fun x w2 hkw b hd => ?_, fun x w2 hkw b hd => ?_, fun x w2 hkw b hd => ?_, fun x w2 hkw b hd => ?_, fun x w2 hkw b hd => ?_, fun x w2 hkw b hd => ?_, fun x w2 hkw b hd => ?_, fun x w2 hkw b hd => ?_, fun x w2 hkw b hd => ?_, fun x w2 hkw b hd => ?_, fun x w2 hkw b hd => ?_, fun x w2 hkw b hd => ?_, fun x w2 hkw b hd => ?_, fun x w2 hkw b hd => ?_, fun x w2 hkw b hd => ?_, fun x w2 hkw b hd => ?_, trivial⟩
  ·have CX := CLL6.o _ hkw
   go_wp2_with (go_at_call 7; refine CX.mono ?_; rintro e w5 ⟨rfl, hk5⟩; have Ga := qI hk5; clear hk5)
   exact ⟨rfl, Ga.o⟩
  ·have d0 : x 0 = _ := hd 0 (by kernel_rfl)
   go_wp2_with fail
   exact ⟨rfl, Kept.refl _ _⟩
  ·have d1 : x 1 = _ := hd 1 (by kernel_rfl)
   go_wp2_with fail
   exact ⟨rfl, Kept.refl _ _⟩
  ·have d2 : x 2 = _ := hd 2 (by kernel_rfl)
   have y0 := hkw.cell w0 (by simp)
   have y1 := hkw.cell w1 (by simp)
   have y2 := hkw.cell w2' (by simp)
   have y3 := hkw.cell w3' (by simp)
   have y4 := hkw.cell w4' (by simp)
   go_wp2_with fail
   exact ⟨rfl, Kept.refl _ _⟩
  ·have d2 : x 2 = _ := hd 2 (by kernel_rfl)
   have h7 := Gd.o.kept0 hkw
   refine wpList_load34g (by simp only [Nat.reduceAdd, Nat.zero_add]; revert d2; generalize x 2 = vv; rintro rfl; rfl) (.tmp 2) (by rfl) h7 HL.o (by rfl) ?_
   go_wp2_with fail
   exact ⟨rfl, Kept.refl _ _⟩
  ·have d2 : x 2 = _ := hd 2 (by kernel_rfl)
   have d4 : x 4 = _ := hd 4 (by kernel_rfl)
   go_wp2_with (go_at_call 12; refine (CKV.o _).mono ?_; rintro e w5 ⟨⟨k5, m5, s5, p5, i5, c5, q5, j5, d5, rfl, hr5⟩, hk5⟩; have Ju := qI hr5; have Ga := qI hk5; clear hk5 hr5)
   exact ⟨⟨_, _, _, _, _, _, _, _, _, rfl, Ju.o⟩, Ga.o⟩
  ·have d2 : x 2 = _ := hd 2 (by kernel_rfl)
   have d3 : x 3 = _ := hd 3 (by kernel_rfl)
   obtain ⟨k5, m5, s5, p5, i5, c5, q5, j5, e5, d5, hr5⟩ := hd 5 (by kernel_rfl)
   have CX := CSM.o _ hkw [.int .i64 k5, .int .i64 m5, .string s5, .slice p5 i5 c5, .slice q5 j5 e5] hr5
   clear hr5
   go_wp2_with (go_at_call 11; refine CX.mono ?_; rintro e w5 ⟨rfl, hk5⟩; have Ga := qI hk5; clear hk5)
   exact ⟨rfl, Ga.o⟩
  ·have d2 : x 2 = _ := hd 2 (by kernel_rfl)
   have d6 : x 6 = _ := hd 6 (by kernel_rfl)
   go_wp2_with fail
   exact ⟨rfl, Kept.refl _ _⟩
  ·have d2 : x 2 = _ := hd 2 (by kernel_rfl)
   have d7 : x 7 = _ := hd 7 (by kernel_rfl)
   go_wp2_with fail
   exact ⟨rfl, Kept.refl _ _⟩
  ·have d8 : x 8 = _ := hd 8 (by kernel_rfl)
   cases mr with
   | true =>
    go_wp2_with fail
    exact ⟨(fun h => by cases h), Kept.refl _ _⟩
   | false =>
    have h7 := Gd.o.kept0 hkw
    refine wpList_load34g (by simp only [Nat.reduceAdd, Nat.zero_add]; revert d8; generalize x 8 = vv; rintro rfl; rfl) (.tmp 2) (by rfl) h7 HL.o (by rfl) ?_
    go_wp2_with fail
    exact ⟨fun _ => rfl, Kept.refl _ _⟩
  ·have d8 : x 8 = _ := hd 8 (by kernel_rfl)
   have h9 := hd 9 (by kernel_rfl)
   cases mr with
   | true =>
    go_wp2_with fail
    exact ⟨(fun h => by cases h), Kept.refl _ _⟩
   | false =>
    have d9 : x 9 = _ := h9 rfl
    have CX := CKZ.o rfl
    go_wp2_with (go_at_call 12; refine (CX _).mono ?_; rintro e w5 ⟨rfl, hk5⟩; have Ga := qI hk5; clear hk5)
    exact ⟨fun _ => rfl, Ga.o⟩
  ·have d8 : x 8 = _ := hd 8 (by kernel_rfl)
   have h10 := hd 10 (by kernel_rfl)
   cases mr with
   | true =>
    go_wp2_with fail
    exact ⟨(fun h => by cases h), Kept.refl _ _⟩
   | false =>
    have d10 : x 10 = _ := h10 rfl
    go_wp2_with (go_at_call 13; refine (CCK.o _).mono ?_; rintro e w5 ⟨rfl, hk5⟩; have Ga := qI hk5; clear hk5)
    exact ⟨fun _ => rfl, Ga.o⟩
  ·have d8 : x 8 = _ := hd 8 (by kernel_rfl)
   have h11 := hd 11 (by kernel_rfl)
   cases mr with
   | true =>
    go_wp2_with fail
    exact ⟨(fun h => by cases h), Kept.refl _ _⟩
   | false =>
    have d11 : x 11 = _ := h11 rfl
    go_wp2_with fail
    exact ⟨fun _ => rfl, Kept.refl _ _⟩
  ·have d2 : x 2 = _ := hd 2 (by kernel_rfl)
   have d8 : x 8 = _ := hd 8 (by kernel_rfl)
   have h12 := hd 12 (by kernel_rfl)
   cases mr with
   | true =>
    go_wp2_with fail
    exact ⟨rfl, Kept.refl _ _⟩
   | false =>
    have d12 : x 12 = _ := h12 rfl
    go_wp2_with fail
    exact ⟨rfl, Kept.refl _ _⟩
  ·have d2 : x 2 = _ := hd 2 (by kernel_rfl)
   have d13 : x 13 = _ := hd 13 (by kernel_rfl)
   go_wp2_with fail
   exact ⟨rfl, Kept.refl _ _⟩
  ·have d14 : x 14 = _ := hd 14 (by kernel_rfl)
   go_wp2_with fail
   exact ⟨rfl, Kept.refl _ _⟩
  ·have d15 : x 15 = _ := hd 15 (by kernel_rfl)
   go_wp2_with fail
   exact ⟨rfl, Kept.refl _ _⟩
  ·have d15 : x 15 = _ := hd 15 (by kernel_rfl)
   have d16 : x 16 = _ := hd 16 (by kernel_rfl)
   have y0 := hkw.cell w0 (by simp)
   go_wp2_with fail
   exact ⟨rfl, Kept.refl _ _⟩
  ·have d15 : x 15 = _ := hd 15 (by kernel_rfl)
   have h7 := Gd.o.kept0 hkw
   refine wpList_load34g (by simp only [Nat.reduceAdd, Nat.zero_add]; revert d15; generalize x 15 = vv; rintro rfl; rfl) (.tmp 2) (by rfl) h7 HL.o (by rfl) ?_
   go_wp2_with fail
   exact ⟨rfl, Kept.refl _ _⟩
  ·have d15 : x 15 = _ := hd 15 (by kernel_rfl)
   have d18 : x 18 = _ := hd 18 (by kernel_rfl)
   go_wp2_with (go_at_call 12; refine (CKK.o _).mono ?_; rintro e w5 ⟨⟨m5, s5, p5, i5, c5, q5, j5, e5, rfl⟩, hk5⟩; have Ga := qI hk5; clear hk5)
   exact ⟨⟨_, _, _, _, _, _, _, _, rfl⟩, Ga.o⟩
  ·have d15 : x 15 = _ := hd 15 (by kernel_rfl)
   obtain ⟨m5, s5, p5, i5, c5, q5, j5, e5, d19⟩ := hd 19 (by kernel_rfl)
   have hfd := fieldKind
   go_wp2_with fail
   exact ⟨rfl, Kept.refl _ _⟩
  ·have d15 : x 15 = _ := hd 15 (by kernel_rfl)
   have d17 : x 17 = _ := hd 17 (by kernel_rfl)
   have d20 : x 20 = _ := hd 20 (by kernel_rfl)
   go_wp2_with fail
   exact ⟨rfl, Kept.refl _ _⟩
  ·have d15 : x 15 = _ := hd 15 (by kernel_rfl)
   have d21 : x 21 = _ := hd 21 (by kernel_rfl)
   go_wp2_with fail
   exact ⟨rfl, Kept.refl _ _⟩
  ·have d22 : x 22 = _ := hd 22 (by kernel_rfl)
   go_wp2_with fail
   exact ⟨rfl, Kept.refl _ _⟩
  ·have d23 : x 23 = _ := hd 23 (by kernel_rfl)
   have h7 := Gd.o.kept0 hkw
   refine wpList_load34g (by simp only [Nat.reduceAdd, Nat.zero_add]; revert d23; generalize x 23 = vv; rintro rfl; rfl) (.tmp 2) (by rfl) h7 HL.o (by rfl) ?_
   go_wp2_with fail
   exact ⟨rfl, Kept.refl _ _⟩
  ·have d23 : x 23 = _ := hd 23 (by kernel_rfl)
   have d24 : x 24 = _ := hd 24 (by kernel_rfl)
   have CX := CID6.o _ hkw
   go_wp2_with (go_at_call 14; refine CX.mono ?_; rintro e w5 ⟨rfl, hk5⟩; have Ga := qI hk5; clear hk5)
   exact ⟨rfl, Ga.o⟩
  ·have d23 : x 23 = _ := hd 23 (by kernel_rfl)
   have h7 := Gd.o.kept0 hkw
   refine wpList_load34g (by simp only [Nat.reduceAdd, Nat.zero_add]; revert d23; generalize x 23 = vv; rintro rfl; rfl) (.tmp 2) (by rfl) h7 HL.o (by rfl) ?_
   go_wp2_with fail
   exact ⟨rfl, Kept.refl _ _⟩
  ·have d23 : x 23 = _ := hd 23 (by kernel_rfl)
   have d26 : x 26 = _ := hd 26 (by kernel_rfl)
   have CX := CIR.o w2
   go_wp2_with (go_at_call 15; refine CX.mono ?_; rintro e w5 ⟨rfl, hk5⟩; have Ga := qI hk5; clear hk5)
   exact ⟨rfl, Ga.o⟩
  ·have d23 : x 23 = _ := hd 23 (by kernel_rfl)
   have d25 : x 25 = _ := hd 25 (by kernel_rfl)
   have d27 : x 27 = _ := hd 27 (by kernel_rfl)
   go_wp2_with fail
   exact ⟨rfl, Kept.refl _ _⟩
  ·have d23 : x 23 = _ := hd 23 (by kernel_rfl)
   have d28 : x 28 = _ := hd 28 (by kernel_rfl)
   go_wp2_with fail
   exact ⟨rfl, Kept.refl _ _⟩
  ·have d29 : x 29 = _ := hd 29 (by kernel_rfl)
   go_wp2_with fail
   exact ⟨rfl, Kept.refl _ _⟩
  ·have d30 : x 30 = _ := hd 30 (by kernel_rfl)
   have h7 := Ja.o.kept0 hkw
   refine wpList_load34g (by simp only [Nat.reduceAdd, Nat.zero_add]; revert d30; generalize x 30 = vv; rintro rfl; rfl) (.tmp 6) (by rfl) h7 Gh.o (by rfl) ?_
   go_wp2_with fail
   exact ⟨rfl, Kept.refl _ _⟩
  ·have d30 : x 30 = _ := hd 30 (by kernel_rfl)
   have h7 := Jj.o.kept0 hkw
   refine wpList_load34g (by simp only [Nat.reduceAdd, Nat.zero_add]; revert d30; generalize x 30 = vv; rintro rfl; rfl) (.tmp 8) (by rfl) h7 Gh.o (by rfl) ?_
   go_wp2_with fail
   exact ⟨rfl, Kept.refl _ _⟩
  ·have d30 : x 30 = _ := hd 30 (by kernel_rfl)
   have d31 : x 31 = _ := hd 31 (by kernel_rfl)
   have d32 : x 32 = _ := hd 32 (by kernel_rfl)
   refine wpList_neqK Gh.o (by simp only [Nat.reduceAdd, Nat.zero_add]; revert d30; generalize x 30 = vv; rintro rfl; rfl) 58 59 (by rfl) (by exact d31) (by exact d32) ?_
   go_wp2_with fail
   exact ⟨rfl, Kept.refl _ _⟩
  ·have d30 : x 30 = _ := hd 30 (by kernel_rfl)
   have d33 : x 33 = _ := hd 33 (by kernel_rfl)
   go_wp2_with fail
   exact ⟨rfl, Kept.refl _ _⟩
  ·have d34 : x 34 = _ := hd 34 (by kernel_rfl)
   go_wp2_with fail
   exact ⟨rfl, Kept.refl _ _⟩
  ·have d35 : x 35 = _ := hd 35 (by kernel_rfl)
   go_wp2_with fail
   exact ⟨rfl, Kept.refl _ _⟩
  ·have d35 : x 35 = _ := hd 35 (by kernel_rfl)
   have d36 : x 36 = _ := hd 36 (by kernel_rfl)
   have he0 := HE.o.1
   go_wp2_with fail
   exact ⟨rfl, Kept.refl _ _⟩
  ·have d35 : x 35 = _ := hd 35 (by kernel_rfl)
   go_wp2_with fail
   exact ⟨rfl, Kept.refl _ _⟩
  ·have d35 : x 35 = _ := hd 35 (by kernel_rfl)
   have d37 : x 37 = _ := hd 37 (by kernel_rfl)
   have d38 : x 38 = _ := hd 38 (by kernel_rfl)
   cases ok
   all_goals
    go_wp2_with fail
    exact ⟨rfl, Kept.refl _ _⟩
  ·have d35 : x 35 = _ := hd 35 (by kernel_rfl)
   have d39 : x 39 = _ := hd 39 (by kernel_rfl)
   go_wp2_with fail
   exact ⟨rfl, Kept.refl _ _⟩
  ·have d40 : x 40 = _ := hd 40 (by kernel_rfl)
   go_wp2_with fail
   exact ⟨rfl, Kept.refl _ _⟩
  ·have d41 : x 41 = _ := hd 41 (by kernel_rfl)
   go_wp2_with fail
   exact ⟨rfl, Kept.refl _ _⟩
  ·have d41 : x 41 = _ := hd 41 (by kernel_rfl)
   have d42 : x 42 = _ := hd 42 (by kernel_rfl)
   go_wp2_with fail
   exact ⟨rfl, Kept.refl _ _⟩
  ·have d41 : x 41 = _ := hd 41 (by kernel_rfl)
   have d43 : x 43 = _ := hd 43 (by kernel_rfl)
   go_wp2_with fail
   exact ⟨rfl, Kept.refl _ _⟩
  ·have d44 : x 44 = _ := hd 44 (by kernel_rfl)
   cases ok with
   | true =>
    go_wp2_with fail
    exact ⟨(fun h => by cases h), Kept.refl _ _⟩
   | false =>
    go_wp2_with fail
    exact ⟨fun _ => rfl, Kept.refl _ _⟩
  ·have d44 : x 44 = _ := hd 44 (by kernel_rfl)
   have h45 := hd 45 (by kernel_rfl)
   have hz := HE.o.2
   cases ok with
   | true =>
    go_wp2_with fail
    exact ⟨(fun h => by cases h), Kept.refl _ _⟩
   | false =>
    have d45 : x 45 = .int .i64 z := h45 rfl
    obtain rfl := hz rfl
    clear hz
    go_wp2_with fail
    exact ⟨fun _ => rfl, Kept.refl _ _⟩
  ·have d41 : x 41 = _ := hd 41 (by kernel_rfl)
   have d44 : x 44 = _ := hd 44 (by kernel_rfl)
   have h46 := hd 46 (by kernel_rfl)
   cases ok with
   | true =>
    go_wp2_with fail
    exact ⟨rfl, Kept.refl _ _⟩
   | false =>
    have d46 : x 46 = .bool false := h46 rfl
    go_wp2_with fail
    exact ⟨rfl, Kept.refl _ _⟩
 intro x' w7 hkw b7 hd hwin
 have d41 : x' 41 = _ := hd 41 (by decide)
 have d47 : x' 47 = _ := hd 47 (by decide)
 have Ge := qI hkw
 clear hd hwin hkw w1 w2' w3' w4'
 have w0 := Ge.o.cell w0 (by simp)
 change wpList _ _ _ [_] _ _
 cases mr with
 | false =>
  obtain rfl : kd = 0 := by rw [Gw.o, keyKind, if_neg]; rw [← Gq.o]; decide
  go_wp2_with fail
  go_ret
  exact ⟨rfl, Gt.o.then Ge.o⟩
 | true =>
  have HM : Hid (mayKey k = true) := qI Gq.o.symm
  obtain rfl : kd = 6 := by rw [Gw.o, keyKind, if_pos HM.o]
  have Jv : Hid (BoxAt w7 b5 6 wm ws (.slice wp wi wc) (.slice wq wj wd)) := qI (Gl.o.kept0 Ge.o)
  have Jw := qI (Jk.o.kept0 Ge.o)
  have Jx := qI (Gd.o.kept0 Ge.o)
  clear w0
  obtain ⟨w0, w1, w2', w3', w4'⟩ := Jv.o
  have CR2 : Hid (Calls Tryz.prog 9 #[.agg #[.int .i64 6, .int .i64 wm, .string ws, .slice wp wi wc, .slice wq wj wd]] w7 fun e w' => e = .returned (.tuple #[.agg (keyA k), .int .i64 0]) ∧ Kept [] w7 w') := qI (by
   have h8 := kvL_pos HM.o
   have h7 := Jw.o
   rw [h8] at h7
   refine (readKey_any (n := 1) h7 (small_key k HL.o)).mono ?_
   rintro e w' ⟨h9, hk9⟩
   rw [readKey_keyV HM.o HL.o] at h9
   exact ⟨h9, hk9⟩)
  go_upto_region 11 with first
   | (go_at_call 9; refine CR2.o.mono ?_; rintro e w8 ⟨rfl, hk8⟩; have Jy := qI hk8; clear hk8 w0 w1 w2' w3' w4')
   | (refine wpList_store34 (by rfl) (.tmp 10) (.tmp 82) (by rfl) (g := w8.heap.size) (k := k) (k0 := zeroKey) (block_alloc rfl) (by rfl) HL.o (by rfl) (by rfl) ?_; intro wT h8 hk8; have Jl := qI h8; have Jb : Hid (Kept [] w8 wT) := qI (((Kept.refl [] w8).alloc _).trans hk8 (by intro i hi; simp at hi; subst hi; exact .inr (Nat.le_refl _))); clear h8 hk8; simp only [Act.put])
  obtain ⟨b10, Jc⟩ : ∃ b10, Hid (b10 = w8.heap.size) := ⟨_, qI rfl⟩
  rw [← Jc.o] at Jl ⊢
  have Gm := qI (Jy.o.then Jb.o)
  have Jz := qI ((Gt.o.then Ge.o).then Gm.o)
  have Ma := qI (Jx.o.kept0 Gm.o)
  go_wp2_with first
   | (refine wpList_load34g (by rfl) (.tmp 10) (by rfl) Jl.o HL.o (by rfl) ?_)
   | (refine wpList_load34g (by rfl) (.tmp 2) (by rfl) Ma.o HL.o (by rfl) ?_)
   | (refine wpList_eqlK HL.o (by rfl) 87 88 (by rfl) (by rfl) (by rfl) ?_)
  go_ret
  exact ⟨rfl, Jz.o⟩
theorem cellsIntV : Tryz.prog.cellsOf 3 = 1 := by kernel_rfl
theorem cellsStrV : Tryz.prog.cellsOf 9 = 1 := by kernel_rfl
theorem cellsVals : Tryz.prog.cellsOf 25 = 1 := by kernel_rfl
theorem cellsPairs : Tryz.prog.cellsOf 26 = 1 := by kernel_rfl
theorem cellsVal : Tryz.prog.cellsOf 28 = 5 := by kernel_rfl
theorem cellsPair : Tryz.prog.cellsOf 78 = 6 := by kernel_rfl
section
variable {H : Type} {enc : TypeId × Value → H} {w : World} {held : Bool}
theorem weightsAll_mem {P : Program} {e : TypeId} : ∀ {l : List (DataW H)} {d : DataW H} {k : Nat}, d ∈ l → k ∈ d.weights P e → k ∈ DataW.weightsAll P e l
 | [], _, _, h, _ => by cases h
 | a :: l, d, k, h, hk => by
  rw [DataW.weightsAll, List.mem_append]
  rcases List.mem_cons.1 h with rfl | h
  ·exact .inl hk
  ·exact .inr (weightsAll_mem h hk)
theorem weights_field {P : Program} {t : TypeId} {fs : Array Field} {xs : List (DataW H × List MemPlace)} (h : P.underlying t = some (.struct fs)) {j : Nat} {tt : TypeId} {y : DataW H × List MemPlace} {k : Nat} (ht : (fs.toList.map (·.type))[j]? = some tt) (hy : xs[j]? = some y) (hk : k ∈ y.1.weights P tt) : k ∈ (DataW.agg (xs.map (·.1)) : DataW H).weights P t := by
 rw [DataW.weights, h]
 exact DataW.weights_mem_each (j := j) ht (by rw [List.getElem?_map, hy]; rfl) k hk
theorem trod_slcV {P : Program} {t e size : Nat} (ht : P.underlying t = some (.slice e)) (hc : P.cellsOf e = size) (hpos : 0 < size) {fuel : Nat} {v : Value} {x : DataW H × List MemPlace} {B : Nat}
  (h : DataW.trod enc P w 0 (fun _ => true) held fuel t [v] = some x) (hw : ∀ k, k ∈ x.1.weights P t → k ≤ B) (hb : 0 < P.bytesOf e) :
  ∃ n xs, Slc w size v n xs ∧ n ≤ B ∧ (n = 0 ∨ ∃ m, fuel = m + 1 ∧ ∀ i, i < n → ∃ y, DataW.trod enc P w 0 (fun _ => true) held m e ((xs.drop (i * size)).take size) = some y ∧ ∀ k, k ∈ y.1.weights P e → k ≤ B) := by
 rcases DataW.trod_slice ht h with ⟨hcs, _⟩ | ⟨a, len, cap, elems, rest, m, hfuel, hcs, hxe, _, hl, hm, hel, hx, _⟩
 ·obtain rfl : v = .slice none 0 0 := by simpa using hcs
  exact ⟨0, [], slc_nil _ _, Nat.zero_le _, .inl rfl⟩
 ·obtain rfl : v = .slice (some a) len cap := by simpa using hcs
  rw [hc] at hx
  by_cases h0 : len = 0
  ·subst h0
   exact ⟨0, [], ⟨by simp, .inr (.inl ⟨rfl, a, cap, rfl, hm⟩)⟩, Nat.zero_le _, .inl rfl⟩
  ·rw [hxe] at hw
   have hwe : (DataW.slice (elems.map (·.1)) (rest.map (·.1)) : DataW H).weights P t = ((elems.map (·.1)).length + (rest.map (·.1)).length) * P.bytesOf e :: (DataW.weightsAll P e (elems.map (·.1)) ++ DataW.weightsAll P e (rest.map (·.1))) := by
    rw [DataW.weights, ht]
   simp only at hw
   rw [hwe] at hw
   have hlenB : len ≤ B := by
    have h1 := hw _ (List.mem_cons_self ..)
    rw [List.length_map, List.length_map, hel] at h1
    have h2 : (len + rest.length) * 1 ≤ (len + rest.length) * P.bytesOf e := Nat.mul_le_mul_left _ hb
    omega
   have hx' : ∀ i, i < len → ∃ cs', w.cells? 0 (a.add (i * size)) size = some cs' ∧ ∃ y, DataW.trod enc P w 0 (fun _ => true) held m e cs' = some y ∧ ∀ k, k ∈ y.1.weights P e → k ≤ B := by
    intro i hi
    have h1 := hx i hi
    rw [List.getElem?_eq_getElem (by omega)] at h1
    obtain ⟨cs', h2, h3⟩ := Option.bind_eq_some_iff.1 h1
    exact ⟨cs', h2, _, h3, fun k hk => hw k (List.mem_cons_of_mem _ (List.mem_append_left _ (weightsAll_mem (List.mem_map_of_mem (List.getElem_mem (by omega))) hk)))⟩
   have hcell : ∀ j, j < len * size → ∃ u, w.cell? (a.add j) = some u := by
    intro j hj
    have hi : j / size < len := Nat.div_lt_of_lt_mul (by rw [Nat.mul_comm]; exact hj)
    obtain ⟨cs', h1, _⟩ := hx' _ hi
    obtain ⟨_, h2, h3⟩ := World.cells?_some h1
    have hr := Nat.mod_lt j hpos
    have h4 := h3 _ hr
    rw [Deep.add_add, show j / size * size + j % size = j by rw [Nat.mul_comm]; exact Nat.div_add_mod j size] at h4
    rw [h4]
    exact ⟨cs'[j % size], by simp [h2, hr]⟩
   have hpos2 : 0 < len * size := Nat.mul_pos (by omega) hpos
   obtain ⟨u0, hu0⟩ := hcell 0 hpos2
   obtain ⟨g, o, spot⟩ := a
   have hspot : spot = none := by simpa [Addr.add] using World.cell?_spot hu0
   subst hspot
   have hlt : g < w.heap.size := by
    rcases Nat.lt_or_ge g w.heap.size with h | h
    ·exact h
    ·exfalso
     simp [World.cell?, Addr.add, Array.getElem?_eq_none h] at hu0
   refine ⟨len, (List.range (len * size)).map fun j => (w.cell? ⟨g, o + j, none⟩).getD (.bool false), ⟨by simp, .inr (.inr ⟨g, o, cap, rfl, hl, hm, ⟨?_, hlt⟩⟩)⟩, hlenB, .inr ⟨m, hfuel, ?_⟩⟩
   ·intro j u hu
    rw [List.getElem?_map] at hu
    by_cases hj : j < len * size
    ·obtain ⟨u', hu'⟩ := hcell j hj
     rw [addr_add] at hu'
     simp [hj, hu'] at hu
     rw [hu', hu]
    ·simp [hj] at hu
   ·intro i hi
    obtain ⟨cs', h1, h2⟩ := hx' i (by omega)
    obtain ⟨_, h3, h4⟩ := World.cells?_some h1
    have hle : i * size + size ≤ len * size := by
     have := Nat.mul_le_mul_right size (show i + 1 ≤ len by omega)
     rw [Nat.add_mul, Nat.one_mul] at this
     exact this
    have e1 : (((List.range (len * size)).map fun j => (w.cell? ⟨g, o + j, none⟩).getD (.bool false)).drop (i * size)).take size = cs' := by
     apply List.ext_getElem?
     intro r
     by_cases hr : r < size
     ·have h5 := h4 r hr
      rw [Deep.add_add, addr_add] at h5
      rw [List.getElem?_take, if_pos hr, List.getElem?_drop, List.getElem?_map, List.getElem?_range (by omega)]
      simp only [Option.map_some]
      rw [h5]
      simp [h3, hr]
     ·rw [List.getElem?_eq_none (by rw [List.length_take]; omega), List.getElem?_eq_none (by omega)]
    rw [e1]
    exact h2
def byteOfV : Value → UInt8
 | .int _ k => UInt8.ofNat k.toNat
 | _ => 0
theorem byteOfV_wf {k : Int} (h : (Lit.int .u8 k).wf = true) : bv (byteOfV (.int .u8 k)) = .int .u8 k := by
 have h1 := bounds_u8 h
 unfold bv byteOfV
 congr 1
 simp only [UInt8.toNat_ofNat']
 omega
theorem one_cellV {xs : List Value} {i : Nat} (hi : i < xs.length) : (xs.drop (i * 1)).take 1 = [xs[i]] := by
 rw [Nat.mul_one, List.drop_eq_getElem_cons hi]
 rfl
theorem list_fiveV {α : Type} {l : List α} (h : l.length = 5) : ∃ a b c d e, l = [a, b, c, d, e] := by
 match l, h with
 | [a, b, c, d, e], _ => exact ⟨a, b, c, d, e, rfl⟩
theorem list_sixV {α : Type} {l : List α} (h : l.length = 6) : ∃ a b c d e f, l = [a, b, c, d, e, f] := by
 match l, h with
 | [a, b, c, d, e, f], _ => exact ⟨a, b, c, d, e, f, rfl⟩
theorem texts_up {B : Nat} : ∀ (n : Nat) (v : V n), TextsLe B n v → TextsLe B (n + 1) (up n v)
 | 0, v, _ => nomatch v
 | n + 1, (v : VS (V n)), ⟨⟨h1, h2, h3⟩, h4, h5⟩ => by
  refine ⟨⟨h1, ?_, ?_⟩, ?_, ?_⟩
  ·show (v.l.map _).length ≤ B; rw [List.length_map]; exact h2
  ·show (v.m.map _).length ≤ B; rw [List.length_map]; exact h3
  ·intro p hp
   obtain ⟨q, hq, rfl⟩ := List.mem_map.1 hp
   exact h4 q hq
  ·intro x hx
   have hx' : x ∈ (VS.map (up n) v).kids := hx
   rw [VS.kids_map] at hx'
   obtain ⟨y, hy, rfl⟩ := List.mem_map.1 hx'
   exact texts_up n y (h5 y hy)
theorem RepT.up {n B : Nat} {S : Nat → Prop} {cs : List Value} {v : V n} (h : RepT n B S w cs v) : RepT (n + 1) B S w cs (Go.Proofs.YtckbnjipecclaaaGreatDoor.up n v) := ⟨h.1.up, texts_up n v h.2⟩
def chunks (size : Nat) (xs : List Value) (n : Nat) : List (List Value) := (List.range n).map fun i => (xs.drop (i * size)).take size
theorem chunks_flat {size : Nat} : ∀ (n : Nat) (xs : List Value), xs.length = n * size → (chunks size xs n).flatten = xs
 | 0, xs, h => by
  rw [Nat.zero_mul] at h
  rw [List.eq_nil_of_length_eq_zero h]
  rfl
 | n + 1, xs, h => by
  have h' : (xs.drop size).length = n * size := by rw [List.length_drop, h, Nat.add_mul, Nat.one_mul]; omega
  have ih := chunks_flat n (xs.drop size) h'
  unfold chunks at ih ⊢
  rw [List.range_succ_eq_map, List.map_cons, List.flatten_cons, Nat.zero_mul, List.drop_zero, List.map_map]
  have e : ((fun i => (xs.drop (i * size)).take size) ∘ Nat.succ) = fun i => ((xs.drop size).drop (i * size)).take size := by
   funext i
   simp only [Function.comp, List.drop_drop]
   rw [show Nat.succ i * size = size + i * size by rw [Nat.succ_mul]; omega]
  rw [e, ih]
  exact List.take_append_drop size xs
def pairF (c : List Value) : ByteArray × List Value := (match c.head? with | some (.string s) => s | _ => ⟨#[]⟩, c.tail)
theorem trod_value {B : Nat} : ∀ (fuel : Nat) {cs : List Value} {x : DataW H × List MemPlace}, DataW.trod enc Tryz.prog w 0 (fun _ => true) held fuel 28 cs = some x → (∀ k, k ∈ x.1.weights Tryz.prog 28 → k ≤ B) → ∃ v : V fuel, RepT fuel B (fun g => g < w.heap.size) w cs v := by
 intro fuel
 induction fuel using Nat.strongRecOn with
 | ind fuel IH =>
  intro cs x h hw
  obtain ⟨xs, n, hfu, hxe, hl, hlen, hf⟩ := DataW.trod_struct Tryz.underlying28 h
  subst hfu
  rw [cellsVal] at hl
  obtain ⟨c0, c1, c2, c3, c4, rfl⟩ := list_fiveV hl
  obtain ⟨y0, y1, y2, y3, y4, rfl⟩ := list_fiveV hlen
  have h0 : DataW.trod enc Tryz.prog w 0 (fun _ => true) held n 3 (([c0, c1, c2, c3, c4].drop 0).take (Tryz.prog.cellsOf 3)) = some y0 := hf 0 _ rfl
  have h1 : DataW.trod enc Tryz.prog w 0 (fun _ => true) held n 3 (([c0, c1, c2, c3, c4].drop 1).take (Tryz.prog.cellsOf 3)) = some y1 := hf 1 _ rfl
  have h2 : DataW.trod enc Tryz.prog w 0 (fun _ => true) held n 9 (([c0, c1, c2, c3, c4].drop 2).take (Tryz.prog.cellsOf 9)) = some y2 := hf 2 _ rfl
  have h3 : DataW.trod enc Tryz.prog w 0 (fun _ => true) held n 25 (([c0, c1, c2, c3, c4].drop 3).take (Tryz.prog.cellsOf 25)) = some y3 := hf 3 _ rfl
  have h4 : DataW.trod enc Tryz.prog w 0 (fun _ => true) held n 26 (([c0, c1, c2, c3, c4].drop 4).take (Tryz.prog.cellsOf 26)) = some y4 := hf 4 _ rfl
  rw [cellsIntV] at h0 h1
  rw [cellsStrV] at h2
  rw [cellsVals] at h3
  rw [cellsPairs] at h4
  have hwf : ∀ (j : Nat) (tt : TypeId) (y : DataW H × List MemPlace), ([3, 3, 9, 25, 26] : List TypeId)[j]? = some tt → [y0, y1, y2, y3, y4][j]? = some y → ∀ k, k ∈ y.1.weights Tryz.prog tt → k ≤ B := by
   intro j tt y ht hy k hk
   refine hw k ?_
   rw [hxe]
   exact weights_field Tryz.underlying28 ht hy hk
  obtain ⟨i, e0, _, w0⟩ := DataW.trod_int Tryz.underlying3 (x := y0) h0
  obtain ⟨j, e1, _, w1⟩ := DataW.trod_int Tryz.underlying3 (x := y1) h1
  obtain ⟨s, e2, f2, -⟩ := DataW.trod_string Tryz.underlying9 (x := y2) h2
  have w2 : s.size ≤ B := by
   have h9 := hwf 2 _ y2 rfl rfl s.data.toList.length (by rw [f2]; show _ ∈ DataW.weights Tryz.prog 9 (.lit (.string s.data.toList)); simp [DataW.weights])
   simpa using h9
  have hL := trod_slcV (v := c3) (x := y3) Tryz.underlying25 cellsVal (by decide) h3 (hwf 3 _ y3 rfl rfl) (by rw [show Tryz.prog.bytesOf 28 = 80 by kernel_rfl]; decide)
  have hM := trod_slcV (v := c4) (x := y4) Tryz.underlying26 cellsPair (by decide) h4 (hwf 4 _ y4 rfl rfl) (by rw [show Tryz.prog.bytesOf 78 = 96 by kernel_rfl]; decide)
  simp only [List.drop_zero, List.drop_succ_cons, List.take_succ_cons, List.take_zero, List.cons.injEq, and_true] at e0 e1 e2
  subst e0 e1 e2
  obtain ⟨nl, xl, sl, ml, hl⟩ := hL
  obtain ⟨nm, xm, sm, mm, hm⟩ := hM
  have gl : ∃ zl : List (V n), All2 (RepT n B (fun g => g < w.heap.size) w) (chunks 5 xl nl) zl := by
   refine All2.pick (R := fun (c : List Value) (k : Nat) => ∃ z : V n, RepT n B (fun g => g < w.heap.size) w c z) _ (List.range nl) ⟨by simp [chunks], ?_⟩ (fun _ _ _ r => r)
   intro q c k hc hk
   have hq : q < nl := by
    have := (List.getElem?_eq_some_iff.1 hk).1
    simpa using this
   unfold chunks at hc
   rw [List.getElem?_map, List.getElem?_range hq] at hc
   simp only [Option.map_some, Option.some.injEq] at hc
   subst hc
   rcases hl with h0 | ⟨m, hm, hl⟩
   ·omega
   obtain ⟨y, hy, hwy⟩ := hl q hq
   obtain ⟨z, hz⟩ := IH m (by omega) hy hwy
   subst hm
   exact ⟨_, hz.up⟩
  have gm : ∃ zm : List (ByteArray × V n), All2 (fun c (z : ByteArray × V n) => (c = .string z.1 :: c.tail ∧ RepT n B (fun g => g < w.heap.size) w c.tail z.2) ∧ z.1.size ≤ B) (chunks 6 xm nm) zm := by
   refine All2.pick (R := fun (c : List Value) (k : Nat) => ∃ z : ByteArray × V n, (c = .string z.1 :: c.tail ∧ RepT n B (fun g => g < w.heap.size) w c.tail z.2) ∧ z.1.size ≤ B) _ (List.range nm) ⟨by simp [chunks], ?_⟩ (fun _ _ _ r => r)
   intro q c k hc hk
   have hq : q < nm := by
    have := (List.getElem?_eq_some_iff.1 hk).1
    simpa using this
   unfold chunks at hc
   rw [List.getElem?_map, List.getElem?_range hq] at hc
   simp only [Option.map_some, Option.some.injEq] at hc
   subst hc
   rcases hm with h0 | ⟨m, hm', hm⟩
   ·omega
   obtain ⟨y, hy, hwy⟩ := hm q hq
   obtain ⟨ys, n2, hf2, hye, hl2, hlen2, hg2⟩ := DataW.trod_struct Tryz.underlying78 hy
   rw [cellsPair] at hl2
   revert hl2 hg2
   generalize (xm.drop (q * 6)).take 6 = c6
   intro hl2 hg2
   obtain ⟨d0, d1, d2, d3, d4, d5, rfl⟩ := list_sixV hl2
   obtain ⟨z0, z1, rfl⟩ : ∃ z0 z1, ys = [z0, z1] := by
    match ys, hlen2 with
    | [a, b], _ => exact ⟨a, b, rfl⟩
   have k0 : DataW.trod enc Tryz.prog w 0 (fun _ => true) held n2 9 (([d0, d1, d2, d3, d4, d5].drop 0).take (Tryz.prog.cellsOf 9)) = some z0 := hg2 0 _ rfl
   have k1 : DataW.trod enc Tryz.prog w 0 (fun _ => true) held n2 28 (([d0, d1, d2, d3, d4, d5].drop 1).take (Tryz.prog.cellsOf 28)) = some z1 := hg2 1 _ rfl
   rw [cellsStrV] at k0
   rw [cellsVal] at k1
   have hwp : ∀ (j : Nat) (tt : TypeId) (y' : DataW H × List MemPlace), ([9, 28] : List TypeId)[j]? = some tt → [z0, z1][j]? = some y' → ∀ k, k ∈ y'.1.weights Tryz.prog tt → k ≤ B := by
    intro j tt y' ht hy' k hk
    refine hwy k ?_
    rw [hye]
    exact weights_field Tryz.underlying78 ht hy' hk
   obtain ⟨s2, q0, f2', -⟩ := DataW.trod_string Tryz.underlying9 (x := z0) k0
   simp only [List.drop_zero, List.take_succ_cons, List.take_zero, List.cons.injEq, and_true] at q0
   subst q0
   have q2 : s2.size ≤ B := by
    have h9 := hwp 0 _ z0 rfl rfl s2.data.toList.length (by rw [f2']; show _ ∈ DataW.weights Tryz.prog 9 (.lit (.string s2.data.toList)); simp [DataW.weights])
    simpa using h9
   have k1' : DataW.trod enc Tryz.prog w 0 (fun _ => true) held n2 28 [d1, d2, d3, d4, d5] = some z1 := k1
   obtain ⟨z, hz⟩ := IH n2 (by omega) k1' (hwp 1 _ z1 rfl rfl)
   subst hf2
   subst hm'
   exact ⟨(s2, Go.Proofs.YtckbnjipecclaaaGreatDoor.up _ (Go.Proofs.YtckbnjipecclaaaGreatDoor.up _ z)), ⟨rfl, hz.up.up⟩, q2⟩
  obtain ⟨zl, al⟩ := gl
  obtain ⟨zm, am⟩ := gm
  have el : zl.length = nl := by rw [← al.1]; simp [chunks]
  have em : zm.length = nm := by rw [← am.1]; simp [chunks]
  have getl : ∀ x, x ∈ zl → TextsLe B n x := fun x hx => by
   obtain ⟨j, hj, rfl⟩ := List.getElem_of_mem hx
   exact (al.2 j _ _ (List.getElem?_eq_getElem (by rw [al.1]; exact hj)) (List.getElem?_eq_getElem hj)).2
  have getm : ∀ p, p ∈ zm → TextsLe B n p.2 ∧ p.1.size ≤ B := fun x hx => by
   obtain ⟨j, hj, rfl⟩ := List.getElem_of_mem hx
   have := am.2 j _ _ (List.getElem?_eq_getElem (by rw [am.1]; exact hj)) (List.getElem?_eq_getElem hj)
   exact ⟨this.1.2.2, this.2⟩
  have hfix : ∀ c, c ∈ chunks 6 xm nm → pairC (pairF c) = c := fun c hc => by
   obtain ⟨j, hj, rfl⟩ := List.getElem_of_mem hc
   have h5 := (am.2 j _ _ (List.getElem?_eq_getElem hj) (List.getElem?_eq_getElem (by rw [← am.1]; exact hj))).1.1
   rw [h5]
   rfl
  have hcm : pairCs ((chunks 6 xm nm).map pairF) = xm := by
   rw [pairCs_flat, List.map_map]
   have e : (chunks 6 xm nm).map (pairC ∘ pairF) = chunks 6 xm nm := by
    conv => rhs; rw [← List.map_id (chunks 6 xm nm)]
    exact List.map_congr_left fun c hc => hfix c hc
   rw [e]
   exact chunks_flat nm xm sm.1
  have hcl : (chunks 5 xl nl).flatten = xl := chunks_flat nl xl sl.1
  refine ⟨(⟨i, j, s, zl, zm⟩ : VS (V n)), ⟨c3, c4, chunks 5 xl nl, (chunks 6 xm nm).map pairF, {
   cells := rfl
   slcl := by rw [el, hcl]; exact sl
   alll := al.mono fun _ _ _ r => r.1
   slcm := by rw [em, hcm]; exact sm
   allm := ?_
   inl := fun g hg => sl.lt hg
   inm := fun g hg => sm.lt hg
   wfk := w0
   wfn := w1 }⟩, ⟨w2, by rw [el]; exact ml, by rw [em]; exact mm⟩, fun p hp => (getm p hp).2, fun x hx => ?_⟩
  ·refine ⟨by rw [List.length_map]; exact am.1, ?_⟩
   intro q c z hc hz
   rw [List.getElem?_map, Option.map_eq_some_iff] at hc
   obtain ⟨c', hc', rfl⟩ := hc
   have h5 := (am.2 q c' z hc' hz).1
   refine ⟨?_, h5.2.1⟩
   rw [h5.1]
   rfl
  ·rcases List.mem_append.1 hx with hx | hx
   ·exact getl x hx
   ·obtain ⟨p, hp, rfl⟩ := List.mem_map.1 hx
    exact (getm p hp).1
end
section
variable {H : Type} {enc : TypeId × Value → H} {w : World} {held : Bool}
end
section
variable {H : Type} {enc : TypeId × Value → H} {w : World} {held : Bool}
end
section
variable {H : Type} {enc : TypeId × Value → H} {w : World} {held : Bool}
theorem trod_key {fuel : Nat} {cs : List Value} {x : DataW H × List MemPlace} (h : DataW.trod enc Tryz.prog w 0 (fun _ => true) held fuel 24 cs = some x) : ∃ k : KeyS, cs = keyL k ∧ (wf64I k.bits ∧ k.root.length = 32) := by
 obtain ⟨xs, n, hfu, hxe, hl, hlen, hf⟩ := DataW.trod_struct Tryz.underlying24 h
 rw [show Tryz.prog.cellsOf 24 = 34 by kernel_rfl] at hl
 rcases cs with _ | ⟨c0, _ | ⟨c1, l⟩⟩
 ·cases hl
 ·cases hl
 have hll : l.length = 32 := by simpa using hl
 rcases xs with _ | ⟨y0, _ | ⟨y1, _ | ⟨y2, ys⟩⟩⟩
 ·cases hlen
 ·cases hlen
 ·cases hlen
 have h0 : DataW.trod enc Tryz.prog w 0 (fun _ => true) held n 3 (((c0 :: c1 :: l).drop 0).take (Tryz.prog.cellsOf 3)) = some y0 := hf 0 _ rfl
 have h1 : DataW.trod enc Tryz.prog w 0 (fun _ => true) held n 3 (((c0 :: c1 :: l).drop 1).take (Tryz.prog.cellsOf 3)) = some y1 := hf 1 _ rfl
 have h2 : DataW.trod enc Tryz.prog w 0 (fun _ => true) held n 22 (((c0 :: c1 :: l).drop 2).take (Tryz.prog.cellsOf 22)) = some y2 := hf 2 _ rfl
 rw [cellsIntV] at h0 h1
 rw [show Tryz.prog.cellsOf 22 = 32 by kernel_rfl, show (c0 :: c1 :: l).drop 2 = l from rfl, List.take_of_length_le (by omega)] at h2
 obtain ⟨b, e0, _, w0⟩ := DataW.trod_int Tryz.underlying3 (x := y0) h0
 obtain ⟨g, e1, _, w1⟩ := DataW.trod_int Tryz.underlying3 (x := y1) h1
 obtain rfl : c0 = .int .i64 b := by simpa using e0
 obtain rfl : c1 = .int .i64 g := by simpa using e1
 obtain ⟨zs, m, _, _, _, hzs, hi⟩ := DataW.trod_array Tryz.underlying22 h2
 rw [show Tryz.prog.cellsOf 5 = 1 by kernel_rfl] at hi
 have e : (l.map byteOfV).map bv = l := by
  apply List.ext_getElem (by simp)
  intro i q1 q2
  have q3 := hi i (by omega)
  rw [one_cellV q2, List.getElem?_eq_getElem (by omega)] at q3
  obtain ⟨z, e2, _, w2⟩ := DataW.trod_int Tryz.underlying5 q3
  have e3 : l[i] = .int .u8 z := by simpa using e2
  simp only [List.getElem_map]
  rw [e3]
  exact byteOfV_wf w2
 refine ⟨⟨b, g, l.map byteOfV⟩, ?_, ?_, ?_⟩
 ·show _ = Value.int .i64 b :: .int .i64 g :: (l.map byteOfV).map bv
  rw [e]
 ·unfold Lit.wf at w0
  simp only [Bool.and_eq_true, decide_eq_true_eq] at w0
  exact ⟨w0.1, w0.2⟩
 ·show (l.map byteOfV).length = 32
  rw [List.length_map, hll]
end
end Go.Proofs.YtckbnjipecclaaaGreatDoor

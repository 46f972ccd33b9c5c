/- Parts of one proof, merged: XGI XAV. -/
import Derived.Test.YtckbnjipecclaaaGreatDoorRV
import Derived.Test.YtckbnjipecclaaaGreatDoorRZ
import Derived.Test.YtckbnjipecclaaaGreatDoorRAB
import Derived.Test.YtckbnjipecclaaaGreatDoorRB
import Derived.Deep.Slices
import Derived.OpenShut
import Derived.SizedLaws
set_option linter.all false
set_option maxHeartbeats 12800000
set_option maxRecDepth 10000
set_option linter.unusedVariables false
set_option linter.unusedSimpArgs false
set_option linter.unnecessarySimpa false
namespace Go.Proofs.YtckbnjipecclaaaGreatDoor
open Go.RowKit
theorem fieldKind (W : World) (k m : Int) (s : ByteArray) (a b : Value) : (Instr.field 28 (.agg #[.int .i64 k, .int .i64 m, .string s, a, b]) 0).run Tryz.prog W = .ok (.int .i64 k) W := by kernel_rfl
theorem incomingR {n : Nat} {v : V n} {S : Nat → Prop} {w : World} {cs : List Value} (h : RepT n BB S w cs v) :
  (∀ w1, Kept [] w w1 → Calls Tryz.prog 6 #[.agg cs.toArray] w1 fun e w' => e = .returned (.bool true) ∧ Kept [] w1 w') ∨
  ((∀ w1, Kept [] w w1 → Calls Tryz.prog 6 #[.agg cs.toArray] w1 fun e w' => e = .returned (.bool false) ∧ Kept [] w1 w') ∧
   ∃ v' : V 21, Rep 21 S w cs v' ∧ Small 21 v') := by
 have hl : ∀ {d : Nat} {u : V d} {b : Bool}, RepT d BB S w cs u → decide (6000 < largeV d 0 u) = b → ∀ w1, Kept [] w w1 → Calls Tryz.prog 6 #[.agg cs.toArray] w1 fun e w' => e = .returned (.bool b) ∧ Kept [] w1 w' := fun hu hb w1 k => by
  have h9 := refLarge_any (hu.1.kept0 k) hu.2
  rw [hb] at h9
  exact h9
 by_cases hd : depthV n v ≤ 21
 ·obtain ⟨u, hu⟩ := RepT.fit n 21 h hd
  by_cases h6 : largeV 21 0 u ≤ 6000
  ·exact .inr ⟨hl hu (decide_eq_false (by omega)), u, hu.1, small_of h6⟩
  ·exact .inl (hl hu (decide_eq_true (by omega)))
 ·refine .inl (hl h (decide_eq_true ?_))
  rcases Nat.lt_or_ge 6000 (largeV n 0 v) with h1 | h1
  ·exact h1
  ·exfalso
   rcases (large_small n 0 v h1).2.2 with rfl | h2
   ·exact nomatch v
   ·omega
theorem roleAns_open {w w' : World} {e : Ending} {r : RoleS} (h : RoleAns w w' e r) : ∃ k m s p i c q j d, e = .returned (.agg #[.int .i64 k, .int .i64 m, .string s, .slice p i c, .slice q j d]) ∧ k = (if mayRole r = true then 6 else 0) ∧ (mayRole r = true → Rep 3 (fun _ => True) w' [.int .i64 k, .int .i64 m, .string s, .slice p i c, .slice q j d] (roleV r)) := by
 unfold RoleAns at h
 by_cases hm : mayRole r = true
 ·rw [if_pos hm] at h
  obtain ⟨k, m, s, p, i, c, q, j, d, rfl, ho⟩ := new_fact h
  have hr := Rep.mono (T := fun _ => True) ho.rep (fun _ _ _ => trivial)
  exact ⟨k, m, s, p, i, c, q, j, d, rfl, by rw [if_pos hm]; exact hr.heads.1, fun _ => hr⟩
 ·rw [if_neg hm] at h
  exact ⟨0, 0, _, none, 0, 0, none, 0, 0, h, by rw [if_neg hm], fun h9 => absurd h9 hm⟩
theorem roleAnsR_open {w w' : World} {e : Ending} {r : RoleS} (h : RoleAnsR w w' e r) : ∃ k m s p i c q j d, e = .returned (.agg #[.int .i64 k, .int .i64 m, .string s, .slice p i c, .slice q j d]) ∧ k = (if mayRole r = true then 6 else 0) ∧ (mayRole r = true → Rep 3 (fun _ => True) w' [.int .i64 k, .int .i64 m, .string s, .slice p i c, .slice q j d] (roleV r)) := by
 unfold RoleAnsR at h
 by_cases hm : mayRole r = true
 ·rw [if_pos hm] at h
  obtain ⟨cs, rfl, ho⟩ := h
  obtain ⟨k, m, s, p, i, c, q, j, d, rfl⟩ := ho.conv
  have hr := Rep.mono (T := fun _ => True) ho (fun _ _ _ => trivial)
  exact ⟨k, m, s, p, i, c, q, j, d, rfl, by rw [if_pos hm]; exact hr.heads.1, fun _ => hr⟩
 ·rw [if_neg hm] at h
  exact ⟨0, 0, _, none, 0, 0, none, 0, 0, h, by rw [if_neg hm], fun h9 => absurd h9 hm⟩
def noRole : RoleS := ⟨[], 0⟩
def codeOf (ok : Bool) : Int := if ok then 0 else 130
theorem rr_open {w' : World} {e : Ending} {o : Option RoleS} (h : RRAns w' e o) : ∃ a c, e = .returned (.tuple #[.agg #[.slice a (o.getD noRole).keys.length c, .int .i64 (o.getD noRole).thr], .int .i64 (codeOf o.isSome)]) ∧ Texts w' (.slice a (o.getD noRole).keys.length c) (o.getD noRole).keys := by
 cases o with
 | none => exact ⟨none, 0, h, slc_nil _ _⟩
 | some r => exact h
theorem rrR_open {w' : World} {e : Ending} {o : Option RoleS} (h : RRAnsR w' e o) : ∃ a c, e = .returned (.tuple #[.agg #[.slice a (o.getD noRole).keys.length c, .int .i64 (o.getD noRole).thr], .bool o.isSome]) ∧ Texts w' (.slice a (o.getD noRole).keys.length c) (o.getD noRole).keys := by
 cases o with
 | none => exact ⟨none, 0, h, slc_nil _ _⟩
 | some r => exact h
theorem readRole_few {n : Nat} (v : VS (V (n + 1))) : ((readRoleV v).getD noRole).keys.length ≤ 16 := by
 unfold readRoleV
 simp only
 split
 ·rename_i h
  exact (mayRole_ids h.2).1
 ·exact Nat.zero_le _
theorem codeOf_test (ok : Bool) : (codeOf ok == 0) = ok ∧ (ok = false → codeOf ok = 130) := by cases ok <;> exact ⟨rfl, fun h => by first | rfl | cases h⟩
def kindFact (k : Int) : Fact (Kept []) := ⟨fun u _ _ => ∃ m s p i c q j d, u = .agg #[.int .i64 k, .int .i64 m, .string s, .slice p i c, .slice q j d], fun _ _ _ _ h _ => h⟩
def okFact (ok : Bool) : Fact (Kept []) := ⟨fun u _ _ => ok = false → u = .bool false, fun _ _ _ _ h _ => h⟩
def errFact (ok : Bool) (z : Int) : Fact (Kept []) := ⟨fun u _ _ => ok = false → u = .int .i64 z, fun _ _ _ _ h _ => h⟩
theorem isId_ok {s : ByteArray} (h : isIdB s = true) : bytesOk s = true := by
 unfold isIdB unhexS at h
 split at h
 ·cases h
 ·rename_i l hl
  split at hl
  ·rename_i hc
   exact bytes_ascii fun b hb => low_128 (List.all_eq_true.1 hc.2 b hb)
  ·cases hl
theorem check_role {r : RoleS} (h : mayRole r = true) : checkV 3 (roleV r) = 0 := by
 obtain ⟨h1, h2, h3, -, h5⟩ := mayRole_ids h
 rw [checkV_zero]
 refine ⟨Nat.le_trans (depth_le 3 _) (by decide), ?_, ?_⟩
 ·have e1 : countV 3 (roleV r) = 1 + (countV 2 (keysV 0 r.keys) + ((1 + 0) + 0)) := rfl
  have e2 : countV 2 (keysV 0 r.keys) = 1 + (((keysV 0 r.keys).kids).map (countV 1)).sum := rfl
  have e3 : (keysV 0 r.keys).kids = r.keys.map (tV 0) := by show _ ++ _ = _; exact List.append_nil _
  rw [e1, e2, e3, texts_count]
  omega
 ·refine right_map (n := 2) _ ?_ (by simp only [List.map_cons, List.map_nil]; decide) ?_
  ·intro p hp
   simp only [List.mem_cons, List.not_mem_nil, or_false] at hp
   rcases hp with rfl | rfl
   ·exact bytes_ascii (s := ⟨#[107, 101, 121, 105, 100, 115]⟩) (by decide)
   ·exact bytes_ascii (s := ⟨#[116, 104, 114, 101, 115, 104, 111, 108, 100]⟩) (by decide)
  intro p hp
  simp only [List.mem_cons, List.not_mem_nil, or_false] at hp
  rcases hp with rfl | rfl
  ·refine right_list (n := 1) _ (fun x hx => ?_)
   obtain ⟨s, hs, rfl⟩ := List.mem_map.1 hx
   exact right_text (n := 0) _ (isId_ok (h5 s hs).1)
  ·exact right_int (n := 1) _ (by omega) (by omega)
theorem same_role {r : RoleS} (h : mayRole r = true) : sameV 3 (roleV r) (roleV r) = true := by
 unfold sameV
 rw [decide_eq_true (check_role h), (eqV_iff 3 _ _).2 rfl]
 rfl
theorem sameRole_self (r : RoleS) : sameRoleB r r = true := by simp [sameRoleB]
set_option maxRecDepth 100000 in
theorem roleRoles_any {n : Nat} {v : V n} {S : Nat → Prop} {w : World} {cs : List Value} {r : RoleS} {a : Option Addr} {c : Nat} (hr : Texts w (.slice a r.keys.length c) r.keys) (hz : ∀ k, k ∈ r.keys → k.size ≤ 140737488355328) (hn : r.keys.length ≤ 140737488355328) (hv : RepT n BB S w cs v) (ht : Tabs w) (hks : KsAt w) (hmx : MaxW w) :
  Calls Tryz.prog 4 #[.agg #[.slice a r.keys.length c, .int .i64 r.thr], .agg cs.toArray] w fun e w' => e = .returned (.bool true) ∧ Kept [] w w' := by
 obtain ⟨vk, vn, vs, vp, vi, vc, vq, vj, vd, rfl⟩ := hv.1.conv
 obtain ⟨W0, Gg⟩ : ∃ W0, Hid (W0 = (w.alloc (.cells #[.slice a r.keys.length c, .int .i64 r.thr] 43)).alloc (.cells #[.int .i64 vk, .int .i64 vn, .string vs, .slice vp vi vc, .slice vq vj vd] 28)) := ⟨_, qI rfl⟩
 have Gd : Hid (Kept [] w W0) := qI (by rw [Gg.o]; exact ((Kept.refl _ w).alloc _).alloc _)
 have Gc : Hid (W0.heap[w.heap.size]? = some (.cells #[.slice a r.keys.length c, .int .i64 r.thr] 43 (0, 0))) := qI (by rw [Gg.o]; exact ((Kept.refl [] _).alloc _).heap (block_alloc rfl) (by simp))
 have Ja : Hid (BoxAt W0 (w.heap.size + 1) vk vn vs (.slice vp vi vc) (.slice vq vj vd)) := qI (by rw [Gg.o]; exact box_at' (by simp) _ _ _ _ _ _)
 have CLL : Hid (∀ w1, Kept [] w w1 → Calls Tryz.prog 7 #[] w1 fun e w' => e = .returned (.bool true) ∧ Kept [] w1 w') := qI (fun w1 hk => lives_any (ht.kept0 hk) (hks.kept0 hk) (hmx.kept0 hk))
 have hin := incomingR hv
 have HT := qI hr
 have HZ := qI hz
 obtain ⟨N, HN⟩ : ∃ N, Hid (N = r.keys.length) := ⟨_, qI rfl⟩
 rw [← HN.o] at Gg Gc HT hn ⊢
 have hnI : (N : Int) ≤ 140737488355328 := by omega
 have c0 := cell_head (o := 0) (v := .slice a N c) Gc.o rfl
 have c1 := cell_head (o := 1) (v := .int .i64 r.thr) Gc.o rfl
 obtain ⟨e0, e1, e2, e3, e4⟩ := Ja.o
 clear hv hr hz hn ht hks hmx
 rcases hin with LA | ⟨LA, v2, hrep, hsm⟩
 ·have LA := qI LA
  go_enter Tryz.func4, Tryz.ntmps4
  go_upto_region 1 with fail
  rw [← Gg.o]
  go_wp2_with first
   | (go_at_call 6; refine (LA.o _ Gd.o).mono ?_; rintro e w1 ⟨rfl, hk1⟩; have Gh := qI (Gd.o.then hk1); clear hk1)
   | (go_at_call 7; refine (CLL.o _ Gh.o).mono ?_; rintro e w2 ⟨rfl, hk2⟩; have Gn := qI (Gh.o.then hk2); clear hk2)
  go_ret
  exact ⟨rfl, Gn.o⟩
 have LA := qI LA
 by_cases h100 : (N : Int) ≤ 100
 rotate_left
 ·have h100' : (100 : Int) < N := by omega
  clear h100
  go_enter Tryz.func4, Tryz.ntmps4
  go_upto_region 1 with fail
  rw [← Gg.o]
  go_wp2_with first
   | (go_at_call 6; refine (LA.o _ Gd.o).mono ?_; rintro e w1 ⟨rfl, hk1⟩; have Gh := qI (Gd.o.then hk1); clear c0 c1; have c0 := cell_head (o := 0) (v := .slice a N c) (hk1.heap Gc.o (by simp)) rfl; clear hk1)
   | (go_at_call 7; refine (CLL.o _ Gh.o).mono ?_; rintro e w2 ⟨rfl, hk2⟩; have Gn := qI (Gh.o.then hk2); clear hk2)
  go_ret
  exact ⟨rfl, Gn.o⟩
 have Gp := qI hrep
 have Jj := qI hsm
 have hl12 : r.keys.length ≤ 1000000000000 := by have := HN.o; omega
 have CRV : Hid (∀ w1, Kept [] w w1 → Calls Tryz.prog 16 #[.agg #[.slice a N c, .int .i64 r.thr]] w1 fun e w' => RoleAns w1 w' e r ∧ Kept [] w1 w') := qI (fun w1 hk => by
  have h9 := roleValue_any (w := w1) (r := r) (a := a) (c := c) (by rw [← HN.o]; exact HT.o.kept0 hk) HZ.o hl12
  rw [← HN.o] at h9; exact h9)
 have CRW : Hid (∀ w1, Kept [] w w1 → Calls Tryz.prog 21 #[.agg #[.slice a N c, .int .i64 r.thr]] w1 fun e w' => RoleAnsR w1 w' e r ∧ Kept [] w1 w') := qI (fun w1 hk => by
  have h9 := refRoleValue_any (w := w1) (r := r) (a := a) (c := c) (by rw [← HN.o]; exact HT.o.kept0 hk) HZ.o hl12
  rw [← HN.o] at h9; exact h9)
 have CMA : Hid (∀ w1, Kept [] w w1 → Calls Tryz.prog 19 #[.agg #[.slice a N c, .int .i64 r.thr]] w1 fun e w' => e = .returned (.bool (mayRole r)) ∧ Kept [] w1 w') := qI (fun w1 hk => by
  have h9 := mayRole_any (w := w1) (r := r) (a := a) (c := c) (by rw [← HN.o]; exact HT.o.kept0 hk) HZ.o hl12
  rw [← HN.o] at h9; exact h9)
 have CMB : Hid (∀ w1, Kept [] w w1 → Calls Tryz.prog 20 #[.agg #[.slice a N c, .int .i64 r.thr]] w1 fun e w' => e = .returned (.bool (mayRole r)) ∧ Kept [] w1 w') := qI (fun w1 hk => by
  have h9 := refMay_any (w := w1) (r := r) (a := a) (c := c) (by rw [← HN.o]; exact HT.o.kept0 hk) HZ.o hl12
  rw [← HN.o] at h9; exact h9)
 obtain ⟨⟨xk, xt⟩, HX⟩ : ∃ x : RoleS, Hid (x = (readRoleV (n := 19) v2).getD noRole) := ⟨_, qI rfl⟩
 obtain ⟨ok, Jk⟩ : ∃ ok, Hid (ok = (readRoleV (n := 19) v2).isSome) := ⟨_, qI rfl⟩
 obtain ⟨z, Jl⟩ : ∃ z, Hid (z = codeOf ok) := ⟨_, qI rfl⟩
 obtain ⟨xn, Gq⟩ : ∃ xn, Hid (xn = xk.length) := ⟨_, qI rfl⟩
 have HE : Hid ((z == 0) = ok ∧ (ok = false → z = 130)) := qI (by rw [Jl.o]; exact codeOf_test ok)
 have CRD : Hid (∀ w1, Kept [] w w1 → Calls Tryz.prog 17 #[.agg #[.int .i64 vk, .int .i64 vn, .string vs, .slice vp vi vc, .slice vq vj vd]] w1 fun e w' => (∃ p i, e = .returned (.tuple #[.agg #[.slice p xn i, .int .i64 xt], .int .i64 z]) ∧ Texts w' (.slice p xn i) xk) ∧ Kept [] w1 w') := qI (fun w1 hk => by
  refine (readRole_any (n := 19) (Gp.o.kept0 hk) Jj.o).mono ?_
  rintro e w' ⟨h9, hk9⟩
  obtain ⟨p, i, rfl, h8⟩ := rr_open h9
  rw [← HX.o] at h8 ⊢
  rw [← Jk.o, ← Jl.o, Gq.o]
  exact ⟨⟨p, i, rfl, h8⟩, hk9⟩)
 have CRE : Hid (∀ w1, Kept [] w w1 → Calls Tryz.prog 18 #[.agg #[.int .i64 vk, .int .i64 vn, .string vs, .slice vp vi vc, .slice vq vj vd]] w1 fun e w' => (∃ p i, e = .returned (.tuple #[.agg #[.slice p xn i, .int .i64 xt], .bool ok]) ∧ Texts w' (.slice p xn i) xk) ∧ Kept [] w1 w') := qI (fun w1 hk => by
  refine (refReadRole_any (n := 19) (Gp.o.kept0 hk) Jj.o).mono ?_
  rintro e w' ⟨h9, hk9⟩
  obtain ⟨p, i, rfl, h8⟩ := rrR_open h9
  rw [← HX.o] at h8 ⊢
  rw [← Jk.o, Gq.o]
  exact ⟨⟨p, i, rfl, h8⟩, hk9⟩)
 have Jb : Hid (xk.length ≤ 16) := qI (by have h9 := readRole_few (n := 19) v2; rw [← HX.o] at h9; exact h9)
 have Gf : Hid (∀ (o : RoleS) (w1 : World) (p q : Option Addr) (i j : Nat), o.keys.length ≤ 100 → Texts w1 (.slice p o.keys.length i) o.keys → Texts w1 (.slice q o.keys.length j) o.keys → Calls Tryz.prog 22 #[.agg #[.slice p o.keys.length i, .int .i64 o.thr], .agg #[.slice q o.keys.length j, .int .i64 o.thr]] w1 fun e w' => e = .returned (.bool true) ∧ Kept [] w1 w') := qI (fun o w1 p q i j hl h1 h2 => by
  have h9 := sameRole_any h1 h2 (by omega) (by omega)
  rw [sameRole_self] at h9; exact h9)
 clear hrep hsm hl12
 obtain ⟨mr, Gr⟩ : ∃ mr, Hid (mr = mayRole r) := ⟨_, qI rfl⟩
 go_enter Tryz.func4, Tryz.ntmps4
 go_upto_region 1 with fail
 rw [← Gg.o]
 go_upto_region 3 with (go_at_call 6; refine (LA.o _ Gd.o).mono ?_; rintro e w1 ⟨rfl, hk1⟩; have Gh := qI hk1; have Jt := qI (Gd.o.then hk1); clear c0 c1; have c0 := cell_head (o := 0) (v := .slice a N c) (hk1.heap Gc.o (by simp)) rfl; have c1 := cell_head (o := 1) (v := .int .i64 r.thr) (hk1.heap Gc.o (by simp)) rfl; clear hk1 e0 e1 e2 e3 e4)
 have CV1 := qI (CRV.o _ Jt.o)
 go_upto_region 4 with (go_at_call 16; refine CV1.o.mono ?_; rintro e w2 ⟨h2, hk2⟩; obtain ⟨kd, wm, ws, wp, wi, wc, wq, wj, wd, rfl, hkd, hrw⟩ := roleAns_open h2; have Jc := qI hkd; have Ju := qI hrw; have Gn := qI (Gh.o.then hk2); clear h2 hkd hrw hk2 c0 c1)
 obtain ⟨w3, Gx⟩ : ∃ w3, Hid (w3 = w2.alloc (.cells #[.int .i64 kd, .int .i64 wm, .string ws, .slice wp wi wc, .slice wq wj wd] 28)) := ⟨_, qI rfl⟩
 obtain ⟨b5, Jm⟩ : ∃ b5, Hid (b5 = w2.heap.size) := ⟨_, qI rfl⟩
 have Gy : Hid (Kept [] W0 w3) := qI (by rw [Gx.o]; exact Gn.o.alloc _)
 have Jv : Hid (BoxAt w3 b5 kd wm ws (.slice wp wi wc) (.slice wq wj wd)) := qI (by rw [Gx.o]; exact box_at' Jm.o.symm _ _ _ _ _ _)
 have Jw : Hid (mayRole r = true → Rep 3 (fun _ => True) w3 [.int .i64 kd, .int .i64 wm, .string ws, .slice wp wi wc, .slice wq wj wd] (roleV r)) := qI (fun hm => (Ju.o hm).kept0 (by rw [Gx.o]; exact (Kept.refl _ _).alloc _))
 rw [← Gx.o, ← Jm.o]
 obtain ⟨e0, e1, e2, e3, e4⟩ := Ja.o.kept0 Gy.o
 go_upto_region 5 with (go_at_call 17; refine (CRD.o _ (Gd.o.then Gy.o)).mono ?_; rintro e w4 ⟨⟨xa, xc, rfl, htx⟩, hk4⟩; have Jx := qI htx; have Jd := qI hk4; have Jy := qI (Gy.o.then hk4); clear htx hk4 e0 e1 e2 e3 e4)
 obtain ⟨w5, Gz⟩ : ∃ w5, Hid (w5 = w4.alloc (.cells #[.slice xa xn xc, .int .i64 xt] 43)) := ⟨_, qI rfl⟩
 obtain ⟨b6, Jn⟩ : ∃ b6, Hid (b6 = w4.heap.size) := ⟨_, qI rfl⟩
 have Ga : Hid (Kept [] W0 w5) := qI (by rw [Gz.o]; exact Jy.o.alloc _)
 have Gs : Hid (Kept [] w4 w5) := qI (by rw [Gz.o]; exact (Kept.refl _ _).alloc _)
 have Jz : Hid (w5.heap[b6]? = some (.cells #[.slice xa xn xc, .int .i64 xt] 43 (0, 0))) := qI (by rw [Gz.o, Jn.o]; exact block_alloc rfl)
 rw [← Gz.o, ← Jn.o]
 obtain ⟨e0, e1, e2, e3, e4⟩ := Ja.o.kept0 Ga.o
 go_upto_region 6 with (go_at_call 18; refine (CRE.o _ (Gd.o.then Ga.o)).mono ?_; rintro e w6 ⟨⟨ya, yc, rfl, hty⟩, hk6⟩; have Ma := qI hty; have Je := qI hk6; have Mb := qI (Ga.o.then hk6); clear hty hk6 e0 e1 e2 e3 e4)
 obtain ⟨wS, Jf⟩ : ∃ wS, Hid (wS = w6.alloc (.cells #[.slice ya xn yc, .int .i64 xt] 43)) := ⟨_, qI rfl⟩
 obtain ⟨b8, Jo⟩ : ∃ b8, Hid (b8 = w6.heap.size) := ⟨_, qI rfl⟩
 have Gi : Hid (Kept [] w6 wS) := qI (by rw [Jf.o]; exact (Kept.refl _ _).alloc _)
 have Gm : Hid (Kept [] w wS) := qI ((Gd.o.then Mb.o).then Gi.o)
 have Jp : Hid (wS.heap[b8]? = some (.cells #[.slice ya xn yc, .int .i64 xt] 43 (0, 0))) := qI (by rw [Jf.o, Jo.o]; exact block_alloc rfl)
 rw [← Jf.o, ← Jo.o]
 have Gj := qI (Je.o.then Gi.o)
 have Gk := qI ((Jd.o.then Gs.o).then Gj.o)
 have Ge := qI (Gy.o.then Gk.o)
 have Gt := qI (Gj.o.heap Jz.o (by simp))
 have Gu := qI (Jv.o.kept0 Gk.o)
 have CLL6 : Hid (∀ w1, Kept [] wS w1 → Calls Tryz.prog 7 #[] w1 fun e w' => e = .returned (.bool true) ∧ Kept [] w1 w') := qI (fun w1 hk => CLL.o _ (Gm.o.then hk))
 have CM1 : Hid (∀ w1, Kept [] wS w1 → Calls Tryz.prog 19 #[.agg #[.slice a N c, .int .i64 r.thr]] w1 fun e w' => e = .returned (.bool mr) ∧ Kept [] w1 w') := qI (fun w1 hk => by rw [Gr.o]; exact CMA.o _ (Gm.o.then hk))
 have CM2 : Hid (∀ w1, Kept [] wS w1 → Calls Tryz.prog 20 #[.agg #[.slice a N c, .int .i64 r.thr]] w1 fun e w' => e = .returned (.bool mr) ∧ Kept [] w1 w') := qI (fun w1 hk => by rw [Gr.o]; exact CMB.o _ (Gm.o.then hk))
 have CRR : Hid (∀ w1, Kept [] wS w1 → Calls Tryz.prog 21 #[.agg #[.slice a N c, .int .i64 r.thr]] w1 fun e w' => (∃ m s p i c q j d, e = .returned (.agg #[.int .i64 kd, .int .i64 m, .string s, .slice p i c, .slice q j d])) ∧ Kept [] w1 w') := qI (fun w1 hk => by
  refine (CRW.o _ (Gm.o.then hk)).mono ?_
  rintro e w' ⟨h9, hk9⟩
  obtain ⟨k, m, s, p, i, c, q, j, d, rfl, h8, -⟩ := roleAnsR_open h9
  rw [← Jc.o] at h8
  subst h8
  exact ⟨⟨m, s, p, i, c, q, j, d, rfl⟩, hk9⟩)
 have Jg := qI (Gs.o.then Gj.o)
 have CS1 : Hid (∀ w1, Kept [] wS w1 → Calls Tryz.prog 22 #[.agg #[.slice xa xn xc, .int .i64 xt], .agg #[.slice ya xn yc, .int .i64 xt]] w1 fun e w' => e = .returned (.bool true) ∧ Kept [] w1 w') := qI (fun w1 hk => by
  have h1 := Jx.o.kept0 (Jg.o.then hk)
  have h2 := Ma.o.kept0 (Gi.o.then hk)
  have h9 := Gf.o ⟨xk, xt⟩ w1 xa ya xc yc (by have := Jb.o; show xk.length ≤ 100; omega) (by show Texts w1 (.slice xa xk.length xc) xk; rw [← Gq.o]; exact h1) (by show Texts w1 (.slice ya xk.length yc) xk; rw [← Gq.o]; exact h2)
  rw [Gq.o]
  exact h9)
 have c0 := Ge.o.cell (cell_head (o := 0) (v := .slice a N c) Gc.o rfl) (by simp)
 have c1 := Ge.o.cell (cell_head (o := 1) (v := .int .i64 r.thr) Gc.o rfl) (by simp)
 obtain ⟨w0, w1, w2', w3', w4'⟩ := Gu.o
 have x0 := cell_head (o := 0) (v := .slice xa xn xc) Gt.o rfl
 have x1 := cell_head (o := 1) (v := .int .i64 xt) Gt.o rfl
 have v0 := cell_head (o := 0) (v := .slice ya xn yc) Jp.o rfl
 have v1 := cell_head (o := 1) (v := .int .i64 xt) Jp.o rfl
 refine wp_grows (n := 91) 36 [Fact.is (.bool true),
  Fact.is (.bool false),
  Fact.is (.bool false),
  Fact.is (.agg #[.slice a N c, .int .i64 r.thr]),
  Fact.is (.bool mr),
  Fact.is (.agg #[.slice a N c, .int .i64 r.thr]),
  Fact.is (.bool mr),
  Fact.is (.bool false),
  Fact.is (.bool false),
  Fact.is (.bool false),
  Fact.is (.pointer (some ⟨b5, 0, none⟩)),
  Fact.is (.int .i64 kd),
  Fact.is (.agg #[.slice a N c, .int .i64 r.thr]),
  kindFact kd,
  Fact.is (.int .i64 kd),
  Fact.is (.bool false),
  Fact.is (.bool false),
  Fact.is (.bool false),
  Fact.is (.agg #[.slice xa xn xc, .int .i64 xt]),
  Fact.is (.agg #[.slice ya xn yc, .int .i64 xt]),
  Fact.is (.bool true),
  Fact.is (.bool false),
  Fact.is (.bool false),
  Fact.is (.bool false),
  Fact.is (.int .i64 z),
  Fact.is (.bool ok),
  Fact.is (.bool ok),
  Fact.is (.bool false),
  Fact.is (.bool false),
  Fact.is (.bool false),
  Fact.is (.bool ok),
  Fact.is (.bool (!ok)),
  Fact.is (.bool (!ok)),
  errFact ok z,
  okFact ok,
  Fact.is (.bool false)] (by kernel_rfl) rfl (by kernel_rfl) (fun x => by simp only [List.map, puts, Act.put, List.setIfInBounds_toArray, List.set_cons_zero, List.set_cons_succ]; rfl) ?_ ?_
 ·refine ⟨fun x w2 hkw b hd => ?_, fun x w2 hkw b hd => ?_, fun x w2 hkw b hd => ?_, fun x w2 hkw b hd => ?_, fun x w2 hkw b hd => ?_, fun x w2 hkw b hd => ?_, fun x w2 hkw b hd => ?_, fun x w2 hkw b hd => ?_, fun x w2 hkw b hd => ?_, fun x w2 hkw b hd => ?_, fun x w2 hkw b hd => ?_, fun x w2 hkw b hd => ?_, fun x w2 hkw b hd => ?_, fun x w2 hkw b hd => ?_, fun x w2 hkw b hd => ?_, fun x w2 hkw b hd => ?_, fun x w2 hkw b hd => ?_, fun x w2 hkw b hd => ?_, fun x w2 hkw b hd => ?_, fun x w2 hkw b hd => ?_, fun x w2 hkw b hd => ?_, fun x w2 hkw b hd => ?_, fun x w2 hkw b hd => ?_, fun x w2 hkw b hd => ?_, fun x w2 hkw b hd => ?_, fun x w2 hkw b hd => ?_, fun x w2 hkw b hd => ?_, fun x w2 hkw b hd => ?_, fun x w2 hkw b hd => ?_, fun x w2 hkw b hd => ?_, fun x w2 hkw b hd => ?_, fun x w2 hkw b hd => ?_, fun x w2 hkw b hd => ?_, fun x w2 hkw b hd => ?_, fun x w2 hkw b hd => ?_, fun x w2 hkw b hd => ?_, trivial⟩
  ·have CX := CLL6.o _ hkw
   go_wp2_with (go_at_call 7; refine CX.mono ?_; rintro e w5 ⟨rfl, hk5⟩; have Ga := qI hk5; clear hk5)
   exact ⟨rfl, Ga.o⟩
  ·have d0 : x 0 = _ := hd 0 (by kernel_rfl)
   go_wp2_with fail
   exact ⟨rfl, Kept.refl _ _⟩
  ·have d1 : x 1 = _ := hd 1 (by kernel_rfl)
   go_wp2_with fail
   exact ⟨rfl, Kept.refl _ _⟩
  ·have d2 : x 2 = _ := hd 2 (by kernel_rfl)
   have y0 := hkw.cell c0 (by simp)
   have y1 := hkw.cell c1 (by simp)
   go_wp2_with fail
   exact ⟨rfl, Kept.refl _ _⟩
  ·have d2 : x 2 = _ := hd 2 (by kernel_rfl)
   have d3 : x 3 = _ := hd 3 (by kernel_rfl)
   have CX := CM1.o _ hkw
   go_wp2_with (go_at_call 19; refine CX.mono ?_; rintro e w5 ⟨rfl, hk5⟩; have Ga := qI hk5; clear hk5)
   exact ⟨rfl, Ga.o⟩
  ·have d2 : x 2 = _ := hd 2 (by kernel_rfl)
   have y0 := hkw.cell c0 (by simp)
   have y1 := hkw.cell c1 (by simp)
   go_wp2_with fail
   exact ⟨rfl, Kept.refl _ _⟩
  ·have d2 : x 2 = _ := hd 2 (by kernel_rfl)
   have d5 : x 5 = _ := hd 5 (by kernel_rfl)
   have CX := CM2.o _ hkw
   go_wp2_with (go_at_call 20; refine CX.mono ?_; rintro e w5 ⟨rfl, hk5⟩; have Ga := qI hk5; clear hk5)
   exact ⟨rfl, Ga.o⟩
  ·have d2 : x 2 = _ := hd 2 (by kernel_rfl)
   have d4 : x 4 = _ := hd 4 (by kernel_rfl)
   have d6 : x 6 = _ := hd 6 (by kernel_rfl)
   cases mr
   all_goals
    go_wp2_with fail
    exact ⟨rfl, Kept.refl _ _⟩
  ·have d2 : x 2 = _ := hd 2 (by kernel_rfl)
   have d7 : x 7 = _ := hd 7 (by kernel_rfl)
   go_wp2_with fail
   exact ⟨rfl, Kept.refl _ _⟩
  ·have d8 : x 8 = _ := hd 8 (by kernel_rfl)
   go_wp2_with fail
   exact ⟨rfl, Kept.refl _ _⟩
  ·have d9 : x 9 = _ := hd 9 (by kernel_rfl)
   go_wp2_with fail
   exact ⟨rfl, Kept.refl _ _⟩
  ·have d9 : x 9 = _ := hd 9 (by kernel_rfl)
   have d10 : x 10 = _ := hd 10 (by kernel_rfl)
   have y0 := hkw.cell w0 (by simp)
   go_wp2_with fail
   exact ⟨rfl, Kept.refl _ _⟩
  ·have d9 : x 9 = _ := hd 9 (by kernel_rfl)
   have y0 := hkw.cell c0 (by simp)
   have y1 := hkw.cell c1 (by simp)
   go_wp2_with fail
   exact ⟨rfl, Kept.refl _ _⟩
  ·have d9 : x 9 = _ := hd 9 (by kernel_rfl)
   have d12 : x 12 = _ := hd 12 (by kernel_rfl)
   have CX := CRR.o _ hkw
   go_wp2_with (go_at_call 21; refine CX.mono ?_; rintro e w5 ⟨⟨m5, s5, p5, i5, c5, q5, j5, d5, rfl⟩, hk5⟩; have Ga := qI hk5; clear hk5)
   exact ⟨⟨_, _, _, _, _, _, _, _, rfl⟩, Ga.o⟩
  ·have d9 : x 9 = _ := hd 9 (by kernel_rfl)
   obtain ⟨m5, s5, p5, i5, c5, q5, j5, d5, d13⟩ := hd 13 (by kernel_rfl)
   have hfd := fieldKind
   go_wp2_with fail
   exact ⟨rfl, Kept.refl _ _⟩
  ·have d9 : x 9 = _ := hd 9 (by kernel_rfl)
   have d11 : x 11 = _ := hd 11 (by kernel_rfl)
   have d14 : x 14 = _ := hd 14 (by kernel_rfl)
   go_wp2_with fail
   exact ⟨rfl, Kept.refl _ _⟩
  ·have d9 : x 9 = _ := hd 9 (by kernel_rfl)
   have d15 : x 15 = _ := hd 15 (by kernel_rfl)
   go_wp2_with fail
   exact ⟨rfl, Kept.refl _ _⟩
  ·have d16 : x 16 = _ := hd 16 (by kernel_rfl)
   go_wp2_with fail
   exact ⟨rfl, Kept.refl _ _⟩
  ·have d17 : x 17 = _ := hd 17 (by kernel_rfl)
   have y0 := hkw.cell x0 (by simp)
   have y1 := hkw.cell x1 (by simp)
   go_wp2_with fail
   exact ⟨rfl, Kept.refl _ _⟩
  ·have d17 : x 17 = _ := hd 17 (by kernel_rfl)
   have y0 := hkw.cell v0 (by simp)
   have y1 := hkw.cell v1 (by simp)
   go_wp2_with fail
   exact ⟨rfl, Kept.refl _ _⟩
  ·have d17 : x 17 = _ := hd 17 (by kernel_rfl)
   have d18 : x 18 = _ := hd 18 (by kernel_rfl)
   have d19 : x 19 = _ := hd 19 (by kernel_rfl)
   have CX := CS1.o _ hkw
   go_wp2_with (go_at_call 22; refine CX.mono ?_; rintro e w5 ⟨rfl, hk5⟩; have Ga := qI hk5; clear hk5)
   exact ⟨rfl, Ga.o⟩
  ·have d17 : x 17 = _ := hd 17 (by kernel_rfl)
   have d20 : x 20 = _ := hd 20 (by kernel_rfl)
   go_wp2_with fail
   exact ⟨rfl, Kept.refl _ _⟩
  ·have d17 : x 17 = _ := hd 17 (by kernel_rfl)
   have d21 : x 21 = _ := hd 21 (by kernel_rfl)
   go_wp2_with fail
   exact ⟨rfl, Kept.refl _ _⟩
  ·have d22 : x 22 = _ := hd 22 (by kernel_rfl)
   go_wp2_with fail
   exact ⟨rfl, Kept.refl _ _⟩
  ·have d23 : x 23 = _ := hd 23 (by kernel_rfl)
   go_wp2_with fail
   exact ⟨rfl, Kept.refl _ _⟩
  ·have d23 : x 23 = _ := hd 23 (by kernel_rfl)
   have d24 : x 24 = _ := hd 24 (by kernel_rfl)
   have he0 := HE.o.1
   go_wp2_with fail
   exact ⟨rfl, Kept.refl _ _⟩
  ·have d23 : x 23 = _ := hd 23 (by kernel_rfl)
   go_wp2_with fail
   exact ⟨rfl, Kept.refl _ _⟩
  ·have d23 : x 23 = _ := hd 23 (by kernel_rfl)
   have d25 : x 25 = _ := hd 25 (by kernel_rfl)
   have d26 : x 26 = _ := hd 26 (by kernel_rfl)
   cases ok
   all_goals
    go_wp2_with fail
    exact ⟨rfl, Kept.refl _ _⟩
  ·have d23 : x 23 = _ := hd 23 (by kernel_rfl)
   have d27 : x 27 = _ := hd 27 (by kernel_rfl)
   go_wp2_with fail
   exact ⟨rfl, Kept.refl _ _⟩
  ·have d28 : x 28 = _ := hd 28 (by kernel_rfl)
   go_wp2_with fail
   exact ⟨rfl, Kept.refl _ _⟩
  ·have d29 : x 29 = _ := hd 29 (by kernel_rfl)
   go_wp2_with fail
   exact ⟨rfl, Kept.refl _ _⟩
  ·have d29 : x 29 = _ := hd 29 (by kernel_rfl)
   have d30 : x 30 = _ := hd 30 (by kernel_rfl)
   go_wp2_with fail
   exact ⟨rfl, Kept.refl _ _⟩
  ·have d29 : x 29 = _ := hd 29 (by kernel_rfl)
   have d31 : x 31 = _ := hd 31 (by kernel_rfl)
   go_wp2_with fail
   exact ⟨rfl, Kept.refl _ _⟩
  ·have d32 : x 32 = _ := hd 32 (by kernel_rfl)
   cases ok with
   | true =>
    go_wp2_with fail
    exact ⟨(fun h => by cases h), Kept.refl _ _⟩
   | false =>
    go_wp2_with fail
    exact ⟨fun _ => rfl, Kept.refl _ _⟩
  ·have d32 : x 32 = _ := hd 32 (by kernel_rfl)
   have h33 := hd 33 (by kernel_rfl)
   have hz := HE.o.2
   cases ok with
   | true =>
    go_wp2_with fail
    exact ⟨(fun h => by cases h), Kept.refl _ _⟩
   | false =>
    have d33 : x 33 = .int .i64 z := h33 rfl
    obtain rfl := hz rfl
    clear hz
    go_wp2_with fail
    exact ⟨fun _ => rfl, Kept.refl _ _⟩
  ·have d29 : x 29 = _ := hd 29 (by kernel_rfl)
   have d32 : x 32 = _ := hd 32 (by kernel_rfl)
   have h34 := hd 34 (by kernel_rfl)
   cases ok with
   | true =>
    go_wp2_with fail
    exact ⟨rfl, Kept.refl _ _⟩
   | false =>
    have d34 : x 34 = .bool false := h34 rfl
    go_wp2_with fail
    exact ⟨rfl, Kept.refl _ _⟩
 intro x w7 hkw b7 hd hwin
 have d29 : x 29 = _ := hd 29 (by decide)
 have d35 : x 35 = _ := hd 35 (by decide)
 have Gl := qI hkw
 clear hd hwin hkw c0 c1 w1 w2' w3' w4' x0 x1 v0 v1
 have w0 := Gl.o.cell w0 (by simp)
 change wpList _ _ _ [_] _ _
 cases mr with
 | false =>
  obtain rfl : kd = 0 := by rw [Jc.o, ← Gr.o]; rfl
  go_wp2_with fail
  go_ret
  exact ⟨rfl, Gm.o.then Gl.o⟩
 | true =>
  obtain rfl : kd = 6 := by rw [Jc.o, ← Gr.o]; rfl
  have HM : Hid (mayRole r = true) := qI Gr.o.symm
  have Jq : Hid (BoxAt w7 b5 6 wm ws (.slice wp wi wc) (.slice wq wj wd)) := qI (Gu.o.kept0 Gl.o)
  have Jr := qI ((Jw.o HM.o).kept0 (Gk.o.then Gl.o))
  clear w0
  obtain ⟨w0, w1, w2', w3', w4'⟩ := Jq.o
  have CR2 : Hid (Calls Tryz.prog 17 #[.agg #[.int .i64 6, .int .i64 wm, .string ws, .slice wp wi wc, .slice wq wj wd]] w7 fun e w' => (∃ p i, e = .returned (.tuple #[.agg #[.slice p N i, .int .i64 r.thr], .int .i64 0]) ∧ Texts w' (.slice p N i) r.keys) ∧ Kept [] w7 w') := qI (by
   refine (readRole_any (n := 1) Jr.o (small_role HM.o)).mono ?_
   rintro e w' ⟨h9, hk9⟩
   rw [readRole_roleV HM.o] at h9
   rw [HN.o]
   exact ⟨h9, hk9⟩)
  go_upto_region 11 with (go_at_call 17; refine CR2.o.mono ?_; rintro e w8 ⟨⟨za, zc, rfl, htz⟩, hk8⟩; have Mc := qI htz; have Md := qI hk8; clear htz hk8 w0 w1 w2' w3' w4')
  obtain ⟨wT, Jh⟩ : ∃ wT, Hid (wT = w8.alloc (.cells #[.slice za N zc, .int .i64 r.thr] 43)) := ⟨_, qI rfl⟩
  obtain ⟨b10, Gv⟩ : ∃ b10, Hid (b10 = w8.heap.size) := ⟨_, qI rfl⟩
  have Gw : Hid (Kept [] w8 wT) := qI (by rw [Jh.o]; exact (Kept.refl _ _).alloc _)
  have Gb := qI (Md.o.then Gw.o)
  have Ji := qI ((Gm.o.then Gl.o).then Gb.o)
  have Js : Hid (wT.heap[b10]? = some (.cells #[.slice za N zc, .int .i64 r.thr] 43 (0, 0))) := qI (by rw [Jh.o, Gv.o]; exact block_alloc rfl)
  rw [← Jh.o, ← Gv.o]
  have Me := qI (Jr.o.kept0 Gb.o)
  have c0 := ((Ge.o.then Gl.o).then Gb.o).cell (cell_head (o := 0) (v := .slice a N c) Gc.o rfl) (by simp)
  have c1 := ((Ge.o.then Gl.o).then Gb.o).cell (cell_head (o := 1) (v := .int .i64 r.thr) Gc.o rfl) (by simp)
  have z0 := cell_head (o := 0) (v := .slice za N zc) Js.o rfl
  have z1 := cell_head (o := 1) (v := .int .i64 r.thr) Js.o rfl
  obtain ⟨wb0, wb1, wb2, wb3, wb4⟩ := Jq.o.kept0 Gb.o
  have CS2 : Hid (∀ w1, Kept [] wT w1 → Calls Tryz.prog 22 #[.agg #[.slice za N zc, .int .i64 r.thr], .agg #[.slice a N c, .int .i64 r.thr]] w1 fun e w' => e = .returned (.bool true) ∧ Kept [] w1 w') := qI (fun w1 hk => by
   have h1 := Mc.o.kept0 (Gw.o.then hk)
   have h2 := HT.o.kept0 (Ji.o.then hk)
   have h9 := Gf.o r w1 za a zc c (by have := (mayRole_ids HM.o).1; omega) (by rw [← HN.o]; exact h1) (by rw [← HN.o]; exact h2)
   rw [HN.o]
   exact h9)
  have CRV2 : Hid (∀ w1, Kept [] wT w1 → Calls Tryz.prog 21 #[.agg #[.slice a N c, .int .i64 r.thr]] w1 fun e w' => (∃ k m s p i c q j d, e = .returned (.agg #[.int .i64 k, .int .i64 m, .string s, .slice p i c, .slice q j d]) ∧ Rep 3 (fun _ => True) w' [.int .i64 k, .int .i64 m, .string s, .slice p i c, .slice q j d] (roleV r)) ∧ Kept [] w1 w') := qI (fun w1 hk => by
   refine (CRW.o _ (Ji.o.then hk)).mono ?_
   rintro e w' ⟨h9, hk9⟩
   obtain ⟨k, m, s, p, i, c, q, j, d, rfl, -, h8⟩ := roleAnsR_open h9
   exact ⟨⟨k, m, s, p, i, c, q, j, d, rfl, h8 HM.o⟩, hk9⟩)
  have CSM : Hid (∀ w1, Kept [] wT w1 → ∀ cs : List Value, Rep 3 (fun _ => True) w1 cs (roleV r) → Calls Tryz.prog 11 #[.agg #[.int .i64 6, .int .i64 wm, .string ws, .slice wp wi wc, .slice wq wj wd], .agg cs.toArray] w1 fun e w' => e = .returned (.bool true) ∧ Kept [] w1 w') := qI (fun w1 hk cs hc => by
   have h9 := refSame_any (n := 3) (Me.o.kept0 hk) hc (small_role HM.o) (small_role HM.o) (by decide)
   rw [same_role HM.o] at h9
   exact h9)
  refine wp_grows (n := 91) 12 [Fact.is (.int .i64 0),
   Fact.is (.bool true),
   Fact.is (.bool true),
   Fact.is (.agg #[.slice za N zc, .int .i64 r.thr]),
   Fact.is (.agg #[.slice a N c, .int .i64 r.thr]),
   Fact.is (.bool true),
   Fact.is (.bool true),
   Fact.is (.bool true),
   Fact.is (.agg #[.int .i64 6, .int .i64 wm, .string ws, .slice wp wi wc, .slice wq wj wd]),
   Fact.is (.agg #[.slice a N c, .int .i64 r.thr]),
   repFact (fun _ => True) 3 (roleV r),
   Fact.is (.bool true)] (by kernel_rfl) rfl (by kernel_rfl) (fun x => by simp only [List.map, puts, Act.put, List.setIfInBounds_toArray, List.set_cons_zero, List.set_cons_succ]; rfl) ?_ ?_
  ·refine ⟨fun x w2 hkw b hd => ?_, fun x w2 hkw b hd => ?_, fun x w2 hkw b hd => ?_, fun x w2 hkw b hd => ?_, fun x w2 hkw b hd => ?_, fun x w2 hkw b hd => ?_, fun x w2 hkw b hd => ?_, fun x w2 hkw b hd => ?_, fun x w2 hkw b hd => ?_, fun x w2 hkw b hd => ?_, fun x w2 hkw b hd => ?_, fun x w2 hkw b hd => ?_, trivial⟩
   ·go_wp2_with fail
    exact ⟨rfl, Kept.refl _ _⟩
   ·have d0 : x 0 = _ := hd 0 (by kernel_rfl)
    go_wp2_with fail
    exact ⟨rfl, Kept.refl _ _⟩
   ·have d1 : x 1 = _ := hd 1 (by kernel_rfl)
    go_wp2_with fail
    exact ⟨rfl, Kept.refl _ _⟩
   ·have d2 : x 2 = _ := hd 2 (by kernel_rfl)
    have y0 := hkw.cell z0 (by simp)
    have y1 := hkw.cell z1 (by simp)
    go_wp2_with fail
    exact ⟨rfl, Kept.refl _ _⟩
   ·have d2 : x 2 = _ := hd 2 (by kernel_rfl)
    have y0 := hkw.cell c0 (by simp)
    have y1 := hkw.cell c1 (by simp)
    go_wp2_with fail
    exact ⟨rfl, Kept.refl _ _⟩
   ·have d2 : x 2 = _ := hd 2 (by kernel_rfl)
    have d3 : x 3 = _ := hd 3 (by kernel_rfl)
    have d4 : x 4 = _ := hd 4 (by kernel_rfl)
    have CX := CS2.o _ hkw
    go_wp2_with (go_at_call 22; refine CX.mono ?_; rintro e w5 ⟨rfl, hk5⟩; have Ga := qI hk5; clear hk5)
    exact ⟨rfl, Ga.o⟩
   ·have d2 : x 2 = _ := hd 2 (by kernel_rfl)
    have d5 : x 5 = _ := hd 5 (by kernel_rfl)
    go_wp2_with fail
    exact ⟨rfl, Kept.refl _ _⟩
   ·have d6 : x 6 = _ := hd 6 (by kernel_rfl)
    go_wp2_with fail
    exact ⟨rfl, Kept.refl _ _⟩
   ·have d7 : x 7 = _ := hd 7 (by kernel_rfl)
    have y0 := hkw.cell wb0 (by simp)
    have y1 := hkw.cell wb1 (by simp)
    have y2 := hkw.cell wb2 (by simp)
    have y3 := hkw.cell wb3 (by simp)
    have y4 := hkw.cell wb4 (by simp)
    go_wp2_with fail
    exact ⟨rfl, Kept.refl _ _⟩
   ·have d7 : x 7 = _ := hd 7 (by kernel_rfl)
    have y0 := hkw.cell c0 (by simp)
    have y1 := hkw.cell c1 (by simp)
    go_wp2_with fail
    exact ⟨rfl, Kept.refl _ _⟩
   ·have d7 : x 7 = _ := hd 7 (by kernel_rfl)
    have d9 : x 9 = _ := hd 9 (by kernel_rfl)
    have CX := CRV2.o _ hkw
    go_wp2_with (go_at_call 21; refine CX.mono ?_; rintro e w5 ⟨⟨k5, m5, s5, p5, i5, c5, q5, j5, d5, rfl, hr5⟩, hk5⟩; have Mf := qI hr5; have Ga := qI hk5; clear hk5 hr5)
    exact ⟨⟨_, _, _, _, _, _, _, _, _, rfl, Mf.o⟩, Ga.o⟩
   ·have d7 : x 7 = _ := hd 7 (by kernel_rfl)
    have d8 : x 8 = _ := hd 8 (by kernel_rfl)
    obtain ⟨k5, m5, s5, p5, i5, c5, q5, j5, d5, d10, hr5⟩ := hd 10 (by kernel_rfl)
    have CX := CSM.o _ hkw [.int .i64 k5, .int .i64 m5, .string s5, .slice p5 i5 c5, .slice q5 j5 d5] hr5
    clear hr5
    go_wp2_with (go_at_call 11; refine CX.mono ?_; rintro e w5 ⟨rfl, hk5⟩; have Ga := qI hk5; clear hk5)
    exact ⟨rfl, Ga.o⟩
  intro x w9 hkw9 b9 hd9 hwin9
  have d11 : x 11 = _ := hd9 11 (by decide)
  have d7 : x 7 = _ := hd9 7 (by decide)
  have Mg := qI hkw9
  clear hd9 hwin9 hkw9 c0 c1 wb0 wb1 wb2 wb3 wb4 z0 z1
  change wpList _ _ _ [_, _] _ _
  go_wp2_with fail
  go_ret
  exact ⟨rfl, Ji.o.then Mg.o⟩
theorem cellsIntV : Tryz.prog.cellsOf 3 = 1 := by kernel_rfl
theorem cellsStrV : Tryz.prog.cellsOf 9 = 1 := by kernel_rfl
theorem cellsVals : Tryz.prog.cellsOf 25 = 1 := by kernel_rfl
theorem cellsPairs : Tryz.prog.cellsOf 26 = 1 := by kernel_rfl
theorem cellsVal : Tryz.prog.cellsOf 28 = 5 := by kernel_rfl
theorem cellsPair : Tryz.prog.cellsOf 78 = 6 := by kernel_rfl
section
variable {H : Type} {enc : TypeId × Value → H} {w : World} {held : Bool}
theorem weightsAll_mem {P : Program} {e : TypeId} : ∀ {l : List (DataW H)} {d : DataW H} {k : Nat}, d ∈ l → k ∈ d.weights P e → k ∈ DataW.weightsAll P e l
 | [], _, _, h, _ => by cases h
 | a :: l, d, k, h, hk => by
  rw [DataW.weightsAll, List.mem_append]
  rcases List.mem_cons.1 h with rfl | h
  ·exact .inl hk
  ·exact .inr (weightsAll_mem h hk)
theorem weights_field {P : Program} {t : TypeId} {fs : Array Field} {xs : List (DataW H × List MemPlace)} (h : P.underlying t = some (.struct fs)) {j : Nat} {tt : TypeId} {y : DataW H × List MemPlace} {k : Nat} (ht : (fs.toList.map (·.type))[j]? = some tt) (hy : xs[j]? = some y) (hk : k ∈ y.1.weights P tt) : k ∈ (DataW.agg (xs.map (·.1)) : DataW H).weights P t := by
 rw [DataW.weights, h]
 exact DataW.weights_mem_each (j := j) ht (by rw [List.getElem?_map, hy]; rfl) k hk
theorem trod_slcV {P : Program} {t e size : Nat} (ht : P.underlying t = some (.slice e)) (hc : P.cellsOf e = size) (hpos : 0 < size) {fuel : Nat} {v : Value} {x : DataW H × List MemPlace} {B : Nat}
  (h : DataW.trod enc P w 0 (fun _ => true) held fuel t [v] = some x) (hw : ∀ k, k ∈ x.1.weights P t → k ≤ B) (hb : 0 < P.bytesOf e) :
  ∃ n xs, Slc w size v n xs ∧ n ≤ B ∧ (n = 0 ∨ ∃ m, fuel = m + 1 ∧ ∀ i, i < n → ∃ y, DataW.trod enc P w 0 (fun _ => true) held m e ((xs.drop (i * size)).take size) = some y ∧ ∀ k, k ∈ y.1.weights P e → k ≤ B) := by
 rcases DataW.trod_slice ht h with ⟨hcs, _⟩ | ⟨a, len, cap, elems, rest, m, hfuel, hcs, hxe, _, hl, hm, hel, hx, _⟩
 ·obtain rfl : v = .slice none 0 0 := by simpa using hcs
  exact ⟨0, [], slc_nil _ _, Nat.zero_le _, .inl rfl⟩
 ·obtain rfl : v = .slice (some a) len cap := by simpa using hcs
  rw [hc] at hx
  by_cases h0 : len = 0
  ·subst h0
   exact ⟨0, [], ⟨by simp, .inr (.inl ⟨rfl, a, cap, rfl, hm⟩)⟩, Nat.zero_le _, .inl rfl⟩
  ·rw [hxe] at hw
   have hwe : (DataW.slice (elems.map (·.1)) (rest.map (·.1)) : DataW H).weights P t = ((elems.map (·.1)).length + (rest.map (·.1)).length) * P.bytesOf e :: (DataW.weightsAll P e (elems.map (·.1)) ++ DataW.weightsAll P e (rest.map (·.1))) := by
    rw [DataW.weights, ht]
   simp only at hw
   rw [hwe] at hw
   have hlenB : len ≤ B := by
    have h1 := hw _ (List.mem_cons_self ..)
    rw [List.length_map, List.length_map, hel] at h1
    have h2 : (len + rest.length) * 1 ≤ (len + rest.length) * P.bytesOf e := Nat.mul_le_mul_left _ hb
    omega
   have hx' : ∀ i, i < len → ∃ cs', w.cells? 0 (a.add (i * size)) size = some cs' ∧ ∃ y, DataW.trod enc P w 0 (fun _ => true) held m e cs' = some y ∧ ∀ k, k ∈ y.1.weights P e → k ≤ B := by
    intro i hi
    have h1 := hx i hi
    rw [List.getElem?_eq_getElem (by omega)] at h1
    obtain ⟨cs', h2, h3⟩ := Option.bind_eq_some_iff.1 h1
    exact ⟨cs', h2, _, h3, fun k hk => hw k (List.mem_cons_of_mem _ (List.mem_append_left _ (weightsAll_mem (List.mem_map_of_mem (List.getElem_mem (by omega))) hk)))⟩
   have hcell : ∀ j, j < len * size → ∃ u, w.cell? (a.add j) = some u := by
    intro j hj
    have hi : j / size < len := Nat.div_lt_of_lt_mul (by rw [Nat.mul_comm]; exact hj)
    obtain ⟨cs', h1, _⟩ := hx' _ hi
    obtain ⟨_, h2, h3⟩ := World.cells?_some h1
    have hr := Nat.mod_lt j hpos
    have h4 := h3 _ hr
    rw [Deep.add_add, show j / size * size + j % size = j by rw [Nat.mul_comm]; exact Nat.div_add_mod j size] at h4
    rw [h4]
    exact ⟨cs'[j % size], by simp [h2, hr]⟩
   have hpos2 : 0 < len * size := Nat.mul_pos (by omega) hpos
   obtain ⟨u0, hu0⟩ := hcell 0 hpos2
   obtain ⟨g, o, spot⟩ := a
   have hspot : spot = none := by simpa [Addr.add] using World.cell?_spot hu0
   subst hspot
   have hlt : g < w.heap.size := by
    rcases Nat.lt_or_ge g w.heap.size with h | h
    ·exact h
    ·exfalso
     simp [World.cell?, Addr.add, Array.getElem?_eq_none h] at hu0
   refine ⟨len, (List.range (len * size)).map fun j => (w.cell? ⟨g, o + j, none⟩).getD (.bool false), ⟨by simp, .inr (.inr ⟨g, o, cap, rfl, hl, hm, ⟨?_, hlt⟩⟩)⟩, hlenB, .inr ⟨m, hfuel, ?_⟩⟩
   ·intro j u hu
    rw [List.getElem?_map] at hu
    by_cases hj : j < len * size
    ·obtain ⟨u', hu'⟩ := hcell j hj
     rw [addr_add] at hu'
     simp [hj, hu'] at hu
     rw [hu', hu]
    ·simp [hj] at hu
   ·intro i hi
    obtain ⟨cs', h1, h2⟩ := hx' i (by omega)
    obtain ⟨_, h3, h4⟩ := World.cells?_some h1
    have hle : i * size + size ≤ len * size := by
     have := Nat.mul_le_mul_right size (show i + 1 ≤ len by omega)
     rw [Nat.add_mul, Nat.one_mul] at this
     exact this
    have e1 : (((List.range (len * size)).map fun j => (w.cell? ⟨g, o + j, none⟩).getD (.bool false)).drop (i * size)).take size = cs' := by
     apply List.ext_getElem?
     intro r
     by_cases hr : r < size
     ·have h5 := h4 r hr
      rw [Deep.add_add, addr_add] at h5
      rw [List.getElem?_take, if_pos hr, List.getElem?_drop, List.getElem?_map, List.getElem?_range (by omega)]
      simp only [Option.map_some]
      rw [h5]
      simp [h3, hr]
     ·rw [List.getElem?_eq_none (by rw [List.length_take]; omega), List.getElem?_eq_none (by omega)]
    rw [e1]
    exact h2
theorem one_cellV {xs : List Value} {i : Nat} (hi : i < xs.length) : (xs.drop (i * 1)).take 1 = [xs[i]] := by
 rw [Nat.mul_one, List.drop_eq_getElem_cons hi]
 rfl
theorem list_fiveV {α : Type} {l : List α} (h : l.length = 5) : ∃ a b c d e, l = [a, b, c, d, e] := by
 match l, h with
 | [a, b, c, d, e], _ => exact ⟨a, b, c, d, e, rfl⟩
theorem list_sixV {α : Type} {l : List α} (h : l.length = 6) : ∃ a b c d e f, l = [a, b, c, d, e, f] := by
 match l, h with
 | [a, b, c, d, e, f], _ => exact ⟨a, b, c, d, e, f, rfl⟩
theorem texts_up {B : Nat} : ∀ (n : Nat) (v : V n), TextsLe B n v → TextsLe B (n + 1) (up n v)
 | 0, v, _ => nomatch v
 | n + 1, (v : VS (V n)), ⟨⟨h1, h2, h3⟩, h4, h5⟩ => by
  refine ⟨⟨h1, ?_, ?_⟩, ?_, ?_⟩
  ·show (v.l.map _).length ≤ B; rw [List.length_map]; exact h2
  ·show (v.m.map _).length ≤ B; rw [List.length_map]; exact h3
  ·intro p hp
   obtain ⟨q, hq, rfl⟩ := List.mem_map.1 hp
   exact h4 q hq
  ·intro x hx
   have hx' : x ∈ (VS.map (up n) v).kids := hx
   rw [VS.kids_map] at hx'
   obtain ⟨y, hy, rfl⟩ := List.mem_map.1 hx'
   exact texts_up n y (h5 y hy)
theorem RepT.up {n B : Nat} {S : Nat → Prop} {cs : List Value} {v : V n} (h : RepT n B S w cs v) : RepT (n + 1) B S w cs (Go.Proofs.YtckbnjipecclaaaGreatDoor.up n v) := ⟨h.1.up, texts_up n v h.2⟩
def chunks (size : Nat) (xs : List Value) (n : Nat) : List (List Value) := (List.range n).map fun i => (xs.drop (i * size)).take size
theorem chunks_flat {size : Nat} : ∀ (n : Nat) (xs : List Value), xs.length = n * size → (chunks size xs n).flatten = xs
 | 0, xs, h => by
  rw [Nat.zero_mul] at h
  rw [List.eq_nil_of_length_eq_zero h]
  rfl
 | n + 1, xs, h => by
  have h' : (xs.drop size).length = n * size := by rw [List.length_drop, h, Nat.add_mul, Nat.one_mul]; omega
  have ih := chunks_flat n (xs.drop size) h'
  unfold chunks at ih ⊢
  rw [List.range_succ_eq_map, List.map_cons, List.flatten_cons, Nat.zero_mul, List.drop_zero, List.map_map]
  have e : ((fun i => (xs.drop (i * size)).take size) ∘ Nat.succ) = fun i => ((xs.drop size).drop (i * size)).take size := by
   funext i
   simp only [Function.comp, List.drop_drop]
   rw [show Nat.succ i * size = size + i * size by rw [Nat.succ_mul]; omega]
  rw [e, ih]
  exact List.take_append_drop size xs
def pairF (c : List Value) : ByteArray × List Value := (match c.head? with | some (.string s) => s | _ => ⟨#[]⟩, c.tail)
theorem trod_value {B : Nat} : ∀ (fuel : Nat) {cs : List Value} {x : DataW H × List MemPlace}, DataW.trod enc Tryz.prog w 0 (fun _ => true) held fuel 28 cs = some x → (∀ k, k ∈ x.1.weights Tryz.prog 28 → k ≤ B) → ∃ v : V fuel, RepT fuel B (fun g => g < w.heap.size) w cs v := by
 intro fuel
 induction fuel using Nat.strongRecOn with
 | ind fuel IH =>
  intro cs x h hw
  obtain ⟨xs, n, hfu, hxe, hl, hlen, hf⟩ := DataW.trod_struct Tryz.underlying28 h
  subst hfu
  rw [cellsVal] at hl
  obtain ⟨c0, c1, c2, c3, c4, rfl⟩ := list_fiveV hl
  obtain ⟨y0, y1, y2, y3, y4, rfl⟩ := list_fiveV hlen
  have h0 : DataW.trod enc Tryz.prog w 0 (fun _ => true) held n 3 (([c0, c1, c2, c3, c4].drop 0).take (Tryz.prog.cellsOf 3)) = some y0 := hf 0 _ rfl
  have h1 : DataW.trod enc Tryz.prog w 0 (fun _ => true) held n 3 (([c0, c1, c2, c3, c4].drop 1).take (Tryz.prog.cellsOf 3)) = some y1 := hf 1 _ rfl
  have h2 : DataW.trod enc Tryz.prog w 0 (fun _ => true) held n 9 (([c0, c1, c2, c3, c4].drop 2).take (Tryz.prog.cellsOf 9)) = some y2 := hf 2 _ rfl
  have h3 : DataW.trod enc Tryz.prog w 0 (fun _ => true) held n 25 (([c0, c1, c2, c3, c4].drop 3).take (Tryz.prog.cellsOf 25)) = some y3 := hf 3 _ rfl
  have h4 : DataW.trod enc Tryz.prog w 0 (fun _ => true) held n 26 (([c0, c1, c2, c3, c4].drop 4).take (Tryz.prog.cellsOf 26)) = some y4 := hf 4 _ rfl
  rw [cellsIntV] at h0 h1
  rw [cellsStrV] at h2
  rw [cellsVals] at h3
  rw [cellsPairs] at h4
  have hwf : ∀ (j : Nat) (tt : TypeId) (y : DataW H × List MemPlace), ([3, 3, 9, 25, 26] : List TypeId)[j]? = some tt → [y0, y1, y2, y3, y4][j]? = some y → ∀ k, k ∈ y.1.weights Tryz.prog tt → k ≤ B := by
   intro j tt y ht hy k hk
   refine hw k ?_
   rw [hxe]
   exact weights_field Tryz.underlying28 ht hy hk
  obtain ⟨i, e0, _, w0⟩ := DataW.trod_int Tryz.underlying3 (x := y0) h0
  obtain ⟨j, e1, _, w1⟩ := DataW.trod_int Tryz.underlying3 (x := y1) h1
  obtain ⟨s, e2, f2, -⟩ := DataW.trod_string Tryz.underlying9 (x := y2) h2
  have w2 : s.size ≤ B := by
   have h9 := hwf 2 _ y2 rfl rfl s.data.toList.length (by rw [f2]; show _ ∈ DataW.weights Tryz.prog 9 (.lit (.string s.data.toList)); simp [DataW.weights])
   simpa using h9
  have hL := trod_slcV (v := c3) (x := y3) Tryz.underlying25 cellsVal (by decide) h3 (hwf 3 _ y3 rfl rfl) (by rw [show Tryz.prog.bytesOf 28 = 80 by kernel_rfl]; decide)
  have hM := trod_slcV (v := c4) (x := y4) Tryz.underlying26 cellsPair (by decide) h4 (hwf 4 _ y4 rfl rfl) (by rw [show Tryz.prog.bytesOf 78 = 96 by kernel_rfl]; decide)
  simp only [List.drop_zero, List.drop_succ_cons, List.take_succ_cons, List.take_zero, List.cons.injEq, and_true] at e0 e1 e2
  subst e0 e1 e2
  obtain ⟨nl, xl, sl, ml, hl⟩ := hL
  obtain ⟨nm, xm, sm, mm, hm⟩ := hM
  have gl : ∃ zl : List (V n), All2 (RepT n B (fun g => g < w.heap.size) w) (chunks 5 xl nl) zl := by
   refine All2.pick (R := fun (c : List Value) (k : Nat) => ∃ z : V n, RepT n B (fun g => g < w.heap.size) w c z) _ (List.range nl) ⟨by simp [chunks], ?_⟩ (fun _ _ _ r => r)
   intro q c k hc hk
   have hq : q < nl := by
    have := (List.getElem?_eq_some_iff.1 hk).1
    simpa using this
   unfold chunks at hc
   rw [List.getElem?_map, List.getElem?_range hq] at hc
   simp only [Option.map_some, Option.some.injEq] at hc
   subst hc
   rcases hl with h0 | ⟨m, hm, hl⟩
   ·omega
   obtain ⟨y, hy, hwy⟩ := hl q hq
   obtain ⟨z, hz⟩ := IH m (by omega) hy hwy
   subst hm
   exact ⟨_, hz.up⟩
  have gm : ∃ zm : List (ByteArray × V n), All2 (fun c (z : ByteArray × V n) => (c = .string z.1 :: c.tail ∧ RepT n B (fun g => g < w.heap.size) w c.tail z.2) ∧ z.1.size ≤ B) (chunks 6 xm nm) zm := by
   refine All2.pick (R := fun (c : List Value) (k : Nat) => ∃ z : ByteArray × V n, (c = .string z.1 :: c.tail ∧ RepT n B (fun g => g < w.heap.size) w c.tail z.2) ∧ z.1.size ≤ B) _ (List.range nm) ⟨by simp [chunks], ?_⟩ (fun _ _ _ r => r)
   intro q c k hc hk
   have hq : q < nm := by
    have := (List.getElem?_eq_some_iff.1 hk).1
    simpa using this
   unfold chunks at hc
   rw [List.getElem?_map, List.getElem?_range hq] at hc
   simp only [Option.map_some, Option.some.injEq] at hc
   subst hc
   rcases hm with h0 | ⟨m, hm', hm⟩
   ·omega
   obtain ⟨y, hy, hwy⟩ := hm q hq
   obtain ⟨ys, n2, hf2, hye, hl2, hlen2, hg2⟩ := DataW.trod_struct Tryz.underlying78 hy
   rw [cellsPair] at hl2
   revert hl2 hg2
   generalize (xm.drop (q * 6)).take 6 = c6
   intro hl2 hg2
   obtain ⟨d0, d1, d2, d3, d4, d5, rfl⟩ := list_sixV hl2
   obtain ⟨z0, z1, rfl⟩ : ∃ z0 z1, ys = [z0, z1] := by
    match ys, hlen2 with
    | [a, b], _ => exact ⟨a, b, rfl⟩
   have k0 : DataW.trod enc Tryz.prog w 0 (fun _ => true) held n2 9 (([d0, d1, d2, d3, d4, d5].drop 0).take (Tryz.prog.cellsOf 9)) = some z0 := hg2 0 _ rfl
   have k1 : DataW.trod enc Tryz.prog w 0 (fun _ => true) held n2 28 (([d0, d1, d2, d3, d4, d5].drop 1).take (Tryz.prog.cellsOf 28)) = some z1 := hg2 1 _ rfl
   rw [cellsStrV] at k0
   rw [cellsVal] at k1
   have hwp : ∀ (j : Nat) (tt : TypeId) (y' : DataW H × List MemPlace), ([9, 28] : List TypeId)[j]? = some tt → [z0, z1][j]? = some y' → ∀ k, k ∈ y'.1.weights Tryz.prog tt → k ≤ B := by
    intro j tt y' ht hy' k hk
    refine hwy k ?_
    rw [hye]
    exact weights_field Tryz.underlying78 ht hy' hk
   obtain ⟨s2, q0, f2', -⟩ := DataW.trod_string Tryz.underlying9 (x := z0) k0
   simp only [List.drop_zero, List.take_succ_cons, List.take_zero, List.cons.injEq, and_true] at q0
   subst q0
   have q2 : s2.size ≤ B := by
    have h9 := hwp 0 _ z0 rfl rfl s2.data.toList.length (by rw [f2']; show _ ∈ DataW.weights Tryz.prog 9 (.lit (.string s2.data.toList)); simp [DataW.weights])
    simpa using h9
   have k1' : DataW.trod enc Tryz.prog w 0 (fun _ => true) held n2 28 [d1, d2, d3, d4, d5] = some z1 := k1
   obtain ⟨z, hz⟩ := IH n2 (by omega) k1' (hwp 1 _ z1 rfl rfl)
   subst hf2
   subst hm'
   exact ⟨(s2, Go.Proofs.YtckbnjipecclaaaGreatDoor.up _ (Go.Proofs.YtckbnjipecclaaaGreatDoor.up _ z)), ⟨rfl, hz.up.up⟩, q2⟩
  obtain ⟨zl, al⟩ := gl
  obtain ⟨zm, am⟩ := gm
  have el : zl.length = nl := by rw [← al.1]; simp [chunks]
  have em : zm.length = nm := by rw [← am.1]; simp [chunks]
  have getl : ∀ x, x ∈ zl → TextsLe B n x := fun x hx => by
   obtain ⟨j, hj, rfl⟩ := List.getElem_of_mem hx
   exact (al.2 j _ _ (List.getElem?_eq_getElem (by rw [al.1]; exact hj)) (List.getElem?_eq_getElem hj)).2
  have getm : ∀ p, p ∈ zm → TextsLe B n p.2 ∧ p.1.size ≤ B := fun x hx => by
   obtain ⟨j, hj, rfl⟩ := List.getElem_of_mem hx
   have := am.2 j _ _ (List.getElem?_eq_getElem (by rw [am.1]; exact hj)) (List.getElem?_eq_getElem hj)
   exact ⟨this.1.2.2, this.2⟩
  have hfix : ∀ c, c ∈ chunks 6 xm nm → pairC (pairF c) = c := fun c hc => by
   obtain ⟨j, hj, rfl⟩ := List.getElem_of_mem hc
   have h5 := (am.2 j _ _ (List.getElem?_eq_getElem hj) (List.getElem?_eq_getElem (by rw [← am.1]; exact hj))).1.1
   rw [h5]
   rfl
  have hcm : pairCs ((chunks 6 xm nm).map pairF) = xm := by
   rw [pairCs_flat, List.map_map]
   have e : (chunks 6 xm nm).map (pairC ∘ pairF) = chunks 6 xm nm := by
    conv => rhs; rw [← List.map_id (chunks 6 xm nm)]
    exact List.map_congr_left fun c hc => hfix c hc
   rw [e]
   exact chunks_flat nm xm sm.1
  have hcl : (chunks 5 xl nl).flatten = xl := chunks_flat nl xl sl.1
  refine ⟨(⟨i, j, s, zl, zm⟩ : VS (V n)), ⟨c3, c4, chunks 5 xl nl, (chunks 6 xm nm).map pairF, {
   cells := rfl
   slcl := by rw [el, hcl]; exact sl
   alll := al.mono fun _ _ _ r => r.1
   slcm := by rw [em, hcm]; exact sm
   allm := ?_
   inl := fun g hg => sl.lt hg
   inm := fun g hg => sm.lt hg
   wfk := w0
   wfn := w1 }⟩, ⟨w2, by rw [el]; exact ml, by rw [em]; exact mm⟩, fun p hp => (getm p hp).2, fun x hx => ?_⟩
  ·refine ⟨by rw [List.length_map]; exact am.1, ?_⟩
   intro q c z hc hz
   rw [List.getElem?_map, Option.map_eq_some_iff] at hc
   obtain ⟨c', hc', rfl⟩ := hc
   have h5 := (am.2 q c' z hc' hz).1
   refine ⟨?_, h5.2.1⟩
   rw [h5.1]
   rfl
  ·rcases List.mem_append.1 hx with hx | hx
   ·exact getl x hx
   ·obtain ⟨p, hp, rfl⟩ := List.mem_map.1 hx
    exact (getm p hp).1
end
end Go.Proofs.YtckbnjipecclaaaGreatDoor

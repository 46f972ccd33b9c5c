/- Parts of one proof, merged: XLE XOn. -/
import Derived.Test.YtpbphdkjjoipnaaGreatDoorML
import Derived.Test.YtpbphdkjjoipnaaGreatDoorMD
import Derived.Test.YtpbphdkjjoipnaaGreatDoorMK
set_option linter.all false
set_option linter.unusedVariables false
set_option linter.unusedSimpArgs false
set_option linter.unnecessarySimpa false
namespace Go.Proofs.YtpbphdkjjoipnaaGreatDoor
open Go.RowKit
section
variable {S : Nat → Prop} {w : World} {cs : List Value}
set_option maxRecDepth 100000 in
set_option maxHeartbeats 12800000 in
theorem encodes_any {n : Nat} {v : V n} (h : RepT n BB S w cs v) (ht : Tabs w) :
    Calls Tryz.prog 3 #[.agg cs.toArray] w fun e w' => e = .returned (.bool true) ∧ Kept [] w w' := by
  obtain ⟨kd, nm, st, a, la, ea, b, lb, eb, rfl⟩ := h.1.conv
  obtain ⟨W0, HW0⟩ : ∃ W0, Hid (W0 = w.alloc (.cells #[.int .i64 kd, .int .i64 nm, .string st, .slice a la ea, .slice b lb eb] 25)) := ⟨_, Lib.hid rfl⟩
  have HK0 : Hid (Kept [] w W0) := Lib.hid (by rw [HW0.out]; exact (Kept.refl [] w).alloc _)
  have HA : Hid (BoxAt W0 w.heap.size kd nm st (.slice a la ea) (.slice b lb eb)) := Lib.hid (by rw [HW0.out]; exact box_at _ _ _ _ _ _ _)
  have HT := Lib.hid (ht.kept0 HK0.out)
  have ia := incoming h
  have CL : Hid (∀ w1, Kept [] W0 w1 → Calls Tryz.prog 12 #[] w1 fun e w' => e = .returned (.bool true) ∧ Kept [] w1 w') := Lib.hid (fun w1 k => lives_any (HT.out.kept0 k))
  have hA0 := HA.out
  rw [HW0.out] at hA0
  obtain ⟨a0, a1, a2, a3, a4⟩ := hA0
  clear h ht
  rcases ia with LA | ⟨LA, ia⟩
  · have LA := Lib.hid LA
    go_enter Tryz.func3, Tryz.ntmps3
    go_wp2_with fail
    rw [← HW0.out]
    clear a0 a1 a2 a3 a4
    refine (LA.out _ HK0.out).mono ?_
    rintro e w1 ⟨rfl, hk1⟩
    have HK1 := Lib.hid hk1
    clear hk1
    go_wp2_with fail
    refine (CL.out _ HK1.out).mono ?_
    rintro e w2 ⟨rfl, hk2⟩
    go_wp2_with fail
    go_ret
    exact ⟨rfl, (HK0.out.then HK1.out).then hk2⟩
  have LA := Lib.hid LA
  have hab : (∃ (d : Nat) (u : V d), d ≤ 100 ∧ Rep d S w [.int .i64 kd, .int .i64 nm, .string st, .slice a la ea, .slice b lb eb] u ∧ Small d u ∧ checkV d u ≠ 0) ∨
      ∃ u : V 12, Rep 12 S w [.int .i64 kd, .int .i64 nm, .string st, .slice a la ea, .slice b lb eb] u ∧ Small 12 u ∧ checkV 12 u = 0 := by
    rcases ia with ⟨u, h1, h2, h3⟩ | ⟨u, h1, h2⟩
    · exact .inl ⟨21, u, by decide, h1, h2, by rw [h3]; decide⟩
    · by_cases hc : checkV 12 u = 0
      · exact .inr ⟨u, h1, h2, hc⟩
      · exact .inl ⟨12, u, by decide, h1, h2, hc⟩
  clear ia
  have CEN : Hid (∀ {d : Nat} {u : V d} {X : List UInt8} {E : Int}, d ≤ 100 → Rep d S w [.int .i64 kd, .int .i64 nm, .string st, .slice a la ea, .slice b lb eb] u → Small d u → encV d u = (X, E) → ∀ w1, Kept [] W0 w1 →
      Calls Tryz.prog 13 #[.agg #[.int .i64 kd, .int .i64 nm, .string st, .slice a la ea, .slice b lb eb]] w1 fun e w' => (∃ p c, e = .returned (.tuple #[.slice p X.length c, .int .i64 E]) ∧ Bytes w' (.slice p X.length c) X) ∧ Kept [] w1 w') := Lib.hid fun hd h1 h2 hX w1 k => by
    have h9 := encode_any (h1.kept0 (HK0.out.then k)) h2 hd (HT.out.kept0 k)
    rw [hX] at h9
    exact h9
  have CRE : Hid (∀ {d : Nat} {u : V d} {X : List UInt8} {E : Int}, d ≤ 100 → Rep d S w [.int .i64 kd, .int .i64 nm, .string st, .slice a la ea, .slice b lb eb] u → Small d u → encV d u = (X, E) → ∀ w1, Kept [] W0 w1 →
      Calls Tryz.prog 14 #[.agg #[.int .i64 kd, .int .i64 nm, .string st, .slice a la ea, .slice b lb eb]] w1 fun e w' => (∃ p c, e = .returned (.tuple #[.slice p X.length c, .int .i64 E]) ∧ Bytes w' (.slice p X.length c) X) ∧ Kept [] w1 w') := Lib.hid fun hd h1 h2 hX w1 k => by
    have h9 := refEncode_any (h1.kept0 (HK0.out.then k)) h2 hd
    rw [hX] at h9
    exact h9
  go_enter Tryz.func3, Tryz.ntmps3
  go_wp2_with fail
  rw [← HW0.out]
  clear a0 a1 a2 a3 a4
  refine (LA.out _ HK0.out).mono ?_
  rintro e w1 ⟨rfl, hk1⟩
  have HK1 := Lib.hid hk1
  obtain ⟨a0, a1, a2, a3, a4⟩ := HA.out.kept0 hk1
  clear hk1
  go_wp2_with fail
  clear a0 a1 a2 a3 a4
  rcases hab with ⟨d, u, hd, h1, h2, h3⟩ | ⟨u, h1, h2, h3⟩
  · obtain ⟨X, E, hX⟩ : ∃ X E, encV d u = (X, E) := ⟨_, _, rfl⟩
    have hE : E ≠ 0 := by rw [encV_bad h3] at hX; injection hX with _ e; rw [← e]; exact h3
    have HX := Lib.hid hX
    clear hX
    refine (CEN.out hd h1 h2 HX.out _ HK1.out).mono ?_
    rintro e w2 ⟨⟨p2, c2, rfl, hb2⟩, hk2⟩
    have HK2 := Lib.hid (HK1.out.then hk2)
    have HB2 := Lib.hid hb2
    clear hk2 hb2
    obtain ⟨a0, a1, a2, a3, a4⟩ := HA.out.kept0 HK2.out
    go_wp2_with fail
    clear a0 a1 a2 a3 a4
    refine (CRE.out hd h1 h2 HX.out _ HK2.out).mono ?_
    rintro e w3 ⟨⟨p3, c3, rfl, hb3⟩, hk3⟩
    have HK3 := Lib.hid (HK2.out.then hk3)
    have HB3 := Lib.hid hb3
    have HB2 := Lib.hid (HB2.out.kept0 hk3)
    clear hk3 hb3
    go_wp2_with fail
    refine (CL.out _ HK3.out).mono ?_
    rintro e w4 ⟨rfl, hk4⟩
    have HK4 := Lib.hid (HK3.out.then hk4)
    have k1 : (convert 28 9 (.slice p2 X.length c2)).run Tryz.prog w4 = .ok (.string (strB X)) w4 := Bytes.toStr (HB2.out.kept0 hk4)
    have k2 : (convert 28 9 (.slice p3 X.length c3)).run Tryz.prog w4 = .ok (.string (strB X)) w4 := Bytes.toStr (HB3.out.kept0 hk4)
    have HB4 := Lib.hid (HB2.out.kept0 hk4)
    clear hk4
    obtain ⟨a0, a1, a2, a3, a4⟩ := HA.out.kept0 HK4.out
    revert k1 k2
    generalize strB X = sX
    intro k1 k2
    go_wp2_with fail
    clear a0 a1 a2 a3 a4 k1 k2
    have CC := Lib.hid (fun w5 (k : Kept [] W0 w5) => refCheck_any (h1.kept0 (HK0.out.then k)) h2 hd)
    have CZ := Lib.hid (fun w5 (k : Kept [] W0 w5) => size_any (h1.kept0 (HK0.out.then k)) h2 hd (HT.out.kept0 k))
    have hz : sizeV d u = 0 := if_neg h3
    rw [hz] at CZ
    clear hz h1 h2
    revert CC h3
    generalize checkV d u = k0
    intro h3 CC
    obtain ⟨f1, f2⟩ := int_ne h3
    obtain ⟨f3, f4⟩ := int_ne hE
    refine (CC.out _ HK4.out).mono ?_
    rintro e w5 ⟨rfl, hk5⟩
    have HK5 := Lib.hid (HK4.out.then hk5)
    clear hk5
    obtain ⟨a0, a1, a2, a3, a4⟩ := HA.out.kept0 HK5.out
    go_wp2_with fail
    clear a0 a1 a2 a3 a4
    refine (CC.out _ HK5.out).mono ?_
    rintro e w6 ⟨rfl, hk6⟩
    have HK6 := Lib.hid (HK5.out.then hk6)
    clear hk6
    obtain ⟨a0, a1, a2, a3, a4⟩ := HA.out.kept0 HK6.out
    go_wp2_with fail
    clear a0 a1 a2 a3 a4
    refine (CZ.out _ HK6.out).mono ?_
    rintro e w7 ⟨rfl, hk7⟩
    go_wp2_with fail
    go_ret
    exact ⟨rfl, (HK0.out.then HK6.out).then hk7⟩
  · obtain ⟨X, E, hX⟩ : ∃ X E, encV 12 u = (X, E) := ⟨_, _, rfl⟩
    have hE := enc_code h3
    rw [hX] at hE
    have HX := Lib.hid hX
    clear hX
    simp only at hE
    refine (CEN.out (by decide) h1 h2 HX.out _ HK1.out).mono ?_
    rintro e w2 ⟨⟨p2, c2, rfl, hb2⟩, hk2⟩
    have HK2 := Lib.hid (HK1.out.then hk2)
    have HB2 := Lib.hid hb2
    clear hk2 hb2
    obtain ⟨a0, a1, a2, a3, a4⟩ := HA.out.kept0 HK2.out
    go_wp2_with fail
    clear a0 a1 a2 a3 a4
    refine (CRE.out (by decide) h1 h2 HX.out _ HK2.out).mono ?_
    rintro e w3 ⟨⟨p3, c3, rfl, hb3⟩, hk3⟩
    have HK3 := Lib.hid (HK2.out.then hk3)
    have HB3 := Lib.hid hb3
    have HB2 := Lib.hid (HB2.out.kept0 hk3)
    clear hk3 hb3
    go_wp2_with fail
    refine (CL.out _ HK3.out).mono ?_
    rintro e w4 ⟨rfl, hk4⟩
    have HK4 := Lib.hid (HK3.out.then hk4)
    have k1 : (convert 28 9 (.slice p2 X.length c2)).run Tryz.prog w4 = .ok (.string (strB X)) w4 := Bytes.toStr (HB2.out.kept0 hk4)
    have k2 : (convert 28 9 (.slice p3 X.length c3)).run Tryz.prog w4 = .ok (.string (strB X)) w4 := Bytes.toStr (HB3.out.kept0 hk4)
    have HB4 := Lib.hid (HB2.out.kept0 hk4)
    clear hk4
    obtain ⟨a0, a1, a2, a3, a4⟩ := HA.out.kept0 HK4.out
    revert k1 k2
    generalize strB X = sX
    intro k1 k2
    go_wp2_with fail
    clear a0 a1 a2 a3 a4 k1 k2
    have CC : Hid (∀ w5, Kept [] W0 w5 → Calls Tryz.prog 15 #[.agg #[.int .i64 kd, .int .i64 nm, .string st, .slice a la ea, .slice b lb eb]] w5 fun e w' => e = .returned (.int .i64 0) ∧ Kept [] w5 w') := Lib.hid (fun w5 k => by
      have h9 := refCheck_any (h1.kept0 (HK0.out.then k)) h2 (by decide)
      rw [h3] at h9
      exact h9)
    have CZ := Lib.hid (fun w5 (k : Kept [] W0 w5) => size_any (h1.kept0 (HK0.out.then k)) h2 (by decide) (HT.out.kept0 k))
    have hz : E = 0 → sizeV 12 u = X.length := fun e => by
      have := HX.out
      rw [e] at this
      rw [(encV_ok.1 this).2.2]
      exact if_pos h3
    have HX12 : Hid (E = 0 → decV X = .inr (sortV 12 u)) := Lib.hid (fun e => (dec_enc (by rw [HX.out, e])).1)
    have CS := Lib.hid (fun w5 (k : Kept [] W0 w5) => refSort_any 12 u (h1.kept0 (HK0.out.then k)) h2 (check_right h3))
    have HSM := Lib.hid (small_sort h2)
    clear h1 h2 h3
    refine (CC.out _ HK4.out).mono ?_
    rintro e w5 ⟨rfl, hk5⟩
    have HK5 := Lib.hid (HK4.out.then hk5)
    have HB5 := Lib.hid (HB4.out.kept0 hk5)
    clear hk5
    obtain ⟨a0, a1, a2, a3, a4⟩ := HA.out.kept0 HK5.out
    rcases hE with rfl | rfl
    rotate_left
    · clear hz
      go_wp2_with fail
      clear a0 a1 a2 a3 a4
      refine (CC.out _ HK5.out).mono ?_
      rintro e w6 ⟨rfl, hk6⟩
      go_wp2_with fail
      go_ret
      exact ⟨rfl, (HK0.out.then HK5.out).then hk6⟩
    have HDE := Lib.hid (HX12.out rfl)
    rw [hz rfl] at CZ
    clear hz
    go_wp2_with fail
    clear a0 a1 a2 a3 a4
    refine (CZ.out _ HK5.out).mono ?_
    rintro e w6 ⟨rfl, hk6⟩
    have HK6 := Lib.hid (HK5.out.then hk6)
    have HB6 := Lib.hid (HB5.out.kept0 hk6)
    clear hk6
    obtain ⟨a0, a1, a2, a3, a4⟩ := HA.out.kept0 HK6.out
    go_wp2_with fail
    clear a0 a1 a2 a3 a4
    refine (CC.out _ HK6.out).mono ?_
    rintro e w7 ⟨rfl, hk7⟩
    have HK7 := Lib.hid (HK6.out.then hk7)
    have HB7 := Lib.hid (HB6.out.kept0 hk7)
    clear hk7
    go_wp2_with fail
    refine (decode_any HB7.out (HT.out.kept0 HK7.out)).mono ?_
    rintro e w8 ⟨ha8, hk8⟩
    unfold DecAns at ha8
    rw [HDE.out] at ha8
    obtain ⟨cs8, -, rfl, ho8⟩ := ha8
    obtain ⟨k3, m3, s3, p3', i3, c3', q3, j3, d3, rfl⟩ := ho8.said
    have HK8 := Lib.hid (HK7.out.then hk8)
    clear hk8
    obtain ⟨W9, HW9⟩ : ∃ W9, Hid (W9 = w8.alloc (.cells #[.int .i64 k3, .int .i64 m3, .string s3, .slice p3' i3 c3', .slice q3 j3 d3] 25)) := ⟨_, Lib.hid rfl⟩
    have HK9 : Hid (Kept [] w8 W9) := Lib.hid (by rw [HW9.out]; exact (Kept.refl [] w8).alloc _)
    have HBX : Hid (BoxAt W9 w8.heap.size k3 m3 s3 (.slice p3' i3 c3') (.slice q3 j3 d3)) := Lib.hid (by rw [HW9.out]; exact box_at _ _ _ _ _ _ _)
    have HO9 := Lib.hid (ho8.rep.kept0 HK9.out)
    clear ho8
    have hA9 := HA.out.kept0 (HK8.out.then HK9.out)
    have hB9 := HBX.out
    rw [HW9.out] at hA9 hB9
    obtain ⟨a0, a1, a2, a3, a4⟩ := hA9
    obtain ⟨b0, b1, b2, b3, b4⟩ := hB9
    go_wp2_with fail
    rw [← HW9.out] at a0 a1 a2 a3 a4 b0 b1 b2 b3 b4 ⊢
    have HK89 := Lib.hid (HK8.out.then HK9.out)
    refine wp_region_last' (n := 9) (fun w' : World => Kept [] W9 w') 9 (by kernel_rfl) (by kernel_rfl) ?_
    change wpAnyT _ _ _ _ _ _ _ _ _ W9.drew
    have hSS : (fun w' : World => Kept [] W9 w') W9.drew := (Kept.refl [] W9).drew
    revert hSS
    generalize W9.drew = W1
    intro hSS
    refine wpAnyT_start ?_
    intro O R hO hR
    have hQp : ∀ c a (d : Nat) v w, R (.panic c) (a.put (some d) v) w → R (.panic c) a w := by subst hR; exact fun _ _ _ _ _ h => h
    refine wpAnyT_take' (i := 0) (v := ?_) hO rfl rfl (by kernel_rfl) (by kernel_rfl) (by kernel_rfl) (by kernel_rfl) hQp (Or.inl ⟨by kernel_rfl, fun w hSw => ?_⟩) hSS ?_
    rotate_left
    · go_simp; try with_reducible rfl
    try simp only [Act.put, List.setIfInBounds_toArray, List.set_cons_zero, List.set_cons_succ]
    refine wpAnyT_take' (i := 1) (v := ?_) hO rfl rfl (by kernel_rfl) (by kernel_rfl) (by kernel_rfl) (by kernel_rfl) hQp (Or.inl ⟨by kernel_rfl, fun w hSw => ?_⟩) hSS ?_
    rotate_left
    · go_simp; try with_reducible rfl
    try simp only [Act.put, List.setIfInBounds_toArray, List.set_cons_zero, List.set_cons_succ]
    refine wpAnyT_take' (i := 2) (v := ?_) hO rfl rfl (by kernel_rfl) (by kernel_rfl) (by kernel_rfl) (by kernel_rfl) hQp (Or.inl ⟨by kernel_rfl, fun w hSw => ?_⟩) hSS ?_
    rotate_left
    · go_simp; try with_reducible rfl
    try simp only [Act.put, List.setIfInBounds_toArray, List.set_cons_zero, List.set_cons_succ]
    refine wpAnyT_take' (i := 3) (v := ?_) hO rfl rfl (by kernel_rfl) (by kernel_rfl) (by kernel_rfl) (by kernel_rfl) hQp (Or.inl ⟨by kernel_rfl, fun w hSw => ?_⟩) hSS ?_
    rotate_left
    · have s0 := hSw.cell b0 (by simp); have s1 := hSw.cell b1 (by simp); have s2 := hSw.cell b2 (by simp); have s3 := hSw.cell b3 (by simp); have s4 := hSw.cell b4 (by simp); go_simp; try with_reducible rfl
    try simp only [Act.put, List.setIfInBounds_toArray, List.set_cons_zero, List.set_cons_succ]
    refine wpAnyT_take' (i := 4) (v := ?_) hO rfl rfl (by kernel_rfl) (by kernel_rfl) (by kernel_rfl) (by kernel_rfl) hQp (Or.inl ⟨by kernel_rfl, fun w hSw => ?_⟩) hSS ?_
    rotate_left
    · have s0 := hSw.cell a0 (by simp); have s1 := hSw.cell a1 (by simp); have s2 := hSw.cell a2 (by simp); have s3 := hSw.cell a3 (by simp); have s4 := hSw.cell a4 (by simp); go_simp; try with_reducible rfl
    try simp only [Act.put, List.setIfInBounds_toArray, List.set_cons_zero, List.set_cons_succ]
    refine wpAnyT_one' (i := 5) hO rfl (by kernel_rfl) (by kernel_rfl) (fun K hK => ?_)
    go_simp
    refine Calls.mono (CS.out _ (HK89.out.then hSS)) ?_
    rintro e w10 ⟨⟨cs4, rfl, ho4⟩, hk4⟩
    obtain ⟨k4, m4, s4, p4, i4, c4, q4, j4, d4, rfl⟩ := ho4.said
    have CE := Lib.hid (exact_any 12 (sortV 12 u) (sortV 12 u) ((HO9.out.kept0 hSS).kept0 hk4) ho4.rep HSM.out)
    rw [(eqV_iff 12 _ _).2 rfl] at CE
    have hS1 : (fun w' : World => Kept [] W9 w') w10 := hSS.then hk4
    refine hK _ _ (.inr hS1) ?_
    clear hK K
    try simp only [Act.put, List.setIfInBounds_toArray, List.set_cons_zero, List.set_cons_succ]
    clear hSS hk4 ho4
    have hSS := hS1
    clear hS1
    refine wpAnyT_one' (i := 6) hO rfl (by kernel_rfl) (by kernel_rfl) (fun K hK => ?_)
    go_simp
    refine Calls.mono CE.out ?_
    rintro e w11 ⟨rfl, hk5⟩
    have hS1 : (fun w' : World => Kept [] W9 w') w11 := hSS.then hk5
    refine hK _ _ (.inr hS1) ?_
    clear hK K
    try simp only [Act.put, List.setIfInBounds_toArray, List.set_cons_zero, List.set_cons_succ]
    clear hSS hk5
    have hSS := hS1
    refine wpAnyT_take' (i := 7) (v := ?_) hO rfl rfl (by kernel_rfl) (by kernel_rfl) (by kernel_rfl) (by kernel_rfl) hQp (Or.inl ⟨by kernel_rfl, fun w hSw => ?_⟩) hSS ?_
    rotate_left
    · go_simp; try with_reducible rfl
    try simp only [Act.put, List.setIfInBounds_toArray, List.set_cons_zero, List.set_cons_succ]
    refine wpAnyT_take' (i := 8) (v := ?_) hO rfl rfl (by kernel_rfl) (by kernel_rfl) (by kernel_rfl) (by kernel_rfl) hQp (Or.inl ⟨by kernel_rfl, fun w hSw => ?_⟩) hSS ?_
    rotate_left
    · go_simp; try with_reducible rfl
    try simp only [Act.put, List.setIfInBounds_toArray, List.set_cons_zero, List.set_cons_succ]
    refine wpAnyT_done' hO (by kernel_rfl) ?_ _
    subst hR
    try clear hQp hO O
    clear a0 a1 a2 a3 a4 b0 b1 b2 b3 b4
    go_wp2_with fail
    go_ret
    exact ⟨rfl, (HK0.out.then HK89.out).then hS1⟩
end
end Go.Proofs.YtpbphdkjjoipnaaGreatDoor
namespace Go.Proofs.YtpbphdkjjoipnaaGreatDoor
open Go.RowKit
theorem same_sorted {v : V 12} (h : checkV 12 v = 0) : sameV 12 v (sortV 12 v) = true := by
  rw [same_c h ((check_sort v).trans h), sort_sort]
  exact (eqV_iff 12 _ _).2 rfl
section
variable {w : World} {a : Option Addr} {c : Nat} {l : List UInt8}
set_option maxRecDepth 100000 in
set_option maxHeartbeats 12800000 in
theorem once_any (hb : Bytes w (.slice a l.length c) l) (ht : Tabs w) :
    Calls Tryz.prog 7 #[.slice a l.length c] w fun e w' => e = .returned (.bool true) ∧ Kept [] w w' := by
  have HT := Lib.hid ht
  have CL : Hid (∀ w1, Kept [] w w1 → Calls Tryz.prog 12 #[] w1 fun e w' => e = .returned (.bool true) ∧ Kept [] w1 w') := Lib.hid (fun w1 k => lives_any (HT.out.kept0 k))
  have CP := Lib.hid (parse_any hb ht)
  clear hb ht
  by_cases hl : 5000 < l.length
  · have hlI : (5000 : Int) < l.length := by omega
    clear CP hl
    go_enter Tryz.func7, Tryz.ntmps7
    go_wp2_with fail
    refine (CL.out _ (Kept.refl _ _)).mono ?_
    rintro e w1 ⟨rfl, hk1⟩
    go_wp2_with fail
    go_ret
    exact ⟨rfl, hk1⟩
  have hlI : (l.length : Int) ≤ 5000 := by omega
  have HL : Hid (l.length ≤ 5000) := Lib.hid (by omega)
  clear hl
  go_enter Tryz.func7, Tryz.ntmps7
  go_wp2_with fail
  refine CP.out.mono ?_
  rintro e w1 ⟨ha1, hk1⟩
  have HK1 := Lib.hid hk1
  clear hk1 hlI
  unfold ParseAns at ha1
  cases hp : parseL l with
  | inl x =>
    rw [hp] at ha1
    obtain ⟨hx, n, hn, rfl⟩ := ha1
    unfold zeroA
    obtain ⟨g1, g2⟩ := int_ne (a := x) (b := 0) (by omega)
    have HKA : Hid (Kept [] w (w1.alloc (.cells #[.int .i64 0, .int .i64 0, .string ⟨#[]⟩, .slice none 0 0, .slice none 0 0] 25))) := Lib.hid (HK1.out.alloc _)
    clear hp hx hn
    go_wp2_with fail
    refine (CL.out _ HKA.out).mono ?_
    rintro e w2 ⟨rfl, hk2⟩
    go_wp2_with fail
    refine (CL.out _ (HKA.out.then hk2)).mono ?_
    rintro e w3 ⟨rfl, hk3⟩
    go_wp2_with fail
    go_ret
    exact ⟨rfl, (HKA.out.then hk2).then hk3⟩
  | inr v =>
    rw [hp] at ha1
    obtain ⟨cs, ⟨k5, m5, s5, p5, i5, c5, q5, j5, d5, rfl⟩, rfl, ho⟩ := ha1
    obtain ⟨W2, HW2⟩ : ∃ W2, Hid (W2 = w1.alloc (.cells #[.int .i64 k5, .int .i64 m5, .string s5, .slice p5 i5 c5, .slice q5 j5 d5] 25)) := ⟨_, Lib.hid rfl⟩
    have HK12 : Hid (Kept [] w1 W2) := Lib.hid (by rw [HW2.out]; exact (Kept.refl [] w1).alloc _)
    have HK2 := Lib.hid (HK1.out.then HK12.out)
    have HBX : Hid (BoxAt W2 w1.heap.size k5 m5 s5 (.slice p5 i5 c5) (.slice q5 j5 d5)) := Lib.hid (by rw [HW2.out]; exact box_at _ _ _ _ _ _ _)
    have HO := Lib.hid (ho.rep.kept0 HK12.out)
    have HSM := Lib.hid (parse_small hp)
    have HC := Lib.hid (parse_check hp)
    obtain ⟨X, hX⟩ : ∃ X, X = writeV 12 (sortV 12 v) := ⟨_, rfl⟩
    have hen := enc_once HL.out hp
    rw [← hX] at hen
    have HE := Lib.hid hen
    have HX := Lib.hid hX
    have HPX := Lib.hid (dec_enc hen).2.1
    have HE2 := Lib.hid (dec_enc hen).2.2
    clear hp ho hX hen
    have CEN : Hid (∀ w', Kept [] W2 w' → Calls Tryz.prog 13 #[.agg #[.int .i64 k5, .int .i64 m5, .string s5, .slice p5 i5 c5, .slice q5 j5 d5]] w' fun e w'' => (∃ p c, e = .returned (.tuple #[.slice p X.length c, .int .i64 0]) ∧ Bytes w'' (.slice p X.length c) X) ∧ Kept [] w' w'') := Lib.hid fun w' k => by
      have h9 := encode_any (HO.out.kept0 k) HSM.out (by decide) (HT.out.kept0 (HK2.out.then k))
      rw [HE.out] at h9
      exact h9
    go_wp2_with fail
    rw [← HW2.out]
    refine (CL.out _ HK2.out).mono ?_
    rintro e w3 ⟨rfl, hk3⟩
    have HK3 := Lib.hid hk3
    clear hk3
    obtain ⟨a0, a1, a2, a3, a4⟩ := HBX.out.kept0 HK3.out
    go_wp2_with fail
    clear a0 a1 a2 a3 a4
    refine (CEN.out _ HK3.out).mono ?_
    rintro e w4 ⟨⟨p6, c6, rfl, hb6⟩, hk4⟩
    have HK4 := Lib.hid (HK3.out.then hk4)
    have HB6 := Lib.hid hb6
    clear hk4 hb6
    go_wp2_with fail
    refine (parse_any HB6.out (HT.out.kept0 (HK2.out.then HK4.out))).mono ?_
    rintro e w5 ⟨ha5, hk5⟩
    unfold ParseAns at ha5
    rw [HPX.out] at ha5
    obtain ⟨cs6, ⟨k6, m6, s6, p7, i6, c7, q6, j6, d6, rfl⟩, rfl, ho6⟩ := ha5
    have HK5 := Lib.hid (HK4.out.then hk5)
    have HB6' := Lib.hid (HB6.out.kept0 hk5)
    clear hk5
    obtain ⟨W6, HW6⟩ : ∃ W6, Hid (W6 = w5.alloc (.cells #[.int .i64 k6, .int .i64 m6, .string s6, .slice p7 i6 c7, .slice q6 j6 d6] 25)) := ⟨_, Lib.hid rfl⟩
    have HK56 : Hid (Kept [] w5 W6) := Lib.hid (by rw [HW6.out]; exact (Kept.refl [] w5).alloc _)
    have HK6 := Lib.hid (HK5.out.then HK56.out)
    have HBY : Hid (BoxAt W6 w5.heap.size k6 m6 s6 (.slice p7 i6 c7) (.slice q6 j6 d6)) := Lib.hid (by rw [HW6.out]; exact box_at _ _ _ _ _ _ _)
    have HO6 := Lib.hid (ho6.rep.kept0 HK56.out)
    have HB7 := Lib.hid (HB6'.out.kept0 HK56.out)
    have HSS := Lib.hid (small_sort HSM.out)
    have CE2 : Hid (∀ w', Kept [] W6 w' → Calls Tryz.prog 13 #[.agg #[.int .i64 k6, .int .i64 m6, .string s6, .slice p7 i6 c7, .slice q6 j6 d6]] w' fun e w'' => (∃ p c, e = .returned (.tuple #[.slice p X.length c, .int .i64 0]) ∧ Bytes w'' (.slice p X.length c) X) ∧ Kept [] w' w'') := Lib.hid fun w' k => by
      have h9 := encode_any (HO6.out.kept0 k) HSS.out (by decide) (HT.out.kept0 (HK2.out.then (HK6.out.then k)))
      rw [HE2.out] at h9
      exact h9
    clear ho6
    have hB9 := HBY.out
    rw [HW6.out] at hB9
    obtain ⟨b0, b1, b2, b3, b4⟩ := hB9
    go_wp2_with fail
    rw [← HW6.out] at b0 b1 b2 b3 b4 ⊢
    refine (CE2.out _ (Kept.refl _ _)).mono ?_
    clear b0 b1 b2 b3 b4
    rintro e w7 ⟨⟨p8, c8, rfl, hb8⟩, hk7⟩
    have HK7 := Lib.hid (HK6.out.then hk7)
    have HB8 := Lib.hid hb8
    have HB9 := Lib.hid (HB7.out.kept0 hk7)
    obtain ⟨a0, a1, a2, a3, a4⟩ := HBX.out.kept0 HK7.out
    obtain ⟨b0, b1, b2, b3, b4⟩ := HBY.out.kept0 hk7
    have HO7 := Lib.hid (HO6.out.kept0 hk7)
    clear hk7 hb8
    have k1 : Hid (∀ w', Kept [] w7 w' → (convert 28 9 (.slice p6 X.length c6)).run Tryz.prog w' = .ok (.string (strB X)) w') := Lib.hid (fun w' k => Bytes.toStr (HB9.out.kept0 k))
    have k2 : Hid (∀ w', Kept [] w7 w' → (convert 28 9 (.slice p8 X.length c8)).run Tryz.prog w' = .ok (.string (strB X)) w') := Lib.hid (fun w' k => Bytes.toStr (HB8.out.kept0 k))
    have CW : Hid (∀ (w' : World) (cs' : List Value) (S' : Nat → Prop), Rep 12 S' w' cs' (sortV 12 v) → Calls Tryz.prog 25 #[.agg cs'.toArray] w' fun e w'' => e = .returned (.string (strB X)) ∧ Kept [] w' w'') := Lib.hid (fun w' cs' S' h => by
      rw [HX.out]
      exact refWrite_any 12 (sortV 12 v) h HSS.out (by rw [right_sort]; exact check_right HC.out))
    have HSA := Lib.hid (same_sorted HC.out)
    revert k1 k2 CW
    generalize strB X = sX
    intro k1 k2 CW
    go_wp2_with fail
    refine wp_region_last' (n := 37) (fun w' : World => Kept [] w7 w') 37 (by kernel_rfl) (by kernel_rfl) ?_
    change wpAnyT _ _ _ _ _ _ _ _ _ w7.drew
    have hSS : (fun w' : World => Kept [] w7 w') w7.drew := (Kept.refl [] w7).drew
    revert hSS
    generalize w7.drew = W8
    intro hSS
    refine wpAnyT_start ?_
    intro O R hO hR
    have hQp : ∀ c a (d : Nat) v w, R (.panic c) (a.put (some d) v) w → R (.panic c) a w := by subst hR; exact fun _ _ _ _ _ h => h
    refine wpAnyT_take' (i := 0) (v := ?_) hO rfl rfl (by kernel_rfl) (by kernel_rfl) (by kernel_rfl) (by kernel_rfl) hQp (Or.inl ⟨by kernel_rfl, fun w hSw => ?_⟩) hSS ?_
    rotate_left
    · go_simp; try with_reducible rfl
    try simp only [Act.put, List.setIfInBounds_toArray, List.set_cons_zero, List.set_cons_succ]
    refine wpAnyT_take' (i := 1) (v := ?_) hO rfl rfl (by kernel_rfl) (by kernel_rfl) (by kernel_rfl) (by kernel_rfl) hQp (Or.inl ⟨by kernel_rfl, fun w hSw => ?_⟩) hSS ?_
    rotate_left
    · go_simp; try with_reducible rfl
    try simp only [Act.put, List.setIfInBounds_toArray, List.set_cons_zero, List.set_cons_succ]
    refine wpAnyT_take' (i := 2) (v := ?_) hO rfl rfl (by kernel_rfl) (by kernel_rfl) (by kernel_rfl) (by kernel_rfl) hQp (Or.inl ⟨by kernel_rfl, fun w hSw => ?_⟩) hSS ?_
    rotate_left
    · go_simp; try with_reducible rfl
    try simp only [Act.put, List.setIfInBounds_toArray, List.set_cons_zero, List.set_cons_succ]
    refine wpAnyT_take' (i := 3) (v := ?_) hO rfl rfl (by kernel_rfl) (by kernel_rfl) (by kernel_rfl) (by kernel_rfl) hQp (Or.inl ⟨by kernel_rfl, fun w hSw => ?_⟩) hSS ?_
    rotate_left
    · go_simp; try with_reducible rfl
    try simp only [Act.put, List.setIfInBounds_toArray, List.set_cons_zero, List.set_cons_succ]
    refine wpAnyT_take' (i := 4) (v := ?_) hO rfl rfl (by kernel_rfl) (by kernel_rfl) (by kernel_rfl) (by kernel_rfl) hQp (Or.inl ⟨by kernel_rfl, fun w hSw => ?_⟩) hSS ?_
    rotate_left
    · go_simp; try with_reducible rfl
    try simp only [Act.put, List.setIfInBounds_toArray, List.set_cons_zero, List.set_cons_succ]
    refine wpAnyT_take' (i := 5) (v := ?_) hO rfl rfl (by kernel_rfl) (by kernel_rfl) (by kernel_rfl) (by kernel_rfl) hQp (Or.inl ⟨by kernel_rfl, fun w hSw => ?_⟩) hSS ?_
    rotate_left
    · go_simp; try with_reducible rfl
    try simp only [Act.put, List.setIfInBounds_toArray, List.set_cons_zero, List.set_cons_succ]
    refine wpAnyT_take' (i := 6) (v := ?_) hO rfl rfl (by kernel_rfl) (by kernel_rfl) (by kernel_rfl) (by kernel_rfl) hQp (Or.inl ⟨by kernel_rfl, fun w hSw => ?_⟩) hSS ?_
    rotate_left
    · go_simp; try with_reducible rfl
    try simp only [Act.put, List.setIfInBounds_toArray, List.set_cons_zero, List.set_cons_succ]
    refine wpAnyT_take' (i := 7) (v := ?_) hO rfl rfl (by kernel_rfl) (by kernel_rfl) (by kernel_rfl) (by kernel_rfl) hQp (Or.inl ⟨by kernel_rfl, fun w hSw => ?_⟩) hSS ?_
    rotate_left
    · go_simp; try with_reducible rfl
    try simp only [Act.put, List.setIfInBounds_toArray, List.set_cons_zero, List.set_cons_succ]
    refine wpAnyT_take' (i := 8) (v := ?_) hO rfl rfl (by kernel_rfl) (by kernel_rfl) (by kernel_rfl) (by kernel_rfl) hQp (Or.inl ⟨by kernel_rfl, fun w hSw => ?_⟩) hSS ?_
    rotate_left
    · go_simp; try with_reducible rfl
    try simp only [Act.put, List.setIfInBounds_toArray, List.set_cons_zero, List.set_cons_succ]
    refine wpAnyT_take' (i := 9) (v := ?_) hO rfl rfl (by kernel_rfl) (by kernel_rfl) (by kernel_rfl) (by kernel_rfl) hQp (Or.inl ⟨by kernel_rfl, fun w hSw => ?_⟩) hSS ?_
    rotate_left
    · go_simp; try with_reducible rfl
    try simp only [Act.put, List.setIfInBounds_toArray, List.set_cons_zero, List.set_cons_succ]
    refine wpAnyT_take' (i := 10) (v := ?_) hO rfl rfl (by kernel_rfl) (by kernel_rfl) (by kernel_rfl) (by kernel_rfl) hQp (Or.inl ⟨by kernel_rfl, fun w hSw => ?_⟩) hSS ?_
    rotate_left
    · go_simp; try with_reducible rfl
    try simp only [Act.put, List.setIfInBounds_toArray, List.set_cons_zero, List.set_cons_succ]
    refine wpAnyT_take' (i := 11) (v := ?_) hO rfl rfl (by kernel_rfl) (by kernel_rfl) (by kernel_rfl) (by kernel_rfl) hQp (Or.inl ⟨by kernel_rfl, fun w hSw => ?_⟩) hSS ?_
    rotate_left
    · go_simp; try with_reducible rfl
    try simp only [Act.put, List.setIfInBounds_toArray, List.set_cons_zero, List.set_cons_succ]
    refine wpAnyT_take' (i := 12) (v := ?_) hO rfl rfl (by kernel_rfl) (by kernel_rfl) (by kernel_rfl) (by kernel_rfl) hQp (Or.inl ⟨by kernel_rfl, fun w hSw => ?_⟩) hSS ?_
    rotate_left
    · go_simp; try with_reducible rfl
    try simp only [Act.put, List.setIfInBounds_toArray, List.set_cons_zero, List.set_cons_succ]
    refine wpAnyT_take' (i := 13) (v := ?_) hO rfl rfl (by kernel_rfl) (by kernel_rfl) (by kernel_rfl) (by kernel_rfl) hQp (Or.inl ⟨by kernel_rfl, fun w hSw => ?_⟩) hSS ?_
    rotate_left
    · go_simp; try with_reducible rfl
    try simp only [Act.put, List.setIfInBounds_toArray, List.set_cons_zero, List.set_cons_succ]
    refine wpAnyT_take' (i := 14) (v := ?_) hO rfl rfl (by kernel_rfl) (by kernel_rfl) (by kernel_rfl) (by kernel_rfl) hQp (Or.inl ⟨by kernel_rfl, fun w hSw => ?_⟩) hSS ?_
    rotate_left
    · go_simp; try with_reducible rfl
    try simp only [Act.put, List.setIfInBounds_toArray, List.set_cons_zero, List.set_cons_succ]
    refine wpAnyT_take' (i := 15) (v := ?_) hO rfl rfl (by kernel_rfl) (by kernel_rfl) (by kernel_rfl) (by kernel_rfl) hQp (Or.inl ⟨by kernel_rfl, fun w hSw => ?_⟩) hSS ?_
    rotate_left
    · go_simp; try with_reducible rfl
    try simp only [Act.put, List.setIfInBounds_toArray, List.set_cons_zero, List.set_cons_succ]
    refine wpAnyT_take' (i := 16) (v := ?_) hO rfl rfl (by kernel_rfl) (by kernel_rfl) (by kernel_rfl) (by kernel_rfl) hQp (Or.inl ⟨by kernel_rfl, fun w hSw => ?_⟩) hSS ?_
    rotate_left
    · go_simp; try with_reducible rfl
    try simp only [Act.put, List.setIfInBounds_toArray, List.set_cons_zero, List.set_cons_succ]
    refine wpAnyT_take' (i := 17) (v := ?_) hO rfl rfl (by kernel_rfl) (by kernel_rfl) (by kernel_rfl) (by kernel_rfl) hQp (Or.inl ⟨by kernel_rfl, fun w hSw => ?_⟩) hSS ?_
    rotate_left
    · go_simp; try with_reducible rfl
    try simp only [Act.put, List.setIfInBounds_toArray, List.set_cons_zero, List.set_cons_succ]
    refine wpAnyT_take' (i := 18) (v := ?_) hO rfl rfl (by kernel_rfl) (by kernel_rfl) (by kernel_rfl) (by kernel_rfl) hQp (Or.inl ⟨by kernel_rfl, fun w hSw => ?_⟩) hSS ?_
    rotate_left
    · have s := k1.out _ hSw; go_simp; try with_reducible rfl
    try simp only [Act.put, List.setIfInBounds_toArray, List.set_cons_zero, List.set_cons_succ]
    refine wpAnyT_take' (i := 19) (v := ?_) hO rfl rfl (by kernel_rfl) (by kernel_rfl) (by kernel_rfl) (by kernel_rfl) hQp (Or.inl ⟨by kernel_rfl, fun w hSw => ?_⟩) hSS ?_
    rotate_left
    · go_simp; try with_reducible rfl
    try simp only [Act.put, List.setIfInBounds_toArray, List.set_cons_zero, List.set_cons_succ]
    refine wpAnyT_take' (i := 20) (v := ?_) hO rfl rfl (by kernel_rfl) (by kernel_rfl) (by kernel_rfl) (by kernel_rfl) hQp (Or.inl ⟨by kernel_rfl, fun w hSw => ?_⟩) hSS ?_
    rotate_left
    · have s := k2.out _ hSw; go_simp; try with_reducible rfl
    try simp only [Act.put, List.setIfInBounds_toArray, List.set_cons_zero, List.set_cons_succ]
    refine wpAnyT_take' (i := 21) (v := ?_) hO rfl rfl (by kernel_rfl) (by kernel_rfl) (by kernel_rfl) (by kernel_rfl) hQp (Or.inl ⟨by kernel_rfl, fun w hSw => ?_⟩) hSS ?_
    rotate_left
    · go_simp; try with_reducible rfl
    try simp only [Act.put, List.setIfInBounds_toArray, List.set_cons_zero, List.set_cons_succ]
    refine wpAnyT_take' (i := 22) (v := ?_) hO rfl rfl (by kernel_rfl) (by kernel_rfl) (by kernel_rfl) (by kernel_rfl) hQp (Or.inl ⟨by kernel_rfl, fun w hSw => ?_⟩) hSS ?_
    rotate_left
    · go_simp; try with_reducible rfl
    try simp only [Act.put, List.setIfInBounds_toArray, List.set_cons_zero, List.set_cons_succ]
    refine wpAnyT_take' (i := 23) (v := ?_) hO rfl rfl (by kernel_rfl) (by kernel_rfl) (by kernel_rfl) (by kernel_rfl) hQp (Or.inl ⟨by kernel_rfl, fun w hSw => ?_⟩) hSS ?_
    rotate_left
    · go_simp; try with_reducible rfl
    try simp only [Act.put, List.setIfInBounds_toArray, List.set_cons_zero, List.set_cons_succ]
    refine wpAnyT_take' (i := 24) (v := ?_) hO rfl rfl (by kernel_rfl) (by kernel_rfl) (by kernel_rfl) (by kernel_rfl) hQp (Or.inl ⟨by kernel_rfl, fun w hSw => ?_⟩) hSS ?_
    rotate_left
    · have s0 := hSw.cell a0 (by simp); have s1 := hSw.cell a1 (by simp); have s2 := hSw.cell a2 (by simp); have s3 := hSw.cell a3 (by simp); have s4 := hSw.cell a4 (by simp); go_simp; try with_reducible rfl
    try simp only [Act.put, List.setIfInBounds_toArray, List.set_cons_zero, List.set_cons_succ]
    refine wpAnyT_take' (i := 25) (v := ?_) hO rfl rfl (by kernel_rfl) (by kernel_rfl) (by kernel_rfl) (by kernel_rfl) hQp (Or.inl ⟨by kernel_rfl, fun w hSw => ?_⟩) hSS ?_
    rotate_left
    · have s0 := hSw.cell b0 (by simp); have s1 := hSw.cell b1 (by simp); have s2 := hSw.cell b2 (by simp); have s3 := hSw.cell b3 (by simp); have s4 := hSw.cell b4 (by simp); go_simp; try with_reducible rfl
    try simp only [Act.put, List.setIfInBounds_toArray, List.set_cons_zero, List.set_cons_succ]
    have CS := Lib.hid (refSame_any (HO.out.kept0 (HK7.out.then hSS)) (HO7.out.kept0 hSS) HSM.out HSS.out (by decide))
    rw [HSA.out] at CS
    refine wpAnyT_one' (i := 26) hO rfl (by kernel_rfl) (by kernel_rfl) (fun K hK => ?_)
    go_simp
    refine Calls.mono CS.out ?_
    rintro e w10 ⟨rfl, hk10⟩
    have hS1 : (fun w' : World => Kept [] w7 w') w10 := hSS.then hk10
    refine hK _ _ (.inr hS1) ?_
    clear hK K
    try simp only [Act.put, List.setIfInBounds_toArray, List.set_cons_zero, List.set_cons_succ]
    clear hSS hk10 CS
    have hSS := hS1
    clear hS1
    refine wpAnyT_take' (i := 27) (v := ?_) hO rfl rfl (by kernel_rfl) (by kernel_rfl) (by kernel_rfl) (by kernel_rfl) hQp (Or.inl ⟨by kernel_rfl, fun w hSw => ?_⟩) hSS ?_
    rotate_left
    · go_simp; try with_reducible rfl
    try simp only [Act.put, List.setIfInBounds_toArray, List.set_cons_zero, List.set_cons_succ]
    refine wpAnyT_take' (i := 28) (v := ?_) hO rfl rfl (by kernel_rfl) (by kernel_rfl) (by kernel_rfl) (by kernel_rfl) hQp (Or.inl ⟨by kernel_rfl, fun w hSw => ?_⟩) hSS ?_
    rotate_left
    · go_simp; try with_reducible rfl
    try simp only [Act.put, List.setIfInBounds_toArray, List.set_cons_zero, List.set_cons_succ]
    refine wpAnyT_take' (i := 29) (v := ?_) hO rfl rfl (by kernel_rfl) (by kernel_rfl) (by kernel_rfl) (by kernel_rfl) hQp (Or.inl ⟨by kernel_rfl, fun w hSw => ?_⟩) hSS ?_
    rotate_left
    · go_simp; try with_reducible rfl
    try simp only [Act.put, List.setIfInBounds_toArray, List.set_cons_zero, List.set_cons_succ]
    refine wpAnyT_take' (i := 30) (v := ?_) hO rfl rfl (by kernel_rfl) (by kernel_rfl) (by kernel_rfl) (by kernel_rfl) hQp (Or.inl ⟨by kernel_rfl, fun w hSw => ?_⟩) hSS ?_
    rotate_left
    · have s := k1.out _ hSw; go_simp; try with_reducible rfl
    try simp only [Act.put, List.setIfInBounds_toArray, List.set_cons_zero, List.set_cons_succ]
    refine wpAnyT_take' (i := 31) (v := ?_) hO rfl rfl (by kernel_rfl) (by kernel_rfl) (by kernel_rfl) (by kernel_rfl) hQp (Or.inl ⟨by kernel_rfl, fun w hSw => ?_⟩) hSS ?_
    rotate_left
    · have s0 := hSw.cell a0 (by simp); have s1 := hSw.cell a1 (by simp); have s2 := hSw.cell a2 (by simp); have s3 := hSw.cell a3 (by simp); have s4 := hSw.cell a4 (by simp); go_simp; try with_reducible rfl
    try simp only [Act.put, List.setIfInBounds_toArray, List.set_cons_zero, List.set_cons_succ]
    refine wpAnyT_one' (i := 32) hO rfl (by kernel_rfl) (by kernel_rfl) (fun K hK => ?_)
    go_simp
    refine Calls.mono (refSort_any 12 v (HO.out.kept0 (HK7.out.then hSS)) HSM.out (check_right HC.out)) ?_
    rintro e w11 ⟨⟨cs4, rfl, ho4⟩, hk11⟩
    obtain ⟨k4, m4, s4, p4, i4, c4, q4, j4, d4, rfl⟩ := ho4.said
    have CW2 := Lib.hid (CW.out _ _ _ ho4.rep)
    have hS1 : (fun w' : World => Kept [] w7 w') w11 := hSS.then hk11
    refine hK _ _ (.inr hS1) ?_
    clear hK K
    try simp only [Act.put, List.setIfInBounds_toArray, List.set_cons_zero, List.set_cons_succ]
    clear hSS hk11 ho4
    have hSS := hS1
    clear hS1
    refine wpAnyT_one' (i := 33) hO rfl (by kernel_rfl) (by kernel_rfl) (fun K hK => ?_)
    go_simp
    refine Calls.mono CW2.out ?_
    rintro e w12 ⟨rfl, hk12⟩
    have hS1 : (fun w' : World => Kept [] w7 w') w12 := hSS.then hk12
    refine hK _ _ (.inr hS1) ?_
    clear hK K
    try simp only [Act.put, List.setIfInBounds_toArray, List.set_cons_zero, List.set_cons_succ]
    clear hSS hk12
    have hSS := hS1
    refine wpAnyT_take' (i := 34) (v := ?_) hO rfl rfl (by kernel_rfl) (by kernel_rfl) (by kernel_rfl) (by kernel_rfl) hQp (Or.inl ⟨by kernel_rfl, fun w hSw => ?_⟩) hSS ?_
    rotate_left
    · go_simp; try with_reducible rfl
    try simp only [Act.put, List.setIfInBounds_toArray, List.set_cons_zero, List.set_cons_succ]
    refine wpAnyT_take' (i := 35) (v := ?_) hO rfl rfl (by kernel_rfl) (by kernel_rfl) (by kernel_rfl) (by kernel_rfl) hQp (Or.inl ⟨by kernel_rfl, fun w hSw => ?_⟩) hSS ?_
    rotate_left
    · go_simp; try with_reducible rfl
    try simp only [Act.put, List.setIfInBounds_toArray, List.set_cons_zero, List.set_cons_succ]
    refine wpAnyT_take' (i := 36) (v := ?_) hO rfl rfl (by kernel_rfl) (by kernel_rfl) (by kernel_rfl) (by kernel_rfl) hQp (Or.inl ⟨by kernel_rfl, fun w hSw => ?_⟩) hSS ?_
    rotate_left
    · go_simp; try with_reducible rfl
    try simp only [Act.put, List.setIfInBounds_toArray, List.set_cons_zero, List.set_cons_succ]
    refine wpAnyT_done' hO (by kernel_rfl) ?_ _
    subst hR
    try clear hQp hO O
    clear a0 a1 a2 a3 a4 b0 b1 b2 b3 b4
    go_wp2_with fail
    go_ret
    exact ⟨rfl, (HK2.out.then HK7.out).then hS1⟩
theorem once_walk (hb : Bytes w (.slice a l.length c) l) (_ : l.length ≤ BB) (ht : Tabs w) :
    Calls Tryz.prog 7 #[.slice a l.length c] w fun e w' => e = .returned (.bool true) ∧ Kept [] w w' := once_any hb ht
end
end Go.Proofs.YtpbphdkjjoipnaaGreatDoor

/- BlockLoads, where a disk is loaded. -/
import Derived.Test.YtfkdoinlbdcaaaaLoads
namespace Go.Proofs.Ytfkdoinlbdcaaaa
open Go.RowKit

set_option maxRecDepth 10000 in
set_option maxHeartbeats 3200000 in
theorem loads_some {w : World} {v : Value} {l : List UInt8} {d : PDisk} (hv : Bytes w v l) (hl : l.length ≤ maxLen) (hP : loadP l = some d) : Calls Try.prog 7 #[v] w fun e w' => e = .returned (.bool true) ∧ Kept [] w w' := by
  obtain ⟨a, c, rfl, -, -⟩ := hv.form
  have hlI : (l.length : Int) ≤ 9223372036854775807 := by simp only [maxLen] at hl; omega
  have hb : Hid (∀ (j : Nat) (hj : j < l.length), _) := Lib.hid fun j hj => byte_at hv (Kept.refl [] w) j hj
  have HV := Lib.hid hv
  have HP := Lib.hid hP
  clear hP
  have k0 : Kept [] w (w.alloc (.cells #[] 5)) := (Kept.refl [] w).alloc _
  have hown0 : Hid ((w.alloc (.cells #[] 5)).ownsRow w.heap.size 5 1 (.slice (some ⟨w.heap.size, 0, none⟩) 0 0) 0 []) := Lib.hid (World.ownsRow_made (base := w.heap.size) (size := 1) (e := 5) w #[] 0 (Nat.le_refl _) (by decide) rfl)
  have HS1 : Hid (Slc (w.alloc (.cells #[] 5)) 1 (.slice a l.length c) l.length (l.map bv)) := Lib.hid (hv.kept0 k0)
  have HK0 := Lib.hid k0
  clear hv hl k0
  by_cases h5 : 5000 < l.length
  · have h5I : (5000 : Int) < l.length := by omega
    go_enter Try.func7, Try.ntmps7
    go_wp2_with (go_at_call 10; refine Calls.mono (lives_any _) ?_; rintro e w1 ⟨rfl, hk1⟩)
    go_ret
    exact ⟨rfl, hk1⟩
  · have h5I : ¬(5000 : Int) < l.length := by omega
    by_cases h4 : 4 < l.length
    · have h4I : (4 : Int) < l.length := by omega
      obtain ⟨g, o, rfl, q0⟩ := hb.out 0 (by omega)
      obtain ⟨g1, o1, e1, q1⟩ := hb.out 1 (by omega)
      obtain ⟨g2, o2, e2, q2⟩ := hb.out 2 (by omega)
      cases e1
      cases e2
      rw [Nat.add_zero] at q0
      clear hb
      revert q0 q1 q2
      generalize l[0].toNat = x0
      generalize l[1].toNat = x1
      generalize l[2].toNat = x2
      intro q0 q1 q2
      by_cases hx0 : 0 < x0
      · have hx0I : (0 : Int) < x0 := by omega
        go_enter Try.func7, Try.ntmps7
        go_wp2_with (go_at_call 10; refine Calls.mono (lives_any _) ?_; rintro e w1 ⟨rfl, hk1⟩)
        go_ret
        exact ⟨rfl, hk1⟩
      · have hx0I : ¬(0 : Int) < x0 := by omega
        by_cases hx1 : 0 < x1
        · have hx1I : (0 : Int) < x1 := by omega
          go_enter Try.func7, Try.ntmps7
          go_wp2_with (go_at_call 10; refine Calls.mono (lives_any _) ?_; rintro e w1 ⟨rfl, hk1⟩)
          go_ret
          exact ⟨rfl, hk1⟩
        · have hx1I : ¬(0 : Int) < x1 := by omega
          by_cases hx2 : 3 < x2
          · have hx2I : (3 : Int) < x2 := by omega
            go_enter Try.func7, Try.ntmps7
            go_wp2_with (go_at_call 10; refine Calls.mono (lives_any _) ?_; rintro e w1 ⟨rfl, hk1⟩)
            go_ret
            exact ⟨rfl, hk1⟩
          · have hx2I : ¬(3 : Int) < x2 := by omega
            go_enter Try.func7, Try.ntmps7
            go_wp2_with (first
              | (at_builtin; refine wpList_append_slc tyBytes hown0.out HS1.out (bvs_one _) (by simp only [maxLen]; omega) (by omega) (by simp) (by rfl) (.tmp 35) (.tmp 36) (by rfl) (by rfl) (by rfl) ?_; intro v1 w1 hown1 hk1 _ hg1; have k1 : Kept [] w w1 := HK0.out.trans hk1 (fun i hi => .inr (by simp [Value.ownBlock] at hi; omega)); have hN : NewBytes w w1 v1 l := newBytes_of_row (by simpa using hown1); obtain ⟨ao, co, rfl, -, -⟩ := hN.1.form; have HN := Lib.hid hN; have HK1 := Lib.hid k1; clear hown1 hk1 hg1 k1 hN)
              | (go_at_call 25; refine Calls.mono (load_any HN.out.1 (by omega)) ?_; rw [HP.out]; rintro e w2 ⟨hk2, b2, F2, rfl, hd2, hF2⟩; have HK2 := Lib.hid hk2; have HD2 := Lib.hid hd2; clear hk2 hd2 hF2)
              | (go_at_call 26; refine Calls.mono (refLoad_any (HV.out.kept0 (HK1.out.then HK2.out)) (by omega)) ?_; rw [← load_same _ _ _ _ (rintV_bad _)]; change ∀ e w', RefLoadPost _ (loadP l) e w' → _; rw [HP.out]; rintro e w3 ⟨hk3, b3, G3, rfl, ⟨sb3, nb3, lb3, sc3, nc3, lc3, sv3, nv3, lv3, rfl, hr3⟩, hG3⟩; have HK3 := Lib.hid hk3; have HD3 := Lib.hid (HD2.out.kept0 hk3); have HR3 := Lib.hid hr3; clear hk3 hr3 hG3)
              | (go_at_call 10; refine Calls.mono (lives_any _) ?_; rintro e w4 ⟨rfl, hk4⟩; have HD4 := Lib.hid (HD3.out.kept0 hk4); have HR4 := Lib.hid (HR3.out.kept hk4 (by simp) (by simp) (by simp) (by simp) (by simp)); have hk24 := HK2.out.then (HK3.out.then hk4); have cown : (convert 30 9 (.slice ao l.length co)).run Try.prog w4 = .ok (.string (str l)) w4 := Bytes.toStr (HN.out.1.kept0 hk24); have carg : (convert 30 9 (.slice (some ⟨g, o, none⟩) l.length c)).run Try.prog w4 = .ok (.string (str l)) w4 := Bytes.toStr (HV.out.kept0 (HK1.out.then hk24)); have HK4 := Lib.hid (HK1.out.then hk24); clear hk4 hk24))
            have hSS : (fun w' : World => (convert 30 9 (.slice (some ⟨g, o, none⟩) l.length c)).run Try.prog w' = .ok (.string (str l)) w' ∧ w'.cell? ⟨b3, 0, none⟩ = some (.slice (some ⟨sb3, 0, none⟩) d.sure.length sc3)) w4.drew := ⟨Bytes.toStr (HV.out.kept0 HK4.out.drew), HR4.out.c0⟩
            refine wp_region_last' (n := 43) (fun w' : World => (convert 30 9 (.slice (some ⟨g, o, none⟩) l.length c)).run Try.prog w' = .ok (.string (str l)) w' ∧ w'.cell? ⟨b3, 0, none⟩ = some (.slice (some ⟨sb3, 0, none⟩) d.sure.length sc3)) 43 (by kernel_rfl) (by kernel_rfl) ?_
            change wpAnyT _ _ _ _ _ _ _ _ _ w4.drew
            have HK5 := Lib.hid HK4.out.drew
            have HD5 := Lib.hid (HD4.out.kept0 (Kept.refl [] w4).drew)
            have HR5 := Lib.hid (HR4.out.kept (Kept.refl [] w4).drew (by simp) (by simp) (by simp) (by simp) (by simp))
            clear HK4 HD4 HR4
            revert hSS HK5 HD5 HR5
            generalize w4.drew = W
            intro hSS HK5 HD5 HR5
            have HL := Lib.hid HD5.out.ok.le
            have HIM := Lib.hid (load_image HP.out)
            refine wpAnyT_start ?_
            intro O R hO hR
            have hQp : ∀ c a (d : Nat) v w, R (.panic c) (a.put (some d) v) w → R (.panic c) a w := by subst hR; exact fun _ _ _ _ _ h => h
            refine wpAnyT_take' (i := 0) (v := ?_) hO rfl rfl (by kernel_rfl) (by kernel_rfl) (by kernel_rfl) (by kernel_rfl) hQp (Or.inl ⟨by kernel_rfl, fun w hSw => ?_⟩) hSS ?_
            rotate_left
            · obtain ⟨s0, s1⟩ := hSw; go_simp; try with_reducible rfl
            try simp only [Act.put, List.setIfInBounds_toArray, List.set_cons_zero, List.set_cons_succ]
            refine wpAnyT_take' (i := 1) (v := ?_) hO rfl rfl (by kernel_rfl) (by kernel_rfl) (by kernel_rfl) (by kernel_rfl) hQp (Or.inl ⟨by kernel_rfl, fun w hSw => ?_⟩) hSS ?_
            rotate_left
            · obtain ⟨s0, s1⟩ := hSw; go_simp; try with_reducible rfl
            try simp only [Act.put, List.setIfInBounds_toArray, List.set_cons_zero, List.set_cons_succ]
            refine wpAnyT_take' (i := 2) (v := ?_) hO rfl rfl (by kernel_rfl) (by kernel_rfl) (by kernel_rfl) (by kernel_rfl) hQp (Or.inl ⟨by kernel_rfl, fun w hSw => ?_⟩) hSS ?_
            rotate_left
            · obtain ⟨s0, s1⟩ := hSw; go_simp; try with_reducible rfl
            try simp only [Act.put, List.setIfInBounds_toArray, List.set_cons_zero, List.set_cons_succ]
            refine wpAnyT_take' (i := 3) (v := undef) hO rfl rfl (by kernel_rfl) (by kernel_rfl) (by kernel_rfl) (by kernel_rfl) hQp (Or.inr ⟨by kernel_rfl, rfl⟩) hSS ?_
            try simp only [Act.put, List.setIfInBounds_toArray, List.set_cons_zero, List.set_cons_succ]
            refine wpAnyT_take' (i := 4) (v := undef) hO rfl rfl (by kernel_rfl) (by kernel_rfl) (by kernel_rfl) (by kernel_rfl) hQp (Or.inr ⟨by kernel_rfl, rfl⟩) hSS ?_
            try simp only [Act.put, List.setIfInBounds_toArray, List.set_cons_zero, List.set_cons_succ]
            refine wpAnyT_take' (i := 5) (v := undef) hO rfl rfl (by kernel_rfl) (by kernel_rfl) (by kernel_rfl) (by kernel_rfl) hQp (Or.inr ⟨by kernel_rfl, rfl⟩) hSS ?_
            try simp only [Act.put, List.setIfInBounds_toArray, List.set_cons_zero, List.set_cons_succ]
            refine wpAnyT_take' (i := 6) (v := undef) hO rfl rfl (by kernel_rfl) (by kernel_rfl) (by kernel_rfl) (by kernel_rfl) hQp (Or.inr ⟨by kernel_rfl, rfl⟩) hSS ?_
            try simp only [Act.put, List.setIfInBounds_toArray, List.set_cons_zero, List.set_cons_succ]
            refine wpAnyT_take' (i := 7) (v := ?_) hO rfl rfl (by kernel_rfl) (by kernel_rfl) (by kernel_rfl) (by kernel_rfl) hQp (Or.inl ⟨by kernel_rfl, fun w hSw => ?_⟩) hSS ?_
            rotate_left
            · obtain ⟨s0, s1⟩ := hSw; go_simp; try with_reducible rfl
            try simp only [Act.put, List.setIfInBounds_toArray, List.set_cons_zero, List.set_cons_succ]
            refine wpAnyT_take' (i := 8) (v := ?_) hO rfl rfl (by kernel_rfl) (by kernel_rfl) (by kernel_rfl) (by kernel_rfl) hQp (Or.inl ⟨by kernel_rfl, fun w hSw => ?_⟩) hSS ?_
            rotate_left
            · obtain ⟨s0, s1⟩ := hSw; go_simp; try with_reducible rfl
            try simp only [Act.put, List.setIfInBounds_toArray, List.set_cons_zero, List.set_cons_succ]
            refine wpAnyT_take' (i := 9) (v := undef) hO rfl rfl (by kernel_rfl) (by kernel_rfl) (by kernel_rfl) (by kernel_rfl) hQp (Or.inr ⟨by kernel_rfl, rfl⟩) hSS ?_
            try simp only [Act.put, List.setIfInBounds_toArray, List.set_cons_zero, List.set_cons_succ]
            refine wpAnyT_take' (i := 10) (v := undef) hO rfl rfl (by kernel_rfl) (by kernel_rfl) (by kernel_rfl) (by kernel_rfl) hQp (Or.inr ⟨by kernel_rfl, rfl⟩) hSS ?_
            try simp only [Act.put, List.setIfInBounds_toArray, List.set_cons_zero, List.set_cons_succ]
            refine wpAnyT_take' (i := 11) (v := undef) hO rfl rfl (by kernel_rfl) (by kernel_rfl) (by kernel_rfl) (by kernel_rfl) hQp (Or.inr ⟨by kernel_rfl, rfl⟩) hSS ?_
            try simp only [Act.put, List.setIfInBounds_toArray, List.set_cons_zero, List.set_cons_succ]
            refine wpAnyT_take' (i := 12) (v := undef) hO rfl rfl (by kernel_rfl) (by kernel_rfl) (by kernel_rfl) (by kernel_rfl) hQp (Or.inr ⟨by kernel_rfl, rfl⟩) hSS ?_
            try simp only [Act.put, List.setIfInBounds_toArray, List.set_cons_zero, List.set_cons_succ]
            refine wpAnyT_take' (i := 13) (v := ?_) hO rfl rfl (by kernel_rfl) (by kernel_rfl) (by kernel_rfl) (by kernel_rfl) hQp (Or.inl ⟨by kernel_rfl, fun w hSw => ?_⟩) hSS ?_
            rotate_left
            · obtain ⟨s0, s1⟩ := hSw; go_simp; try with_reducible rfl
            try simp only [Act.put, List.setIfInBounds_toArray, List.set_cons_zero, List.set_cons_succ]
            refine wpAnyT_take' (i := 14) (v := ?_) hO rfl rfl (by kernel_rfl) (by kernel_rfl) (by kernel_rfl) (by kernel_rfl) hQp (Or.inl ⟨by kernel_rfl, fun w hSw => ?_⟩) hSS ?_
            rotate_left
            · obtain ⟨s0, s1⟩ := hSw; go_simp; try with_reducible rfl
            try simp only [Act.put, List.setIfInBounds_toArray, List.set_cons_zero, List.set_cons_succ]
            refine wpAnyT_take' (i := 15) (v := ?_) hO rfl rfl (by kernel_rfl) (by kernel_rfl) (by kernel_rfl) (by kernel_rfl) hQp (Or.inl ⟨by kernel_rfl, fun w hSw => ?_⟩) hSS ?_
            rotate_left
            · obtain ⟨s0, s1⟩ := hSw; go_simp; try with_reducible rfl
            try simp only [Act.put, List.setIfInBounds_toArray, List.set_cons_zero, List.set_cons_succ]
            refine wpAnyT_take' (i := 16) (v := ?_) hO rfl rfl (by kernel_rfl) (by kernel_rfl) (by kernel_rfl) (by kernel_rfl) hQp (Or.inl ⟨by kernel_rfl, fun w hSw => ?_⟩) hSS ?_
            rotate_left
            · obtain ⟨s0, s1⟩ := hSw; go_simp; try with_reducible rfl
            try simp only [Act.put, List.setIfInBounds_toArray, List.set_cons_zero, List.set_cons_succ]
            refine wpAnyT_take' (i := 17) (v := ?_) hO rfl rfl (by kernel_rfl) (by kernel_rfl) (by kernel_rfl) (by kernel_rfl) hQp (Or.inl ⟨by kernel_rfl, fun w hSw => ?_⟩) hSS ?_
            rotate_left
            · obtain ⟨s0, s1⟩ := hSw; go_simp; try with_reducible rfl
            try simp only [Act.put, List.setIfInBounds_toArray, List.set_cons_zero, List.set_cons_succ]
            refine wpAnyT_take' (i := 18) (v := ?_) hO rfl rfl (by kernel_rfl) (by kernel_rfl) (by kernel_rfl) (by kernel_rfl) hQp (Or.inl ⟨by kernel_rfl, fun w hSw => ?_⟩) hSS ?_
            rotate_left
            · obtain ⟨s0, s1⟩ := hSw; go_simp; try with_reducible rfl
            try simp only [Act.put, List.setIfInBounds_toArray, List.set_cons_zero, List.set_cons_succ]
            refine wpAnyT_take' (i := 21) (v := ?_) hO rfl rfl (by kernel_rfl) (by kernel_rfl) (by kernel_rfl) (by kernel_rfl) hQp (Or.inl ⟨by kernel_rfl, fun w hSw => ?_⟩) hSS ?_
            rotate_left
            · obtain ⟨s0, s1⟩ := hSw; go_simp; try with_reducible rfl
            try simp only [Act.put, List.setIfInBounds_toArray, List.set_cons_zero, List.set_cons_succ]
            refine wpAnyT_take' (i := 22) (v := ?_) hO rfl rfl (by kernel_rfl) (by kernel_rfl) (by kernel_rfl) (by kernel_rfl) hQp (Or.inl ⟨by kernel_rfl, fun w hSw => ?_⟩) hSS ?_
            rotate_left
            · obtain ⟨s0, s1⟩ := hSw; go_simp; try with_reducible rfl
            try simp only [Act.put, List.setIfInBounds_toArray, List.set_cons_zero, List.set_cons_succ]
            refine wpAnyT_one' (i := 19) hO rfl (by kernel_rfl) (by kernel_rfl) (fun K hK => ?_)
            go_simp
            obtain ⟨sb, scap, mb, cnt, svals, M, rfl, hat⟩ := HD5.out
            refine Calls.mono (image_any hat) ?_
            rintro e w5 ⟨v5, rfl, hv5, hk5⟩
            have cv5 : (convert 30 9 v5).run Try.prog w5 = .ok (.string (str l)) w5 := by rw [← HIM.out]; exact Bytes.toStr hv5.1
            have HD6 := Lib.hid (HD5.out.kept0 hk5)
            have HK6 := Lib.hid (HK5.out.then hk5)
            have hS1 : (fun w' : World => (convert 30 9 (.slice (some ⟨g, o, none⟩) l.length c)).run Try.prog w' = .ok (.string (str l)) w' ∧ w'.cell? ⟨b3, 0, none⟩ = some (.slice (some ⟨sb3, 0, none⟩) d.sure.length sc3)) w5 := ⟨Bytes.toStr (HV.out.kept0 HK6.out), hk5.cell hSS.2 (by simp)⟩
            clear hSS hk5 hv5 hat
            have hSS := hS1
            clear hS1
            refine hK _ _ (.inr hSS) ?_
            clear hK K
            try simp only [Act.put, List.setIfInBounds_toArray, List.set_cons_zero, List.set_cons_succ]
            refine wpAnyT_one' (i := 20) hO rfl (by kernel_rfl) (by kernel_rfl) (fun K hK => ?_)
            go_simp
            refine hK _ _ (.inr hSS) ?_
            clear hK K
            try simp only [Act.put, List.setIfInBounds_toArray, List.set_cons_zero, List.set_cons_succ]
            clear cv5
            refine wpAnyT_take' (i := 23) (v := ?_) hO rfl rfl (by kernel_rfl) (by kernel_rfl) (by kernel_rfl) (by kernel_rfl) hQp (Or.inl ⟨by kernel_rfl, fun w hSw => ?_⟩) hSS ?_
            rotate_left
            · obtain ⟨s0, s1⟩ := hSw; go_simp; try with_reducible rfl
            try simp only [Act.put, List.setIfInBounds_toArray, List.set_cons_zero, List.set_cons_succ]
            refine wpAnyT_take' (i := 24) (v := ?_) hO rfl rfl (by kernel_rfl) (by kernel_rfl) (by kernel_rfl) (by kernel_rfl) hQp (Or.inl ⟨by kernel_rfl, fun w hSw => ?_⟩) hSS ?_
            rotate_left
            · obtain ⟨s0, s1⟩ := hSw; go_simp; try with_reducible rfl
            try simp only [Act.put, List.setIfInBounds_toArray, List.set_cons_zero, List.set_cons_succ]
            refine wpAnyT_take' (i := 25) (v := ?_) hO rfl rfl (by kernel_rfl) (by kernel_rfl) (by kernel_rfl) (by kernel_rfl) hQp (Or.inl ⟨by kernel_rfl, fun w hSw => ?_⟩) hSS ?_
            rotate_left
            · obtain ⟨s0, s1⟩ := hSw; go_simp; try with_reducible rfl
            try simp only [Act.put, List.setIfInBounds_toArray, List.set_cons_zero, List.set_cons_succ]
            refine wpAnyT_take' (i := 26) (v := ?_) hO rfl rfl (by kernel_rfl) (by kernel_rfl) (by kernel_rfl) (by kernel_rfl) hQp (Or.inl ⟨by kernel_rfl, fun w hSw => ?_⟩) hSS ?_
            rotate_left
            · obtain ⟨s0, s1⟩ := hSw; go_simp; try with_reducible rfl
            try simp only [Act.put, List.setIfInBounds_toArray, List.set_cons_zero, List.set_cons_succ]
            refine wpAnyT_take' (i := 28) (v := ?_) hO rfl rfl (by kernel_rfl) (by kernel_rfl) (by kernel_rfl) (by kernel_rfl) hQp (Or.inl ⟨by kernel_rfl, fun w hSw => ?_⟩) hSS ?_
            rotate_left
            · obtain ⟨s0, s1⟩ := hSw; go_simp; try with_reducible rfl
            try simp only [Act.put, List.setIfInBounds_toArray, List.set_cons_zero, List.set_cons_succ]
            refine wpAnyT_take' (i := 29) (v := ?_) hO rfl rfl (by kernel_rfl) (by kernel_rfl) (by kernel_rfl) (by kernel_rfl) hQp (Or.inl ⟨by kernel_rfl, fun w hSw => ?_⟩) hSS ?_
            rotate_left
            · obtain ⟨s0, s1⟩ := hSw; go_simp; try with_reducible rfl
            try simp only [Act.put, List.setIfInBounds_toArray, List.set_cons_zero, List.set_cons_succ]
            refine wpAnyT_take' (i := 30) (v := ?_) hO rfl rfl (by kernel_rfl) (by kernel_rfl) (by kernel_rfl) (by kernel_rfl) hQp (Or.inl ⟨by kernel_rfl, fun w hSw => ?_⟩) hSS ?_
            rotate_left
            · obtain ⟨s0, s1⟩ := hSw; go_simp; try with_reducible rfl
            try simp only [Act.put, List.setIfInBounds_toArray, List.set_cons_zero, List.set_cons_succ]
            refine wpAnyT_take' (i := 31) (v := ?_) hO rfl rfl (by kernel_rfl) (by kernel_rfl) (by kernel_rfl) (by kernel_rfl) hQp (Or.inl ⟨by kernel_rfl, fun w hSw => ?_⟩) hSS ?_
            rotate_left
            · obtain ⟨s0, s1⟩ := hSw; go_simp; try with_reducible rfl
            try simp only [Act.put, List.setIfInBounds_toArray, List.set_cons_zero, List.set_cons_succ]
            refine wpAnyT_take' (i := 32) (v := ?_) hO rfl rfl (by kernel_rfl) (by kernel_rfl) (by kernel_rfl) (by kernel_rfl) hQp (Or.inl ⟨by kernel_rfl, fun w hSw => ?_⟩) hSS ?_
            rotate_left
            · obtain ⟨s0, s1⟩ := hSw; go_simp; try with_reducible rfl
            try simp only [Act.put, List.setIfInBounds_toArray, List.set_cons_zero, List.set_cons_succ]
            refine wpAnyT_one' (i := 27) hO rfl (by kernel_rfl) (by kernel_rfl) (fun K hK => ?_)
            go_simp
            refine Calls.mono (len_any HD6.out) ?_
            rintro e w' ⟨rfl, rfl⟩
            refine hK _ _ (.inr hSS) ?_
            clear hK K
            try simp only [Act.put, List.setIfInBounds_toArray, List.set_cons_zero, List.set_cons_succ]
            refine wpAnyT_take' (i := 33) (v := ?_) hO rfl rfl (by kernel_rfl) (by kernel_rfl) (by kernel_rfl) (by kernel_rfl) hQp (Or.inl ⟨by kernel_rfl, fun w hSw => ?_⟩) hSS ?_
            rotate_left
            · obtain ⟨s0, s1⟩ := hSw; go_simp; try with_reducible rfl
            try simp only [Act.put, List.setIfInBounds_toArray, List.set_cons_zero, List.set_cons_succ]
            refine wpAnyT_take' (i := 34) (v := ?_) hO rfl rfl (by kernel_rfl) (by kernel_rfl) (by kernel_rfl) (by kernel_rfl) hQp (Or.inl ⟨by kernel_rfl, fun w hSw => ?_⟩) hSS ?_
            rotate_left
            · obtain ⟨s0, s1⟩ := hSw; go_simp; try with_reducible rfl
            try simp only [Act.put, List.setIfInBounds_toArray, List.set_cons_zero, List.set_cons_succ]
            refine wpAnyT_take' (i := 35) (v := ?_) hO rfl rfl (by kernel_rfl) (by kernel_rfl) (by kernel_rfl) (by kernel_rfl) hQp (Or.inl ⟨by kernel_rfl, fun w hSw => ?_⟩) hSS ?_
            rotate_left
            · obtain ⟨s0, s1⟩ := hSw; go_simp; try with_reducible rfl
            try simp only [Act.put, List.setIfInBounds_toArray, List.set_cons_zero, List.set_cons_succ]
            refine wpAnyT_take' (i := 36) (v := ?_) hO rfl rfl (by kernel_rfl) (by kernel_rfl) (by kernel_rfl) (by kernel_rfl) hQp (Or.inl ⟨by kernel_rfl, fun w hSw => ?_⟩) hSS ?_
            rotate_left
            · obtain ⟨s0, s1⟩ := hSw; go_simp; try with_reducible rfl
            try simp only [Act.put, List.setIfInBounds_toArray, List.set_cons_zero, List.set_cons_succ]
            refine wpAnyT_take' (i := 37) (v := ?_) hO rfl rfl (by kernel_rfl) (by kernel_rfl) (by kernel_rfl) (by kernel_rfl) hQp (Or.inl ⟨by kernel_rfl, fun w hSw => ?_⟩) hSS ?_
            rotate_left
            · obtain ⟨s0, s1⟩ := hSw; go_simp; try with_reducible rfl
            try simp only [Act.put, List.setIfInBounds_toArray, List.set_cons_zero, List.set_cons_succ]
            refine wpAnyT_one' (i := 38) hO rfl (by kernel_rfl) (by kernel_rfl) (fun K hK => ?_)
            go_simp
            refine Calls.mono (diskSame_none _ _) ?_
            rintro e w7 ⟨rfl, hk7⟩
            have HK7 := Lib.hid (HK6.out.then hk7)
            have hS1 : (fun w' : World => (convert 30 9 (.slice (some ⟨g, o, none⟩) l.length c)).run Try.prog w' = .ok (.string (str l)) w' ∧ w'.cell? ⟨b3, 0, none⟩ = some (.slice (some ⟨sb3, 0, none⟩) d.sure.length sc3)) w7 := ⟨Bytes.toStr (HV.out.kept0 HK7.out), hk7.cell hSS.2 (by simp)⟩
            clear hSS hk7
            have hSS := hS1
            clear hS1
            refine hK _ _ (.inr hSS) ?_
            clear hK K
            try simp only [Act.put, List.setIfInBounds_toArray, List.set_cons_zero, List.set_cons_succ]
            refine wpAnyT_take' (i := 39) (v := ?_) hO rfl rfl (by kernel_rfl) (by kernel_rfl) (by kernel_rfl) (by kernel_rfl) hQp (Or.inl ⟨by kernel_rfl, fun w hSw => ?_⟩) hSS ?_
            rotate_left
            · obtain ⟨s0, s1⟩ := hSw; go_simp; try with_reducible rfl
            try simp only [Act.put, List.setIfInBounds_toArray, List.set_cons_zero, List.set_cons_succ]
            refine wpAnyT_take' (i := 40) (v := ?_) hO rfl rfl (by kernel_rfl) (by kernel_rfl) (by kernel_rfl) (by kernel_rfl) hQp (Or.inl ⟨by kernel_rfl, fun w hSw => ?_⟩) hSS ?_
            rotate_left
            · obtain ⟨s0, s1⟩ := hSw; go_simp; try with_reducible rfl
            try simp only [Act.put, List.setIfInBounds_toArray, List.set_cons_zero, List.set_cons_succ]
            refine wpAnyT_take' (i := 41) (v := ?_) hO rfl rfl (by kernel_rfl) (by kernel_rfl) (by kernel_rfl) (by kernel_rfl) hQp (Or.inl ⟨by kernel_rfl, fun w hSw => ?_⟩) hSS ?_
            rotate_left
            · obtain ⟨s0, s1⟩ := hSw; go_simp; try with_reducible rfl
            try simp only [Act.put, List.setIfInBounds_toArray, List.set_cons_zero, List.set_cons_succ]
            refine wpAnyT_take' (i := 42) (v := ?_) hO rfl rfl (by kernel_rfl) (by kernel_rfl) (by kernel_rfl) (by kernel_rfl) hQp (Or.inl ⟨by kernel_rfl, fun w hSw => ?_⟩) hSS ?_
            rotate_left
            · obtain ⟨s0, s1⟩ := hSw; go_simp; try with_reducible rfl
            try simp only [Act.put, List.setIfInBounds_toArray, List.set_cons_zero, List.set_cons_succ]
            refine wpAnyT_done' hO (by kernel_rfl) ?_ _
            subst hR
            go_wp2_with fail
            go_ret
            exact ⟨rfl, HK7.out⟩
    · have h4I : ¬(4 : Int) < l.length := by omega
      go_enter Try.func7, Try.ntmps7
      go_wp2_with (first
        | (at_builtin; refine wpList_append_slc tyBytes hown0.out HS1.out (bvs_one _) (by simp only [maxLen]; omega) (by omega) (by simp) (by rfl) (.tmp 35) (.tmp 36) (by rfl) (by rfl) (by rfl) ?_; intro v1 w1 hown1 hk1 _ hg1; have k1 : Kept [] w w1 := HK0.out.trans hk1 (fun i hi => .inr (by simp [Value.ownBlock] at hi; omega)); have hN : NewBytes w w1 v1 l := newBytes_of_row (by simpa using hown1); obtain ⟨ao, co, rfl, -, -⟩ := hN.1.form; have HN := Lib.hid hN; have HK1 := Lib.hid k1; clear hown1 hk1 hg1 k1 hN)
        | (go_at_call 25; refine Calls.mono (load_any HN.out.1 (by omega)) ?_; rw [HP.out]; rintro e w2 ⟨hk2, b2, F2, rfl, hd2, hF2⟩; have HK2 := Lib.hid hk2; have HD2 := Lib.hid hd2; clear hk2 hd2 hF2)
        | (go_at_call 26; refine Calls.mono (refLoad_any (HV.out.kept0 (HK1.out.then HK2.out)) (by omega)) ?_; rw [← load_same _ _ _ _ (rintV_bad _)]; change ∀ e w', RefLoadPost _ (loadP l) e w' → _; rw [HP.out]; rintro e w3 ⟨hk3, b3, G3, rfl, ⟨sb3, nb3, lb3, sc3, nc3, lc3, sv3, nv3, lv3, rfl, hr3⟩, hG3⟩; have HK3 := Lib.hid hk3; have HD3 := Lib.hid (HD2.out.kept0 hk3); have HR3 := Lib.hid hr3; clear hk3 hr3 hG3)
              | (go_at_call 10; refine Calls.mono (lives_any _) ?_; rintro e w4 ⟨rfl, hk4⟩; have HD4 := Lib.hid (HD3.out.kept0 hk4); have HR4 := Lib.hid (HR3.out.kept hk4 (by simp) (by simp) (by simp) (by simp) (by simp)); have hk24 := HK2.out.then (HK3.out.then hk4); have cown : (convert 30 9 (.slice ao l.length co)).run Try.prog w4 = .ok (.string (str l)) w4 := Bytes.toStr (HN.out.1.kept0 hk24); have carg : (convert 30 9 (.slice a l.length c)).run Try.prog w4 = .ok (.string (str l)) w4 := Bytes.toStr (HV.out.kept0 (HK1.out.then hk24)); have HK4 := Lib.hid (HK1.out.then hk24); clear hk4 hk24))
      have hSS : (fun w' : World => (convert 30 9 (.slice a l.length c)).run Try.prog w' = .ok (.string (str l)) w' ∧ w'.cell? ⟨b3, 0, none⟩ = some (.slice (some ⟨sb3, 0, none⟩) d.sure.length sc3)) w4.drew := ⟨Bytes.toStr (HV.out.kept0 HK4.out.drew), HR4.out.c0⟩
      refine wp_region_last' (n := 43) (fun w' : World => (convert 30 9 (.slice a l.length c)).run Try.prog w' = .ok (.string (str l)) w' ∧ w'.cell? ⟨b3, 0, none⟩ = some (.slice (some ⟨sb3, 0, none⟩) d.sure.length sc3)) 43 (by kernel_rfl) (by kernel_rfl) ?_
      change wpAnyT _ _ _ _ _ _ _ _ _ w4.drew
      have HK5 := Lib.hid HK4.out.drew
      have HD5 := Lib.hid (HD4.out.kept0 (Kept.refl [] w4).drew)
      have HR5 := Lib.hid (HR4.out.kept (Kept.refl [] w4).drew (by simp) (by simp) (by simp) (by simp) (by simp))
      clear HK4 HD4 HR4
      revert hSS HK5 HD5 HR5
      generalize w4.drew = W
      intro hSS HK5 HD5 HR5
      have HL := Lib.hid HD5.out.ok.le
      have HIM := Lib.hid (load_image HP.out)
      refine wpAnyT_start ?_
      intro O R hO hR
      have hQp : ∀ c a (d : Nat) v w, R (.panic c) (a.put (some d) v) w → R (.panic c) a w := by subst hR; exact fun _ _ _ _ _ h => h
      refine wpAnyT_take' (i := 0) (v := ?_) hO rfl rfl (by kernel_rfl) (by kernel_rfl) (by kernel_rfl) (by kernel_rfl) hQp (Or.inl ⟨by kernel_rfl, fun w hSw => ?_⟩) hSS ?_
      rotate_left
      · obtain ⟨s0, s1⟩ := hSw; go_simp; try with_reducible rfl
      try simp only [Act.put, List.setIfInBounds_toArray, List.set_cons_zero, List.set_cons_succ]
      refine wpAnyT_take' (i := 1) (v := ?_) hO rfl rfl (by kernel_rfl) (by kernel_rfl) (by kernel_rfl) (by kernel_rfl) hQp (Or.inl ⟨by kernel_rfl, fun w hSw => ?_⟩) hSS ?_
      rotate_left
      · obtain ⟨s0, s1⟩ := hSw; go_simp; try with_reducible rfl
      try simp only [Act.put, List.setIfInBounds_toArray, List.set_cons_zero, List.set_cons_succ]
      refine wpAnyT_take' (i := 2) (v := ?_) hO rfl rfl (by kernel_rfl) (by kernel_rfl) (by kernel_rfl) (by kernel_rfl) hQp (Or.inl ⟨by kernel_rfl, fun w hSw => ?_⟩) hSS ?_
      rotate_left
      · obtain ⟨s0, s1⟩ := hSw; go_simp; try with_reducible rfl
      try simp only [Act.put, List.setIfInBounds_toArray, List.set_cons_zero, List.set_cons_succ]
      refine wpAnyT_take' (i := 3) (v := undef) hO rfl rfl (by kernel_rfl) (by kernel_rfl) (by kernel_rfl) (by kernel_rfl) hQp (Or.inr ⟨by kernel_rfl, rfl⟩) hSS ?_
      try simp only [Act.put, List.setIfInBounds_toArray, List.set_cons_zero, List.set_cons_succ]
      refine wpAnyT_take' (i := 4) (v := undef) hO rfl rfl (by kernel_rfl) (by kernel_rfl) (by kernel_rfl) (by kernel_rfl) hQp (Or.inr ⟨by kernel_rfl, rfl⟩) hSS ?_
      try simp only [Act.put, List.setIfInBounds_toArray, List.set_cons_zero, List.set_cons_succ]
      refine wpAnyT_take' (i := 5) (v := undef) hO rfl rfl (by kernel_rfl) (by kernel_rfl) (by kernel_rfl) (by kernel_rfl) hQp (Or.inr ⟨by kernel_rfl, rfl⟩) hSS ?_
      try simp only [Act.put, List.setIfInBounds_toArray, List.set_cons_zero, List.set_cons_succ]
      refine wpAnyT_take' (i := 6) (v := undef) hO rfl rfl (by kernel_rfl) (by kernel_rfl) (by kernel_rfl) (by kernel_rfl) hQp (Or.inr ⟨by kernel_rfl, rfl⟩) hSS ?_
      try simp only [Act.put, List.setIfInBounds_toArray, List.set_cons_zero, List.set_cons_succ]
      refine wpAnyT_take' (i := 7) (v := ?_) hO rfl rfl (by kernel_rfl) (by kernel_rfl) (by kernel_rfl) (by kernel_rfl) hQp (Or.inl ⟨by kernel_rfl, fun w hSw => ?_⟩) hSS ?_
      rotate_left
      · obtain ⟨s0, s1⟩ := hSw; go_simp; try with_reducible rfl
      try simp only [Act.put, List.setIfInBounds_toArray, List.set_cons_zero, List.set_cons_succ]
      refine wpAnyT_take' (i := 8) (v := ?_) hO rfl rfl (by kernel_rfl) (by kernel_rfl) (by kernel_rfl) (by kernel_rfl) hQp (Or.inl ⟨by kernel_rfl, fun w hSw => ?_⟩) hSS ?_
      rotate_left
      · obtain ⟨s0, s1⟩ := hSw; go_simp; try with_reducible rfl
      try simp only [Act.put, List.setIfInBounds_toArray, List.set_cons_zero, List.set_cons_succ]
      refine wpAnyT_take' (i := 9) (v := undef) hO rfl rfl (by kernel_rfl) (by kernel_rfl) (by kernel_rfl) (by kernel_rfl) hQp (Or.inr ⟨by kernel_rfl, rfl⟩) hSS ?_
      try simp only [Act.put, List.setIfInBounds_toArray, List.set_cons_zero, List.set_cons_succ]
      refine wpAnyT_take' (i := 10) (v := undef) hO rfl rfl (by kernel_rfl) (by kernel_rfl) (by kernel_rfl) (by kernel_rfl) hQp (Or.inr ⟨by kernel_rfl, rfl⟩) hSS ?_
      try simp only [Act.put, List.setIfInBounds_toArray, List.set_cons_zero, List.set_cons_succ]
      refine wpAnyT_take' (i := 11) (v := undef) hO rfl rfl (by kernel_rfl) (by kernel_rfl) (by kernel_rfl) (by kernel_rfl) hQp (Or.inr ⟨by kernel_rfl, rfl⟩) hSS ?_
      try simp only [Act.put, List.setIfInBounds_toArray, List.set_cons_zero, List.set_cons_succ]
      refine wpAnyT_take' (i := 12) (v := undef) hO rfl rfl (by kernel_rfl) (by kernel_rfl) (by kernel_rfl) (by kernel_rfl) hQp (Or.inr ⟨by kernel_rfl, rfl⟩) hSS ?_
      try simp only [Act.put, List.setIfInBounds_toArray, List.set_cons_zero, List.set_cons_succ]
      refine wpAnyT_take' (i := 13) (v := ?_) hO rfl rfl (by kernel_rfl) (by kernel_rfl) (by kernel_rfl) (by kernel_rfl) hQp (Or.inl ⟨by kernel_rfl, fun w hSw => ?_⟩) hSS ?_
      rotate_left
      · obtain ⟨s0, s1⟩ := hSw; go_simp; try with_reducible rfl
      try simp only [Act.put, List.setIfInBounds_toArray, List.set_cons_zero, List.set_cons_succ]
      refine wpAnyT_take' (i := 14) (v := ?_) hO rfl rfl (by kernel_rfl) (by kernel_rfl) (by kernel_rfl) (by kernel_rfl) hQp (Or.inl ⟨by kernel_rfl, fun w hSw => ?_⟩) hSS ?_
      rotate_left
      · obtain ⟨s0, s1⟩ := hSw; go_simp; try with_reducible rfl
      try simp only [Act.put, List.setIfInBounds_toArray, List.set_cons_zero, List.set_cons_succ]
      refine wpAnyT_take' (i := 15) (v := ?_) hO rfl rfl (by kernel_rfl) (by kernel_rfl) (by kernel_rfl) (by kernel_rfl) hQp (Or.inl ⟨by kernel_rfl, fun w hSw => ?_⟩) hSS ?_
      rotate_left
      · obtain ⟨s0, s1⟩ := hSw; go_simp; try with_reducible rfl
      try simp only [Act.put, List.setIfInBounds_toArray, List.set_cons_zero, List.set_cons_succ]
      refine wpAnyT_take' (i := 16) (v := ?_) hO rfl rfl (by kernel_rfl) (by kernel_rfl) (by kernel_rfl) (by kernel_rfl) hQp (Or.inl ⟨by kernel_rfl, fun w hSw => ?_⟩) hSS ?_
      rotate_left
      · obtain ⟨s0, s1⟩ := hSw; go_simp; try with_reducible rfl
      try simp only [Act.put, List.setIfInBounds_toArray, List.set_cons_zero, List.set_cons_succ]
      refine wpAnyT_take' (i := 17) (v := ?_) hO rfl rfl (by kernel_rfl) (by kernel_rfl) (by kernel_rfl) (by kernel_rfl) hQp (Or.inl ⟨by kernel_rfl, fun w hSw => ?_⟩) hSS ?_
      rotate_left
      · obtain ⟨s0, s1⟩ := hSw; go_simp; try with_reducible rfl
      try simp only [Act.put, List.setIfInBounds_toArray, List.set_cons_zero, List.set_cons_succ]
      refine wpAnyT_take' (i := 18) (v := ?_) hO rfl rfl (by kernel_rfl) (by kernel_rfl) (by kernel_rfl) (by kernel_rfl) hQp (Or.inl ⟨by kernel_rfl, fun w hSw => ?_⟩) hSS ?_
      rotate_left
      · obtain ⟨s0, s1⟩ := hSw; go_simp; try with_reducible rfl
      try simp only [Act.put, List.setIfInBounds_toArray, List.set_cons_zero, List.set_cons_succ]
      refine wpAnyT_take' (i := 21) (v := ?_) hO rfl rfl (by kernel_rfl) (by kernel_rfl) (by kernel_rfl) (by kernel_rfl) hQp (Or.inl ⟨by kernel_rfl, fun w hSw => ?_⟩) hSS ?_
      rotate_left
      · obtain ⟨s0, s1⟩ := hSw; go_simp; try with_reducible rfl
      try simp only [Act.put, List.setIfInBounds_toArray, List.set_cons_zero, List.set_cons_succ]
      refine wpAnyT_take' (i := 22) (v := ?_) hO rfl rfl (by kernel_rfl) (by kernel_rfl) (by kernel_rfl) (by kernel_rfl) hQp (Or.inl ⟨by kernel_rfl, fun w hSw => ?_⟩) hSS ?_
      rotate_left
      · obtain ⟨s0, s1⟩ := hSw; go_simp; try with_reducible rfl
      try simp only [Act.put, List.setIfInBounds_toArray, List.set_cons_zero, List.set_cons_succ]
      refine wpAnyT_one' (i := 19) hO rfl (by kernel_rfl) (by kernel_rfl) (fun K hK => ?_)
      go_simp
      obtain ⟨sb, scap, mb, cnt, svals, M, rfl, hat⟩ := HD5.out
      refine Calls.mono (image_any hat) ?_
      rintro e w5 ⟨v5, rfl, hv5, hk5⟩
      have cv5 : (convert 30 9 v5).run Try.prog w5 = .ok (.string (str l)) w5 := by rw [← HIM.out]; exact Bytes.toStr hv5.1
      have HD6 := Lib.hid (HD5.out.kept0 hk5)
      have HK6 := Lib.hid (HK5.out.then hk5)
      have hS1 : (fun w' : World => (convert 30 9 (.slice a l.length c)).run Try.prog w' = .ok (.string (str l)) w' ∧ w'.cell? ⟨b3, 0, none⟩ = some (.slice (some ⟨sb3, 0, none⟩) d.sure.length sc3)) w5 := ⟨Bytes.toStr (HV.out.kept0 HK6.out), hk5.cell hSS.2 (by simp)⟩
      clear hSS hk5 hv5 hat
      have hSS := hS1
      clear hS1
      refine hK _ _ (.inr hSS) ?_
      clear hK K
      try simp only [Act.put, List.setIfInBounds_toArray, List.set_cons_zero, List.set_cons_succ]
      refine wpAnyT_one' (i := 20) hO rfl (by kernel_rfl) (by kernel_rfl) (fun K hK => ?_)
      go_simp
      refine hK _ _ (.inr hSS) ?_
      clear hK K
      try simp only [Act.put, List.setIfInBounds_toArray, List.set_cons_zero, List.set_cons_succ]
      clear cv5
      refine wpAnyT_take' (i := 23) (v := ?_) hO rfl rfl (by kernel_rfl) (by kernel_rfl) (by kernel_rfl) (by kernel_rfl) hQp (Or.inl ⟨by kernel_rfl, fun w hSw => ?_⟩) hSS ?_
      rotate_left
      · obtain ⟨s0, s1⟩ := hSw; go_simp; try with_reducible rfl
      try simp only [Act.put, List.setIfInBounds_toArray, List.set_cons_zero, List.set_cons_succ]
      refine wpAnyT_take' (i := 24) (v := ?_) hO rfl rfl (by kernel_rfl) (by kernel_rfl) (by kernel_rfl) (by kernel_rfl) hQp (Or.inl ⟨by kernel_rfl, fun w hSw => ?_⟩) hSS ?_
      rotate_left
      · obtain ⟨s0, s1⟩ := hSw; go_simp; try with_reducible rfl
      try simp only [Act.put, List.setIfInBounds_toArray, List.set_cons_zero, List.set_cons_succ]
      refine wpAnyT_take' (i := 25) (v := ?_) hO rfl rfl (by kernel_rfl) (by kernel_rfl) (by kernel_rfl) (by kernel_rfl) hQp (Or.inl ⟨by kernel_rfl, fun w hSw => ?_⟩) hSS ?_
      rotate_left
      · obtain ⟨s0, s1⟩ := hSw; go_simp; try with_reducible rfl
      try simp only [Act.put, List.setIfInBounds_toArray, List.set_cons_zero, List.set_cons_succ]
      refine wpAnyT_take' (i := 26) (v := ?_) hO rfl rfl (by kernel_rfl) (by kernel_rfl) (by kernel_rfl) (by kernel_rfl) hQp (Or.inl ⟨by kernel_rfl, fun w hSw => ?_⟩) hSS ?_
      rotate_left
      · obtain ⟨s0, s1⟩ := hSw; go_simp; try with_reducible rfl
      try simp only [Act.put, List.setIfInBounds_toArray, List.set_cons_zero, List.set_cons_succ]
      refine wpAnyT_take' (i := 28) (v := ?_) hO rfl rfl (by kernel_rfl) (by kernel_rfl) (by kernel_rfl) (by kernel_rfl) hQp (Or.inl ⟨by kernel_rfl, fun w hSw => ?_⟩) hSS ?_
      rotate_left
      · obtain ⟨s0, s1⟩ := hSw; go_simp; try with_reducible rfl
      try simp only [Act.put, List.setIfInBounds_toArray, List.set_cons_zero, List.set_cons_succ]
      refine wpAnyT_take' (i := 29) (v := ?_) hO rfl rfl (by kernel_rfl) (by kernel_rfl) (by kernel_rfl) (by kernel_rfl) hQp (Or.inl ⟨by kernel_rfl, fun w hSw => ?_⟩) hSS ?_
      rotate_left
      · obtain ⟨s0, s1⟩ := hSw; go_simp; try with_reducible rfl
      try simp only [Act.put, List.setIfInBounds_toArray, List.set_cons_zero, List.set_cons_succ]
      refine wpAnyT_take' (i := 30) (v := ?_) hO rfl rfl (by kernel_rfl) (by kernel_rfl) (by kernel_rfl) (by kernel_rfl) hQp (Or.inl ⟨by kernel_rfl, fun w hSw => ?_⟩) hSS ?_
      rotate_left
      · obtain ⟨s0, s1⟩ := hSw; go_simp; try with_reducible rfl
      try simp only [Act.put, List.setIfInBounds_toArray, List.set_cons_zero, List.set_cons_succ]
      refine wpAnyT_take' (i := 31) (v := ?_) hO rfl rfl (by kernel_rfl) (by kernel_rfl) (by kernel_rfl) (by kernel_rfl) hQp (Or.inl ⟨by kernel_rfl, fun w hSw => ?_⟩) hSS ?_
      rotate_left
      · obtain ⟨s0, s1⟩ := hSw; go_simp; try with_reducible rfl
      try simp only [Act.put, List.setIfInBounds_toArray, List.set_cons_zero, List.set_cons_succ]
      refine wpAnyT_take' (i := 32) (v := ?_) hO rfl rfl (by kernel_rfl) (by kernel_rfl) (by kernel_rfl) (by kernel_rfl) hQp (Or.inl ⟨by kernel_rfl, fun w hSw => ?_⟩) hSS ?_
      rotate_left
      · obtain ⟨s0, s1⟩ := hSw; go_simp; try with_reducible rfl
      try simp only [Act.put, List.setIfInBounds_toArray, List.set_cons_zero, List.set_cons_succ]
      refine wpAnyT_one' (i := 27) hO rfl (by kernel_rfl) (by kernel_rfl) (fun K hK => ?_)
      go_simp
      refine Calls.mono (len_any HD6.out) ?_
      rintro e w' ⟨rfl, rfl⟩
      refine hK _ _ (.inr hSS) ?_
      clear hK K
      try simp only [Act.put, List.setIfInBounds_toArray, List.set_cons_zero, List.set_cons_succ]
      refine wpAnyT_take' (i := 33) (v := ?_) hO rfl rfl (by kernel_rfl) (by kernel_rfl) (by kernel_rfl) (by kernel_rfl) hQp (Or.inl ⟨by kernel_rfl, fun w hSw => ?_⟩) hSS ?_
      rotate_left
      · obtain ⟨s0, s1⟩ := hSw; go_simp; try with_reducible rfl
      try simp only [Act.put, List.setIfInBounds_toArray, List.set_cons_zero, List.set_cons_succ]
      refine wpAnyT_take' (i := 34) (v := ?_) hO rfl rfl (by kernel_rfl) (by kernel_rfl) (by kernel_rfl) (by kernel_rfl) hQp (Or.inl ⟨by kernel_rfl, fun w hSw => ?_⟩) hSS ?_
      rotate_left
      · obtain ⟨s0, s1⟩ := hSw; go_simp; try with_reducible rfl
      try simp only [Act.put, List.setIfInBounds_toArray, List.set_cons_zero, List.set_cons_succ]
      refine wpAnyT_take' (i := 35) (v := ?_) hO rfl rfl (by kernel_rfl) (by kernel_rfl) (by kernel_rfl) (by kernel_rfl) hQp (Or.inl ⟨by kernel_rfl, fun w hSw => ?_⟩) hSS ?_
      rotate_left
      · obtain ⟨s0, s1⟩ := hSw; go_simp; try with_reducible rfl
      try simp only [Act.put, List.setIfInBounds_toArray, List.set_cons_zero, List.set_cons_succ]
      refine wpAnyT_take' (i := 36) (v := ?_) hO rfl rfl (by kernel_rfl) (by kernel_rfl) (by kernel_rfl) (by kernel_rfl) hQp (Or.inl ⟨by kernel_rfl, fun w hSw => ?_⟩) hSS ?_
      rotate_left
      · obtain ⟨s0, s1⟩ := hSw; go_simp; try with_reducible rfl
      try simp only [Act.put, List.setIfInBounds_toArray, List.set_cons_zero, List.set_cons_succ]
      refine wpAnyT_take' (i := 37) (v := ?_) hO rfl rfl (by kernel_rfl) (by kernel_rfl) (by kernel_rfl) (by kernel_rfl) hQp (Or.inl ⟨by kernel_rfl, fun w hSw => ?_⟩) hSS ?_
      rotate_left
      · obtain ⟨s0, s1⟩ := hSw; go_simp; try with_reducible rfl
      try simp only [Act.put, List.setIfInBounds_toArray, List.set_cons_zero, List.set_cons_succ]
      refine wpAnyT_one' (i := 38) hO rfl (by kernel_rfl) (by kernel_rfl) (fun K hK => ?_)
      go_simp
      refine Calls.mono (diskSame_none _ _) ?_
      rintro e w7 ⟨rfl, hk7⟩
      have HK7 := Lib.hid (HK6.out.then hk7)
      have hS1 : (fun w' : World => (convert 30 9 (.slice a l.length c)).run Try.prog w' = .ok (.string (str l)) w' ∧ w'.cell? ⟨b3, 0, none⟩ = some (.slice (some ⟨sb3, 0, none⟩) d.sure.length sc3)) w7 := ⟨Bytes.toStr (HV.out.kept0 HK7.out), hk7.cell hSS.2 (by simp)⟩
      clear hSS hk7
      have hSS := hS1
      clear hS1
      refine hK _ _ (.inr hSS) ?_
      clear hK K
      try simp only [Act.put, List.setIfInBounds_toArray, List.set_cons_zero, List.set_cons_succ]
      refine wpAnyT_take' (i := 39) (v := ?_) hO rfl rfl (by kernel_rfl) (by kernel_rfl) (by kernel_rfl) (by kernel_rfl) hQp (Or.inl ⟨by kernel_rfl, fun w hSw => ?_⟩) hSS ?_
      rotate_left
      · obtain ⟨s0, s1⟩ := hSw; go_simp; try with_reducible rfl
      try simp only [Act.put, List.setIfInBounds_toArray, List.set_cons_zero, List.set_cons_succ]
      refine wpAnyT_take' (i := 40) (v := ?_) hO rfl rfl (by kernel_rfl) (by kernel_rfl) (by kernel_rfl) (by kernel_rfl) hQp (Or.inl ⟨by kernel_rfl, fun w hSw => ?_⟩) hSS ?_
      rotate_left
      · obtain ⟨s0, s1⟩ := hSw; go_simp; try with_reducible rfl
      try simp only [Act.put, List.setIfInBounds_toArray, List.set_cons_zero, List.set_cons_succ]
      refine wpAnyT_take' (i := 41) (v := ?_) hO rfl rfl (by kernel_rfl) (by kernel_rfl) (by kernel_rfl) (by kernel_rfl) hQp (Or.inl ⟨by kernel_rfl, fun w hSw => ?_⟩) hSS ?_
      rotate_left
      · obtain ⟨s0, s1⟩ := hSw; go_simp; try with_reducible rfl
      try simp only [Act.put, List.setIfInBounds_toArray, List.set_cons_zero, List.set_cons_succ]
      refine wpAnyT_take' (i := 42) (v := ?_) hO rfl rfl (by kernel_rfl) (by kernel_rfl) (by kernel_rfl) (by kernel_rfl) hQp (Or.inl ⟨by kernel_rfl, fun w hSw => ?_⟩) hSS ?_
      rotate_left
      · obtain ⟨s0, s1⟩ := hSw; go_simp; try with_reducible rfl
      try simp only [Act.put, List.setIfInBounds_toArray, List.set_cons_zero, List.set_cons_succ]
      refine wpAnyT_done' hO (by kernel_rfl) ?_ _
      subst hR
      go_wp2_with fail
      go_ret
      exact ⟨rfl, HK7.out⟩
theorem loads_any {w : World} {v : Value} {l : List UInt8} (hv : Bytes w v l) (hl : l.length ≤ maxLen) : Calls Try.prog 7 #[v] w fun e w' => e = .returned (.bool true) ∧ Kept [] w w' := by
  cases hP : loadP l with
  | none => exact loads_none hv hl hP
  | some d => exact loads_some hv hl hP
end Go.Proofs.Ytfkdoinlbdcaaaa

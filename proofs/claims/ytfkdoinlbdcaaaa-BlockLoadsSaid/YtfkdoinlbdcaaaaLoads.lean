/- BlockLoads: what any bytes are as a disk's image. -/
import Derived.Test.YtfkdoinlbdcaaaaImg
namespace Go.Proofs.Ytfkdoinlbdcaaaa
open Go.RowKit

set_option maxRecDepth 10000 in
set_option maxHeartbeats 3200000 in
theorem loads_none {w : World} {v : Value} {l : List UInt8} (hv : Bytes w v l) (hl : l.length ≤ maxLen) (hP : loadP l = none) : Calls Try.prog 7 #[v] w fun e w' => e = .returned (.bool true) ∧ Kept [] w w' := by
  obtain ⟨a, c, rfl, -, -⟩ := hv.form
  have hlI : (l.length : Int) ≤ 9223372036854775807 := by simp only [maxLen] at hl; omega
  have hb : Hid (∀ (j : Nat) (hj : j < l.length), _) := Lib.hid fun j hj => byte_at hv (Kept.refl [] w) j hj
  have HV := Lib.hid hv
  have HP := Lib.hid hP
  clear hP
  have k0 : Kept [] w (w.alloc (.cells #[] 5)) := (Kept.refl [] w).alloc _
  have hown0 : Hid ((w.alloc (.cells #[] 5)).ownsRow w.heap.size 5 1 (.slice (some ⟨w.heap.size, 0, none⟩) 0 0) 0 []) := Lib.hid (World.ownsRow_made (base := w.heap.size) (size := 1) (e := 5) w #[] 0 (Nat.le_refl _) (by decide) rfl)
  have HS1 : Hid (Slc (w.alloc (.cells #[] 5)) 1 (.slice a l.length c) l.length (l.map bv)) := Lib.hid (hv.kept0 k0)
  have HK0 := Lib.hid k0
  clear hv hl k0
  by_cases h5 : 5000 < l.length
  · have h5I : (5000 : Int) < l.length := by omega
    go_enter Try.func7, Try.ntmps7
    go_wp2_with (go_at_call 10; refine Calls.mono (lives_any _) ?_; rintro e w1 ⟨rfl, hk1⟩)
    go_ret
    exact ⟨rfl, hk1⟩
  · have h5I : ¬(5000 : Int) < l.length := by omega
    by_cases h4 : 4 < l.length
    · have h4I : (4 : Int) < l.length := by omega
      obtain ⟨g, o, rfl, q0⟩ := hb.out 0 (by omega)
      obtain ⟨g1, o1, e1, q1⟩ := hb.out 1 (by omega)
      obtain ⟨g2, o2, e2, q2⟩ := hb.out 2 (by omega)
      cases e1
      cases e2
      rw [Nat.add_zero] at q0
      clear hb
      revert q0 q1 q2
      generalize l[0].toNat = x0
      generalize l[1].toNat = x1
      generalize l[2].toNat = x2
      intro q0 q1 q2
      by_cases hx0 : 0 < x0
      · have hx0I : (0 : Int) < x0 := by omega
        go_enter Try.func7, Try.ntmps7
        go_wp2_with (go_at_call 10; refine Calls.mono (lives_any _) ?_; rintro e w1 ⟨rfl, hk1⟩)
        go_ret
        exact ⟨rfl, hk1⟩
      · have hx0I : ¬(0 : Int) < x0 := by omega
        by_cases hx1 : 0 < x1
        · have hx1I : (0 : Int) < x1 := by omega
          go_enter Try.func7, Try.ntmps7
          go_wp2_with (go_at_call 10; refine Calls.mono (lives_any _) ?_; rintro e w1 ⟨rfl, hk1⟩)
          go_ret
          exact ⟨rfl, hk1⟩
        · have hx1I : ¬(0 : Int) < x1 := by omega
          by_cases hx2 : 3 < x2
          · have hx2I : (3 : Int) < x2 := by omega
            go_enter Try.func7, Try.ntmps7
            go_wp2_with (go_at_call 10; refine Calls.mono (lives_any _) ?_; rintro e w1 ⟨rfl, hk1⟩)
            go_ret
            exact ⟨rfl, hk1⟩
          · have hx2I : ¬(3 : Int) < x2 := by omega
            go_enter Try.func7, Try.ntmps7
            go_wp2_with (first
              | (at_builtin; refine wpList_append_slc tyBytes hown0.out HS1.out (bvs_one _) (by simp only [maxLen]; omega) (by omega) (by simp) (by rfl) (.tmp 35) (.tmp 36) (by rfl) (by rfl) (by rfl) ?_; intro v1 w1 hown1 hk1 _ hg1; have k1 : Kept [] w w1 := HK0.out.trans hk1 (fun i hi => .inr (by simp [Value.ownBlock] at hi; omega)); have hN : NewBytes w w1 v1 l := newBytes_of_row (by simpa using hown1); obtain ⟨ao, co, rfl, -, -⟩ := hN.1.form; have HN := Lib.hid hN; have HK1 := Lib.hid k1; clear hown1 hk1 hg1 k1 hN)
              | (go_at_call 25; refine Calls.mono (load_any HN.out.1 (by omega)) ?_; rw [HP.out]; rintro e w2 ⟨hk2, rfl⟩; have HK2 := Lib.hid hk2; clear hk2)
              | (go_at_call 26; refine Calls.mono (refLoad_any (HV.out.kept0 (HK1.out.then HK2.out)) (by omega)) ?_; rw [← load_same _ _ _ _ (rintV_bad _)]; change ∀ e w', RefLoadPost _ (loadP l) e w' → _; rw [HP.out]; rintro e w3 ⟨hk3, rfl⟩; have HK3 := Lib.hid hk3; clear hk3)
              | (go_at_call 10; refine Calls.mono (lives_any _) ?_; rintro e w4 ⟨rfl, hk4⟩; have hk24 := HK2.out.then (HK3.out.then hk4); have cown : (convert 30 9 (.slice ao l.length co)).run Try.prog w4 = .ok (.string (str l)) w4 := Bytes.toStr (HN.out.1.kept0 hk24); have carg : (convert 30 9 (.slice (some ⟨g, o, none⟩) l.length c)).run Try.prog w4 = .ok (.string (str l)) w4 := Bytes.toStr (HV.out.kept0 (HK1.out.then hk24)); have HK4 := Lib.hid (HK1.out.then hk24); clear hk4 hk24; revert cown carg; generalize str l = sl; intro cown carg)
              | (go_at_call 27; refine Calls.mono (image_nil _) ?_; rintro e w' ⟨rfl, rfl⟩)
              | (go_at_call 28; refine Calls.mono (diskSame_nil _ _) ?_; rintro e w5 ⟨rfl, hk5⟩; have HK5 := Lib.hid (HK4.out.then hk5); clear hk5))
            have hSS : (fun _ : World => True) w4.drew := trivial
            refine wp_region_last' (n := 43) (fun _ : World => True) 43 (by kernel_rfl) (by kernel_rfl) ?_
            change wpAnyT _ _ _ _ _ _ _ _ _ w4.drew
            have HK5 := Lib.hid HK4.out.drew
            clear HK4
            revert hSS HK5
            generalize w4.drew = W
            intro hSS HK5
            refine wpAnyT_start ?_
            intro O R hO hR
            have hQp : ∀ c a (d : Nat) v w, R (.panic c) (a.put (some d) v) w → R (.panic c) a w := by subst hR; exact fun _ _ _ _ _ h => h
            refine wpAnyT_take' (i := 0) (v := ?_) hO rfl rfl (by kernel_rfl) (by kernel_rfl) (by kernel_rfl) (by kernel_rfl) hQp (Or.inl ⟨by kernel_rfl, fun w hSw => ?_⟩) hSS ?_
            rotate_left
            · go_simp; try with_reducible rfl
            try simp only [Act.put, List.setIfInBounds_toArray, List.set_cons_zero, List.set_cons_succ]
            refine wpAnyT_take' (i := 1) (v := ?_) hO rfl rfl (by kernel_rfl) (by kernel_rfl) (by kernel_rfl) (by kernel_rfl) hQp (Or.inl ⟨by kernel_rfl, fun w hSw => ?_⟩) hSS ?_
            rotate_left
            · go_simp; try with_reducible rfl
            try simp only [Act.put, List.setIfInBounds_toArray, List.set_cons_zero, List.set_cons_succ]
            refine wpAnyT_take' (i := 2) (v := ?_) hO rfl rfl (by kernel_rfl) (by kernel_rfl) (by kernel_rfl) (by kernel_rfl) hQp (Or.inl ⟨by kernel_rfl, fun w hSw => ?_⟩) hSS ?_
            rotate_left
            · go_simp; try with_reducible rfl
            try simp only [Act.put, List.setIfInBounds_toArray, List.set_cons_zero, List.set_cons_succ]
            refine wpAnyT_take' (i := 3) (v := ?_) hO rfl rfl (by kernel_rfl) (by kernel_rfl) (by kernel_rfl) (by kernel_rfl) hQp (Or.inl ⟨by kernel_rfl, fun w hSw => ?_⟩) hSS ?_
            rotate_left
            · go_simp; try with_reducible rfl
            try simp only [Act.put, List.setIfInBounds_toArray, List.set_cons_zero, List.set_cons_succ]
            refine wpAnyT_one' (i := 4) hO rfl (by kernel_rfl) (by kernel_rfl) (fun K hK => ?_)
            go_simp
            refine Calls.mono (image_nil _) ?_
            rintro e w' ⟨rfl, rfl⟩
            refine hK _ _ (.inr hSS) ?_
            clear hK K
            try simp only [Act.put, List.setIfInBounds_toArray, List.set_cons_zero, List.set_cons_succ]
            refine wpAnyT_take' (i := 5) (v := ?_) hO rfl rfl (by kernel_rfl) (by kernel_rfl) (by kernel_rfl) (by kernel_rfl) hQp (Or.inl ⟨by kernel_rfl, fun w hSw => ?_⟩) hSS ?_
            rotate_left
            · go_simp; try with_reducible rfl
            try simp only [Act.put, List.setIfInBounds_toArray, List.set_cons_zero, List.set_cons_succ]
            refine wpAnyT_take' (i := 6) (v := ?_) hO rfl rfl (by kernel_rfl) (by kernel_rfl) (by kernel_rfl) (by kernel_rfl) hQp (Or.inl ⟨by kernel_rfl, fun w hSw => ?_⟩) hSS ?_
            rotate_left
            · go_simp; try with_reducible rfl
            try simp only [Act.put, List.setIfInBounds_toArray, List.set_cons_zero, List.set_cons_succ]
            refine wpAnyT_take' (i := 7) (v := ?_) hO rfl rfl (by kernel_rfl) (by kernel_rfl) (by kernel_rfl) (by kernel_rfl) hQp (Or.inl ⟨by kernel_rfl, fun w hSw => ?_⟩) hSS ?_
            rotate_left
            · go_simp; try with_reducible rfl
            try simp only [Act.put, List.setIfInBounds_toArray, List.set_cons_zero, List.set_cons_succ]
            refine wpAnyT_take' (i := 8) (v := ?_) hO rfl rfl (by kernel_rfl) (by kernel_rfl) (by kernel_rfl) (by kernel_rfl) hQp (Or.inl ⟨by kernel_rfl, fun w hSw => ?_⟩) hSS ?_
            rotate_left
            · go_simp; try with_reducible rfl
            try simp only [Act.put, List.setIfInBounds_toArray, List.set_cons_zero, List.set_cons_succ]
            refine wpAnyT_take' (i := 9) (v := ?_) hO rfl rfl (by kernel_rfl) (by kernel_rfl) (by kernel_rfl) (by kernel_rfl) hQp (Or.inl ⟨by kernel_rfl, fun w hSw => ?_⟩) hSS ?_
            rotate_left
            · go_simp; try with_reducible rfl
            try simp only [Act.put, List.setIfInBounds_toArray, List.set_cons_zero, List.set_cons_succ]
            refine wpAnyT_take' (i := 10) (v := ?_) hO rfl rfl (by kernel_rfl) (by kernel_rfl) (by kernel_rfl) (by kernel_rfl) hQp (Or.inl ⟨by kernel_rfl, fun w hSw => ?_⟩) hSS ?_
            rotate_left
            · go_simp; try with_reducible rfl
            try simp only [Act.put, List.setIfInBounds_toArray, List.set_cons_zero, List.set_cons_succ]
            refine wpAnyT_one' (i := 11) hO rfl (by kernel_rfl) (by kernel_rfl) (fun K hK => ?_)
            go_simp
            refine Calls.mono (diskSame_nil _ _) ?_
            rintro e w5 ⟨rfl, hk5⟩
            have HK6 := Lib.hid (HK5.out.then hk5)
            clear hSS hk5
            have hSS : (fun _ : World => True) w5 := trivial
            refine hK _ _ (.inr hSS) ?_
            clear hK K
            try simp only [Act.put, List.setIfInBounds_toArray, List.set_cons_zero, List.set_cons_succ]
            refine wpAnyT_take' (i := 12) (v := ?_) hO rfl rfl (by kernel_rfl) (by kernel_rfl) (by kernel_rfl) (by kernel_rfl) hQp (Or.inl ⟨by kernel_rfl, fun w hSw => ?_⟩) hSS ?_
            rotate_left
            · go_simp; try with_reducible rfl
            try simp only [Act.put, List.setIfInBounds_toArray, List.set_cons_zero, List.set_cons_succ]
            refine wpAnyT_take' (i := 13) (v := ?_) hO rfl rfl (by kernel_rfl) (by kernel_rfl) (by kernel_rfl) (by kernel_rfl) hQp (Or.inl ⟨by kernel_rfl, fun w hSw => ?_⟩) hSS ?_
            rotate_left
            · go_simp; try with_reducible rfl
            try simp only [Act.put, List.setIfInBounds_toArray, List.set_cons_zero, List.set_cons_succ]
            refine wpAnyT_take' (i := 14) (v := ?_) hO rfl rfl (by kernel_rfl) (by kernel_rfl) (by kernel_rfl) (by kernel_rfl) hQp (Or.inl ⟨by kernel_rfl, fun w hSw => ?_⟩) hSS ?_
            rotate_left
            · go_simp; try with_reducible rfl
            try simp only [Act.put, List.setIfInBounds_toArray, List.set_cons_zero, List.set_cons_succ]
            refine wpAnyT_take' (i := 15) (v := undef) hO rfl rfl (by kernel_rfl) (by kernel_rfl) (by kernel_rfl) (by kernel_rfl) hQp (Or.inr ⟨by kernel_rfl, rfl⟩) hSS ?_
            try simp only [Act.put, List.setIfInBounds_toArray, List.set_cons_zero, List.set_cons_succ]
            refine wpAnyT_take' (i := 16) (v := undef) hO rfl rfl (by kernel_rfl) (by kernel_rfl) (by kernel_rfl) (by kernel_rfl) hQp (Or.inr ⟨by kernel_rfl, rfl⟩) hSS ?_
            try simp only [Act.put, List.setIfInBounds_toArray, List.set_cons_zero, List.set_cons_succ]
            refine wpAnyT_take' (i := 17) (v := undef) hO rfl rfl (by kernel_rfl) (by kernel_rfl) (by kernel_rfl) (by kernel_rfl) hQp (Or.inr ⟨by kernel_rfl, rfl⟩) hSS ?_
            try simp only [Act.put, List.setIfInBounds_toArray, List.set_cons_zero, List.set_cons_succ]
            refine wpAnyT_take' (i := 18) (v := undef) hO rfl rfl (by kernel_rfl) (by kernel_rfl) (by kernel_rfl) (by kernel_rfl) hQp (Or.inr ⟨by kernel_rfl, rfl⟩) hSS ?_
            try simp only [Act.put, List.setIfInBounds_toArray, List.set_cons_zero, List.set_cons_succ]
            refine wpAnyT_take' (i := 19) (v := undef) hO rfl rfl (by kernel_rfl) (by kernel_rfl) (by kernel_rfl) (by kernel_rfl) hQp (Or.inr ⟨by kernel_rfl, rfl⟩) hSS ?_
            try simp only [Act.put, List.setIfInBounds_toArray, List.set_cons_zero, List.set_cons_succ]
            refine wpAnyT_take' (i := 20) (v := undef) hO rfl rfl (by kernel_rfl) (by kernel_rfl) (by kernel_rfl) (by kernel_rfl) hQp (Or.inr ⟨by kernel_rfl, rfl⟩) hSS ?_
            try simp only [Act.put, List.setIfInBounds_toArray, List.set_cons_zero, List.set_cons_succ]
            refine wpAnyT_take' (i := 21) (v := undef) hO rfl rfl (by kernel_rfl) (by kernel_rfl) (by kernel_rfl) (by kernel_rfl) hQp (Or.inr ⟨by kernel_rfl, rfl⟩) hSS ?_
            try simp only [Act.put, List.setIfInBounds_toArray, List.set_cons_zero, List.set_cons_succ]
            refine wpAnyT_take' (i := 22) (v := undef) hO rfl rfl (by kernel_rfl) (by kernel_rfl) (by kernel_rfl) (by kernel_rfl) hQp (Or.inr ⟨by kernel_rfl, rfl⟩) hSS ?_
            try simp only [Act.put, List.setIfInBounds_toArray, List.set_cons_zero, List.set_cons_succ]
            refine wpAnyT_take' (i := 23) (v := undef) hO rfl rfl (by kernel_rfl) (by kernel_rfl) (by kernel_rfl) (by kernel_rfl) hQp (Or.inr ⟨by kernel_rfl, rfl⟩) hSS ?_
            try simp only [Act.put, List.setIfInBounds_toArray, List.set_cons_zero, List.set_cons_succ]
            refine wpAnyT_take' (i := 24) (v := undef) hO rfl rfl (by kernel_rfl) (by kernel_rfl) (by kernel_rfl) (by kernel_rfl) hQp (Or.inr ⟨by kernel_rfl, rfl⟩) hSS ?_
            try simp only [Act.put, List.setIfInBounds_toArray, List.set_cons_zero, List.set_cons_succ]
            refine wpAnyT_take' (i := 25) (v := undef) hO rfl rfl (by kernel_rfl) (by kernel_rfl) (by kernel_rfl) (by kernel_rfl) hQp (Or.inr ⟨by kernel_rfl, rfl⟩) hSS ?_
            try simp only [Act.put, List.setIfInBounds_toArray, List.set_cons_zero, List.set_cons_succ]
            refine wpAnyT_take' (i := 26) (v := undef) hO rfl rfl (by kernel_rfl) (by kernel_rfl) (by kernel_rfl) (by kernel_rfl) hQp (Or.inr ⟨by kernel_rfl, rfl⟩) hSS ?_
            try simp only [Act.put, List.setIfInBounds_toArray, List.set_cons_zero, List.set_cons_succ]
            refine wpAnyT_take' (i := 27) (v := undef) hO rfl rfl (by kernel_rfl) (by kernel_rfl) (by kernel_rfl) (by kernel_rfl) hQp (Or.inr ⟨by kernel_rfl, rfl⟩) hSS ?_
            try simp only [Act.put, List.setIfInBounds_toArray, List.set_cons_zero, List.set_cons_succ]
            refine wpAnyT_take' (i := 28) (v := undef) hO rfl rfl (by kernel_rfl) (by kernel_rfl) (by kernel_rfl) (by kernel_rfl) hQp (Or.inr ⟨by kernel_rfl, rfl⟩) hSS ?_
            try simp only [Act.put, List.setIfInBounds_toArray, List.set_cons_zero, List.set_cons_succ]
            refine wpAnyT_take' (i := 29) (v := undef) hO rfl rfl (by kernel_rfl) (by kernel_rfl) (by kernel_rfl) (by kernel_rfl) hQp (Or.inr ⟨by kernel_rfl, rfl⟩) hSS ?_
            try simp only [Act.put, List.setIfInBounds_toArray, List.set_cons_zero, List.set_cons_succ]
            refine wpAnyT_take' (i := 30) (v := undef) hO rfl rfl (by kernel_rfl) (by kernel_rfl) (by kernel_rfl) (by kernel_rfl) hQp (Or.inr ⟨by kernel_rfl, rfl⟩) hSS ?_
            try simp only [Act.put, List.setIfInBounds_toArray, List.set_cons_zero, List.set_cons_succ]
            refine wpAnyT_take' (i := 31) (v := undef) hO rfl rfl (by kernel_rfl) (by kernel_rfl) (by kernel_rfl) (by kernel_rfl) hQp (Or.inr ⟨by kernel_rfl, rfl⟩) hSS ?_
            try simp only [Act.put, List.setIfInBounds_toArray, List.set_cons_zero, List.set_cons_succ]
            refine wpAnyT_take' (i := 32) (v := undef) hO rfl rfl (by kernel_rfl) (by kernel_rfl) (by kernel_rfl) (by kernel_rfl) hQp (Or.inr ⟨by kernel_rfl, rfl⟩) hSS ?_
            try simp only [Act.put, List.setIfInBounds_toArray, List.set_cons_zero, List.set_cons_succ]
            refine wpAnyT_take' (i := 33) (v := undef) hO rfl rfl (by kernel_rfl) (by kernel_rfl) (by kernel_rfl) (by kernel_rfl) hQp (Or.inr ⟨by kernel_rfl, rfl⟩) hSS ?_
            try simp only [Act.put, List.setIfInBounds_toArray, List.set_cons_zero, List.set_cons_succ]
            refine wpAnyT_take' (i := 34) (v := undef) hO rfl rfl (by kernel_rfl) (by kernel_rfl) (by kernel_rfl) (by kernel_rfl) hQp (Or.inr ⟨by kernel_rfl, rfl⟩) hSS ?_
            try simp only [Act.put, List.setIfInBounds_toArray, List.set_cons_zero, List.set_cons_succ]
            refine wpAnyT_take' (i := 35) (v := undef) hO rfl rfl (by kernel_rfl) (by kernel_rfl) (by kernel_rfl) (by kernel_rfl) hQp (Or.inr ⟨by kernel_rfl, rfl⟩) hSS ?_
            try simp only [Act.put, List.setIfInBounds_toArray, List.set_cons_zero, List.set_cons_succ]
            refine wpAnyT_take' (i := 36) (v := undef) hO rfl rfl (by kernel_rfl) (by kernel_rfl) (by kernel_rfl) (by kernel_rfl) hQp (Or.inr ⟨by kernel_rfl, rfl⟩) hSS ?_
            try simp only [Act.put, List.setIfInBounds_toArray, List.set_cons_zero, List.set_cons_succ]
            refine wpAnyT_take' (i := 37) (v := undef) hO rfl rfl (by kernel_rfl) (by kernel_rfl) (by kernel_rfl) (by kernel_rfl) hQp (Or.inr ⟨by kernel_rfl, rfl⟩) hSS ?_
            try simp only [Act.put, List.setIfInBounds_toArray, List.set_cons_zero, List.set_cons_succ]
            refine wpAnyT_take' (i := 38) (v := undef) hO rfl rfl (by kernel_rfl) (by kernel_rfl) (by kernel_rfl) (by kernel_rfl) hQp (Or.inr ⟨by kernel_rfl, rfl⟩) hSS ?_
            try simp only [Act.put, List.setIfInBounds_toArray, List.set_cons_zero, List.set_cons_succ]
            refine wpAnyT_take' (i := 39) (v := undef) hO rfl rfl (by kernel_rfl) (by kernel_rfl) (by kernel_rfl) (by kernel_rfl) hQp (Or.inr ⟨by kernel_rfl, rfl⟩) hSS ?_
            try simp only [Act.put, List.setIfInBounds_toArray, List.set_cons_zero, List.set_cons_succ]
            refine wpAnyT_take' (i := 40) (v := undef) hO rfl rfl (by kernel_rfl) (by kernel_rfl) (by kernel_rfl) (by kernel_rfl) hQp (Or.inr ⟨by kernel_rfl, rfl⟩) hSS ?_
            try simp only [Act.put, List.setIfInBounds_toArray, List.set_cons_zero, List.set_cons_succ]
            refine wpAnyT_take' (i := 41) (v := ?_) hO rfl rfl (by kernel_rfl) (by kernel_rfl) (by kernel_rfl) (by kernel_rfl) hQp (Or.inl ⟨by kernel_rfl, fun w hSw => ?_⟩) hSS ?_
            rotate_left
            · go_simp; try with_reducible rfl
            try simp only [Act.put, List.setIfInBounds_toArray, List.set_cons_zero, List.set_cons_succ]
            refine wpAnyT_take' (i := 42) (v := ?_) hO rfl rfl (by kernel_rfl) (by kernel_rfl) (by kernel_rfl) (by kernel_rfl) hQp (Or.inl ⟨by kernel_rfl, fun w hSw => ?_⟩) hSS ?_
            rotate_left
            · go_simp; try with_reducible rfl
            try simp only [Act.put, List.setIfInBounds_toArray, List.set_cons_zero, List.set_cons_succ]
            refine wpAnyT_done' hO (by kernel_rfl) ?_ _
            subst hR
            go_wp2_with fail
            go_ret
            exact ⟨rfl, HK6.out⟩
    · have h4I : ¬(4 : Int) < l.length := by omega
      go_enter Try.func7, Try.ntmps7
      go_wp2_with (first
        | (at_builtin; refine wpList_append_slc tyBytes hown0.out HS1.out (bvs_one _) (by simp only [maxLen]; omega) (by omega) (by simp) (by rfl) (.tmp 35) (.tmp 36) (by rfl) (by rfl) (by rfl) ?_; intro v1 w1 hown1 hk1 _ hg1; have k1 : Kept [] w w1 := HK0.out.trans hk1 (fun i hi => .inr (by simp [Value.ownBlock] at hi; omega)); have hN : NewBytes w w1 v1 l := newBytes_of_row (by simpa using hown1); obtain ⟨ao, co, rfl, -, -⟩ := hN.1.form; have HN := Lib.hid hN; have HK1 := Lib.hid k1; clear hown1 hk1 hg1 k1 hN)
        | (go_at_call 25; refine Calls.mono (load_any HN.out.1 (by omega)) ?_; rw [HP.out]; rintro e w2 ⟨hk2, rfl⟩; have HK2 := Lib.hid hk2; clear hk2)
        | (go_at_call 26; refine Calls.mono (refLoad_any (HV.out.kept0 (HK1.out.then HK2.out)) (by omega)) ?_; rw [← load_same _ _ _ _ (rintV_bad _)]; change ∀ e w', RefLoadPost _ (loadP l) e w' → _; rw [HP.out]; rintro e w3 ⟨hk3, rfl⟩; have HK3 := Lib.hid hk3; clear hk3)
              | (go_at_call 10; refine Calls.mono (lives_any _) ?_; rintro e w4 ⟨rfl, hk4⟩; have hk24 := HK2.out.then (HK3.out.then hk4); have cown : (convert 30 9 (.slice ao l.length co)).run Try.prog w4 = .ok (.string (str l)) w4 := Bytes.toStr (HN.out.1.kept0 hk24); have carg : (convert 30 9 (.slice a l.length c)).run Try.prog w4 = .ok (.string (str l)) w4 := Bytes.toStr (HV.out.kept0 (HK1.out.then hk24)); have HK4 := Lib.hid (HK1.out.then hk24); clear hk4 hk24; revert cown carg; generalize str l = sl; intro cown carg)
              | (go_at_call 27; refine Calls.mono (image_nil _) ?_; rintro e w' ⟨rfl, rfl⟩)
              | (go_at_call 28; refine Calls.mono (diskSame_nil _ _) ?_; rintro e w5 ⟨rfl, hk5⟩; have HK5 := Lib.hid (HK4.out.then hk5); clear hk5))
      have hSS : (fun _ : World => True) w4.drew := trivial
      refine wp_region_last' (n := 43) (fun _ : World => True) 43 (by kernel_rfl) (by kernel_rfl) ?_
      change wpAnyT _ _ _ _ _ _ _ _ _ w4.drew
      have HK5 := Lib.hid HK4.out.drew
      clear HK4
      revert hSS HK5
      generalize w4.drew = W
      intro hSS HK5
      refine wpAnyT_start ?_
      intro O R hO hR
      have hQp : ∀ c a (d : Nat) v w, R (.panic c) (a.put (some d) v) w → R (.panic c) a w := by subst hR; exact fun _ _ _ _ _ h => h
      refine wpAnyT_take' (i := 0) (v := ?_) hO rfl rfl (by kernel_rfl) (by kernel_rfl) (by kernel_rfl) (by kernel_rfl) hQp (Or.inl ⟨by kernel_rfl, fun w hSw => ?_⟩) hSS ?_
      rotate_left
      · go_simp; try with_reducible rfl
      try simp only [Act.put, List.setIfInBounds_toArray, List.set_cons_zero, List.set_cons_succ]
      refine wpAnyT_take' (i := 1) (v := ?_) hO rfl rfl (by kernel_rfl) (by kernel_rfl) (by kernel_rfl) (by kernel_rfl) hQp (Or.inl ⟨by kernel_rfl, fun w hSw => ?_⟩) hSS ?_
      rotate_left
      · go_simp; try with_reducible rfl
      try simp only [Act.put, List.setIfInBounds_toArray, List.set_cons_zero, List.set_cons_succ]
      refine wpAnyT_take' (i := 2) (v := ?_) hO rfl rfl (by kernel_rfl) (by kernel_rfl) (by kernel_rfl) (by kernel_rfl) hQp (Or.inl ⟨by kernel_rfl, fun w hSw => ?_⟩) hSS ?_
      rotate_left
      · go_simp; try with_reducible rfl
      try simp only [Act.put, List.setIfInBounds_toArray, List.set_cons_zero, List.set_cons_succ]
      refine wpAnyT_take' (i := 3) (v := ?_) hO rfl rfl (by kernel_rfl) (by kernel_rfl) (by kernel_rfl) (by kernel_rfl) hQp (Or.inl ⟨by kernel_rfl, fun w hSw => ?_⟩) hSS ?_
      rotate_left
      · go_simp; try with_reducible rfl
      try simp only [Act.put, List.setIfInBounds_toArray, List.set_cons_zero, List.set_cons_succ]
      refine wpAnyT_one' (i := 4) hO rfl (by kernel_rfl) (by kernel_rfl) (fun K hK => ?_)
      go_simp
      refine Calls.mono (image_nil _) ?_
      rintro e w' ⟨rfl, rfl⟩
      refine hK _ _ (.inr hSS) ?_
      clear hK K
      try simp only [Act.put, List.setIfInBounds_toArray, List.set_cons_zero, List.set_cons_succ]
      refine wpAnyT_take' (i := 5) (v := ?_) hO rfl rfl (by kernel_rfl) (by kernel_rfl) (by kernel_rfl) (by kernel_rfl) hQp (Or.inl ⟨by kernel_rfl, fun w hSw => ?_⟩) hSS ?_
      rotate_left
      · go_simp; try with_reducible rfl
      try simp only [Act.put, List.setIfInBounds_toArray, List.set_cons_zero, List.set_cons_succ]
      refine wpAnyT_take' (i := 6) (v := ?_) hO rfl rfl (by kernel_rfl) (by kernel_rfl) (by kernel_rfl) (by kernel_rfl) hQp (Or.inl ⟨by kernel_rfl, fun w hSw => ?_⟩) hSS ?_
      rotate_left
      · go_simp; try with_reducible rfl
      try simp only [Act.put, List.setIfInBounds_toArray, List.set_cons_zero, List.set_cons_succ]
      refine wpAnyT_take' (i := 7) (v := ?_) hO rfl rfl (by kernel_rfl) (by kernel_rfl) (by kernel_rfl) (by kernel_rfl) hQp (Or.inl ⟨by kernel_rfl, fun w hSw => ?_⟩) hSS ?_
      rotate_left
      · go_simp; try with_reducible rfl
      try simp only [Act.put, List.setIfInBounds_toArray, List.set_cons_zero, List.set_cons_succ]
      refine wpAnyT_take' (i := 8) (v := ?_) hO rfl rfl (by kernel_rfl) (by kernel_rfl) (by kernel_rfl) (by kernel_rfl) hQp (Or.inl ⟨by kernel_rfl, fun w hSw => ?_⟩) hSS ?_
      rotate_left
      · go_simp; try with_reducible rfl
      try simp only [Act.put, List.setIfInBounds_toArray, List.set_cons_zero, List.set_cons_succ]
      refine wpAnyT_take' (i := 9) (v := ?_) hO rfl rfl (by kernel_rfl) (by kernel_rfl) (by kernel_rfl) (by kernel_rfl) hQp (Or.inl ⟨by kernel_rfl, fun w hSw => ?_⟩) hSS ?_
      rotate_left
      · go_simp; try with_reducible rfl
      try simp only [Act.put, List.setIfInBounds_toArray, List.set_cons_zero, List.set_cons_succ]
      refine wpAnyT_take' (i := 10) (v := ?_) hO rfl rfl (by kernel_rfl) (by kernel_rfl) (by kernel_rfl) (by kernel_rfl) hQp (Or.inl ⟨by kernel_rfl, fun w hSw => ?_⟩) hSS ?_
      rotate_left
      · go_simp; try with_reducible rfl
      try simp only [Act.put, List.setIfInBounds_toArray, List.set_cons_zero, List.set_cons_succ]
      refine wpAnyT_one' (i := 11) hO rfl (by kernel_rfl) (by kernel_rfl) (fun K hK => ?_)
      go_simp
      refine Calls.mono (diskSame_nil _ _) ?_
      rintro e w5 ⟨rfl, hk5⟩
      have HK6 := Lib.hid (HK5.out.then hk5)
      clear hSS hk5
      have hSS : (fun _ : World => True) w5 := trivial
      refine hK _ _ (.inr hSS) ?_
      clear hK K
      try simp only [Act.put, List.setIfInBounds_toArray, List.set_cons_zero, List.set_cons_succ]
      refine wpAnyT_take' (i := 12) (v := ?_) hO rfl rfl (by kernel_rfl) (by kernel_rfl) (by kernel_rfl) (by kernel_rfl) hQp (Or.inl ⟨by kernel_rfl, fun w hSw => ?_⟩) hSS ?_
      rotate_left
      · go_simp; try with_reducible rfl
      try simp only [Act.put, List.setIfInBounds_toArray, List.set_cons_zero, List.set_cons_succ]
      refine wpAnyT_take' (i := 13) (v := ?_) hO rfl rfl (by kernel_rfl) (by kernel_rfl) (by kernel_rfl) (by kernel_rfl) hQp (Or.inl ⟨by kernel_rfl, fun w hSw => ?_⟩) hSS ?_
      rotate_left
      · go_simp; try with_reducible rfl
      try simp only [Act.put, List.setIfInBounds_toArray, List.set_cons_zero, List.set_cons_succ]
      refine wpAnyT_take' (i := 14) (v := ?_) hO rfl rfl (by kernel_rfl) (by kernel_rfl) (by kernel_rfl) (by kernel_rfl) hQp (Or.inl ⟨by kernel_rfl, fun w hSw => ?_⟩) hSS ?_
      rotate_left
      · go_simp; try with_reducible rfl
      try simp only [Act.put, List.setIfInBounds_toArray, List.set_cons_zero, List.set_cons_succ]
      refine wpAnyT_take' (i := 15) (v := undef) hO rfl rfl (by kernel_rfl) (by kernel_rfl) (by kernel_rfl) (by kernel_rfl) hQp (Or.inr ⟨by kernel_rfl, rfl⟩) hSS ?_
      try simp only [Act.put, List.setIfInBounds_toArray, List.set_cons_zero, List.set_cons_succ]
      refine wpAnyT_take' (i := 16) (v := undef) hO rfl rfl (by kernel_rfl) (by kernel_rfl) (by kernel_rfl) (by kernel_rfl) hQp (Or.inr ⟨by kernel_rfl, rfl⟩) hSS ?_
      try simp only [Act.put, List.setIfInBounds_toArray, List.set_cons_zero, List.set_cons_succ]
      refine wpAnyT_take' (i := 17) (v := undef) hO rfl rfl (by kernel_rfl) (by kernel_rfl) (by kernel_rfl) (by kernel_rfl) hQp (Or.inr ⟨by kernel_rfl, rfl⟩) hSS ?_
      try simp only [Act.put, List.setIfInBounds_toArray, List.set_cons_zero, List.set_cons_succ]
      refine wpAnyT_take' (i := 18) (v := undef) hO rfl rfl (by kernel_rfl) (by kernel_rfl) (by kernel_rfl) (by kernel_rfl) hQp (Or.inr ⟨by kernel_rfl, rfl⟩) hSS ?_
      try simp only [Act.put, List.setIfInBounds_toArray, List.set_cons_zero, List.set_cons_succ]
      refine wpAnyT_take' (i := 19) (v := undef) hO rfl rfl (by kernel_rfl) (by kernel_rfl) (by kernel_rfl) (by kernel_rfl) hQp (Or.inr ⟨by kernel_rfl, rfl⟩) hSS ?_
      try simp only [Act.put, List.setIfInBounds_toArray, List.set_cons_zero, List.set_cons_succ]
      refine wpAnyT_take' (i := 20) (v := undef) hO rfl rfl (by kernel_rfl) (by kernel_rfl) (by kernel_rfl) (by kernel_rfl) hQp (Or.inr ⟨by kernel_rfl, rfl⟩) hSS ?_
      try simp only [Act.put, List.setIfInBounds_toArray, List.set_cons_zero, List.set_cons_succ]
      refine wpAnyT_take' (i := 21) (v := undef) hO rfl rfl (by kernel_rfl) (by kernel_rfl) (by kernel_rfl) (by kernel_rfl) hQp (Or.inr ⟨by kernel_rfl, rfl⟩) hSS ?_
      try simp only [Act.put, List.setIfInBounds_toArray, List.set_cons_zero, List.set_cons_succ]
      refine wpAnyT_take' (i := 22) (v := undef) hO rfl rfl (by kernel_rfl) (by kernel_rfl) (by kernel_rfl) (by kernel_rfl) hQp (Or.inr ⟨by kernel_rfl, rfl⟩) hSS ?_
      try simp only [Act.put, List.setIfInBounds_toArray, List.set_cons_zero, List.set_cons_succ]
      refine wpAnyT_take' (i := 23) (v := undef) hO rfl rfl (by kernel_rfl) (by kernel_rfl) (by kernel_rfl) (by kernel_rfl) hQp (Or.inr ⟨by kernel_rfl, rfl⟩) hSS ?_
      try simp only [Act.put, List.setIfInBounds_toArray, List.set_cons_zero, List.set_cons_succ]
      refine wpAnyT_take' (i := 24) (v := undef) hO rfl rfl (by kernel_rfl) (by kernel_rfl) (by kernel_rfl) (by kernel_rfl) hQp (Or.inr ⟨by kernel_rfl, rfl⟩) hSS ?_
      try simp only [Act.put, List.setIfInBounds_toArray, List.set_cons_zero, List.set_cons_succ]
      refine wpAnyT_take' (i := 25) (v := undef) hO rfl rfl (by kernel_rfl) (by kernel_rfl) (by kernel_rfl) (by kernel_rfl) hQp (Or.inr ⟨by kernel_rfl, rfl⟩) hSS ?_
      try simp only [Act.put, List.setIfInBounds_toArray, List.set_cons_zero, List.set_cons_succ]
      refine wpAnyT_take' (i := 26) (v := undef) hO rfl rfl (by kernel_rfl) (by kernel_rfl) (by kernel_rfl) (by kernel_rfl) hQp (Or.inr ⟨by kernel_rfl, rfl⟩) hSS ?_
      try simp only [Act.put, List.setIfInBounds_toArray, List.set_cons_zero, List.set_cons_succ]
      refine wpAnyT_take' (i := 27) (v := undef) hO rfl rfl (by kernel_rfl) (by kernel_rfl) (by kernel_rfl) (by kernel_rfl) hQp (Or.inr ⟨by kernel_rfl, rfl⟩) hSS ?_
      try simp only [Act.put, List.setIfInBounds_toArray, List.set_cons_zero, List.set_cons_succ]
      refine wpAnyT_take' (i := 28) (v := undef) hO rfl rfl (by kernel_rfl) (by kernel_rfl) (by kernel_rfl) (by kernel_rfl) hQp (Or.inr ⟨by kernel_rfl, rfl⟩) hSS ?_
      try simp only [Act.put, List.setIfInBounds_toArray, List.set_cons_zero, List.set_cons_succ]
      refine wpAnyT_take' (i := 29) (v := undef) hO rfl rfl (by kernel_rfl) (by kernel_rfl) (by kernel_rfl) (by kernel_rfl) hQp (Or.inr ⟨by kernel_rfl, rfl⟩) hSS ?_
      try simp only [Act.put, List.setIfInBounds_toArray, List.set_cons_zero, List.set_cons_succ]
      refine wpAnyT_take' (i := 30) (v := undef) hO rfl rfl (by kernel_rfl) (by kernel_rfl) (by kernel_rfl) (by kernel_rfl) hQp (Or.inr ⟨by kernel_rfl, rfl⟩) hSS ?_
      try simp only [Act.put, List.setIfInBounds_toArray, List.set_cons_zero, List.set_cons_succ]
      refine wpAnyT_take' (i := 31) (v := undef) hO rfl rfl (by kernel_rfl) (by kernel_rfl) (by kernel_rfl) (by kernel_rfl) hQp (Or.inr ⟨by kernel_rfl, rfl⟩) hSS ?_
      try simp only [Act.put, List.setIfInBounds_toArray, List.set_cons_zero, List.set_cons_succ]
      refine wpAnyT_take' (i := 32) (v := undef) hO rfl rfl (by kernel_rfl) (by kernel_rfl) (by kernel_rfl) (by kernel_rfl) hQp (Or.inr ⟨by kernel_rfl, rfl⟩) hSS ?_
      try simp only [Act.put, List.setIfInBounds_toArray, List.set_cons_zero, List.set_cons_succ]
      refine wpAnyT_take' (i := 33) (v := undef) hO rfl rfl (by kernel_rfl) (by kernel_rfl) (by kernel_rfl) (by kernel_rfl) hQp (Or.inr ⟨by kernel_rfl, rfl⟩) hSS ?_
      try simp only [Act.put, List.setIfInBounds_toArray, List.set_cons_zero, List.set_cons_succ]
      refine wpAnyT_take' (i := 34) (v := undef) hO rfl rfl (by kernel_rfl) (by kernel_rfl) (by kernel_rfl) (by kernel_rfl) hQp (Or.inr ⟨by kernel_rfl, rfl⟩) hSS ?_
      try simp only [Act.put, List.setIfInBounds_toArray, List.set_cons_zero, List.set_cons_succ]
      refine wpAnyT_take' (i := 35) (v := undef) hO rfl rfl (by kernel_rfl) (by kernel_rfl) (by kernel_rfl) (by kernel_rfl) hQp (Or.inr ⟨by kernel_rfl, rfl⟩) hSS ?_
      try simp only [Act.put, List.setIfInBounds_toArray, List.set_cons_zero, List.set_cons_succ]
      refine wpAnyT_take' (i := 36) (v := undef) hO rfl rfl (by kernel_rfl) (by kernel_rfl) (by kernel_rfl) (by kernel_rfl) hQp (Or.inr ⟨by kernel_rfl, rfl⟩) hSS ?_
      try simp only [Act.put, List.setIfInBounds_toArray, List.set_cons_zero, List.set_cons_succ]
      refine wpAnyT_take' (i := 37) (v := undef) hO rfl rfl (by kernel_rfl) (by kernel_rfl) (by kernel_rfl) (by kernel_rfl) hQp (Or.inr ⟨by kernel_rfl, rfl⟩) hSS ?_
      try simp only [Act.put, List.setIfInBounds_toArray, List.set_cons_zero, List.set_cons_succ]
      refine wpAnyT_take' (i := 38) (v := undef) hO rfl rfl (by kernel_rfl) (by kernel_rfl) (by kernel_rfl) (by kernel_rfl) hQp (Or.inr ⟨by kernel_rfl, rfl⟩) hSS ?_
      try simp only [Act.put, List.setIfInBounds_toArray, List.set_cons_zero, List.set_cons_succ]
      refine wpAnyT_take' (i := 39) (v := undef) hO rfl rfl (by kernel_rfl) (by kernel_rfl) (by kernel_rfl) (by kernel_rfl) hQp (Or.inr ⟨by kernel_rfl, rfl⟩) hSS ?_
      try simp only [Act.put, List.setIfInBounds_toArray, List.set_cons_zero, List.set_cons_succ]
      refine wpAnyT_take' (i := 40) (v := undef) hO rfl rfl (by kernel_rfl) (by kernel_rfl) (by kernel_rfl) (by kernel_rfl) hQp (Or.inr ⟨by kernel_rfl, rfl⟩) hSS ?_
      try simp only [Act.put, List.setIfInBounds_toArray, List.set_cons_zero, List.set_cons_succ]
      refine wpAnyT_take' (i := 41) (v := ?_) hO rfl rfl (by kernel_rfl) (by kernel_rfl) (by kernel_rfl) (by kernel_rfl) hQp (Or.inl ⟨by kernel_rfl, fun w hSw => ?_⟩) hSS ?_
      rotate_left
      · go_simp; try with_reducible rfl
      try simp only [Act.put, List.setIfInBounds_toArray, List.set_cons_zero, List.set_cons_succ]
      refine wpAnyT_take' (i := 42) (v := ?_) hO rfl rfl (by kernel_rfl) (by kernel_rfl) (by kernel_rfl) (by kernel_rfl) hQp (Or.inl ⟨by kernel_rfl, fun w hSw => ?_⟩) hSS ?_
      rotate_left
      · go_simp; try with_reducible rfl
      try simp only [Act.put, List.setIfInBounds_toArray, List.set_cons_zero, List.set_cons_succ]
      refine wpAnyT_done' hO (by kernel_rfl) ?_ _
      subst hR
      go_wp2_with fail
      go_ret
      exact ⟨rfl, HK6.out⟩
end Go.Proofs.Ytfkdoinlbdcaaaa

/- For every list of calls, BlockSyncs returns true. No condition. -/
import Derived.Test.YtfkdoinlbdcaaaaCalm
import Derived.Test.YtfkdoinlbdcaaaaLives
namespace Go.Proofs.Ytfkdoinlbdcaaaa
open Go.RowKit

theorem l_len {n : Nat} (h : n ≤ maxLen) : (n : Int) ≤ 9223372036854775807 := by simp only [maxLen] at h; omega

set_option maxRecDepth 10000 in
set_option maxHeartbeats 4000000 in
theorem syncs_any (a : Option Addr) (c : Nat) (os : List OpV) (w : World) (hO : Ops w (.slice a os.length c) os) :
    Calls Try.prog 4 #[.slice a os.length c] w fun e w' => e = .returned (.bool true) ∧ Kept [] w w' := by
  have HO := Lib.hid hO
  have hn := l_len hO.2.1
  clear hO
  go_enter Try.func4, Try.ntmps4
  go_wp2_with (first
    | (go_at_call 9; refine (new_any 6 _ (by decide) (by decide)).mono ?_; rintro e wa ⟨b, F, rfl, hd, hk, hF⟩; have HD := Lib.hid hd; have HK := Lib.hid hk; have HF := Lib.hid hF; clear hd hk hF)
    | (go_at_call 10; refine (lives_any _).mono ?_; rintro e wb ⟨rfl, hk⟩; have HD1 := Lib.hid (HD.out.kept0 hk); have HK1 := Lib.hid (HK.out.then hk); clear hk HD HK))
  go_loopw [5] (fun i wr => ∃ (k : Nat) (d : PDisk), i = .int .i64 k ∧ k ≤ os.length ∧ DiskRep wr b F d ∧ d.Calm 6 ∧ Kept [] w wr) (fun i _ => os.length - (intOf i).toNat)
  case atStart => exact ⟨0, _, rfl, Nat.zero_le _, HD1.out, PDisk.Calm.new 6, HK1.out⟩
  case round =>
    obtain ⟨k, d, rfl, hk, hd, hc, hkr⟩ := hrel
    have HD := Lib.hid hd
    have HC := Lib.hid hc
    clear hd hc HD1 HK1
    by_cases hlt : k < os.length ∧ k < 30
    · obtain ⟨hlt, h30⟩ := hlt
      obtain ⟨g, o, rfl, q0, q1, -, q3, -, hg, hat0, hat⟩ := HO.out.at hkr k hlt
      obtain ⟨l, hl, _⟩ := hat0.2.2.2.1
      have hap : Hid (∀ g, vblk os[k].vb = some g → g ∉ F) := Lib.hid (fun g hg hx => by have := hl.lt hg; have := HF.out g hx; omega)
      have hl1 := Lib.hid (hl.kept0 hkr)
      clear hl hat hat0
      revert q0 q1 q3 hap hl1
      generalize os[k] = ov
      obtain ⟨kd, n, kk, vb, vl⟩ := ov
      intro q0 q1 q3 hap hl1
      simp only at q0 q1 q3
      have h30' : (k : Int) < 30 := by omega
      have hlt' : (k : Int) < os.length := by omega
      go_wp2_with fail
      go_region_with (go_at_call 11; refine Calls.mono (write_any (HD.out.kept0 (Kept.refl _ wr).drew) n hl1.out.drew hap.out) ?_; rintro e wx ⟨rfl, hd, hk2⟩)
      all_goals
        have hgF : g ∉ F := fun hx => by have := HF.out g hx; omega
        have hk3 := hkr.drew.trans hk2 (fun i hi => .inr (HF.out i hi))
        have q0' := hk2.cell (p := ⟨g, o + k * 5, none⟩) q0 hgF
        have hc1 := HC.out.write n l
        have HD2 := Lib.hid hd
        have HC2 := Lib.hid hc1
        have HK3 := Lib.hid hk3
        clear hd hc1 hk2 hk3 q0 q1 q3 HC HD hgF hap hl1
        by_cases hkd : kd = 2
        · subst hkd
          go_wp2_with (go_at_call 12; refine Calls.mono (sync_any HD2.out) ?_; rintro e wy ⟨rfl, hd, hk4⟩)
          go_roundw
          case rel =>
            refine ⟨k + 1, _, by go_num, by omega, hd, ?_, HK3.out.trans hk4 (fun i hi => .inr (HF.out i hi))⟩
            rw [HC2.out.sync]
            exact HC2.out.synced
          case measure => simp [intOf]; omega
        · go_wp2_with fail
          go_roundw
          case rel => exact ⟨k + 1, _, by go_num, by omega, HD2.out, HC2.out, HK3.out⟩
          case measure => simp [intOf]; omega
    · have hcase : (k : Int) < os.length ∧ ¬(k : Int) < 30 ∨ ¬(k : Int) < os.length := by omega
      clear hlt hk
      rcases hcase with ⟨h1, h2⟩ | h1
      all_goals
        go_wp2_with fail
      all_goals
        clear h1
        have hka := (Kept.refl [] wr).alloc (.cells #[.string ⟨#[]⟩, .string ⟨#[]⟩, .string ⟨#[]⟩, .string ⟨#[]⟩, .string ⟨#[]⟩, .string ⟨#[]⟩] 34)
        have hb0 : (wr.alloc (.cells #[.string ⟨#[]⟩, .string ⟨#[]⟩, .string ⟨#[]⟩, .string ⟨#[]⟩, .string ⟨#[]⟩, .string ⟨#[]⟩] 34)).heap[wr.heap.size]? = some (.cells (filled 6 0 (fun j => .string (str (d.now j))) (.string ⟨#[]⟩)) 34 (0, 0)) := heap_alloc_new wr _
        have hs0 := Lib.hid (Nat.le_refl wr.heap.size)
        have hs1 := Lib.hid hkr.size
        have hs2 := Lib.hid (HD.out.lt)
        have HD5 := Lib.hid (HD.out.kept0 hka)
        have HK5 := Lib.hid (hkr.then hka)
        clear HD hka hkr
        revert hb0 hs0 hs1 hs2 HD5 HK5
        generalize (wr.alloc (.cells #[.string ⟨#[]⟩, .string ⟨#[]⟩, .string ⟨#[]⟩, .string ⟨#[]⟩, .string ⟨#[]⟩, .string ⟨#[]⟩] 34)) = w5
        generalize wr.heap.size = ab
        intro hb0 hs0 hs1 hs2 HD5 HK5
        have hab : Hid (ab ∉ F) := Lib.hid (fun hx => by have := hs2.out ab hx; omega)
        go_loopw [7] (fun i wr => ∃ k : Nat, i = .int .i64 k ∧ k ≤ 6 ∧ wr.heap[ab]? = some (.cells (filled 6 k (fun j => .string (str (d.now j))) (.string ⟨#[]⟩)) 34 (0, 0)) ∧ DiskRep wr b F d ∧ Kept [] w wr) (fun i _ => 6 - (intOf i).toNat)
        case atStart => exact ⟨0, rfl, by decide, hb0, HD5.out, HK5.out⟩
        case round =>
          obtain ⟨k, rfl, hk, hb, hd, hkr⟩ := hrel
          clear hb0 HD5 HK5
          have HD := Lib.hid hd
          have HB := Lib.hid hb
          clear hd hb
          by_cases hlt : k < 6
          · go_wp2_with (go_at_call 13; refine Calls.mono (read_any HD.out k) ?_; rw [HC.out.read hlt]; rintro e wx ⟨v, rfl, hv, hk2⟩; have cv : (convert 30 9 v).run Try.prog wx = .ok (.string (str (d.now k))) wx := Bytes.toStr hv.1; have hb := hk2.heap HB.out (by simp); have c0 := cell_head hb (filled_at 6 k _ _ k hlt); have c1 := free_head (o := k) hb)
            case roundEnd => exact ⟨⟨k + 1, by go_num, by omega, filled_store hb, filled_disk (HD.out.kept0 hk2) hb (by decide) hab.out _ _, filled_kept _ _ hs1.out (hkr.then hk2)⟩, by simp [intOf]; omega⟩
          · obtain rfl : k = 6 := by omega
            have HK := Lib.hid hkr
            clear hkr hlt
            go_wp2_with (first
              | (go_at_call 12; refine Calls.mono (sync_any HD.out) ?_; rw [HC.out.sync]; rintro e wy ⟨rfl, hd, hk⟩; have HC1 := Lib.hid HC.out.synced; have HD1 := Lib.hid hd; have HB1 := Lib.hid (hk.heap HB.out hab.out); have HK1 := Lib.hid (HK.out.trans hk (fun i hi => .inr (HF.out i hi))); clear hd hk HD HB HK)
              | (go_at_call 15; have hl := loose_any HD1.out; rw [PDisk.synced_loose] at hl; refine hl.mono ?_; clear hl; rintro e wl ⟨v, rfl, hv, hk⟩; obtain ⟨al, cl, rfl, -, -⟩ := hv.form; have HD2 := Lib.hid (HD1.out.kept0 hk); have HB2 := Lib.hid (hk.heap HB1.out (by simp)); have HK2 := Lib.hid (HK1.out.then hk); clear hv hk HD1 HB1 HK1)
              | (go_at_call_of 14 (Value.slice none 0 0); refine Calls.mono (crash_yes HD3.out [] (slc_nil _ _) (by simp) (by simp) (PDisk.keeps_nil _) (by simp [vblk])) ?_; rintro e wn ⟨F', rfl, hd, hk, hF'⟩; have HD4 := Lib.hid hd; have HB4 := Lib.hid (hk.heap HB3.out hab.out); have HK4 := Lib.hid (HK3.out.trans hk (fun i hi => .inr (HF.out i hi))); have HC4 := Lib.hid (PDisk.crash_calm HC1.out.2.2 (PDisk.keeps_nil d.synced)); clear hd hk hF' HD3 HB3 HK3)
              | (go_at_call 14; have ka := (Kept.refl [] wl).alloc (.cells #[.int .i64 0, .int .i64 0] 39); have hsl := slc_new wl (keptCells [(0, 0)]) 2 1 39 wl.heap.size rfl rfl (by decide); have hd := HD2.out.kept0 ka; refine Calls.mono (crash_no hd [(0, 0)] hsl (by intro k hk; simp at hk; subst hk; decide) (by decide) (PDisk.synced_keeps d 0)) ?_; rintro e wm ⟨rfl, hk⟩; have HD3 := Lib.hid (hd.kept0 hk); have HB3 := Lib.hid ((ka.then hk).heap HB2.out (by simp)); have HK3 := Lib.hid (HK2.out.then (ka.then hk)); clear hk hd hsl ka HD2 HB2 HK2))
            revert HD4 HC4
            generalize (d.synced.crash []).2 = d'
            intro HD4 HC4
            obtain ⟨hc4, -, hnow⟩ := HC4.out
            have HC5 := Lib.hid hc4
            have HN := Lib.hid hnow
            clear hc4 hnow HC4
            go_loopw [10] (fun i wr => ∃ k : Nat, i = .int .i64 k ∧ k ≤ 6 ∧ wr.heap[ab]? = some (.cells (filled 6 6 (fun j => .string (str (d.now j))) (.string ⟨#[]⟩)) 34 (0, 0)) ∧ DiskRep wr b F' d' ∧ Kept [] w wr) (fun i _ => 6 - (intOf i).toNat)
            case atStart => exact ⟨0, rfl, by decide, HB4.out, HD4.out, HK4.out⟩
            case round =>
              obtain ⟨k, rfl, hk, hb, hd, hkr⟩ := hrel
              clear HD4 HB4 HK4
              have HD := Lib.hid hd
              have HB := Lib.hid hb
              clear hd hb
              by_cases hlt : k < 6
              · have hsame : d'.now (k : Nat) = d.now (k : Nat) := by rw [HN.out k]; exact PDisk.synced_sure (by rw [HC.out.2.2]; exact hlt)
                have HS := Lib.hid hsame
                clear hsame
                go_wp2_with (go_at_call 13; refine Calls.mono (read_any HD.out k) ?_; rw [HC5.out.read hlt, HS.out]; rintro e wx ⟨v, rfl, hv, hk2⟩; have cv : (convert 30 9 v).run Try.prog wx.drew = .ok (.string (str (d.now k))) wx.drew := Bytes.toStr hv.1.drew; have hb := hk2.heap HB.out (by simp); have c0 := cell_head hb (filled_at 6 6 _ _ k hlt))
                rw [if_pos hlt] at c0
                clear hb
                have hSS : (fun w' : World => w' = wx.drew) wx.drew := rfl
                refine wp_region_last' (n := 10) (fun w' : World => w' = wx.drew) 10 (by kernel_rfl) (by kernel_rfl) ?_
                change wpAnyT _ _ _ _ _ _ _ _ _ wx.drew
                refine wpAnyT_start ?_
                intro O R hO hR
                have hQp : ∀ c a (d : Nat) v w, R (.panic c) (a.put (some d) v) w → R (.panic c) a w := by subst hR; exact fun _ _ _ _ _ h => h
                refine wpAnyT_take' (i := 0) (v := ?_) hO rfl rfl (by kernel_rfl) (by kernel_rfl) (by kernel_rfl) (by kernel_rfl) hQp (Or.inl ⟨by kernel_rfl, fun w hSw => ?_⟩) hSS ?_
                rotate_left
                · have hw0 : w = wx.drew := hSw; subst hw0; go_simp; try with_reducible rfl
                try simp only [Act.put, List.setIfInBounds_toArray, List.set_cons_zero, List.set_cons_succ]
                refine wpAnyT_take' (i := 1) (v := ?_) hO rfl rfl (by kernel_rfl) (by kernel_rfl) (by kernel_rfl) (by kernel_rfl) hQp (Or.inl ⟨by kernel_rfl, fun w hSw => ?_⟩) hSS ?_
                rotate_left
                · have hw0 : w = wx.drew := hSw; subst hw0; go_simp; try with_reducible rfl
                try simp only [Act.put, List.setIfInBounds_toArray, List.set_cons_zero, List.set_cons_succ]
                refine wpAnyT_take' (i := 2) (v := ?_) hO rfl rfl (by kernel_rfl) (by kernel_rfl) (by kernel_rfl) (by kernel_rfl) hQp (Or.inl ⟨by kernel_rfl, fun w hSw => ?_⟩) hSS ?_
                rotate_left
                · have hw0 : w = wx.drew := hSw; subst hw0; go_simp; try with_reducible rfl
                try simp only [Act.put, List.setIfInBounds_toArray, List.set_cons_zero, List.set_cons_succ]
                refine wpAnyT_take' (i := 3) (v := ?_) hO rfl rfl (by kernel_rfl) (by kernel_rfl) (by kernel_rfl) (by kernel_rfl) hQp (Or.inl ⟨by kernel_rfl, fun w hSw => ?_⟩) hSS ?_
                rotate_left
                · have hw0 : w = wx.drew := hSw; subst hw0; go_simp; try with_reducible rfl
                try simp only [Act.put, List.setIfInBounds_toArray, List.set_cons_zero, List.set_cons_succ]
                refine wpAnyT_take' (i := 4) (v := ?_) hO rfl rfl (by kernel_rfl) (by kernel_rfl) (by kernel_rfl) (by kernel_rfl) hQp (Or.inl ⟨by kernel_rfl, fun w hSw => ?_⟩) hSS ?_
                rotate_left
                · have hw0 : w = wx.drew := hSw; subst hw0; go_simp; try with_reducible rfl
                try simp only [Act.put, List.setIfInBounds_toArray, List.set_cons_zero, List.set_cons_succ]
                refine wpAnyT_take' (i := 5) (v := ?_) hO rfl rfl (by kernel_rfl) (by kernel_rfl) (by kernel_rfl) (by kernel_rfl) hQp (Or.inl ⟨by kernel_rfl, fun w hSw => ?_⟩) hSS ?_
                rotate_left
                · have hw0 : w = wx.drew := hSw; subst hw0; go_simp; try with_reducible rfl
                try simp only [Act.put, List.setIfInBounds_toArray, List.set_cons_zero, List.set_cons_succ]
                refine wpAnyT_take' (i := 6) (v := ?_) hO rfl rfl (by kernel_rfl) (by kernel_rfl) (by kernel_rfl) (by kernel_rfl) hQp (Or.inl ⟨by kernel_rfl, fun w hSw => ?_⟩) hSS ?_
                rotate_left
                · have hw0 : w = wx.drew := hSw; subst hw0; go_simp; try with_reducible rfl
                try simp only [Act.put, List.setIfInBounds_toArray, List.set_cons_zero, List.set_cons_succ]
                refine wpAnyT_take' (i := 7) (v := ?_) hO rfl rfl (by kernel_rfl) (by kernel_rfl) (by kernel_rfl) (by kernel_rfl) hQp (Or.inl ⟨by kernel_rfl, fun w hSw => ?_⟩) hSS ?_
                rotate_left
                · have hw0 : w = wx.drew := hSw; subst hw0; go_simp; try with_reducible rfl
                try simp only [Act.put, List.setIfInBounds_toArray, List.set_cons_zero, List.set_cons_succ]
                refine wpAnyT_take' (i := 8) (v := ?_) hO rfl rfl (by kernel_rfl) (by kernel_rfl) (by kernel_rfl) (by kernel_rfl) hQp (Or.inl ⟨by kernel_rfl, fun w hSw => ?_⟩) hSS ?_
                rotate_left
                · have hw0 : w = wx.drew := hSw; subst hw0; go_simp; try with_reducible rfl
                try simp only [Act.put, List.setIfInBounds_toArray, List.set_cons_zero, List.set_cons_succ]
                refine wpAnyT_take' (i := 9) (v := ?_) hO rfl rfl (by kernel_rfl) (by kernel_rfl) (by kernel_rfl) (by kernel_rfl) hQp (Or.inl ⟨by kernel_rfl, fun w hSw => ?_⟩) hSS ?_
                rotate_left
                · have hw0 : w = wx.drew := hSw; subst hw0; go_simp; try with_reducible rfl
                try simp only [Act.put, List.setIfInBounds_toArray, List.set_cons_zero, List.set_cons_succ]
                refine wpAnyT_done' hO (by kernel_rfl) ?_ _
                subst hR
                go_wp2_with fail
                case roundEnd => exact ⟨⟨k + 1, by go_num, by omega, hk2.heap HB.out (by simp), HD.out.kept0 hk2.drew, (hkr.then hk2).drew⟩, by simp [intOf]; omega⟩
              · obtain rfl : k = 6 := by omega
                go_wp2_with fail
                go_ret
                exact ⟨rfl, hkr⟩
end Go.Proofs.Ytfkdoinlbdcaaaa

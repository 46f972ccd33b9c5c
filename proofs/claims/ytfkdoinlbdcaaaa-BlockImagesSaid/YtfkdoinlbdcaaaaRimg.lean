/- The document's Image. -/
import Derived.Test.YtfkdoinlbdcaaaaRput
import Derived.Test.YtfkdoinlbdcaaaaImg
namespace Go.Proofs.Ytfkdoinlbdcaaaa
open Go.RowKit

set_option maxRecDepth 10000 in
set_option maxHeartbeats 3200000 in
theorem rimage_any {w : World} {b : Nat} {F : List Nat} {d : PDisk} (h : RefRep w b F d) :
    Calls Try.prog 29 #[.pointer (some ⟨b, 0, none⟩)] w fun e w' => ∃ v, e = .returned v ∧ NewBytes w w' v (imageP d.sure) ∧ Kept [] w w' := by
  obtain ⟨sb, nb, lb, scap, ncap, lcap, svals, nvals, lvals, rfl, h⟩ := h
  have hpos := h.ok.pos
  have hle := h.ok.le
  have hfew := Lib.hid (imgUp_few h.ok.s64)
  have hlen : svals.length = d.sure.length := h.sure.1
  have HLEN := Lib.hid hlen
  have H := Lib.hid h
  have c0 := h.c0
  have hposI : (1 : Int) ≤ d.sure.length := by omega
  have hleI : (d.sure.length : Int) ≤ 16384 := by omega
  unfold imageP
  clear h hlen
  go_enter Try.func29, Try.ntmps29
  go_wp2_with fail
  go_loopw [3, 4, 5] (fun all c i wr => ∃ (j m n : Nat) (a : Option Addr) (cc : Nat), i = .int .i64 j ∧ j ≤ d.sure.length ∧ c = .int .i64 n ∧ n = (imgUp d.sure j).2 ∧ all = .slice a m cc ∧ m = (imgUp d.sure j).1.length ∧ wr.ownsRow w.heap.size 5 1 all m ((imgUp d.sure j).1.map bv) ∧ Kept [] w wr) (fun _ _ i _ => d.sure.length - (intOf i).toNat)
  case atStart => exact ⟨0, 0, 0, none, 0, rfl, Nat.zero_le _, rfl, rfl, rfl, rfl, World.ownsRow_nil _ _ _ _, Kept.refl _ _⟩
  case round =>
    obtain ⟨j, m, n, a, cc, rfl, hj, rfl, hn, rfl, hm, hall, hkr⟩ := hrel
    have HN := Lib.hid hn
    have HM := Lib.hid hm
    have HALL := Lib.hid hall
    have HK := Lib.hid hkr
    have hf := hfew.out j hj
    rw [← hn, ← hm] at hf
    have HF := Lib.hid hf
    have hnj := hf.1
    clear hf
    have HD := Lib.hid (H.out.kept hkr (by simp) (by simp) (by simp) (by simp) (by simp))
    have c0r := hkr.cell c0 (by simp)
    clear hn hm hall hkr
    by_cases hlt : j < d.sure.length
    · have hltI : (j : Int) < d.sure.length := by omega
      have hjs : j < svals.length := by rw [HLEN.out]; exact hlt
      have hdv := HD.out.sure.2 j _ _ (List.getElem?_eq_getElem hjs) (List.getElem?_eq_getElem hlt)
      have hlow : ∀ g, vblk svals[j] = some g → g < w.heap.size := fun g hg => (H.out.sure.2 j _ _ (List.getElem?_eq_getElem hjs) (List.getElem?_eq_getElem hlt)).1.lt hg
      have hgd : d.sure.getD j [] = d.sure[j] := by rw [List.getD_eq_getElem?_getD, List.getElem?_eq_getElem hlt]; rfl
      have q := HD.out.rows.cellAt j (by omega)
      rw [List.getElem?_eq_getElem hjs] at q
      have h64 : d.sure[j].length = 64 := H.out.ok.s64 _ (List.getElem_mem _)
      have hy := @imgUp_yes d.sure j
      have hno := @imgUp_no d.sure j
      rw [hgd] at hy hno
      clear hgd
      revert q hdv h64 hy hno hlow
      generalize svals[j] = bvl
      generalize d.sure[j] = B
      intro hdv hlow q h64 hy hno
      obtain ⟨a2, c2, rfl, -, -⟩ := hdv.1.form
      rw [h64] at q hdv
      have HB := Lib.hid hdv
      have H64 := Lib.hid h64
      have HLOW := Lib.hid hlow
      clear hdv h64 hjs hlow
      cases hz : allZero B with
      | true =>
        have HU := Lib.hid (hy hz)
        have HZ := Lib.hid hz
        clear hz hy hno
        go_wp2_with (go_at_call 53; go_loud (refine Calls.mono (zeros_any HB.out.1 (by rw [H64.out]; decide)) ?_; rintro e w' ⟨rfl, rfl⟩; rw [HZ.out]))
        case roundEnd => exact ⟨⟨j + 1, m, n, a, cc, by go_num, by omega, rfl, by rw [HU.out]; exact HN.out, rfl, by rw [HU.out]; exact HM.out, by rw [HU.out]; exact HALL.out, HK.out⟩, by simp [intOf]; omega⟩
      | false =>
        have HU := Lib.hid (hno hz)
        have HZ := Lib.hid hz
        have hput : Hid (∀ w, _) := Lib.hid fun w => rput_any j w (by omega)
        clear hz hy hno
        go_wp2_with (first
          | (go_at_call 53; go_loud (refine Calls.mono (zeros_any HB.out.1 (by rw [H64.out]; decide)) ?_; rintro e w' ⟨rfl, rfl⟩; rw [HZ.out]))
          | (go_at_call 58; refine (hput.out _).mono ?_; rintro e w1 ⟨pv, rfl, hp1, hp2⟩; obtain ⟨a3, c3, rfl, -, -⟩ := (Slc.of_row hp1).form; have HP := Lib.hid hp1; have HK1 := Lib.hid hp2; clear hp1 hp2))
        have k1 := HK1.out.drew
        have hSS : (fun w' : World => w'.cell? ⟨b, 0, none⟩ = some (.slice (some ⟨sb, 0, none⟩) d.sure.length scap) ∧ w'.cell? ⟨sb, j, none⟩ = some (.slice a2 64 c2)) w1.drew := ⟨k1.cell c0r (by simp), k1.cell q (by simp)⟩
        refine wp_region_last' (n := 12) (fun w' : World => w'.cell? ⟨b, 0, none⟩ = some (.slice (some ⟨sb, 0, none⟩) d.sure.length scap) ∧ w'.cell? ⟨sb, j, none⟩ = some (.slice a2 64 c2)) 12 (by kernel_rfl) (by kernel_rfl) ?_
        change wpAnyT _ _ _ _ _ _ _ _ _ w1.drew
        have HP1 := Lib.hid (row_kept HP.out (Kept.refl [] w1).drew (by simp))
        have HALL1 := Lib.hid (row_kept HALL.out k1 (by simp))
        have HB1 := Lib.hid (HB.out.1.kept0 k1)
        have HKW := Lib.hid (HK.out.then k1)
        have hbl : b < w.heap.size ∧ sb < w.heap.size := ⟨lt_of_block H.out.head, (H.out.rows.lt sb rfl).2⟩
        have HBL := Lib.hid hbl
        clear q c0r HP HK1 k1 hbl
        revert hSS HP1 HALL1 HB1 HKW
        generalize w1.drew = W
        intro hSS HP1 HALL1 HB1 HKW
        refine wpAnyT_start ?_
        intro O R hO hR
        have hQp : ∀ c a (d : Nat) v w, R (.panic c) (a.put (some d) v) w → R (.panic c) a w := by subst hR; exact fun _ _ _ _ _ h => h
        refine wpAnyT_take' (i := 0) (v := ?_) hO rfl rfl (by kernel_rfl) (by kernel_rfl) (by kernel_rfl) (by kernel_rfl) hQp (Or.inl ⟨by kernel_rfl, fun w hSw => ?_⟩) hSS ?_
        rotate_left
        · obtain ⟨s0, s1⟩ := hSw; go_simp; try with_reducible rfl
        try simp only [Act.put, List.setIfInBounds_toArray, List.set_cons_zero, List.set_cons_succ]
        refine wpAnyT_take' (i := 1) (v := ?_) hO rfl rfl (by kernel_rfl) (by kernel_rfl) (by kernel_rfl) (by kernel_rfl) hQp (Or.inl ⟨by kernel_rfl, fun w hSw => ?_⟩) hSS ?_
        rotate_left
        · obtain ⟨s0, s1⟩ := hSw; go_simp; try with_reducible rfl
        try simp only [Act.put, List.setIfInBounds_toArray, List.set_cons_zero, List.set_cons_succ]
        refine wpAnyT_take' (i := 3) (v := ?_) hO rfl rfl (by kernel_rfl) (by kernel_rfl) (by kernel_rfl) (by kernel_rfl) hQp (Or.inl ⟨by kernel_rfl, fun w hSw => ?_⟩) hSS ?_
        rotate_left
        · obtain ⟨s0, s1⟩ := hSw; go_simp; try with_reducible rfl
        try simp only [Act.put, List.setIfInBounds_toArray, List.set_cons_zero, List.set_cons_succ]
        refine wpAnyT_take' (i := 4) (v := ?_) hO rfl rfl (by kernel_rfl) (by kernel_rfl) (by kernel_rfl) (by kernel_rfl) hQp (Or.inl ⟨by kernel_rfl, fun w hSw => ?_⟩) hSS ?_
        rotate_left
        · obtain ⟨s0, s1⟩ := hSw; go_simp; try with_reducible rfl
        try simp only [Act.put, List.setIfInBounds_toArray, List.set_cons_zero, List.set_cons_succ]
        refine wpAnyT_take' (i := 5) (v := ?_) hO rfl rfl (by kernel_rfl) (by kernel_rfl) (by kernel_rfl) (by kernel_rfl) hQp (Or.inl ⟨by kernel_rfl, fun w hSw => ?_⟩) hSS ?_
        rotate_left
        · obtain ⟨s0, s1⟩ := hSw; go_simp; try with_reducible rfl
        try simp only [Act.put, List.setIfInBounds_toArray, List.set_cons_zero, List.set_cons_succ]
        refine wpAnyT_take' (i := 6) (v := ?_) hO rfl rfl (by kernel_rfl) (by kernel_rfl) (by kernel_rfl) (by kernel_rfl) hQp (Or.inl ⟨by kernel_rfl, fun w hSw => ?_⟩) hSS ?_
        rotate_left
        · obtain ⟨s0, s1⟩ := hSw; go_simp; try with_reducible rfl
        try simp only [Act.put, List.setIfInBounds_toArray, List.set_cons_zero, List.set_cons_succ]
        refine wpAnyT_take' (i := 7) (v := ?_) hO rfl rfl (by kernel_rfl) (by kernel_rfl) (by kernel_rfl) (by kernel_rfl) hQp (Or.inl ⟨by kernel_rfl, fun w hSw => ?_⟩) hSS ?_
        rotate_left
        · obtain ⟨s0, s1⟩ := hSw; go_simp; try with_reducible rfl
        try simp only [Act.put, List.setIfInBounds_toArray, List.set_cons_zero, List.set_cons_succ]
        refine wpAnyT_take' (i := 8) (v := ?_) hO rfl rfl (by kernel_rfl) (by kernel_rfl) (by kernel_rfl) (by kernel_rfl) hQp (Or.inl ⟨by kernel_rfl, fun w hSw => ?_⟩) hSS ?_
        rotate_left
        · obtain ⟨s0, s1⟩ := hSw; go_simp; try with_reducible rfl
        try simp only [Act.put, List.setIfInBounds_toArray, List.set_cons_zero, List.set_cons_succ]
        refine wpAnyT_take' (i := 9) (v := ?_) hO rfl rfl (by kernel_rfl) (by kernel_rfl) (by kernel_rfl) (by kernel_rfl) hQp (Or.inl ⟨by kernel_rfl, fun w hSw => ?_⟩) hSS ?_
        rotate_left
        · obtain ⟨s0, s1⟩ := hSw; go_simp; try with_reducible rfl
        try simp only [Act.put, List.setIfInBounds_toArray, List.set_cons_zero, List.set_cons_succ]
        refine wpAnyT_one' (i := 2) hO rfl (by kernel_rfl) (by kernel_rfl) (fun K hK => ?_)
        have hsz := HKW.out.size
        refine oper_append tyBytes HALL1.out (Slc.of_row HP1.out) (bvs_one _) (by have := HF.out; simp only [maxLen]; omega) (by have := HF.out; omega) hsz (.tmp 35) (.tmp 36) rfl rfl rfl ?_
        intro b3 d3 w3 hown3 hk3 hg3
        have hX : ∀ i, i ∈ (Value.slice a m cc).ownBlock.toList → w.heap.size ≤ i := fun i hi => (HALL1.out.lt i (Option.mem_toList.1 hi)).1
        have hB3 := Lib.hid (HB1.out.kept hk3 (fun g hg hx => by have := HLOW.out g (by rw [H64.out]; exact hg); have := hX g hx; omega))
        have hSB : (fun w' : World => w'.cell? ⟨b, 0, none⟩ = some (.slice (some ⟨sb, 0, none⟩) d.sure.length scap) ∧ w'.cell? ⟨sb, j, none⟩ = some (.slice a2 64 c2)) w3 := ⟨hk3.cell hSS.1 (fun hx => by have := hX b hx; have := HBL.out.1; omega), hk3.cell hSS.2 (fun hx => by have := hX sb hx; have := HBL.out.2; omega)⟩
        have HK3 := Lib.hid (HKW.out.trans hk3 (fun i hi => .inr (hX i hi)))
        have HO3 := Lib.hid hown3
        refine hK _ _ (.inr hSB) ?_
        clear hK K
        try simp only [Act.put, List.setIfInBounds_toArray, List.set_cons_zero, List.set_cons_succ]
        clear hSS hown3 hk3 hg3 hX
        have hSS := hSB
        clear hSB
        refine wpAnyT_one' (i := 10) hO rfl (by kernel_rfl) (by kernel_rfl) (fun K hK => ?_)
        have hsz3 := HK3.out.size
        have hsrc := hB3.out
        unfold Bytes at hsrc
        rw [H64.out] at hsrc
        refine oper_append tyBytes HO3.out hsrc (bvs_one B) (by have := HF.out; simp only [maxLen]; omega) (by have := HF.out; omega) hsz3 (.tmp 37) (.tmp 44) rfl rfl rfl ?_
        intro b4 d4 w4 hown4 hk4 hg4
        have hX : ∀ i, i ∈ (Value.slice b3 (m + 4) d3).ownBlock.toList → w.heap.size ≤ i := fun i hi => (HO3.out.lt i (Option.mem_toList.1 hi)).1
        have hSB : (fun w' : World => w'.cell? ⟨b, 0, none⟩ = some (.slice (some ⟨sb, 0, none⟩) d.sure.length scap) ∧ w'.cell? ⟨sb, j, none⟩ = some (.slice a2 64 c2)) w4 := ⟨hk4.cell hSS.1 (fun hx => by have := hX b hx; have := HBL.out.1; omega), hk4.cell hSS.2 (fun hx => by have := hX sb hx; have := HBL.out.2; omega)⟩
        have HK4 := Lib.hid (HK3.out.trans hk4 (fun i hi => .inr (hX i hi)))
        have HO4 := Lib.hid hown4
        refine hK _ _ (.inr hSB) ?_
        clear hK K
        try simp only [Act.put, List.setIfInBounds_toArray, List.set_cons_zero, List.set_cons_succ]
        clear hSS hown4 hk4 hg4 hX hsrc
        have hSS := hSB
        clear hSB
        refine wpAnyT_take' (i := 11) (v := ?_) hO rfl rfl (by kernel_rfl) (by kernel_rfl) (by kernel_rfl) (by kernel_rfl) hQp (Or.inl ⟨by kernel_rfl, fun w hSw => ?_⟩) hSS ?_
        rotate_left
        · obtain ⟨s0, s1⟩ := hSw; go_simp; try with_reducible rfl
        try simp only [Act.put, List.setIfInBounds_toArray, List.set_cons_zero, List.set_cons_succ]
        refine wpAnyT_done' hO (by kernel_rfl) ?_ _
        subst hR
        try clear hQp hO O
        go_wp2_with fail
        case roundEnd =>
          refine ⟨⟨j + 1, m + 4 + 64, n + 1, b4, d4, by go_num, by omega, by go_num, by rw [HU.out, ← HN.out], rfl, ?_, ?_, HK4.out⟩, by simp [intOf]; omega⟩
          · rw [HU.out]
            simp only [List.length_append, put4_len, H64.out, ← HM.out, Nat.add_assoc]
          · rw [HU.out]
            have := HO4.out
            simpa only [List.map_append, List.append_assoc] using this
    · obtain rfl : j = d.sure.length := by omega
      have hput1 : Hid (∀ w, _) := Lib.hid fun w => rput_any d.sure.length w (by omega)
      have hput2 : Hid (∀ w, _) := Lib.hid fun w => rput_any n w (by omega)
      go_wp2_with (first
        | (go_at_call 58; refine (hput1.out _).mono ?_; rintro e w1 ⟨pv, rfl, hp1, hp2⟩; clear hput1; obtain ⟨a3, c3, rfl, -, -⟩ := (Slc.of_row hp1).form; have HP := Lib.hid hp1; have HK1 := Lib.hid hp2; clear hp1 hp2)
        | (go_at_call 58; refine (hput2.out _).mono ?_; rintro e w2 ⟨pv, rfl, hp1, hp2⟩; clear hput2; obtain ⟨a4, c4, rfl, -, -⟩ := (Slc.of_row hp1).form; have HP2 := Lib.hid hp1; have HK2 := Lib.hid hp2; clear hp1 hp2)
        | (at_builtin; (refine wpList_append_slc tyBytes (row_kept HP.out HK2.out (by simp)) (Slc.of_row HP2.out) (bvs_one _) (by decide) (by decide) (Nat.le_trans HK1.out.size HK2.out.size) rfl (.tmp 62) (.tmp 63) rfl rfl rfl ?_; intro v5 w5 hown5 hk5 _ hg5; have HO5 := Lib.hid hown5; have hA5 := Lib.hid ((Slc.of_row (row_kept HALL.out (HK1.out.then HK2.out) (by simp))).kept hk5 (fun g hg hx => by have h1 := (HALL.out.lt g (own_of_vblk hg)).2; have h2 := ((row_kept HP.out HK2.out (by simp)).lt g (Option.mem_toList.1 hx)).1; omega)); have HK5 := Lib.hid ((HK1.out.then HK2.out).trans hk5 (fun i hi => .inr ((row_kept HP.out HK2.out (by simp)).lt i (Option.mem_toList.1 hi)).1)); obtain ⟨b5, d5, rfl, -, -⟩ := (Slc.of_row hown5).form; clear hown5 hk5 hg5 HP2))
        | (at_builtin; (refine wpList_append_slc tyBytes HO5.out hA5.out (bvs_one _) (by have := HF.out; simp only [maxLen]; omega) (by have := HF.out; omega) HK5.out.size rfl (.tmp 64) (.tmp 65) rfl rfl rfl ?_; intro v6 w6 hown6 hk6 _ hg6; have HO6 := Lib.hid hown6; have HK6 := Lib.hid (HK.out.then (HK5.out.trans hk6 (fun i hi => .inr (HO5.out.lt i (Option.mem_toList.1 hi)).1))); clear hown6 hk6 hg6)))
      go_ret
      rw [← HN.out]
      refine ⟨_, rfl, ?_, HK6.out⟩
      have h1 := row_base HO6.out (base' := w.heap.size) (fun g hg => Nat.le_trans HK.out.size (HO6.out.lt g hg).1)
      refine newBytes_of_row (n := 4 + 4 + m) ?_
      rw [List.map_append, List.map_append, ← List.append_assoc]
      exact h1
end Go.Proofs.Ytfkdoinlbdcaaaa

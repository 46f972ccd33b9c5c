/- For every number and every row of calls, the disk does as the document's disk does. No condition. -/
import Derived.Test.YtfkdoinlbdcaaaaDo
namespace Go.Proofs.Ytfkdoinlbdcaaaa
open Go.RowKit

theorem RefRep.c5 {w : World} {b : Nat} {F : List Nat} {d : PDisk} (h : RefRep w b F d) : w.cell? ⟨b, 5, none⟩ = some (.bool d.off) := by
  obtain ⟨sb, nb, lb, scap, ncap, lcap, svals, nvals, lvals, rfl, h⟩ := h
  exact h.c5

set_option maxRecDepth 10000 in
set_option maxHeartbeats 1600000 in
theorem does_bad (n : Int) (hbad : n < 1 ∨ 16384 < n) (a : Option Addr) (c : Nat) (os : List OpV) (w : World) (hO : Ops w (.slice a os.length c) os) :
    Calls Try.prog 5 #[.int .i64 n, .slice a os.length c] w fun e w' => e = .returned (.bool true) ∧ Kept [] w w' := by
  have hos := hO.2.1
  have hos2 : (os.length : Int) ≤ 9223372036854775807 := by simp only [maxLen] at hos; omega
  clear hO hos
  have hN := Lib.hid (new_bad n w hbad)
  have hR := Lib.hid (refNew_bad n w hbad)
  have hcase : (n ≤ 40) ∨ (40 < n ∧ 16384 < n) := by omega
  clear hbad
  rcases hcase with h1 | ⟨h1, h2⟩
  all_goals
    go_enter Try.func5, Try.ntmps5
    go_wp2_with (first
      | (go_at_call 9; refine Calls.mono hN.out ?_; rintro e w' ⟨rfl, rfl⟩)
      | (go_at_call 16; refine Calls.mono hR.out ?_; rintro e w' ⟨rfl, rfl⟩)
      | (go_at_call 10; refine (lives_any _).mono ?_; rintro e wb ⟨rfl, hk⟩; have HK := Lib.hid hk; clear hk))
    go_loopw [9] (fun i wr => i = .int .i64 0 ∧ Kept [] w wr) (fun _ _ => 0)
    case atStart => exact ⟨rfl, HK.out⟩
    case round =>
      obtain ⟨rfl, hkr⟩ := hrel
      have HKR := Lib.hid hkr
      clear hkr
      by_cases hlt : 0 < os.length
      all_goals
        have hltI : (os.length : Int) = os.length := rfl
        go_wp2_with fail
        go_loopw [10] (fun i wr => i = .int .i64 0 ∧ Kept [] w wr) (fun _ _ => 0)
        case atStart => exact ⟨rfl, HKR.out⟩
        case round =>
          obtain ⟨rfl, hkr⟩ := hrel
          have HKQ := Lib.hid hkr
          clear hkr
          go_wp2_with fail
          go_ret
          exact ⟨rfl, HKQ.out⟩

set_option maxRecDepth 10000 in
set_option maxHeartbeats 6400000 in
theorem does_small (m : Nat) (h1 : 1 ≤ m) (h2 : m ≤ 40) (a : Option Addr) (c0 : Nat) (os : List OpV) (w : World) (hO : Ops w (.slice a os.length c0) os)  :
    Calls Try.prog 5 #[.int .i64 (m : Int), .slice a os.length c0] w fun e w' => e = .returned (.bool true) ∧ Kept [] w w' := by
  have hos := hO.2.1
  have hos2 : (os.length : Int) ≤ 9223372036854775807 := by simp only [maxLen] at hos; omega
  have HO := Lib.hid hO
  clear hO hos
  go_enter Try.func5, Try.ntmps5
  go_wp2_with (first
    | (go_at_call 9; refine Calls.mono (new_any m w (by omega) (by omega)) ?_; rintro e w1 ⟨b, F, rfl, hd, hk1, hF⟩; have HD := Lib.hid hd; have HK1 := Lib.hid hk1; have HF := Lib.hid hF; clear hd hk1 hF)
    | (go_at_call 16; refine Calls.mono (refNew_any m w1 (by omega) (by omega)) ?_; rintro e w2 ⟨c, G, rfl, hr, hk2, hG⟩; have HB : Hid (Both w2 b c F G (PDisk.new m)) := Lib.hid ⟨HD.out.kept hk2 (by simp), hr, fun x hx hg => absurd (HD.out.lt x hx) (Nat.not_lt.2 (hG x hg))⟩; have HG : Hid (∀ x, x ∈ G → w.heap.size ≤ x) := Lib.hid (fun x hx => Nat.le_trans HK1.out.size (hG x hx)); have HK2 := Lib.hid (HK1.out.then hk2); clear hr hk2 hG)
    | (go_at_call 10; refine (lives_any _).mono ?_; rintro e w3 ⟨rfl, hk⟩; have HB3 := Lib.hid (HB.out.kept0 hk); have HK3 := Lib.hid (HK2.out.then hk); clear hk))
  clear HD HB HK1 HK2
  go_loopw [5, 9] (fun dv i wr => ∃ (k b : Nat) (F : List Nat) (d : PDisk), dv = .pointer (some ⟨b, 0, none⟩) ∧ i = .int .i64 k ∧ k ≤ os.length ∧ Both wr b c F G d ∧ d.sure.length = m ∧ Kept [] w wr ∧ ∀ x, x ∈ F → w.heap.size ≤ x) (fun _ i _ => os.length - (intOf i).toNat)
  case atStart => exact ⟨0, b, F, _, rfl, rfl, Nat.zero_le _, HB3.out, by simp [PDisk.new], HK3.out, HF.out⟩
  case round =>
    clear HB3 HK3 HF
    obtain ⟨k, b, F, d, rfl, rfl, hk, hB, hlen, hkr, hF⟩ := hrel
    have HB := Lib.hid hB
    have HLEN := Lib.hid hlen
    have HKR := Lib.hid hkr
    have HF := Lib.hid hF
    clear hB hlen hkr hF
    by_cases hlt : k < os.length ∧ k < 40
    · obtain ⟨hlt, h40⟩ := hlt
      obtain ⟨g, o, rfl, q0, q1, q2, q3, q4, hg, hat0, hat⟩ := HO.out.at HKR.out k hlt
      have hb : Hid (∀ g, vblk os[k].vb = some g → g ∉ F ∧ g ∉ G) := by
        obtain ⟨l, hl, _⟩ := hat0.2.2.2.1
        exact Lib.hid (fun g hg => ⟨fun hx => by have := hl.lt hg; have := HF.out g hx; omega, fun hx => by have := hl.lt hg; have := HG.out g hx; omega⟩)
      obtain ⟨ks, hks, hpairs⟩ := hat0.2.2.2.2
      have hl : Hid (∀ g, vblk os[k].vl = some g → g ∉ F ∧ g ∉ G) := Lib.hid (fun g hg => ⟨fun hx => by have := hks.lt hg; have := HF.out g hx; omega, fun hx => by have := hks.lt hg; have := HG.out g hx; omega⟩)
      obtain ⟨la, lc, hle, -, -⟩ := hks.form
      have HAT := Lib.hid hat
      have hkm := hpairs.2
      clear hat0 hat hks hpairs
      revert q0 q1 q2 q3 q4 hb hl hle HAT
      generalize os[k] = ov
      obtain ⟨kd, nn, kk, vb, vl⟩ := ov
      intro q0 q1 q2 q3 q4 hb hl hle HAT
      simp only at q0 q1 q2 q3 q4 hle
      subst hle
      have h40' : (k : Int) < 40 := by omega
      have hlt' : (k : Int) < os.length := by omega
      have hkm2 : (ks.length : Int) ≤ 9223372036854775807 := by simp only [maxLen] at hkm; omega
      clear hkm
      by_cases h50 : 50 < ks.length
      · have h50' : (50 : Int) < ks.length := by omega
        clear hkm2
        go_wp2_with fail
        case roundEnd => exact ⟨⟨k + 1, b, F, d, rfl, by go_num, by omega, HB.out, HLEN.out, HKR.out, HF.out⟩, by simp [intOf]; omega⟩
      · have h50' : ¬(50 : Int) < ks.length := by omega
        have hlim : Hid (ks.length ≤ lim) := Lib.hid (by simp only [lim]; omega)
        go_wp2_with (go_at_call 17; refine Calls.mono (do_any HB.out ⟨kd, nn, kk, vb, .slice la ks.length lc⟩ HAT.out hb.out hl.out rfl hlim.out) ?_; rintro e w2 ⟨b', F', d', rfl, hB, hlen, hk2, hF'⟩; have HB2 := Lib.hid hB; have HK2 : Hid (Kept [] w w2) := Lib.hid (HKR.out.trans hk2 (fun i hi => .inr (by rcases List.mem_append.1 hi with e | e; exact HF.out i e; exact HG.out i e))); have HF2 : Hid (∀ x, x ∈ F' → w.heap.size ≤ x) := Lib.hid (fun x hx => by rcases hF' x hx with e | e; exact HF.out x e; exact Nat.le_trans HKR.out.size e); have HL2 : Hid (d'.sure.length = m) := Lib.hid (hlen.trans HLEN.out); have c5 := hB.ref.c5; clear hB hk2 hF' hlen)
        clear q0 q1 q2 q3 q4
        have hSS : (fun w' : World => w'.cell? ⟨c, 5, none⟩ = some (.bool d'.off)) w2.drew := c5
        refine wp_region_last' (n := 25) (fun w' : World => w'.cell? ⟨c, 5, none⟩ = some (.bool d'.off)) 25 (by kernel_rfl) (by kernel_rfl) ?_
        change wpAnyT _ _ _ _ _ _ _ _ _ w2.drew
        have HB3 := Lib.hid (HB2.out.kept0 (Kept.refl [] w2).drew)
        have HK3 := Lib.hid HK2.out.drew
        clear HB2 HK2 HB HKR HLEN HF hb hl HAT c5
        revert hSS HB3 HK3
        generalize w2.drew = W
        intro hSS HB3 HK3
        refine wpAnyT_start ?_
        intro O R hO hR
        have hQp : ∀ c a (d : Nat) v w, R (.panic c) (a.put (some d) v) w → R (.panic c) a w := by subst hR; exact fun _ _ _ _ _ h => h
        refine wpAnyT_take' (i := 0) (v := ?_) hO rfl rfl (by kernel_rfl) (by kernel_rfl) (by kernel_rfl) (by kernel_rfl) hQp (Or.inl ⟨by kernel_rfl, fun w hSw => ?_⟩) hSS ?_
        rotate_left
        · have s0 := hSw; go_simp; try with_reducible rfl
        try simp only [Act.put, List.setIfInBounds_toArray, List.set_cons_zero, List.set_cons_succ]
        refine wpAnyT_take' (i := 1) (v := ?_) hO rfl rfl (by kernel_rfl) (by kernel_rfl) (by kernel_rfl) (by kernel_rfl) hQp (Or.inl ⟨by kernel_rfl, fun w hSw => ?_⟩) hSS ?_
        rotate_left
        · have s0 := hSw; go_simp; try with_reducible rfl
        try simp only [Act.put, List.setIfInBounds_toArray, List.set_cons_zero, List.set_cons_succ]
        refine wpAnyT_take' (i := 2) (v := ?_) hO rfl rfl (by kernel_rfl) (by kernel_rfl) (by kernel_rfl) (by kernel_rfl) hQp (Or.inl ⟨by kernel_rfl, fun w hSw => ?_⟩) hSS ?_
        rotate_left
        · have s0 := hSw; go_simp; try with_reducible rfl
        try simp only [Act.put, List.setIfInBounds_toArray, List.set_cons_zero, List.set_cons_succ]
        refine wpAnyT_take' (i := 3) (v := ?_) hO rfl rfl (by kernel_rfl) (by kernel_rfl) (by kernel_rfl) (by kernel_rfl) hQp (Or.inl ⟨by kernel_rfl, fun w hSw => ?_⟩) hSS ?_
        rotate_left
        · have s0 := hSw; go_simp; try with_reducible rfl
        try simp only [Act.put, List.setIfInBounds_toArray, List.set_cons_zero, List.set_cons_succ]
        refine wpAnyT_take' (i := 5) (v := ?_) hO rfl rfl (by kernel_rfl) (by kernel_rfl) (by kernel_rfl) (by kernel_rfl) hQp (Or.inl ⟨by kernel_rfl, fun w hSw => ?_⟩) hSS ?_
        rotate_left
        · have s0 := hSw; go_simp; try with_reducible rfl
        try simp only [Act.put, List.setIfInBounds_toArray, List.set_cons_zero, List.set_cons_succ]
        refine wpAnyT_take' (i := 6) (v := ?_) hO rfl rfl (by kernel_rfl) (by kernel_rfl) (by kernel_rfl) (by kernel_rfl) hQp (Or.inl ⟨by kernel_rfl, fun w hSw => ?_⟩) hSS ?_
        rotate_left
        · have s0 := hSw; go_simp; try with_reducible rfl
        try simp only [Act.put, List.setIfInBounds_toArray, List.set_cons_zero, List.set_cons_succ]
        refine wpAnyT_take' (i := 7) (v := ?_) hO rfl rfl (by kernel_rfl) (by kernel_rfl) (by kernel_rfl) (by kernel_rfl) hQp (Or.inl ⟨by kernel_rfl, fun w hSw => ?_⟩) hSS ?_
        rotate_left
        · have s0 := hSw; go_simp; try with_reducible rfl
        try simp only [Act.put, List.setIfInBounds_toArray, List.set_cons_zero, List.set_cons_succ]
        refine wpAnyT_take' (i := 8) (v := ?_) hO rfl rfl (by kernel_rfl) (by kernel_rfl) (by kernel_rfl) (by kernel_rfl) hQp (Or.inl ⟨by kernel_rfl, fun w hSw => ?_⟩) hSS ?_
        rotate_left
        · have s0 := hSw; go_simp; try with_reducible rfl
        try simp only [Act.put, List.setIfInBounds_toArray, List.set_cons_zero, List.set_cons_succ]
        refine wpAnyT_one' (i := 4) hO rfl (by kernel_rfl) (by kernel_rfl) (fun K hK => ?_)
        go_simp
        refine Calls.mono (off_any HB3.out.disk) ?_
        rintro e w' ⟨rfl, rfl⟩
        refine hK _ _ (.inr hSS) ?_
        clear hK K
        try simp only [Act.put, List.setIfInBounds_toArray, List.set_cons_zero, List.set_cons_succ]
        refine wpAnyT_take' (i := 9) (v := ?_) hO rfl rfl (by kernel_rfl) (by kernel_rfl) (by kernel_rfl) (by kernel_rfl) hQp (Or.inl ⟨by kernel_rfl, fun w hSw => ?_⟩) hSS ?_
        rotate_left
        · have s0 := hSw; go_simp; try with_reducible rfl
        try simp only [Act.put, List.setIfInBounds_toArray, List.set_cons_zero, List.set_cons_succ]
        refine wpAnyT_take' (i := 10) (v := ?_) hO rfl rfl (by kernel_rfl) (by kernel_rfl) (by kernel_rfl) (by kernel_rfl) hQp (Or.inl ⟨by kernel_rfl, fun w hSw => ?_⟩) hSS ?_
        rotate_left
        · have s0 := hSw; go_simp; try with_reducible rfl
        try simp only [Act.put, List.setIfInBounds_toArray, List.set_cons_zero, List.set_cons_succ]
        refine wpAnyT_take' (i := 11) (v := ?_) hO rfl rfl (by kernel_rfl) (by kernel_rfl) (by kernel_rfl) (by kernel_rfl) hQp (Or.inl ⟨by kernel_rfl, fun w hSw => ?_⟩) hSS ?_
        rotate_left
        · have s0 := hSw; go_simp; try with_reducible rfl
        try simp only [Act.put, List.setIfInBounds_toArray, List.set_cons_zero, List.set_cons_succ]
        refine wpAnyT_take' (i := 12) (v := ?_) hO rfl rfl (by kernel_rfl) (by kernel_rfl) (by kernel_rfl) (by kernel_rfl) hQp (Or.inl ⟨by kernel_rfl, fun w hSw => ?_⟩) hSS ?_
        rotate_left
        · have s0 := hSw; go_simp; try with_reducible rfl
        try simp only [Act.put, List.setIfInBounds_toArray, List.set_cons_zero, List.set_cons_succ]
        refine wpAnyT_take' (i := 14) (v := ?_) hO rfl rfl (by kernel_rfl) (by kernel_rfl) (by kernel_rfl) (by kernel_rfl) hQp (Or.inl ⟨by kernel_rfl, fun w hSw => ?_⟩) hSS ?_
        rotate_left
        · have s0 := hSw; go_simp; try with_reducible rfl
        try simp only [Act.put, List.setIfInBounds_toArray, List.set_cons_zero, List.set_cons_succ]
        refine wpAnyT_one' (i := 13) hO rfl (by kernel_rfl) (by kernel_rfl) (fun K hK => ?_)
        go_simp
        refine Calls.mono (len_any HB3.out.disk) ?_
        rintro e w' ⟨rfl, rfl⟩
        rw [HL2.out]
        refine hK _ _ (.inr hSS) ?_
        clear hK K
        try simp only [Act.put, List.setIfInBounds_toArray, List.set_cons_zero, List.set_cons_succ]
        refine wpAnyT_take' (i := 15) (v := ?_) hO rfl rfl (by kernel_rfl) (by kernel_rfl) (by kernel_rfl) (by kernel_rfl) hQp (Or.inl ⟨by kernel_rfl, fun w hSw => ?_⟩) hSS ?_
        rotate_left
        · have s0 := hSw; go_simp; try with_reducible rfl
        try simp only [Act.put, List.setIfInBounds_toArray, List.set_cons_zero, List.set_cons_succ]
        refine wpAnyT_take' (i := 16) (v := ?_) hO rfl rfl (by kernel_rfl) (by kernel_rfl) (by kernel_rfl) (by kernel_rfl) hQp (Or.inl ⟨by kernel_rfl, fun w hSw => ?_⟩) hSS ?_
        rotate_left
        · have s0 := hSw; go_simp; try with_reducible rfl
        try simp only [Act.put, List.setIfInBounds_toArray, List.set_cons_zero, List.set_cons_succ]
        refine wpAnyT_take' (i := 17) (v := ?_) hO rfl rfl (by kernel_rfl) (by kernel_rfl) (by kernel_rfl) (by kernel_rfl) hQp (Or.inl ⟨by kernel_rfl, fun w hSw => ?_⟩) hSS ?_
        rotate_left
        · have s0 := hSw; go_simp; try with_reducible rfl
        try simp only [Act.put, List.setIfInBounds_toArray, List.set_cons_zero, List.set_cons_succ]
        refine wpAnyT_take' (i := 18) (v := ?_) hO rfl rfl (by kernel_rfl) (by kernel_rfl) (by kernel_rfl) (by kernel_rfl) hQp (Or.inl ⟨by kernel_rfl, fun w hSw => ?_⟩) hSS ?_
        rotate_left
        · have s0 := hSw; go_simp; try with_reducible rfl
        try simp only [Act.put, List.setIfInBounds_toArray, List.set_cons_zero, List.set_cons_succ]
        refine wpAnyT_take' (i := 20) (v := ?_) hO rfl rfl (by kernel_rfl) (by kernel_rfl) (by kernel_rfl) (by kernel_rfl) hQp (Or.inl ⟨by kernel_rfl, fun w hSw => ?_⟩) hSS ?_
        rotate_left
        · have s0 := hSw; go_simp; try with_reducible rfl
        try simp only [Act.put, List.setIfInBounds_toArray, List.set_cons_zero, List.set_cons_succ]
        refine wpAnyT_one' (i := 19) hO rfl (by kernel_rfl) (by kernel_rfl) (fun K hK => ?_)
        go_simp
        refine Calls.mono (loose_any HB3.out.disk) ?_
        rintro e w3 ⟨v3, rfl, hv3, hk3⟩
        have HB4 := Lib.hid (HB3.out.kept0 hk3)
        have HK4 := Lib.hid (HK3.out.then hk3)
        have HV3 := Lib.hid hv3
        clear hSS
        have hSS : (fun w' : World => w'.cell? ⟨c, 5, none⟩ = some (.bool d'.off)) w3 := HB4.out.ref.c5
        clear hv3 hk3 HB3 HK3
        refine hK _ _ (.inr hSS) ?_
        clear hK K
        try simp only [Act.put, List.setIfInBounds_toArray, List.set_cons_zero, List.set_cons_succ]
        refine wpAnyT_one' (i := 21) hO rfl (by kernel_rfl) (by kernel_rfl) (fun K hK => ?_)
        go_simp
        refine Calls.mono (refList_any HB4.out.ref) ?_
        rintro e w4 ⟨v4, rfl, hv4, hk4⟩
        have HB5 := Lib.hid (HB4.out.kept0 hk4)
        have HK5 := Lib.hid (HK4.out.then hk4)
        have HV4 := Lib.hid hv4
        have HV3' := Lib.hid (HV3.out.kept0 hk4)
        clear hSS
        have hSS : (fun w' : World => w'.cell? ⟨c, 5, none⟩ = some (.bool d'.off)) w4 := HB5.out.ref.c5
        clear hv4 hk4 HB4 HK4 HV3
        refine hK _ _ (.inr hSS) ?_
        clear hK K
        try simp only [Act.put, List.setIfInBounds_toArray, List.set_cons_zero, List.set_cons_succ]
        refine wpAnyT_one' (i := 22) hO rfl (by kernel_rfl) (by kernel_rfl) (fun K hK => ?_)
        go_simp
        have hkl : d'.looseKeys.length ≤ 100000 := by
          have h1 := looseTo_len d' d'.sure.length
          rw [looseTo_all] at h1
          have h2 := HB5.out.disk.ok.le
          omega
        refine Calls.mono (same_any _ _ d'.looseKeys _ HV3'.out HV4.out hkl) ?_
        rintro e w5 ⟨rfl, hk5⟩
        have HB6 := Lib.hid (HB5.out.kept0 hk5)
        have HK6 := Lib.hid (HK5.out.then hk5)
        clear hSS
        have hSS : (fun w' : World => w'.cell? ⟨c, 5, none⟩ = some (.bool d'.off)) w5 := HB6.out.ref.c5
        clear hk5 HB5 HK5 HV3' HV4 hkl
        refine hK _ _ (.inr hSS) ?_
        clear hK K
        try simp only [Act.put, List.setIfInBounds_toArray, List.set_cons_zero, List.set_cons_succ]
        refine wpAnyT_take' (i := 23) (v := ?_) hO rfl rfl (by kernel_rfl) (by kernel_rfl) (by kernel_rfl) (by kernel_rfl) hQp (Or.inl ⟨by kernel_rfl, fun w hSw => ?_⟩) hSS ?_
        rotate_left
        · have s0 := hSw; go_simp; try with_reducible rfl
        try simp only [Act.put, List.setIfInBounds_toArray, List.set_cons_zero, List.set_cons_succ]
        refine wpAnyT_take' (i := 24) (v := ?_) hO rfl rfl (by kernel_rfl) (by kernel_rfl) (by kernel_rfl) (by kernel_rfl) hQp (Or.inl ⟨by kernel_rfl, fun w hSw => ?_⟩) hSS ?_
        rotate_left
        · have s0 := hSw; go_simp; try with_reducible rfl
        try simp only [Act.put, List.setIfInBounds_toArray, List.set_cons_zero, List.set_cons_succ]
        refine wpAnyT_done' hO (by kernel_rfl) ?_ _
        subst hR
        try clear hQp hO O
        go_wp2_with fail
        case roundEnd => exact ⟨⟨k + 1, b', F', d', rfl, by go_num, by omega, HB6.out, HL2.out, HK6.out, HF2.out⟩, by simp [intOf]; omega⟩
    · have hcase : k = os.length ∨ (k < os.length ∧ 40 ≤ k) := by omega
      clear hlt
      have hx : (k = os.length ∧ ¬(k : Int) < os.length) ∨ ((k : Int) < os.length ∧ ¬(k : Int) < 40) := by omega
      clear hcase
      rcases hx with ⟨rfl, hy⟩ | ⟨hy, hz⟩
      all_goals
        go_wp2_with fail
        go_loopw [10] (fun i wr => ∃ j : Nat, i = .int .i64 j ∧ j ≤ m ∧ Both wr b c F G d ∧ Kept [] w wr) (fun i _ => m - (intOf i).toNat)
        case atStart => exact ⟨0, rfl, by omega, HB.out, HKR.out⟩
        case round =>
          clear HB HKR
          obtain ⟨j, rfl, hj, hB, hkr⟩ := hrel
          have HB := Lib.hid hB
          have HKR := Lib.hid hkr
          clear hB hkr
          by_cases hjl : j < m
          · have hjI : (j : Int) < m := by omega
            go_wp2_with (first
              | (go_at_call 13; refine Calls.mono (read_any HB.out.disk j) ?_; rintro e w1 ⟨v, rfl, hv, hk1⟩; have cv : (convert 30 9 v).run Try.prog w1 = .ok (.string (str (d.read j).1)) w1 := Bytes.toStr hv.1; have HK1 := Lib.hid (HKR.out.then hk1); have HB1 := Lib.hid (HB.out.kept0 hk1); clear hv hk1)
              | (go_at_call 22; refine Calls.mono (refRead_any HB1.out.ref j) ?_; rintro e w2 ⟨⟨vx, rfl, hvx⟩, rfl⟩; have cx : (convert 30 9 vx).run Try.prog w1 = .ok (.string (str (d.read j).1)) w1 := Bytes.toStr hvx.1; clear hvx; revert cv cx; generalize (d.read j).2 = r; generalize str (d.read j).1 = s; intro cv cx))
            case roundEnd => exact ⟨⟨j + 1, by go_num, by omega, HB1.out, HK1.out⟩, by simp [intOf]; omega⟩
          · have hjI : ¬(j : Int) < m := by omega
            go_wp2_with fail
            go_ret
            exact ⟨rfl, HKR.out⟩

set_option maxRecDepth 10000 in
set_option maxHeartbeats 6400000 in
theorem does_big (n : Int) (a : Option Addr) (c0 : Nat) (os : List OpV) (w : World) (hO : Ops w (.slice a os.length c0) os) (h1 : 40 < n) (h2 : n ≤ 16384) :
    Calls Try.prog 5 #[.int .i64 n, .slice a os.length c0] w fun e w' => e = .returned (.bool true) ∧ Kept [] w w' := by
  have hos := hO.2.1
  have hos2 : (os.length : Int) ≤ 9223372036854775807 := by simp only [maxLen] at hos; omega
  have HO := Lib.hid hO
  clear hO hos
  go_enter Try.func5, Try.ntmps5
  go_wp2_with (first
    | (go_at_call 9; refine Calls.mono (new_any 40 w (by omega) (by omega)) ?_; rintro e w1 ⟨b, F, rfl, hd, hk1, hF⟩; have HD := Lib.hid hd; have HK1 := Lib.hid hk1; have HF := Lib.hid hF; clear hd hk1 hF)
    | (go_at_call 16; refine Calls.mono (refNew_any 40 w1 (by omega) (by omega)) ?_; rintro e w2 ⟨c, G, rfl, hr, hk2, hG⟩; have HB : Hid (Both w2 b c F G (PDisk.new 40)) := Lib.hid ⟨HD.out.kept hk2 (by simp), hr, fun x hx hg => absurd (HD.out.lt x hx) (Nat.not_lt.2 (hG x hg))⟩; have HG : Hid (∀ x, x ∈ G → w.heap.size ≤ x) := Lib.hid (fun x hx => Nat.le_trans HK1.out.size (hG x hx)); have HK2 := Lib.hid (HK1.out.then hk2); clear hr hk2 hG)
    | (go_at_call 10; refine (lives_any _).mono ?_; rintro e w3 ⟨rfl, hk⟩; have HB3 := Lib.hid (HB.out.kept0 hk); have HK3 := Lib.hid (HK2.out.then hk); clear hk))
  clear HD HB HK1 HK2
  go_loopw [5, 9] (fun dv i wr => ∃ (k b : Nat) (F : List Nat) (d : PDisk), dv = .pointer (some ⟨b, 0, none⟩) ∧ i = .int .i64 k ∧ k ≤ os.length ∧ Both wr b c F G d ∧ d.sure.length = 40 ∧ Kept [] w wr ∧ ∀ x, x ∈ F → w.heap.size ≤ x) (fun _ i _ => os.length - (intOf i).toNat)
  case atStart => exact ⟨0, b, F, _, rfl, rfl, Nat.zero_le _, HB3.out, by simp [PDisk.new], HK3.out, HF.out⟩
  case round =>
    clear HB3 HK3 HF
    obtain ⟨k, b, F, d, rfl, rfl, hk, hB, hlen, hkr, hF⟩ := hrel
    have HB := Lib.hid hB
    have HLEN := Lib.hid hlen
    have HKR := Lib.hid hkr
    have HF := Lib.hid hF
    clear hB hlen hkr hF
    by_cases hlt : k < os.length ∧ k < 40
    · obtain ⟨hlt, h40⟩ := hlt
      obtain ⟨g, o, rfl, q0, q1, q2, q3, q4, hg, hat0, hat⟩ := HO.out.at HKR.out k hlt
      have hb : Hid (∀ g, vblk os[k].vb = some g → g ∉ F ∧ g ∉ G) := by
        obtain ⟨l, hl, _⟩ := hat0.2.2.2.1
        exact Lib.hid (fun g hg => ⟨fun hx => by have := hl.lt hg; have := HF.out g hx; omega, fun hx => by have := hl.lt hg; have := HG.out g hx; omega⟩)
      obtain ⟨ks, hks, hpairs⟩ := hat0.2.2.2.2
      have hl : Hid (∀ g, vblk os[k].vl = some g → g ∉ F ∧ g ∉ G) := Lib.hid (fun g hg => ⟨fun hx => by have := hks.lt hg; have := HF.out g hx; omega, fun hx => by have := hks.lt hg; have := HG.out g hx; omega⟩)
      obtain ⟨la, lc, hle, -, -⟩ := hks.form
      have HAT := Lib.hid hat
      have hkm := hpairs.2
      clear hat0 hat hks hpairs
      revert q0 q1 q2 q3 q4 hb hl hle HAT
      generalize os[k] = ov
      obtain ⟨kd, nn, kk, vb, vl⟩ := ov
      intro q0 q1 q2 q3 q4 hb hl hle HAT
      simp only at q0 q1 q2 q3 q4 hle
      subst hle
      have h40' : (k : Int) < 40 := by omega
      have hlt' : (k : Int) < os.length := by omega
      have hkm2 : (ks.length : Int) ≤ 9223372036854775807 := by simp only [maxLen] at hkm; omega
      clear hkm
      by_cases h50 : 50 < ks.length
      · have h50' : (50 : Int) < ks.length := by omega
        clear hkm2
        go_wp2_with fail
        case roundEnd => exact ⟨⟨k + 1, b, F, d, rfl, by go_num, by omega, HB.out, HLEN.out, HKR.out, HF.out⟩, by simp [intOf]; omega⟩
      · have h50' : ¬(50 : Int) < ks.length := by omega
        have hlim : Hid (ks.length ≤ lim) := Lib.hid (by simp only [lim]; omega)
        go_wp2_with (go_at_call 17; refine Calls.mono (do_any HB.out ⟨kd, nn, kk, vb, .slice la ks.length lc⟩ HAT.out hb.out hl.out rfl hlim.out) ?_; rintro e w2 ⟨b', F', d', rfl, hB, hlen, hk2, hF'⟩; have HB2 := Lib.hid hB; have HK2 : Hid (Kept [] w w2) := Lib.hid (HKR.out.trans hk2 (fun i hi => .inr (by rcases List.mem_append.1 hi with e | e; exact HF.out i e; exact HG.out i e))); have HF2 : Hid (∀ x, x ∈ F' → w.heap.size ≤ x) := Lib.hid (fun x hx => by rcases hF' x hx with e | e; exact HF.out x e; exact Nat.le_trans HKR.out.size e); have HL2 : Hid (d'.sure.length = 40) := Lib.hid (hlen.trans HLEN.out); have c5 := hB.ref.c5; clear hB hk2 hF' hlen)
        clear q0 q1 q2 q3 q4
        have hSS : (fun w' : World => w'.cell? ⟨c, 5, none⟩ = some (.bool d'.off)) w2.drew := c5
        refine wp_region_last' (n := 25) (fun w' : World => w'.cell? ⟨c, 5, none⟩ = some (.bool d'.off)) 25 (by kernel_rfl) (by kernel_rfl) ?_
        change wpAnyT _ _ _ _ _ _ _ _ _ w2.drew
        have HB3 := Lib.hid (HB2.out.kept0 (Kept.refl [] w2).drew)
        have HK3 := Lib.hid HK2.out.drew
        clear HB2 HK2 HB HKR HLEN HF hb hl HAT c5
        revert hSS HB3 HK3
        generalize w2.drew = W
        intro hSS HB3 HK3
        refine wpAnyT_start ?_
        intro O R hO hR
        have hQp : ∀ c a (d : Nat) v w, R (.panic c) (a.put (some d) v) w → R (.panic c) a w := by subst hR; exact fun _ _ _ _ _ h => h
        refine wpAnyT_take' (i := 0) (v := ?_) hO rfl rfl (by kernel_rfl) (by kernel_rfl) (by kernel_rfl) (by kernel_rfl) hQp (Or.inl ⟨by kernel_rfl, fun w hSw => ?_⟩) hSS ?_
        rotate_left
        · have s0 := hSw; go_simp; try with_reducible rfl
        try simp only [Act.put, List.setIfInBounds_toArray, List.set_cons_zero, List.set_cons_succ]
        refine wpAnyT_take' (i := 1) (v := ?_) hO rfl rfl (by kernel_rfl) (by kernel_rfl) (by kernel_rfl) (by kernel_rfl) hQp (Or.inl ⟨by kernel_rfl, fun w hSw => ?_⟩) hSS ?_
        rotate_left
        · have s0 := hSw; go_simp; try with_reducible rfl
        try simp only [Act.put, List.setIfInBounds_toArray, List.set_cons_zero, List.set_cons_succ]
        refine wpAnyT_take' (i := 2) (v := ?_) hO rfl rfl (by kernel_rfl) (by kernel_rfl) (by kernel_rfl) (by kernel_rfl) hQp (Or.inl ⟨by kernel_rfl, fun w hSw => ?_⟩) hSS ?_
        rotate_left
        · have s0 := hSw; go_simp; try with_reducible rfl
        try simp only [Act.put, List.setIfInBounds_toArray, List.set_cons_zero, List.set_cons_succ]
        refine wpAnyT_take' (i := 3) (v := ?_) hO rfl rfl (by kernel_rfl) (by kernel_rfl) (by kernel_rfl) (by kernel_rfl) hQp (Or.inl ⟨by kernel_rfl, fun w hSw => ?_⟩) hSS ?_
        rotate_left
        · have s0 := hSw; go_simp; try with_reducible rfl
        try simp only [Act.put, List.setIfInBounds_toArray, List.set_cons_zero, List.set_cons_succ]
        refine wpAnyT_take' (i := 5) (v := ?_) hO rfl rfl (by kernel_rfl) (by kernel_rfl) (by kernel_rfl) (by kernel_rfl) hQp (Or.inl ⟨by kernel_rfl, fun w hSw => ?_⟩) hSS ?_
        rotate_left
        · have s0 := hSw; go_simp; try with_reducible rfl
        try simp only [Act.put, List.setIfInBounds_toArray, List.set_cons_zero, List.set_cons_succ]
        refine wpAnyT_take' (i := 6) (v := ?_) hO rfl rfl (by kernel_rfl) (by kernel_rfl) (by kernel_rfl) (by kernel_rfl) hQp (Or.inl ⟨by kernel_rfl, fun w hSw => ?_⟩) hSS ?_
        rotate_left
        · have s0 := hSw; go_simp; try with_reducible rfl
        try simp only [Act.put, List.setIfInBounds_toArray, List.set_cons_zero, List.set_cons_succ]
        refine wpAnyT_take' (i := 7) (v := ?_) hO rfl rfl (by kernel_rfl) (by kernel_rfl) (by kernel_rfl) (by kernel_rfl) hQp (Or.inl ⟨by kernel_rfl, fun w hSw => ?_⟩) hSS ?_
        rotate_left
        · have s0 := hSw; go_simp; try with_reducible rfl
        try simp only [Act.put, List.setIfInBounds_toArray, List.set_cons_zero, List.set_cons_succ]
        refine wpAnyT_take' (i := 8) (v := ?_) hO rfl rfl (by kernel_rfl) (by kernel_rfl) (by kernel_rfl) (by kernel_rfl) hQp (Or.inl ⟨by kernel_rfl, fun w hSw => ?_⟩) hSS ?_
        rotate_left
        · have s0 := hSw; go_simp; try with_reducible rfl
        try simp only [Act.put, List.setIfInBounds_toArray, List.set_cons_zero, List.set_cons_succ]
        refine wpAnyT_one' (i := 4) hO rfl (by kernel_rfl) (by kernel_rfl) (fun K hK => ?_)
        go_simp
        refine Calls.mono (off_any HB3.out.disk) ?_
        rintro e w' ⟨rfl, rfl⟩
        refine hK _ _ (.inr hSS) ?_
        clear hK K
        try simp only [Act.put, List.setIfInBounds_toArray, List.set_cons_zero, List.set_cons_succ]
        refine wpAnyT_take' (i := 9) (v := ?_) hO rfl rfl (by kernel_rfl) (by kernel_rfl) (by kernel_rfl) (by kernel_rfl) hQp (Or.inl ⟨by kernel_rfl, fun w hSw => ?_⟩) hSS ?_
        rotate_left
        · have s0 := hSw; go_simp; try with_reducible rfl
        try simp only [Act.put, List.setIfInBounds_toArray, List.set_cons_zero, List.set_cons_succ]
        refine wpAnyT_take' (i := 10) (v := ?_) hO rfl rfl (by kernel_rfl) (by kernel_rfl) (by kernel_rfl) (by kernel_rfl) hQp (Or.inl ⟨by kernel_rfl, fun w hSw => ?_⟩) hSS ?_
        rotate_left
        · have s0 := hSw; go_simp; try with_reducible rfl
        try simp only [Act.put, List.setIfInBounds_toArray, List.set_cons_zero, List.set_cons_succ]
        refine wpAnyT_take' (i := 11) (v := ?_) hO rfl rfl (by kernel_rfl) (by kernel_rfl) (by kernel_rfl) (by kernel_rfl) hQp (Or.inl ⟨by kernel_rfl, fun w hSw => ?_⟩) hSS ?_
        rotate_left
        · have s0 := hSw; go_simp; try with_reducible rfl
        try simp only [Act.put, List.setIfInBounds_toArray, List.set_cons_zero, List.set_cons_succ]
        refine wpAnyT_take' (i := 12) (v := ?_) hO rfl rfl (by kernel_rfl) (by kernel_rfl) (by kernel_rfl) (by kernel_rfl) hQp (Or.inl ⟨by kernel_rfl, fun w hSw => ?_⟩) hSS ?_
        rotate_left
        · have s0 := hSw; go_simp; try with_reducible rfl
        try simp only [Act.put, List.setIfInBounds_toArray, List.set_cons_zero, List.set_cons_succ]
        refine wpAnyT_take' (i := 14) (v := ?_) hO rfl rfl (by kernel_rfl) (by kernel_rfl) (by kernel_rfl) (by kernel_rfl) hQp (Or.inl ⟨by kernel_rfl, fun w hSw => ?_⟩) hSS ?_
        rotate_left
        · have s0 := hSw; go_simp; try with_reducible rfl
        try simp only [Act.put, List.setIfInBounds_toArray, List.set_cons_zero, List.set_cons_succ]
        refine wpAnyT_one' (i := 13) hO rfl (by kernel_rfl) (by kernel_rfl) (fun K hK => ?_)
        go_simp
        refine Calls.mono (len_any HB3.out.disk) ?_
        rintro e w' ⟨rfl, rfl⟩
        rw [HL2.out]
        refine hK _ _ (.inr hSS) ?_
        clear hK K
        try simp only [Act.put, List.setIfInBounds_toArray, List.set_cons_zero, List.set_cons_succ]
        refine wpAnyT_take' (i := 15) (v := ?_) hO rfl rfl (by kernel_rfl) (by kernel_rfl) (by kernel_rfl) (by kernel_rfl) hQp (Or.inl ⟨by kernel_rfl, fun w hSw => ?_⟩) hSS ?_
        rotate_left
        · have s0 := hSw; go_simp; try with_reducible rfl
        try simp only [Act.put, List.setIfInBounds_toArray, List.set_cons_zero, List.set_cons_succ]
        refine wpAnyT_take' (i := 16) (v := ?_) hO rfl rfl (by kernel_rfl) (by kernel_rfl) (by kernel_rfl) (by kernel_rfl) hQp (Or.inl ⟨by kernel_rfl, fun w hSw => ?_⟩) hSS ?_
        rotate_left
        · have s0 := hSw; go_simp; try with_reducible rfl
        try simp only [Act.put, List.setIfInBounds_toArray, List.set_cons_zero, List.set_cons_succ]
        refine wpAnyT_take' (i := 17) (v := ?_) hO rfl rfl (by kernel_rfl) (by kernel_rfl) (by kernel_rfl) (by kernel_rfl) hQp (Or.inl ⟨by kernel_rfl, fun w hSw => ?_⟩) hSS ?_
        rotate_left
        · have s0 := hSw; go_simp; try with_reducible rfl
        try simp only [Act.put, List.setIfInBounds_toArray, List.set_cons_zero, List.set_cons_succ]
        refine wpAnyT_take' (i := 18) (v := ?_) hO rfl rfl (by kernel_rfl) (by kernel_rfl) (by kernel_rfl) (by kernel_rfl) hQp (Or.inl ⟨by kernel_rfl, fun w hSw => ?_⟩) hSS ?_
        rotate_left
        · have s0 := hSw; go_simp; try with_reducible rfl
        try simp only [Act.put, List.setIfInBounds_toArray, List.set_cons_zero, List.set_cons_succ]
        refine wpAnyT_take' (i := 20) (v := ?_) hO rfl rfl (by kernel_rfl) (by kernel_rfl) (by kernel_rfl) (by kernel_rfl) hQp (Or.inl ⟨by kernel_rfl, fun w hSw => ?_⟩) hSS ?_
        rotate_left
        · have s0 := hSw; go_simp; try with_reducible rfl
        try simp only [Act.put, List.setIfInBounds_toArray, List.set_cons_zero, List.set_cons_succ]
        refine wpAnyT_one' (i := 19) hO rfl (by kernel_rfl) (by kernel_rfl) (fun K hK => ?_)
        go_simp
        refine Calls.mono (loose_any HB3.out.disk) ?_
        rintro e w3 ⟨v3, rfl, hv3, hk3⟩
        have HB4 := Lib.hid (HB3.out.kept0 hk3)
        have HK4 := Lib.hid (HK3.out.then hk3)
        have HV3 := Lib.hid hv3
        clear hSS
        have hSS : (fun w' : World => w'.cell? ⟨c, 5, none⟩ = some (.bool d'.off)) w3 := HB4.out.ref.c5
        clear hv3 hk3 HB3 HK3
        refine hK _ _ (.inr hSS) ?_
        clear hK K
        try simp only [Act.put, List.setIfInBounds_toArray, List.set_cons_zero, List.set_cons_succ]
        refine wpAnyT_one' (i := 21) hO rfl (by kernel_rfl) (by kernel_rfl) (fun K hK => ?_)
        go_simp
        refine Calls.mono (refList_any HB4.out.ref) ?_
        rintro e w4 ⟨v4, rfl, hv4, hk4⟩
        have HB5 := Lib.hid (HB4.out.kept0 hk4)
        have HK5 := Lib.hid (HK4.out.then hk4)
        have HV4 := Lib.hid hv4
        have HV3' := Lib.hid (HV3.out.kept0 hk4)
        clear hSS
        have hSS : (fun w' : World => w'.cell? ⟨c, 5, none⟩ = some (.bool d'.off)) w4 := HB5.out.ref.c5
        clear hv4 hk4 HB4 HK4 HV3
        refine hK _ _ (.inr hSS) ?_
        clear hK K
        try simp only [Act.put, List.setIfInBounds_toArray, List.set_cons_zero, List.set_cons_succ]
        refine wpAnyT_one' (i := 22) hO rfl (by kernel_rfl) (by kernel_rfl) (fun K hK => ?_)
        go_simp
        have hkl : d'.looseKeys.length ≤ 100000 := by
          have h1 := looseTo_len d' d'.sure.length
          rw [looseTo_all] at h1
          have h2 := HB5.out.disk.ok.le
          omega
        refine Calls.mono (same_any _ _ d'.looseKeys _ HV3'.out HV4.out hkl) ?_
        rintro e w5 ⟨rfl, hk5⟩
        have HB6 := Lib.hid (HB5.out.kept0 hk5)
        have HK6 := Lib.hid (HK5.out.then hk5)
        clear hSS
        have hSS : (fun w' : World => w'.cell? ⟨c, 5, none⟩ = some (.bool d'.off)) w5 := HB6.out.ref.c5
        clear hk5 HB5 HK5 HV3' HV4 hkl
        refine hK _ _ (.inr hSS) ?_
        clear hK K
        try simp only [Act.put, List.setIfInBounds_toArray, List.set_cons_zero, List.set_cons_succ]
        refine wpAnyT_take' (i := 23) (v := ?_) hO rfl rfl (by kernel_rfl) (by kernel_rfl) (by kernel_rfl) (by kernel_rfl) hQp (Or.inl ⟨by kernel_rfl, fun w hSw => ?_⟩) hSS ?_
        rotate_left
        · have s0 := hSw; go_simp; try with_reducible rfl
        try simp only [Act.put, List.setIfInBounds_toArray, List.set_cons_zero, List.set_cons_succ]
        refine wpAnyT_take' (i := 24) (v := ?_) hO rfl rfl (by kernel_rfl) (by kernel_rfl) (by kernel_rfl) (by kernel_rfl) hQp (Or.inl ⟨by kernel_rfl, fun w hSw => ?_⟩) hSS ?_
        rotate_left
        · have s0 := hSw; go_simp; try with_reducible rfl
        try simp only [Act.put, List.setIfInBounds_toArray, List.set_cons_zero, List.set_cons_succ]
        refine wpAnyT_done' hO (by kernel_rfl) ?_ _
        subst hR
        try clear hQp hO O
        go_wp2_with fail
        case roundEnd => exact ⟨⟨k + 1, b', F', d', rfl, by go_num, by omega, HB6.out, HL2.out, HK6.out, HF2.out⟩, by simp [intOf]; omega⟩
    · have hcase : k = os.length ∨ (k < os.length ∧ 40 ≤ k) := by omega
      clear hlt
      have hx : (k = os.length ∧ ¬(k : Int) < os.length) ∨ ((k : Int) < os.length ∧ ¬(k : Int) < 40) := by omega
      clear hcase
      rcases hx with ⟨rfl, hy⟩ | ⟨hy, hz⟩
      all_goals
        go_wp2_with fail
        go_loopw [10] (fun i wr => ∃ j : Nat, i = .int .i64 j ∧ j ≤ 40 ∧ Both wr b c F G d ∧ Kept [] w wr) (fun i _ => 40 - (intOf i).toNat)
        case atStart => exact ⟨0, rfl, by omega, HB.out, HKR.out⟩
        case round =>
          clear HB HKR
          obtain ⟨j, rfl, hj, hB, hkr⟩ := hrel
          have HB := Lib.hid hB
          have HKR := Lib.hid hkr
          clear hB hkr
          by_cases hjl : j < 40
          · have hjI : (j : Int) < 40 := by omega
            go_wp2_with (first
              | (go_at_call 13; refine Calls.mono (read_any HB.out.disk j) ?_; rintro e w1 ⟨v, rfl, hv, hk1⟩; have cv : (convert 30 9 v).run Try.prog w1 = .ok (.string (str (d.read j).1)) w1 := Bytes.toStr hv.1; have HK1 := Lib.hid (HKR.out.then hk1); have HB1 := Lib.hid (HB.out.kept0 hk1); clear hv hk1)
              | (go_at_call 22; refine Calls.mono (refRead_any HB1.out.ref j) ?_; rintro e w2 ⟨⟨vx, rfl, hvx⟩, rfl⟩; have cx : (convert 30 9 vx).run Try.prog w1 = .ok (.string (str (d.read j).1)) w1 := Bytes.toStr hvx.1; clear hvx; revert cv cx; generalize (d.read j).2 = r; generalize str (d.read j).1 = s; intro cv cx))
            case roundEnd => exact ⟨⟨j + 1, by go_num, by omega, HB1.out, HK1.out⟩, by simp [intOf]; omega⟩
          · have hjI : ¬(j : Int) < 40 := by omega
            go_wp2_with fail
            go_ret
            exact ⟨rfl, HKR.out⟩

theorem does_any (n : Int) (a : Option Addr) (c : Nat) (os : List OpV) (w : World) (hO : Ops w (.slice a os.length c) os) :
    Calls Try.prog 5 #[.int .i64 n, .slice a os.length c] w fun e w' => e = .returned (.bool true) ∧ Kept [] w w' := by
  by_cases h1 : n < 1 ∨ 16384 < n
  · exact does_bad n h1 a c os w hO
  · by_cases h2 : 40 < n
    · exact does_big n a c os w hO h2 (by omega)
    · obtain ⟨m, rfl⟩ := Int.eq_ofNat_of_zero_le (show 0 ≤ n by omega)
      exact does_small m (by omega) (by omega) a c os w hO
end Go.Proofs.Ytfkdoinlbdcaaaa

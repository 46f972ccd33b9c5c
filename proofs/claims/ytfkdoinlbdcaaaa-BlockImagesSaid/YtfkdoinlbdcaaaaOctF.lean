/- fill: an image's blocks, onto a disk. -/
import Derived.Test.YtfkdoinlbdcaaaaOctE
namespace Go.Proofs.Ytfkdoinlbdcaaaa
open Go.RowKit

def fillGo (n : Nat) : Nat → List (List UInt8) → Int → List UInt8 → Option (List (List UInt8) × List UInt8)
  | 0, s, _, rest => some (s, rest)
  | k + 1, s, last, rest =>
    if rest.length < 68 then none
    else if (be (rest.take 4) : Int) ≤ last ∨ n ≤ be (rest.take 4) ∨ allZero ((rest.drop 4).take 64) = true then none
    else fillGo n k (s.set (be (rest.take 4)) ((rest.drop 4).take 64)) (be (rest.take 4)) (rest.drop 68)

section
variable {w : World} {b sb scap mb cnt : Nat} {svals : List Value} {M : Lit → Option Value} {d : PDisk}
theorem DiskAt.setSure (h : DiskAt w b sb scap mb cnt svals M d) (i : Nat) {v : Value} {l : List UInt8} (hv : Data w v l) (hl : l.length = 64) :
    DiskAt (w.setCell ⟨sb, i, none⟩ v) b sb scap mb cnt (svals.set i v) M (d.setSure i l) := by
  have hd := h.dist
  have k : Kept [sb] w (w.setCell ⟨sb, i, none⟩ v) := (Kept.refl [sb] w).setCell (.inl (by simp)) v
  have hX : ∀ k, k ∈ [sb] → kind w k ≠ 5 + 2 := by
    intro k hk
    simp at hk
    subst hk
    rw [h.ks]; decide
  have hlen : (d.setSure i l).sure.length = d.sure.length := by simp [PDisk.setSure]
  exact {
    ok := PDisk.setSure_ok h.ok hl
    head := by rw [hlen]; exact k.heap h.head (by simp [hd.1])
    row := by rw [hlen]; exact (h.row.stored i v).1
    map := h.map.kept k (by simpa using hd.2.2.symm)
    cnt := h.cnt
    sure := (h.sure.mono fun x y _ r => r.kept k hX).set i (hv.kept k hX)
    loose := fun x v hx => by obtain ⟨l, e, r⟩ := h.loose x v hx; exact ⟨l, e, r.kept k hX⟩
    gone := h.gone }
end

def FillPost (w : World) (b sb scap mb cnt r : Nat) (M : Lit → Option Value) (d : PDisk) (bad : Bool) (o : Option (List (List UInt8) × List UInt8)) (e : Ending) (w' : World) : Prop :=
  Kept [sb, r] w w' ∧ match o with
    | none => e = .returned (.bool false)
    | some (s, rest) => e = .returned (.bool true) ∧ (∃ sv, DiskAt w' b sb scap mb cnt sv M { d with sure := s }) ∧ RdAt w' r rest bad

set_option maxRecDepth 10000 in
set_option maxHeartbeats 3200000 in
theorem fill_any {w : World} {b sb scap mb cnt r : Nat} {svals : List Value} {M : Lit → Option Value} {d : PDisk} (h : DiskAt w b sb scap mb cnt svals M d) {rest : List UInt8} (hr : RdAt w r rest false) (hne : r ≠ b ∧ r ≠ sb ∧ r ≠ mb) (count : Nat) (hc : count ≤ 4294967296) :
    Calls Try.prog 49 #[.pointer (some ⟨b, 0, none⟩), .pointer (some ⟨r, 0, none⟩), .int .i64 count] w (FillPost w b sb scap mb cnt r M d false (fillGo d.sure.length count d.sure (-1) rest)) := by
  have hcI : (count : Int) ≤ 4294967296 := by omega
  have hn := h.ok.le
  have H := Lib.hid h
  have HR := Lib.hid hr
  have HNE := Lib.hid hne
  have hdist := Lib.hid h.dist
  clear h hr hne
  generalize hO : fillGo d.sure.length count d.sure (-1) rest = O
  have HO := Lib.hid hO
  clear hO
  go_enter Try.func49, Try.ntmps49
  go_wp2_with fail
  go_loopw [7, 11] (fun lv i wr => ∃ (j : Nat) (last : Int) (s : List (List UInt8)) (sv : List Value) (re : List UInt8), lv = .int .i64 last ∧ i = .int .i64 j ∧ j ≤ count ∧ s.length = d.sure.length ∧ DiskAt wr b sb scap mb cnt sv M { d with sure := s } ∧ RdAt wr r re false ∧
      fillGo d.sure.length (count - j) s last re = O ∧ Kept [sb, r] w wr) (fun _ i _ => count - (intOf i).toNat)
  case atStart => exact ⟨0, -1, d.sure, svals, rest, rfl, rfl, Nat.zero_le _, rfl, H.out, HR.out, HO.out, Kept.refl _ _⟩
  case round =>
    obtain ⟨j, last, s, sv, re, rfl, rfl, hj, hsl, hD, hR, hg, hkr⟩ := hrel
    have HD := Lib.hid hD
    have HR1 := Lib.hid hR
    have HG := Lib.hid hg
    have HK := Lib.hid hkr
    have HSL := Lib.hid hsl
    clear hD hR hg hkr hsl HR HO
    by_cases hlt : j < count
    · have hltI : (j : Int) < count := by omega
      have hg := HG.out
      rw [show count - j = (count - (j + 1)) + 1 by omega] at hg
      unfold fillGo at hg
      by_cases h68 : re.length < 68
      · rw [if_pos h68] at hg
        by_cases h4 : re.length < 4
        · have hi := Lib.hid (rint_no HR1.out h4)
          have HG2 := Lib.hid hg
          clear hg h68 h4
          go_wp2_with (first
            | (go_at_call 48; refine hi.out.mono ?_; rintro e w1 ⟨rfl, h1, h2⟩; have HR2 := Lib.hid h1; have HK2 := Lib.hid h2; clear h1 h2)
            | (go_at_call 69; refine Calls.mono (rbytes_no HR2.out 64 (by decide) (.inr rfl)) ?_; rintro e w2 ⟨rfl, h1, h2⟩; have HR3 := Lib.hid h1; have HK3 := Lib.hid (HK2.out.trans' h2); clear h1 h2)
            | (go_at_call 70; refine Calls.mono (isBad_any HR3.out) ?_; rintro e w' ⟨rfl, rfl⟩))
          go_ret
          rw [← HG2.out]
          exact ⟨HK.out.trans' (HK3.out.mono (by simp)), rfl⟩
        · have hi := Lib.hid (rint_yes HR1.out (by omega))
          have HG2 := Lib.hid hg
          have h60 : Hid ((re.drop 4).length < 64) := Lib.hid (by rw [List.length_drop]; omega)
          clear hg h68 h4
          go_wp2_with (first
            | (go_at_call 48; refine hi.out.mono ?_; rintro e w1 ⟨rfl, h1, h2⟩; have HR2 := Lib.hid h1; have HK2 := Lib.hid h2; clear h1 h2)
            | (go_at_call 69; refine Calls.mono (rbytes_no HR2.out 64 (by decide) (.inl h60.out)) ?_; rintro e w2 ⟨rfl, h1, h2⟩; have HR3 := Lib.hid h1; have HK3 := Lib.hid (HK2.out.trans' h2); clear h1 h2)
            | (go_at_call 70; refine Calls.mono (isBad_any HR3.out) ?_; rintro e w' ⟨rfl, rfl⟩))
          go_ret
          rw [← HG2.out]
          exact ⟨HK.out.trans' (HK3.out.mono (by simp)), rfl⟩
      · rw [if_neg h68, show re.drop 68 = (re.drop 4).drop 64 by rw [List.drop_drop]] at hg
        have h4 : 4 ≤ re.length := by omega
        have hi := Lib.hid (rint_yes HR1.out h4)
        have hby : Hid (∀ w1, RdAt w1 r (re.drop 4) false → _) := Lib.hid fun w1 (h : RdAt w1 r (re.drop 4) false) => rbytes_yes h 64 (by rw [List.length_drop]; omega)
        have hk32 : be (re.take 4) < 4294967296 := by
          have := be_lt (re.take 4)
          rw [List.length_take, Nat.min_eq_left h4] at this
          exact this
        have hlB : Hid (((re.drop 4).take 64).length = 64) := Lib.hid (by rw [List.length_take, List.length_drop]; omega)
        clear h4 h68
        revert hi hby hk32 hlB hg
        generalize be (re.take 4) = k
        generalize re.drop 4 = l2
        generalize l2.take 64 = B
        generalize l2.drop 64 = l3
        intro hg hi hby hk32 hlB
        have HG2 := Lib.hid hg
        clear hg
        by_cases h1 : (k : Int) ≤ last
        · have HO2 : Hid (O = none) := Lib.hid (by rw [← HG2.out, if_pos (.inl h1)])
          go_wp2_with (first
            | (go_at_call 48; refine hi.out.mono ?_; rintro e w1 ⟨rfl, h1, h2⟩; have HR2 := Lib.hid h1; have HK2 := Lib.hid h2; clear h1 h2)
            | (go_at_call 69; refine (hby.out _ HR2.out).mono ?_; rintro e w2 ⟨⟨v, rfl, hv⟩, h1, h2⟩; have HR3 := Lib.hid h1; have HK3 := Lib.hid (HK2.out.trans' h2); clear h1 h2 hv)
            | (go_at_call 70; refine Calls.mono (isBad_any HR3.out) ?_; rintro e w' ⟨rfl, rfl⟩))
          go_ret
          rw [HO2.out]
          exact ⟨HK.out.trans' (HK3.out.mono (by simp)), rfl⟩
        · by_cases h2 : d.sure.length ≤ k
          · have hlI : ((d.sure.length : Nat) : Int) ≤ (k : Int) := by omega
            have HO2 : Hid (O = none) := Lib.hid (by rw [← HG2.out, if_pos (.inr (.inl h2))])
            have HZ : Hid (allZero B = allZero B) := Lib.hid rfl
            go_wp2_with (first
              | (go_at_call 48; refine hi.out.mono ?_; rintro e w1 ⟨rfl, h1, h2⟩; have HR2 := Lib.hid h1; have HK2 := Lib.hid h2; clear h1 h2)
              | (go_at_call 69; refine (hby.out _ HR2.out).mono ?_; rintro e w2 ⟨⟨v, rfl, hv⟩, h1, h2⟩; obtain ⟨a1, c1, rfl, -, -⟩ := hv.1.form; have HV := Lib.hid hv; have HR3 := Lib.hid h1; have HK3 := Lib.hid (HK2.out.trans' h2); have hD2 := HD.out.kept HK3.out (by simpa using HNE.out.1.symm) (by simpa using HNE.out.2.1.symm) (by simpa using HNE.out.2.2.symm) (by intro g hg; simp at hg; subst hg; rw [HR1.out.kd]; decide); have q0 := hD2.c0; rw [show ({ d with sure := s } : PDisk).sure.length = d.sure.length from HSL.out] at q0; have qf := hD2.row.frozenAt k; have HD2 := Lib.hid hD2; clear h1 h2 hv hD2)
              | (go_at_call 70; refine Calls.mono (isBad_any HR3.out) ?_; rintro e w' ⟨rfl, rfl⟩)
              | (go_at_call 54; refine Calls.mono (blank_any HV.out.1 (by rw [hlB.out]; decide)) ?_; rintro e w' ⟨rfl, rfl⟩; rw [HZ.out]))
            go_ret
            rw [HO2.out]
            exact ⟨HK.out.trans' (HK3.out.mono (by simp)), rfl⟩
          · have hlI : ¬((d.sure.length : Nat) : Int) ≤ (k : Int) := by omega
            cases hz : allZero B with
            | true =>
              have HO2 : Hid (O = none) := Lib.hid (by rw [← HG2.out, if_pos (.inr (.inr hz))])
              have HZ := Lib.hid hz
              clear hz
              go_wp2_with (first
              | (go_at_call 48; refine hi.out.mono ?_; rintro e w1 ⟨rfl, h1, h2⟩; have HR2 := Lib.hid h1; have HK2 := Lib.hid h2; clear h1 h2)
              | (go_at_call 69; refine (hby.out _ HR2.out).mono ?_; rintro e w2 ⟨⟨v, rfl, hv⟩, h1, h2⟩; obtain ⟨a1, c1, rfl, -, -⟩ := hv.1.form; have HV := Lib.hid hv; have HR3 := Lib.hid h1; have HK3 := Lib.hid (HK2.out.trans' h2); have hD2 := HD.out.kept HK3.out (by simpa using HNE.out.1.symm) (by simpa using HNE.out.2.1.symm) (by simpa using HNE.out.2.2.symm) (by intro g hg; simp at hg; subst hg; rw [HR1.out.kd]; decide); have q0 := hD2.c0; rw [show ({ d with sure := s } : PDisk).sure.length = d.sure.length from HSL.out] at q0; have qf := hD2.row.frozenAt k; have HD2 := Lib.hid hD2; clear h1 h2 hv hD2)
              | (go_at_call 70; refine Calls.mono (isBad_any HR3.out) ?_; rintro e w' ⟨rfl, rfl⟩)
              | (go_at_call 54; refine Calls.mono (blank_any HV.out.1 (by rw [hlB.out]; decide)) ?_; rintro e w' ⟨rfl, rfl⟩; rw [HZ.out]))
              go_ret
              rw [HO2.out]
              exact ⟨HK.out.trans' (HK3.out.mono (by simp)), rfl⟩
            | false =>
              have hg3 := HG2.out
              rw [if_neg (by rw [hz]; rintro (h | h | h); exact h1 h; exact h2 h; cases h)] at hg3
              have HG3 := Lib.hid hg3
              have HZ := Lib.hid hz
              clear hz hg3
              go_wp2_with (first
              | (go_at_call 48; refine hi.out.mono ?_; rintro e w1 ⟨rfl, h1, h2⟩; have HR2 := Lib.hid h1; have HK2 := Lib.hid h2; clear h1 h2)
              | (go_at_call 69; refine (hby.out _ HR2.out).mono ?_; rintro e w2 ⟨⟨v, rfl, hv⟩, h1, h2⟩; obtain ⟨a1, c1, rfl, -, -⟩ := hv.1.form; have HV := Lib.hid hv; have HR3 := Lib.hid h1; have HK3 := Lib.hid (HK2.out.trans' h2); have hD2 := HD.out.kept HK3.out (by simpa using HNE.out.1.symm) (by simpa using HNE.out.2.1.symm) (by simpa using HNE.out.2.2.symm) (by intro g hg; simp at hg; subst hg; rw [HR1.out.kd]; decide); have q0 := hD2.c0; rw [show ({ d with sure := s } : PDisk).sure.length = d.sure.length from HSL.out] at q0; have qf := hD2.row.frozenAt k; obtain ⟨ov, q1⟩ : ∃ ov, w2.cell? ⟨sb, k, none⟩ = some ov := ⟨_, hD2.cell (j := k) (by rw [hD2.len, show ({ d with sure := s } : PDisk).sure.length = d.sure.length from HSL.out]; omega)⟩; have HD2 := Lib.hid hD2; clear h1 h2 hv hD2)
              | (go_at_call 70; refine Calls.mono (isBad_any HR3.out) ?_; rintro e w' ⟨rfl, rfl⟩)
              | (go_at_call 54; refine Calls.mono (blank_any HV.out.1 (by rw [hlB.out]; decide)) ?_; rintro e w' ⟨rfl, rfl⟩; rw [HZ.out]))
              case roundEnd =>
                have hRk : RdAt (w2.setCell ⟨sb, k, none⟩ (.slice a1 B.length c1)) r l3 false := HR3.out.kept ((Kept.refl [sb] w2).setCell (.inl (by simp)) _) (by simpa using HNE.out.2.1) (by intro g hg; simp at hg; subst hg; rw [HD2.out.ks]; decide)
                have hDs := HD2.out.setSure k (Data.of_new HV.out) hlB.out
                refine ⟨⟨j + 1, k, s.set k B, sv.set k (.slice a1 B.length c1), l3, rfl, by go_num, by omega, by rw [List.length_set]; exact HSL.out, ?_, hRk, HG3.out, ?_⟩, by simp [intOf]; omega⟩
                · exact hDs
                · exact (HK.out.trans' (HK3.out.mono (by simp))).trans' ((Kept.refl [sb, r] w2).setCell (.inl (by simp)) _)
    · obtain rfl : j = count := by omega
      have hg := HG.out
      rw [Nat.sub_self] at hg
      unfold fillGo at hg
      have HG2 := Lib.hid hg
      clear hg
      go_wp2_with fail
      go_ret
      rw [← HG2.out]
      exact ⟨HK.out, rfl, ⟨sv, HD.out⟩, HR1.out⟩

set_option maxRecDepth 10000 in
set_option maxHeartbeats 800000 in
theorem fill_zero {w : World} {b sb scap mb cnt r : Nat} {svals : List Value} {M : Lit → Option Value} {d : PDisk} (h : DiskAt w b sb scap mb cnt svals M d) {rest : List UInt8} {bad : Bool} (hr : RdAt w r rest bad) :
    Calls Try.prog 49 #[.pointer (some ⟨b, 0, none⟩), .pointer (some ⟨r, 0, none⟩), .int .i64 0] w (FillPost w b sb scap mb cnt r M d bad (some (d.sure, rest))) := by
  have H := Lib.hid h
  have HR := Lib.hid hr
  clear h hr
  go_enter Try.func49, Try.ntmps49
  go_wp2_with fail
  go_loopw [7, 11] (fun lv i wr => lv = .int .i64 (-1) ∧ i = .int .i64 0 ∧ wr = w) (fun _ i _ => 0)
  case atStart => exact ⟨rfl, rfl, rfl⟩
  case round =>
    obtain ⟨rfl, rfl, rfl⟩ := hrel
    go_wp2_with fail
    go_ret
    exact ⟨Kept.refl _ _, rfl, ⟨svals, H.out⟩, HR.out⟩
theorem fill_all {w : World} {b sb scap mb cnt r : Nat} {svals : List Value} {M : Lit → Option Value} {d : PDisk} (h : DiskAt w b sb scap mb cnt svals M d) {rest : List UInt8} {bad : Bool} (hr : RdAt w r rest bad) (hne : r ≠ b ∧ r ≠ sb ∧ r ≠ mb) (count : Nat) (hc : count ≤ 4294967296) (hb : bad = true → count = 0) :
    Calls Try.prog 49 #[.pointer (some ⟨b, 0, none⟩), .pointer (some ⟨r, 0, none⟩), .int .i64 count] w (FillPost w b sb scap mb cnt r M d bad (fillGo d.sure.length count d.sure (-1) rest)) := by
  cases bad with
  | false => exact fill_any h hr hne count hc
  | true =>
    obtain rfl := hb rfl
    unfold fillGo
    exact fill_zero h hr
end Go.Proofs.Ytfkdoinlbdcaaaa

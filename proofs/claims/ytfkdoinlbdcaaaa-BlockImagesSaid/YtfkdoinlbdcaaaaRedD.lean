/- The document's Load. -/
import Derived.Test.YtfkdoinlbdcaaaaRedC
namespace Go.Proofs.Ytfkdoinlbdcaaaa
open Go.RowKit

theorem r1int_any {w : World} {B r : Nat} {l : List UInt8} {bad : Bool} (h : R1At w B r l bad) :
    Calls Try.prog 51 #[.pointer (some ⟨r, 0, none⟩), .int .i64 4] w fun e w' => e = .returned (.int .i64 (rintV l).1) ∧ R1At w' B r (rintV l).2.1 (rintV l).2.2 ∧ Kept [r] w w' := by
  unfold rintV
  by_cases h4 : l.length < 4
  · rw [if_pos h4]; exact r1int_no h h4
  · rw [if_neg h4]; exact r1int_yes h (by omega)

def refOut (n : Nat) : Option (List (List UInt8) × List UInt8) → Option PDisk
  | none => none
  | some (s, rest) => if 0 < rest.length then none else some { PDisk.new n with sure := s }
def refLoadGo (n c : Nat) (l : List UInt8) (bad : Bool) : Option PDisk :=
  if bad = true ∨ n < 1 ∨ 16384 < n ∨ n < c then none
  else refOut n (fillGo n c (PDisk.new n).sure (-1) l)

def RefLoadPost (w : World) (o : Option PDisk) (e : Ending) (w' : World) : Prop :=
  Kept [] w w' ∧ match o with
    | none => e = .returned (.pointer none)
    | some d => ∃ b F, e = .returned (.pointer (some ⟨b, 0, none⟩)) ∧ RefRep w' b F d ∧ ∀ k, k ∈ F → w.heap.size ≤ k

set_option maxRecDepth 10000 in
set_option maxHeartbeats 3200000 in
theorem refLoad_any {w : World} {v : Value} {l : List UInt8} (hv : Bytes w v l) (hl : l.length ≤ 100000) : Calls Try.prog 26 #[v] w (RefLoadPost w (refLoadGo (rintV l).1 (rintV (rintV l).2.1).1 (rintV (rintV l).2.1).2.1 (rintV (rintV l).2.1).2.2)) := by
  obtain ⟨a, cc, rfl, -, -⟩ := hv.form
  have k0 : Kept [] w (w.alloc (.cells #[.slice a l.length cc, .bool false] 85)) := (Kept.refl [] w).alloc _
  have HR0 : Hid (R1At (w.alloc (.cells #[.slice a l.length cc, .bool false] 85)) w.heap.size w.heap.size l false) :=
    Lib.hid ⟨⟨a, cc, heap_alloc_new w _, hv.kept0 k0, fun g hg => hv.lt hg⟩, Nat.le_refl _, hl, by simp⟩
  have HK0 := Lib.hid k0
  have hi1 : Hid (∀ w B r, R1At w B r l false → _) := Lib.hid fun w B r (h : R1At w B r l false) => r1int_any h
  have hi2 : Hid (∀ w B r bad, R1At w B r (rintV l).2.1 bad → _) := Lib.hid fun w B r bad (h : R1At w B r (rintV l).2.1 bad) => r1int_any h
  have hn := rintV_lt l
  have hc := rintV_lt (rintV l).2.1
  clear hv hl k0
  revert hi1 hi2 hn hc HR0 HK0
  generalize (rintV l).2.2 = bad1
  generalize (rintV l).1 = n
  generalize (rintV l).2.1 = l1
  generalize (rintV l1).2.2 = bad2
  generalize (rintV l1).1 = c
  generalize (rintV l1).2.1 = l2
  intro HR0 HK0 hi1 hi2 hn hc
  cases bad2 with
  | true =>
    rw [show refLoadGo n c l2 true = none by unfold refLoadGo; rw [if_pos (.inl rfl)]]
    go_enter Try.func26, Try.ntmps26
    go_wp2_with (first
          | (go_at_call 51; refine (hi1.out _ _ _ HR0.out).mono ?_; rintro e w2 ⟨rfl, h1, h2⟩; clear hi1; have HR2 := Lib.hid h1; have HK2 := Lib.hid (HK0.out.trans h2 (by intro k hk; simp at hk; subst hk; exact .inr (Nat.le_refl _))); clear h1 h2)
          | (go_at_call 51; refine (hi2.out _ _ _ _ HR2.out).mono ?_; rintro e w3 ⟨rfl, h1, h2⟩; clear hi2; obtain ⟨a3, c3, hh, -⟩ := h1.rep; have q1 : w3.cell? ⟨w.heap.size, 1, none⟩ = some (.bool true) := cell_head hh rfl; have HR3 := Lib.hid h1; have HK3 := Lib.hid (HK2.out.trans h2 (by intro k hk; simp at hk; subst hk; exact .inr (Nat.le_refl _))); clear h1 h2 hh))
    go_ret
    exact ⟨HK3.out, rfl⟩
  | false =>
    by_cases h1 : n < 1
    · have h1I : (n : Int) < 1 := by omega
      rw [show refLoadGo n c l2 false = none by unfold refLoadGo; rw [if_pos (.inr (.inl h1))]]
      go_enter Try.func26, Try.ntmps26
      go_wp2_with (first
            | (go_at_call 51; refine (hi1.out _ _ _ HR0.out).mono ?_; rintro e w2 ⟨rfl, h1, h2⟩; clear hi1; have HR2 := Lib.hid h1; have HK2 := Lib.hid (HK0.out.trans h2 (by intro k hk; simp at hk; subst hk; exact .inr (Nat.le_refl _))); clear h1 h2)
            | (go_at_call 51; refine (hi2.out _ _ _ _ HR2.out).mono ?_; rintro e w3 ⟨rfl, h1, h2⟩; clear hi2; obtain ⟨a3, c3, hh, -⟩ := h1.rep; have q1 : w3.cell? ⟨w.heap.size, 1, none⟩ = some (.bool false) := cell_head hh rfl; have HR3 := Lib.hid h1; have HK3 := Lib.hid (HK2.out.trans h2 (by intro k hk; simp at hk; subst hk; exact .inr (Nat.le_refl _))); clear h1 h2 hh))
      go_ret
      exact ⟨HK3.out, rfl⟩
    · by_cases h2 : 16384 < n
      · have h1I : ¬(n : Int) < 1 := by omega
        have h2I : (16384 : Int) < n := by omega
        rw [show refLoadGo n c l2 false = none by unfold refLoadGo; rw [if_pos (.inr (.inr (.inl h2)))]]
        go_enter Try.func26, Try.ntmps26
        go_wp2_with (first
              | (go_at_call 51; refine (hi1.out _ _ _ HR0.out).mono ?_; rintro e w2 ⟨rfl, h1, h2⟩; clear hi1; have HR2 := Lib.hid h1; have HK2 := Lib.hid (HK0.out.trans h2 (by intro k hk; simp at hk; subst hk; exact .inr (Nat.le_refl _))); clear h1 h2)
              | (go_at_call 51; refine (hi2.out _ _ _ _ HR2.out).mono ?_; rintro e w3 ⟨rfl, h1, h2⟩; clear hi2; obtain ⟨a3, c3, hh, -⟩ := h1.rep; have q1 : w3.cell? ⟨w.heap.size, 1, none⟩ = some (.bool false) := cell_head hh rfl; have HR3 := Lib.hid h1; have HK3 := Lib.hid (HK2.out.trans h2 (by intro k hk; simp at hk; subst hk; exact .inr (Nat.le_refl _))); clear h1 h2 hh))
        go_ret
        exact ⟨HK3.out, rfl⟩
      · by_cases h3 : n < c
        · have h1I : ¬(n : Int) < 1 := by omega
          have h2I : ¬(16384 : Int) < n := by omega
          have h3I : (n : Int) < c := by omega
          rw [show refLoadGo n c l2 false = none by unfold refLoadGo; rw [if_pos (.inr (.inr (.inr h3)))]]
          go_enter Try.func26, Try.ntmps26
          go_wp2_with (first
                | (go_at_call 51; refine (hi1.out _ _ _ HR0.out).mono ?_; rintro e w2 ⟨rfl, h1, h2⟩; clear hi1; have HR2 := Lib.hid h1; have HK2 := Lib.hid (HK0.out.trans h2 (by intro k hk; simp at hk; subst hk; exact .inr (Nat.le_refl _))); clear h1 h2)
                | (go_at_call 51; refine (hi2.out _ _ _ _ HR2.out).mono ?_; rintro e w3 ⟨rfl, h1, h2⟩; clear hi2; obtain ⟨a3, c3, hh, -⟩ := h1.rep; have q1 : w3.cell? ⟨w.heap.size, 1, none⟩ = some (.bool false) := cell_head hh rfl; have HR3 := Lib.hid h1; have HK3 := Lib.hid (HK2.out.trans h2 (by intro k hk; simp at hk; subst hk; exact .inr (Nat.le_refl _))); clear h1 h2 hh))
          go_ret
          exact ⟨HK3.out, rfl⟩
        · have ho : refLoadGo n c l2 false = refOut n (fillGo n c (PDisk.new n).sure (-1) l2) := by
            unfold refLoadGo; rw [if_neg (by rintro (h | h | h | h); cases h; exact h1 h; exact h2 h; exact h3 h)]
          rw [ho]
          have hlen : (PDisk.new n).sure.length = n := by simp [PDisk.new]
          generalize hO : fillGo n c (PDisk.new n).sure (-1) l2 = O
          have HO := Lib.hid hO
          have HL := Lib.hid hlen
          have h1I : ¬(n : Int) < 1 := by omega
          have h2I : ¬(16384 : Int) < n := by omega
          have h3I : ¬(n : Int) < c := by omega
          have hnew : Hid (∀ w, _) := Lib.hid fun w => refNew_any n w (by omega) (by omega)
          clear ho hO hlen
          go_enter Try.func26, Try.ntmps26
          go_wp2_with (first
                | (go_at_call 51; refine (hi1.out _ _ _ HR0.out).mono ?_; rintro e w2 ⟨rfl, h1, h2⟩; clear hi1; have HR2 := Lib.hid h1; have HK2 := Lib.hid (HK0.out.trans h2 (by intro k hk; simp at hk; subst hk; exact .inr (Nat.le_refl _))); clear h1 h2)
                | (go_at_call 51; refine (hi2.out _ _ _ _ HR2.out).mono ?_; rintro e w3 ⟨rfl, h1, h2⟩; clear hi2; obtain ⟨a3, c3, hh, -⟩ := h1.rep; have q1 : w3.cell? ⟨w.heap.size, 1, none⟩ = some (.bool false) := cell_head hh rfl; have HR3 := Lib.hid h1; have HK3 := Lib.hid (HK2.out.trans h2 (by intro k hk; simp at hk; subst hk; exact .inr (Nat.le_refl _))); clear h1 h2 hh)
                | (go_at_call 16; refine (hnew.out _).mono ?_; rintro e w4 ⟨b, F, rfl, ⟨sb, nb, lb, scap, ncap, lcap, svals, nvals, lvals, rfl, hd⟩, hk4, hF⟩; have HR4 := Lib.hid (HR3.out.kept hk4 (by simp) (by simp)); have HD0 := Lib.hid hd; have HK4 := Lib.hid (HK3.out.then hk4); have HF := Lib.hid (fun k hk => Nat.le_trans HK3.out.size (hF k hk)); have HNE : Hid (w.heap.size ≠ b ∧ w.heap.size ≠ sb ∧ w.heap.size ≠ nb ∧ w.heap.size ≠ lb) := Lib.hid (by have := HR3.out.lt; have h1 := hF b (by simp); have h2 := hF sb (by simp); have h3 := hF nb (by simp); have h4 := hF lb (by simp); omega); clear hd hk4 hF))
          go_loopw [7, 8] (fun lv i wr => ∃ (j : Nat) (last : Int) (s : List (List UInt8)) (sv : List Value) (re : List UInt8), lv = .int .i64 last ∧ i = .int .i64 j ∧ j ≤ c ∧ s.length = n ∧ RefAt wr b sb nb lb scap ncap lcap sv nvals lvals { PDisk.new n with sure := s } ∧ R1At wr w.heap.size w.heap.size re false ∧
              fillGo n (c - j) s last re = O ∧ Kept [] w wr) (fun _ i _ => c - (intOf i).toNat)
          case atStart => exact ⟨0, -1, (PDisk.new n).sure, svals, l2, rfl, rfl, Nat.zero_le _, HL.out, HD0.out, HR4.out, HO.out, HK4.out⟩
          case round =>
            obtain ⟨j, last, s, sv, re, rfl, rfl, hj, hsl, hD, hR, hg, hkr⟩ := hrel
            have HD := Lib.hid hD
            have HR1 := Lib.hid hR
            have HG := Lib.hid hg
            have HK := Lib.hid hkr
            have HSL := Lib.hid hsl
            have c0 := hD.c0
            have hdist := Lib.hid hD.dist
            rw [show ({ PDisk.new n with sure := s } : PDisk).sure.length = n from hsl] at c0
            clear hD hR hg hkr hsl HO HR3 HR4 HD0 HL hnew HR0
            by_cases hlt : j < c
            · have hltI : (j : Int) < c := by omega
              have hg := HG.out
              rw [show c - j = (c - (j + 1)) + 1 by omega] at hg
              unfold fillGo at hg
              by_cases h68 : re.length < 68
              · rw [if_pos h68] at hg
                by_cases h4 : re.length < 4
                · have hi := Lib.hid (r1int_no HR1.out h4)
                  have HG2 := Lib.hid hg
                  clear hg h68 h4
                  go_wp2_with (first
                    | (go_at_call 51; refine hi.out.mono ?_; rintro e w1 ⟨rfl, h1, h2⟩; have HR2 := Lib.hid h1; have HK2 := Lib.hid h2; clear h1 h2)
                    | (go_at_call 52; refine Calls.mono (r1bytes_no HR2.out (by decide)) ?_; rintro e w2 ⟨rfl, h1, h2⟩; obtain ⟨a5, c5, hh, -⟩ := h1.rep; have q5 : w2.cell? ⟨w.heap.size, 1, none⟩ = some (.bool true) := cell_head hh rfl; have HR3 := Lib.hid h1; have HK3 := Lib.hid (HK2.out.trans' h2); clear h1 h2 hh))
                  go_ret
                  rw [← HG2.out]
                  exact ⟨(HK.out.trans HK3.out (by intro k hk; simp at hk; subst hk; exact .inr (Nat.le_refl _))), rfl⟩
                · have hi := Lib.hid (r1int_yes HR1.out (by omega))
                  have HG2 := Lib.hid hg
                  have h60 : Hid ((re.drop 4).length < 64) := Lib.hid (by rw [List.length_drop]; omega)
                  clear hg h68 h4
                  go_wp2_with (first
                    | (go_at_call 51; refine hi.out.mono ?_; rintro e w1 ⟨rfl, h1, h2⟩; have HR2 := Lib.hid h1; have HK2 := Lib.hid h2; clear h1 h2)
                    | (go_at_call 52; refine Calls.mono (r1bytes_no HR2.out h60.out) ?_; rintro e w2 ⟨rfl, h1, h2⟩; obtain ⟨a5, c5, hh, -⟩ := h1.rep; have q5 : w2.cell? ⟨w.heap.size, 1, none⟩ = some (.bool true) := cell_head hh rfl; have HR3 := Lib.hid h1; have HK3 := Lib.hid (HK2.out.trans' h2); clear h1 h2 hh))
                  go_ret
                  rw [← HG2.out]
                  exact ⟨(HK.out.trans HK3.out (by intro k hk; simp at hk; subst hk; exact .inr (Nat.le_refl _))), rfl⟩
              · rw [if_neg h68, show re.drop 68 = (re.drop 4).drop 64 by rw [List.drop_drop]] at hg
                have h4 : 4 ≤ re.length := by omega
                have hi := Lib.hid (r1int_yes HR1.out h4)
                have hby : Hid (∀ w1, R1At w1 w.heap.size w.heap.size (re.drop 4) false → _) := Lib.hid fun w1 (h : R1At w1 w.heap.size w.heap.size (re.drop 4) false) => r1bytes_yes h (by rw [List.length_drop]; omega)
                have hk32 : be (re.take 4) < 4294967296 := by
                  have := be_lt (re.take 4)
                  rw [List.length_take, Nat.min_eq_left h4] at this
                  exact this
                have hlB : Hid (((re.drop 4).take 64).length = 64) := Lib.hid (by rw [List.length_take, List.length_drop]; omega)
                clear h4 h68
                revert hi hby hk32 hlB hg
                generalize be (re.take 4) = k
                generalize re.drop 4 = l3
                generalize l3.take 64 = Bk
                generalize l3.drop 64 = l4
                intro hg hi hby hk32 hlB
                have HG2 := Lib.hid hg
                clear hg
                by_cases h1 : (k : Int) ≤ last
                · have HO2 : Hid (O = none) := Lib.hid (by rw [← HG2.out, if_pos (.inl h1)])
                  go_wp2_with (first
                        | (go_at_call 51; refine hi.out.mono ?_; rintro e w1 ⟨rfl, h1, h2⟩; have HR2 := Lib.hid h1; have HK2 := Lib.hid h2; clear h1 h2)
                        | (go_at_call 52; refine (hby.out _ HR2.out).mono ?_; rintro e w2 ⟨⟨v, rfl, hv⟩, h1, h2⟩; obtain ⟨a1, c1, rfl, -, -⟩ := hv.1.form; obtain ⟨a5, c5, hh, -⟩ := h1.rep; have q5 : w2.cell? ⟨w.heap.size, 1, none⟩ = some (.bool false) := cell_head hh rfl; have HV := Lib.hid hv; have HR3 := Lib.hid h1; have HK3 := Lib.hid (HK2.out.trans' h2); clear h1 h2 hh hv)
                        | (go_at_call 53; trace_state; fail "here"))
                  go_ret
                  rw [HO2.out]
                  exact ⟨(HK.out.trans HK3.out (by intro k hk; simp at hk; subst hk; exact .inr (Nat.le_refl _))), rfl⟩
                · by_cases h2 : n ≤ k
                  · have hlI : (n : Int) ≤ (k : Int) := by omega
                    have HO2 : Hid (O = none) := Lib.hid (by rw [← HG2.out, if_pos (.inr (.inl h2))])
                    go_wp2_with (first
                        | (go_at_call 51; refine hi.out.mono ?_; rintro e w1 ⟨rfl, h1, h2⟩; have HR2 := Lib.hid h1; have HK2 := Lib.hid h2; clear h1 h2)
                        | (go_at_call 52; refine (hby.out _ HR2.out).mono ?_; rintro e w2 ⟨⟨v, rfl, hv⟩, h1, h2⟩; obtain ⟨a1, c1, rfl, -, -⟩ := hv.1.form; obtain ⟨a5, c5, hh, -⟩ := h1.rep; have q5 : w2.cell? ⟨w.heap.size, 1, none⟩ = some (.bool false) := cell_head hh rfl; have HV := Lib.hid hv; have HR3 := Lib.hid h1; have HK3 := Lib.hid (HK2.out.trans' h2); clear h1 h2 hh hv)
                        | (go_at_call 53; trace_state; fail "here"))
                    go_ret
                    rw [HO2.out]
                    exact ⟨(HK.out.trans HK3.out (by intro k hk; simp at hk; subst hk; exact .inr (Nat.le_refl _))), rfl⟩
                  · have hlI : ¬(n : Int) ≤ (k : Int) := by omega
                    cases hz : allZero Bk with
                    | true =>
                      have HO2 : Hid (O = none) := Lib.hid (by rw [← HG2.out, if_pos (.inr (.inr hz))])
                      have HZ := Lib.hid hz
                      clear hz
                      go_wp2_with (first
                        | (go_at_call 51; refine hi.out.mono ?_; rintro e w1 ⟨rfl, h1, h2⟩; have HR2 := Lib.hid h1; have HK2 := Lib.hid h2; clear h1 h2)
                        | (go_at_call 52; refine (hby.out _ HR2.out).mono ?_; rintro e w2 ⟨⟨v, rfl, hv⟩, h1, h2⟩; obtain ⟨a1, c1, rfl, -, -⟩ := hv.1.form; obtain ⟨a5, c5, hh, -⟩ := h1.rep; have q5 : w2.cell? ⟨w.heap.size, 1, none⟩ = some (.bool false) := cell_head hh rfl; have HV := Lib.hid hv; have HR3 := Lib.hid h1; have HK3 := Lib.hid (HK2.out.trans' h2); clear h1 h2 hh hv)
                        | (go_at_call 53; refine Calls.mono (zeros_any HV.out.1 (by rw [hlB.out]; decide)) ?_; rintro e w' ⟨rfl, rfl⟩; rw [HZ.out]))
                      go_ret
                      rw [HO2.out]
                      exact ⟨(HK.out.trans HK3.out (by intro k hk; simp at hk; subst hk; exact .inr (Nat.le_refl _))), rfl⟩
                    | false =>
                      have hg3 := HG2.out
                      rw [if_neg (by rw [hz]; rintro (h | h | h); exact h1 h; exact h2 h; cases h)] at hg3
                      have HG3 := Lib.hid hg3
                      have HZ := Lib.hid hz
                      clear hz hg3
                      go_wp2_with (first
                        | (go_at_call 51; refine hi.out.mono ?_; rintro e w1 ⟨rfl, h1, h2⟩; have HR2 := Lib.hid h1; have HK2 := Lib.hid h2; clear h1 h2)
                        | (go_at_call 52; refine (hby.out _ HR2.out).mono ?_; rintro e w2 ⟨⟨v, rfl, hv⟩, h1, h2⟩; have h2' := HK2.out.trans' h2; obtain ⟨a1, c1, rfl, -, -⟩ := hv.1.form; obtain ⟨a5, c5, hh, -⟩ := h1.rep; have q5 : w2.cell? ⟨w.heap.size, 1, none⟩ = some (.bool false) := cell_head hh rfl; have HV := Lib.hid hv; have hD2 := HD.out.kept h2' (by simpa using HNE.out.1.symm) (by simpa using HNE.out.2.1.symm) (by simpa using HNE.out.2.2.1.symm) (by simpa using HNE.out.2.2.2.symm) (by intro g hg; simp at hg; subst hg; rw [HR1.out.kd]; decide); have q0 := hD2.c0; rw [show ({ PDisk.new n with sure := s } : PDisk).sure.length = n from HSL.out] at q0; have qf := hD2.rows.frozenAt k; obtain ⟨ov, q6⟩ : ∃ ov, w2.cell? ⟨sb, k, none⟩ = some ov := (by have hl : sv.length = n := by { have := hD2.sure.1; rw [this]; exact HSL.out }; have hx := hD2.rows.cellAt k (by rw [show ({ PDisk.new n with sure := s } : PDisk).sure.length = n from HSL.out]; omega); exact ⟨_, hx.trans (List.getElem?_eq_getElem (by omega))⟩); have HD2 := Lib.hid hD2; have HR3 := Lib.hid h1; have HK3 := Lib.hid (HK2.out.trans' h2); clear h1 h2 h2' hh hv hD2)
                        | (go_at_call 53; refine Calls.mono (zeros_any HV.out.1 (by rw [hlB.out]; decide)) ?_; rintro e w' ⟨rfl, rfl⟩; rw [HZ.out]))
                      case roundEnd =>
                        have kk : Kept [sb] w2 (w2.setCell ⟨sb, k, none⟩ (.slice a1 Bk.length c1)) := (Kept.refl [sb] w2).setCell (.inl (by simp)) _
                        have hRk := HR3.out.kept kk (by simpa using HNE.out.2.1) (by intro g hg; simp at hg; subst hg; exact HF.out _ (by simp))
                        have hDs := HD2.out.setSure k (Data.of_new HV.out) hlB.out
                        refine ⟨⟨j + 1, k, s.set k Bk, sv.set k (.slice a1 Bk.length c1), l4, rfl, by go_num, by omega, by rw [List.length_set]; exact HSL.out, ?_, hRk, HG3.out, ?_⟩, by simp [intOf]; omega⟩
                        · exact hDs
                        · exact (HK.out.trans HK3.out (by intro k hk; simp at hk; subst hk; exact .inr (Nat.le_refl _))).trans kk (by intro x hx; simp at hx; subst hx; exact .inr (HF.out _ (by simp)))
            · obtain rfl : j = c := by omega
              have hg := HG.out
              rw [Nat.sub_self] at hg
              unfold fillGo at hg
              have HG2 := Lib.hid hg
              obtain ⟨a5, c5, hh, -⟩ := HR1.out.rep
              have q5 : wr.cell? ⟨w.heap.size, 0, none⟩ = some (.slice a5 re.length c5) := cell_head hh rfl
              have HL1 : Hid (re.length ≤ 100000) := Lib.hid HR1.out.few
              clear hg hh
              by_cases h0 : 0 < re.length
              · have h0I : (0 : Int) < re.length := by omega
                have HO2 : Hid (refOut n O = none) := Lib.hid (by rw [← HG2.out]; exact if_pos h0)
                go_wp2_with fail
                go_ret
                rw [HO2.out]
                exact ⟨HK.out, rfl⟩
              · have h0I : ¬(0 : Int) < re.length := by omega
                have HO2 : Hid (refOut n O = some { PDisk.new n with sure := s }) := Lib.hid (by rw [← HG2.out]; exact if_neg h0)
                go_wp2_with fail
                go_ret
                rw [HO2.out]
                exact ⟨HK.out, b, [b, sb, nb, lb], rfl, ⟨sb, nb, lb, scap, ncap, lcap, sv, nvals, lvals, rfl, HD.out⟩, HF.out⟩
end Go.Proofs.Ytfkdoinlbdcaaaa

/- The document's disk: Write. -/
import Derived.Test.YtfkdoinlbdcaaaaRefD
namespace Go.Proofs.Ytfkdoinlbdcaaaa
open Go.RowKit
section
variable {w : World} {b sb nb lb scap ncap lcap : Nat} {svals nvals lvals : List Value} {d : PDisk}
theorem PDisk.upd_ok {d : PDisk} (h : d.Ok) {i : Int} {l : List UInt8} (hl : l.length = 64) (h0 : 0 ≤ i) (h1 : i < d.sure.length) : (d.upd i l).Ok := by
  refine ⟨h.pos, h.le, h.b0, h.b1, h.l0, h.l1, ?_, h.s64, ?_⟩
  · intro x hx
    by_cases e : x = i
    · subst e; exact ⟨h0, h1⟩
    · simp [PDisk.upd, e] at hx; exact h.dom x hx
  · intro x l' hx
    by_cases e : x = i
    · subst e; simp [PDisk.upd] at hx; subst hx; exact hl
    · simp [PDisk.upd, e] at hx; exact h.l64 x l' hx

/-- A loose block more. -/
theorem RefAt.put (h : RefAt w b sb nb lb scap ncap lcap svals nvals lvals d) (i : Nat) (hi : i < d.sure.length) {v : Value} {l : List UInt8} (hv : Data w v l) (hl : l.length = 64) :
    RefAt ((w.setCell ⟨nb, i, none⟩ v).setCell ⟨lb, i, none⟩ (.bool true)) b sb nb lb scap ncap lcap svals (nvals.set i v) (lvals.set i (.bool true)) (d.upd i l) := by
  have hd := h.dist
  have k1 : Kept [nb] w (w.setCell ⟨nb, i, none⟩ v) := (Kept.refl [nb] w).setCell (.inl (by simp)) v
  have k2 : Kept [lb] (w.setCell ⟨nb, i, none⟩ v) ((w.setCell ⟨nb, i, none⟩ v).setCell ⟨lb, i, none⟩ (.bool true)) := (Kept.refl [lb] _).setCell (.inl (by simp)) _
  have k : Kept [nb, lb] w ((w.setCell ⟨nb, i, none⟩ v).setCell ⟨lb, i, none⟩ (.bool true)) := (k1.mono (by simp)).trans' (k2.mono (by simp))
  have hX : ∀ k, k ∈ [nb, lb] → kind w k ≠ 5 + 2 := by
    intro k hk
    simp at hk
    rcases hk with rfl | rfl
    · rw [h.kn]; decide
    · rw [h.kl]; decide
  have hnl : nvals.length = d.sure.length := by simpa using h.rown.1
  have hll : lvals.length = d.sure.length := by simpa using h.rowl.1
  exact {
    ok := PDisk.upd_ok h.ok hl (by omega) (by omega)
    head := k.heap h.head (by simp [hd.2.1, hd.2.2.1])
    rows := row_kept h.rows k (by intro g hg; simp [Value.ownBlock] at hg; subst hg; simp [hd.2.2.2.1, hd.2.2.2.2.1])
    rown := row_kept (h.rown.stored i v).1 k2 (by intro g hg; simp [Value.ownBlock] at hg; subst hg; simp [hd.2.2.2.2.2])
    rowl := ((row_kept h.rowl k1 (by intro g hg; simp [Value.ownBlock] at hg; subst hg; simpa using hd.2.2.2.2.2.symm)).stored i (.bool true)).1
    apart := h.apart
    sure := h.sure.mono fun x y _ r => r.kept k hX
    flag := by
      intro j hj
      rw [List.getElem?_set]
      by_cases e : i = j
      · subst e
        have hj' : i < d.sure.length := hj
        simp [PDisk.upd, hll, hj']
      · have e' : ¬((j : Int) = (i : Int)) := by omega
        simp only [if_neg e, PDisk.upd, if_neg e']
        exact h.flag j hj
    new := by
      intro j hj l' hl'
      rw [List.getElem?_set]
      by_cases e : i = j
      · subst e
        have hj' : i < d.sure.length := hj
        simp [PDisk.upd] at hl'
        subst hl'
        exact ⟨v, by simp [hnl, hj'], hv.kept k hX⟩
      · have e' : ¬((j : Int) = (i : Int)) := by omega
        simp only [PDisk.upd, if_neg e'] at hl'
        obtain ⟨v', e1, e2⟩ := h.new j hj l' hl'
        exact ⟨v', by rw [if_neg e]; exact e1, e2.kept k hX⟩ }
end

theorem goes_off {d : PDisk} (h : d.off = false) : d.goes.off = decide (d.left = 0) := by
  unfold PDisk.goes
  by_cases h0 : d.left = 0
  · rw [if_pos h0]; simp [h0]
  · rw [if_neg h0]
    by_cases h1 : 0 < d.left
    · rw [if_pos h1]; simp [h, h0]
    · rw [if_neg h1]; simp [h, h0]

set_option maxRecDepth 10000 in
set_option maxHeartbeats 3200000 in
theorem refWrite_any {w : World} {b : Nat} {F : List Nat} {d : PDisk} (h : RefRep w b F d) (i : Int) {v : Value} {l : List UInt8} (hv : Bytes w v l) (hF : ∀ g, vblk v = some g → g ∉ F) :
    Calls Try.prog 39 #[.pointer (some ⟨b, 0, none⟩), .int .i64 i, v] w fun e w' => e = .returned (.int .i64 (d.write i l).1) ∧ RefRep w' b F (d.write i l).2 ∧ Kept F w w' := by
  have H := Lib.hid h
  obtain ⟨sb, nb, lb, scap, ncap, lcap, svals, nvals, lvals, rfl, h⟩ := h
  have c5 := h.c5
  have his := Lib.hid (refIs_any h i)
  obtain ⟨va, vc, rfl, hvc, -⟩ := hv.form
  cases ho : d.off
  · rw [ho] at c5
    by_cases hi : 0 ≤ i ∧ i < d.sure.length
    · rw [decide_eq_true hi] at his
      have hm : d.may i = 0 := by unfold PDisk.may; rw [ho, if_neg (by simp), if_neg (by omega)]
      by_cases hl : l.length = 64
      · obtain ⟨k, rfl⟩ := Int.eq_ofNat_of_zero_le hi.1
        have hwr : ∃ nn : Nat, nn ≤ 64 ∧ (if d.goes.off then d.goes.bytes else 64) = (nn : Int) ∧ d.write k l = (if d.goes.off then 210 else 0, d.goes.upd k (l.take nn ++ (d.goes.now k).drop nn)) := by
          have hb0 := h.ok.b0
          have hb1 := h.ok.b1
          have h64 : (d.goes.now k).length = 64 := by unfold PDisk.now; rw [PDisk.goes_loose, PDisk.goes_sure]; exact h.ok.now64 hi.1 hi.2
          have e : d.write k l = if d.goes.off then (210, d.goes.upd k (l.take d.goes.bytes.toNat ++ (d.goes.now k).drop d.goes.bytes.toNat)) else (0, d.goes.upd k l) := by
            unfold PDisk.write
            rw [if_neg (by rw [hm]; simp), if_neg (by rw [hl]; simp)]
          rw [e]
          clear e
          cases hgo : d.goes.off
          · exact ⟨64, Nat.le_refl _, by simp, by simp [List.take_of_length_le (Nat.le_of_eq hl), List.drop_of_length_le (Nat.le_of_eq h64)]⟩
          · rw [PDisk.goes_bytes]
            refine ⟨d.bytes.toNat, ?_, ?_, by simp⟩
            · clear hl; omega
            · rw [if_pos rfl]; clear hl; omega
        obtain ⟨nn, hnn, hq, hwr⟩ := hwr
        rw [hwr]
        have hg := refGoes_any h
        rw [← goes_off ho] at hg
        have hk : k < d.goes.sure.length := by rw [PDisk.goes_sure]; omega
        have h64 : (d.goes.now k).length = 64 := by unfold PDisk.now; rw [PDisk.goes_loose, PDisk.goes_sure]; exact h.ok.now64 hi.1 hi.2
        have Hg := Lib.hid hg
        have HV := Lib.hid hv
        have hbne : ∀ g, vblk (.slice va l.length vc) = some g → g ∉ [b] := fun g hg hx => hF g hg (by simp at hx; simp [hx])
        have HB := Lib.hid hbne
        have hl64 : (l.length : Int) = 64 := by omega
        have HL := Lib.hid hl
        have HN := Lib.hid h64
        clear hg hv hwr hm h hi ho hF hbne H h64
        generalize d.goes = dg at *
        rw [HL.out] at HV HB ⊢
        cases hof : dg.off
        all_goals
          rw [hof] at hq Hg
          simp only [if_true, if_false, Bool.false_eq_true] at hq ⊢
          clear hof
          try (have e64 : nn = 64 := by clear hl HL; omega
               subst e64
               clear hq)
          go_enter Try.func39, Try.ntmps39
          go_wp2_with (first
            | (go_at_call 43; refine his.out.mono ?_; rintro e w' ⟨rfl, rfl⟩)
            | (go_at_call 63
               refine Hg.out.mono ?_
               rintro e w1 ⟨rfl, hR, hk1⟩
               have c1 := hR.c1
               have c4 := hR.c4
               try rw [hq] at c4
               have HR := Lib.hid hR
               have HK1 := Lib.hid hk1
               clear hR hk1))
          have qn := HR.out.rown.cellAt k (by omega)
          have hkn : k < nvals.length := by have := HR.out.rown.1; omega
          rw [List.getElem?_eq_getElem hkn] at qn
          have hnow := Lib.hid (refNow_any (HR.out.kept (Kept.refl [] w1).drew (by simp) (by simp) (by simp) (by simp) (by simp)) k hk)
          have hkk : (k : Int) < dg.sure.length := by omega
          have HV1 := Lib.hid ((HV.out.kept HK1.out HB.out).kept0 (Kept.refl [] w1).drew)
          have hSS : (fun w' : World => w'.cell? ⟨b, 1, none⟩ = some (.slice (some ⟨nb, 0, none⟩) dg.sure.length ncap)) w1.drew := c1
          refine wp_region_last' (n := 13) (fun w' : World => w'.cell? ⟨b, 1, none⟩ = some (.slice (some ⟨nb, 0, none⟩) dg.sure.length ncap)) 12 (by kernel_rfl) (by kernel_rfl) ?_
          change wpAnyT _ _ _ _ _ _ _ _ _ w1.drew
          refine wpAnyT_start ?_
          intro O R hO hR
          have hQp : ∀ c a (d : Nat) v w, R (.panic c) (a.put (some d) v) w → R (.panic c) a w := by subst hR; exact fun _ _ _ _ _ h => h
          refine wpAnyT_take' (i := 0) (v := ?_) hO rfl rfl (by kernel_rfl) (by kernel_rfl) (by kernel_rfl) (by kernel_rfl) hQp (Or.inl ⟨by kernel_rfl, fun w hSw => ?_⟩) hSS ?_
          rotate_left
          · have s0 := hSw; go_simp; try with_reducible rfl
          try simp only [Act.put, List.setIfInBounds_toArray, List.set_cons_zero, List.set_cons_succ]
          refine wpAnyT_take' (i := 1) (v := ?_) hO rfl rfl (by kernel_rfl) (by kernel_rfl) (by kernel_rfl) (by kernel_rfl) hQp (Or.inl ⟨by kernel_rfl, fun w hSw => ?_⟩) hSS ?_
          rotate_left
          · have s0 := hSw; go_simp; try with_reducible rfl
          try simp only [Act.put, List.setIfInBounds_toArray, List.set_cons_zero, List.set_cons_succ]
          refine wpAnyT_take' (i := 2) (v := ?_) hO rfl rfl (by kernel_rfl) (by kernel_rfl) (by kernel_rfl) (by kernel_rfl) hQp (Or.inl ⟨by kernel_rfl, fun w hSw => ?_⟩) hSS ?_
          rotate_left
          · have s0 := hSw; go_simp; try with_reducible rfl
          try simp only [Act.put, List.setIfInBounds_toArray, List.set_cons_zero, List.set_cons_succ]
          refine wpAnyT_take' (i := 3) (v := ?_) hO rfl rfl (by kernel_rfl) (by kernel_rfl) (by kernel_rfl) (by kernel_rfl) hQp (Or.inl ⟨by kernel_rfl, fun w hSw => ?_⟩) hSS ?_
          rotate_left
          · have s0 := hSw; go_simp; try with_reducible rfl
          try simp only [Act.put, List.setIfInBounds_toArray, List.set_cons_zero, List.set_cons_succ]
          refine wpAnyT_take' (i := 4) (v := ?_) hO rfl rfl (by kernel_rfl) (by kernel_rfl) (by kernel_rfl) (by kernel_rfl) hQp (Or.inl ⟨by kernel_rfl, fun w hSw => ?_⟩) hSS ?_
          rotate_left
          · have s0 := hSw; go_simp; try with_reducible rfl
          try simp only [Act.put, List.setIfInBounds_toArray, List.set_cons_zero, List.set_cons_succ]
          refine wpAnyT_take' (i := 5) (v := ?_) hO rfl rfl (by kernel_rfl) (by kernel_rfl) (by kernel_rfl) (by kernel_rfl) hQp (Or.inl ⟨by kernel_rfl, fun w hSw => ?_⟩) hSS ?_
          rotate_left
          · have s0 := hSw; go_simp; try with_reducible rfl
          try simp only [Act.put, List.setIfInBounds_toArray, List.set_cons_zero, List.set_cons_succ]
          refine wpAnyT_take' (i := 6) (v := ?_) hO rfl rfl (by kernel_rfl) (by kernel_rfl) (by kernel_rfl) (by kernel_rfl) hQp (Or.inl ⟨by kernel_rfl, fun w hSw => ?_⟩) hSS ?_
          rotate_left
          · have s0 := hSw; go_simp; try with_reducible rfl
          try simp only [Act.put, List.setIfInBounds_toArray, List.set_cons_zero, List.set_cons_succ]
          refine wpAnyT_take' (i := 7) (v := ?_) hO rfl rfl (by kernel_rfl) (by kernel_rfl) (by kernel_rfl) (by kernel_rfl) hQp (Or.inl ⟨by kernel_rfl, fun w hSw => ?_⟩) hSS ?_
          rotate_left
          · have s0 := hSw; go_simp; try with_reducible rfl
          try simp only [Act.put, List.setIfInBounds_toArray, List.set_cons_zero, List.set_cons_succ]
          refine wpAnyT_take' (i := 8) (v := ?_) hO rfl rfl (by kernel_rfl) (by kernel_rfl) (by kernel_rfl) (by kernel_rfl) hQp (Or.inl ⟨by kernel_rfl, fun w hSw => ?_⟩) hSS ?_
          rotate_left
          · have s0 := hSw; go_simp; try with_reducible rfl
          try simp only [Act.put, List.setIfInBounds_toArray, List.set_cons_zero, List.set_cons_succ]
          refine wpAnyT_one' (i := 9) hO rfl (by kernel_rfl) (by kernel_rfl) (fun K hK => ?_)
          go_simp
          refine Calls.mono hnow.out ?_
          rintro e w' ⟨⟨vn, rfl, hvn⟩, rfl⟩
          refine hK _ _ (.inr hSS) ?_
          clear hK K
          try simp only [Act.put, List.setIfInBounds_toArray, List.set_cons_zero, List.set_cons_succ]
          refine wpAnyT_one' (i := 10) hO rfl (by kernel_rfl) (by kernel_rfl) (fun K hK => ?_)
          go_simp
          refine Calls.mono (join_any _ _ _ _ _ _ HV1.out hvn.1 (by rw [HL.out]; exact hnn) (by rw [HN.out]; exact hnn) (by rw [HL.out, HN.out]; omega)) ?_
          rintro e w2 ⟨v2, rfl, hv2, hk2⟩
          have hlen : ∀ n, n ≤ 64 → (l.take n ++ (dg.now k).drop n).length = 64 := by intro n hn; rw [List.length_append, List.length_take, List.length_drop, HL.out, HN.out]; omega
          obtain ⟨a2, d2, rfl, -, -⟩ := hv2.1.form
          rw [hlen _ hnn] at hv2 ⊢
          have HLEN := Lib.hid (hlen _ hnn)
          clear hlen
          have k12 : Kept [] w1 w2 := (Kept.refl [] w1).drew.trans' hk2
          have hR2 := HR.out.kept k12 (by simp) (by simp) (by simp) (by simp) (by simp)
          have qn2 := k12.cell qn (by simp)
          have fn2 := hR2.rown.frozenAt k
          clear hSS
          have hSS : (fun w' : World => w'.cell? ⟨b, 1, none⟩ = some (.slice (some ⟨nb, 0, none⟩) dg.sure.length ncap)) w2 := hR2.c1
          have HR2 := Lib.hid hR2
          have HV2 := Lib.hid hv2
          have HK2 := Lib.hid k12
          clear hR2 hv2 hk2 k12
          refine hK _ _ (.inr hSS) ?_
          clear hK K
          try simp only [Act.put, List.setIfInBounds_toArray, List.set_cons_zero, List.set_cons_succ]
          refine wpAnyT_take' (i := 11) (v := ?_) hO rfl rfl (by kernel_rfl) (by kernel_rfl) (by kernel_rfl) (by kernel_rfl) hQp (Or.inl ⟨by kernel_rfl, fun w hSw => ?_⟩) hSS ?_
          rotate_left
          · have s0 := hSw; go_simp; try with_reducible rfl
          try simp only [Act.put, List.setIfInBounds_toArray, List.set_cons_zero, List.set_cons_succ]
          refine wpAnyT_one' (i := 12) hO rfl (by kernel_rfl) (by kernel_rfl) (fun K hK => ?_)
          go_simp
          refine hK _ _ (.inl rfl) ?_
          clear hK K
          try simp only [Act.put, List.setIfInBounds_toArray, List.set_cons_zero, List.set_cons_succ]
          refine wpAnyT_done' hO (by kernel_rfl) ?_ _
          subst hR
          try clear hQp hO O
          have hd := HR2.out.dist
          have k23 : Kept [nb] w2 (w2.setCell ⟨nb, k, none⟩ (.slice a2 64 d2)) := (Kept.refl [nb] w2).setCell (.inl (by simp)) _
          have dd2 := k23.cell HR2.out.c2 (by simp [hd.2.1])
          have rl := row_kept HR2.out.rowl k23 (by intro g hg; simp [Value.ownBlock] at hg; subst hg; simpa using hd.2.2.2.2.2.symm)
          have ql := rl.cellAt k (by omega)
          have fl := rl.frozenAt k
          have hkl : k < lvals.length := by have := HR2.out.rowl.1; omega
          rw [List.getElem?_eq_getElem hkl] at ql
          have HK3 := Lib.hid k23
          have HD := Lib.hid hd
          clear k23 rl hd
          revert dd2 ql fl HK3
          generalize hw3 : w2.setCell ⟨nb, k, none⟩ (.slice a2 64 d2) = w3
          intro dd2 ql fl HK3
          have HW3 := Lib.hid hw3
          clear hw3
          go_wp2_with fail
          go_ret
          have hput := HR2.out.put k hk (Data.of_new HV2.out) HLEN.out
          rw [HW3.out] at hput
          refine ⟨rfl, ⟨sb, nb, lb, scap, ncap, lcap, svals, _, _, rfl, hput⟩, ?_⟩
          exact (((HK1.out.mono (by simp)).then HK2.out).trans' (HK3.out.mono (by simp))).setCell (.inl (by simp)) _
      · have hwr : d.write i l = (1, d) := by unfold PDisk.write; rw [if_neg (by rw [hm]; simp), if_pos hl]
        rw [hwr]
        have hl' : ¬((l.length : Int) = 64) := by omega
        clear h hm hwr hl hv hi ho
        generalize l.length = n at *
        go_enter Try.func39, Try.ntmps39
        go_wp2_with (go_at_call 43; refine his.out.mono ?_; rintro e w' ⟨rfl, rfl⟩)
        go_ret
        exact ⟨rfl, H.out, Kept.refl _ _⟩
    · rw [decide_eq_false hi] at his
      have hwr : d.write i l = (4, d) := by
        have hm : d.may i = 4 := by unfold PDisk.may; rw [ho, if_neg (by simp), if_pos (by omega)]
        unfold PDisk.write
        rw [hm, if_pos (by decide)]
      rw [hwr]
      clear h hwr hi hv ho
      generalize l.length = n at *
      go_enter Try.func39, Try.ntmps39
      go_wp2_with (go_at_call 43; refine his.out.mono ?_; rintro e w' ⟨rfl, rfl⟩)
      go_ret
      exact ⟨rfl, H.out, Kept.refl _ _⟩
  · rw [ho] at c5
    have hwr : d.write i l = (210, d) := by
      have hm : d.may i = 210 := by unfold PDisk.may; rw [ho]; rfl
      unfold PDisk.write
      rw [hm, if_pos (by decide)]
    rw [hwr]
    clear h hwr hv ho
    generalize l.length = n at *
    go_enter Try.func39, Try.ntmps39
    go_wp2_with fail
    go_ret
    exact ⟨rfl, H.out, Kept.refl _ _⟩
end Go.Proofs.Ytfkdoinlbdcaaaa

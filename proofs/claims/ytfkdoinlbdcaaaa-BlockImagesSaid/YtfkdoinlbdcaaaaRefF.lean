/- The document's disk: Sync. -/
import Derived.Test.YtfkdoinlbdcaaaaRefE
namespace Go.Proofs.Ytfkdoinlbdcaaaa
open Go.RowKit

namespace PDisk
def setSure (d : PDisk) (k : Nat) (l : List UInt8) : PDisk := { d with sure := d.sure.set k l }
def clr (d : PDisk) (k : Nat) : PDisk := { d with loose := fun x => if x = (k : Int) then none else d.loose x }
/-- The first k blocks are sure. -/
def part (d : PDisk) (k : Nat) : PDisk := { d with sure := (List.range d.sure.length).map (fun j => if j < k then d.now (j : Nat) else d.sure.getD j []), loose := fun x => if 0 ≤ x ∧ x < k then none else d.loose x }
theorem part_len (d : PDisk) (k : Nat) : (d.part k).sure.length = d.sure.length := by simp [part]
theorem eq_of {d e : PDisk} (h1 : d.sure = e.sure) (h2 : d.loose = e.loose) (h3 : d.left = e.left) (h4 : d.bytes = e.bytes) (h5 : d.off = e.off) : d = e := by
  cases d; cases e; simp_all
theorem getD_lt {d : PDisk} {j : Nat} (hj : j < d.sure.length) : d.sure.getD j [] = d.sure[j] := by simp [List.getD_eq_getElem?_getD, hj]
theorem part_zero (d : PDisk) : d.part 0 = d := by
  refine eq_of ?_ ?_ rfl rfl rfl
  · apply List.ext_getElem
    · simp [part]
    · intro j h1 h2
      simp [part, h2]
  · funext x
    simp only [part]
    rw [if_neg (by omega)]
theorem part_get (d : PDisk) (k j : Nat) (hj : j < d.sure.length) : (d.part k).sure[j]? = some (if j < k then d.now (j : Nat) else d.sure[j]) := by
  simp [part, hj]
theorem part_loose (d : PDisk) (k : Nat) : (d.part k).loose k = d.loose k := by
  simp only [part]
  rw [if_neg (by omega)]
theorem part_none {d : PDisk} {k : Nat} (h : d.loose k = none) : d.part (k + 1) = d.part k := by
  refine eq_of ?_ ?_ rfl rfl rfl
  · apply List.ext_getElem?
    intro j
    by_cases hj : j < d.sure.length
    · rw [part_get _ _ _ hj, part_get _ _ _ hj]
      by_cases e : j = k
      · subst e
        rw [if_pos (by omega), if_neg (by omega)]
        unfold now
        rw [h]
        simp [hj]
      · by_cases e' : j < k
        · rw [if_pos (by omega), if_pos e']
        · rw [if_neg (by omega), if_neg e']
    · rw [List.getElem?_eq_none (by rw [part_len]; omega), List.getElem?_eq_none (by rw [part_len]; omega)]
  · funext x
    simp only [part]
    by_cases e : x = k
    · subst e
      rw [if_pos (by omega), if_neg (by omega), h]
    · by_cases e' : 0 ≤ x ∧ x < k
      · rw [if_pos (by omega), if_pos e']
      · rw [if_neg (by omega), if_neg e']
theorem part_some {d : PDisk} {k : Nat} {l : List UInt8} (h : d.loose k = some l) : d.part (k + 1) = ((d.part k).setSure k l).clr k := by
  refine eq_of ?_ ?_ rfl rfl rfl
  · apply List.ext_getElem?
    intro j
    show (d.part (k + 1)).sure[j]? = ((d.part k).sure.set k l)[j]?
    rw [List.getElem?_set]
    by_cases hj : j < d.sure.length
    · rw [part_get _ _ _ hj, part_get _ _ _ hj]
      by_cases e : k = j
      · subst e
        rw [if_pos (by omega), if_pos rfl, if_pos (by rw [part_len]; exact hj)]
        unfold now
        rw [h]
        rfl
      · rw [if_neg e]
        by_cases e' : j < k
        · rw [if_pos (by omega), if_pos e']
        · rw [if_neg (by omega), if_neg e']
    · rw [List.getElem?_eq_none (by rw [part_len]; omega), List.getElem?_eq_none (by rw [part_len]; omega), part_len]
      by_cases e : k = j
      · subst e
        rw [if_pos rfl, if_neg hj]
      · rw [if_neg e]
  · funext x
    simp only [part, clr, setSure]
    by_cases e : x = k
    · subst e
      rw [if_pos (by omega), if_pos rfl]
    · rw [if_neg e]
      by_cases e' : 0 ≤ x ∧ x < k
      · rw [if_pos (by omega), if_pos e']
      · rw [if_neg (by omega), if_neg e']
theorem part_all {d : PDisk} (h : d.Ok) : d.part d.sure.length = d.synced := by
  refine eq_of ?_ ?_ rfl rfl rfl
  · apply List.ext_getElem?
    intro j
    by_cases hj : j < d.sure.length
    · rw [part_get _ _ _ hj, if_pos hj]
      simp [synced, hj]
    · rw [List.getElem?_eq_none (by rw [part_len]; omega), List.getElem?_eq_none (by simp [synced]; omega)]
  · funext x
    simp only [part, synced]
    by_cases e : 0 ≤ x ∧ x < d.sure.length
    · rw [if_pos e]
    · rw [if_neg e]
      cases hl : d.loose x with
      | none => rfl
      | some l => exact absurd (h.dom x (by rw [hl]; simp)) e
theorem setSure_ok {d : PDisk} (h : d.Ok) {i : Nat} {l : List UInt8} (hl : l.length = 64) : (d.setSure i l).Ok := by
  refine ⟨by simpa [setSure] using h.pos, by simpa [setSure] using h.le, h.b0, h.b1, h.l0, h.l1, ?_, ?_, h.l64⟩
  · intro x hx
    have := h.dom x hx
    simpa [setSure] using this
  · intro x hx
    rcases List.mem_or_eq_of_mem_set hx with h1 | h1
    · exact h.s64 _ h1
    · rw [h1]; exact hl
theorem clr_ok {d : PDisk} (h : d.Ok) {i : Nat} : (d.clr i).Ok := by
  refine ⟨h.pos, h.le, h.b0, h.b1, h.l0, h.l1, ?_, h.s64, ?_⟩
  · intro x hx
    by_cases e : x = i
    · simp [clr, e] at hx
    · simp only [clr, if_neg e] at hx; exact h.dom x hx
  · intro x l' hx
    by_cases e : x = i
    · simp [clr, e] at hx
    · simp only [clr, if_neg e] at hx; exact h.l64 x l' hx
end PDisk

section
variable {w : World} {b sb nb lb scap ncap lcap : Nat} {svals nvals lvals : List Value} {d : PDisk}
/-- A sure block is another one. -/
theorem RefAt.setSure (h : RefAt w b sb nb lb scap ncap lcap svals nvals lvals d) (i : Nat) {v : Value} {l : List UInt8} (hv : Data w v l) (hl : l.length = 64) :
    RefAt (w.setCell ⟨sb, i, none⟩ v) b sb nb lb scap ncap lcap (svals.set i v) nvals lvals (d.setSure i l) := by
  have hd := h.dist
  have k : Kept [sb] w (w.setCell ⟨sb, i, none⟩ v) := (Kept.refl [sb] w).setCell (.inl (by simp)) v
  have hX : ∀ k, k ∈ [sb] → kind w k ≠ 5 + 2 := by
    intro k hk
    simp at hk
    subst hk
    rw [h.ks]; decide
  have hlen : (d.setSure i l).sure.length = d.sure.length := by simp [PDisk.setSure]
  refine {
    ok := PDisk.setSure_ok h.ok hl
    head := by rw [hlen]; exact k.heap h.head (by simp [hd.1])
    rows := by rw [hlen]; exact (h.rows.stored i v).1
    rown := by rw [hlen]; exact row_kept h.rown k (by intro g hg; simp [Value.ownBlock] at hg; subst hg; simpa using hd.2.2.2.1.symm)
    rowl := by rw [hlen]; exact row_kept h.rowl k (by intro g hg; simp [Value.ownBlock] at hg; subst hg; simpa using hd.2.2.2.2.1.symm)
    apart := h.apart
    sure := ⟨by simp [PDisk.setSure, h.sure.1], ?_⟩
    flag := by rw [hlen]; exact h.flag
    new := by
      rw [hlen]
      intro j hj l' hl'
      obtain ⟨v', e1, e2⟩ := h.new j hj l' hl'
      exact ⟨v', e1, e2.kept k hX⟩ }
  intro j x y h1 h2
  simp only [PDisk.setSure] at h2
  rw [List.getElem?_set] at h1 h2
  by_cases e : i = j
  · rw [if_pos e] at h1 h2
    split at h1
    · split at h2
      · simp at h1 h2
        subst h1
        subst h2
        exact hv.kept k hX
      · cases h2
    · cases h1
  · rw [if_neg e] at h1 h2
    exact (h.sure.2 j x y h1 h2).kept k hX
/-- A block is loose no more. -/
theorem RefAt.clr (h : RefAt w b sb nb lb scap ncap lcap svals nvals lvals d) (i : Nat) :
    RefAt ((w.setCell ⟨nb, i, none⟩ (.slice none 0 0)).setCell ⟨lb, i, none⟩ (.bool false)) b sb nb lb scap ncap lcap svals (nvals.set i (.slice none 0 0)) (lvals.set i (.bool false)) (d.clr i) := by
  have hd := h.dist
  have k1 : Kept [nb] w (w.setCell ⟨nb, i, none⟩ (.slice none 0 0)) := (Kept.refl [nb] w).setCell (.inl (by simp)) _
  have k2 : Kept [lb] (w.setCell ⟨nb, i, none⟩ (.slice none 0 0)) ((w.setCell ⟨nb, i, none⟩ (.slice none 0 0)).setCell ⟨lb, i, none⟩ (.bool false)) := (Kept.refl [lb] _).setCell (.inl (by simp)) _
  have k : Kept [nb, lb] w ((w.setCell ⟨nb, i, none⟩ (.slice none 0 0)).setCell ⟨lb, i, none⟩ (.bool false)) := (k1.mono (by simp)).trans' (k2.mono (by simp))
  have hX : ∀ k, k ∈ [nb, lb] → kind w k ≠ 5 + 2 := by
    intro k hk
    simp at hk
    rcases hk with rfl | rfl
    · rw [h.kn]; decide
    · rw [h.kl]; decide
  have hll : lvals.length = d.sure.length := by simpa using h.rowl.1
  exact {
    ok := PDisk.clr_ok h.ok
    head := k.heap h.head (by simp [hd.2.1, hd.2.2.1])
    rows := row_kept h.rows k (by intro g hg; simp [Value.ownBlock] at hg; subst hg; simp [hd.2.2.2.1, hd.2.2.2.2.1])
    rown := row_kept (h.rown.stored i _).1 k2 (by intro g hg; simp [Value.ownBlock] at hg; subst hg; simp [hd.2.2.2.2.2])
    rowl := ((row_kept h.rowl k1 (by intro g hg; simp [Value.ownBlock] at hg; subst hg; simpa using hd.2.2.2.2.2.symm)).stored i (.bool false)).1
    apart := h.apart
    sure := h.sure.mono fun x y _ r => r.kept k hX
    flag := by
      intro j hj
      rw [List.getElem?_set]
      by_cases e : i = j
      · subst e
        have hj' : i < d.sure.length := hj
        simp [PDisk.clr, hll, hj']
      · have e' : ¬((j : Int) = (i : Int)) := by omega
        simp only [if_neg e, PDisk.clr, if_neg e']
        exact h.flag j hj
    new := by
      intro j hj l' hl'
      rw [List.getElem?_set]
      by_cases e : i = j
      · subst e
        simp [PDisk.clr] at hl'
      · have e' : ¬((j : Int) = (i : Int)) := by omega
        simp only [PDisk.clr, if_neg e'] at hl'
        obtain ⟨v', e1, e2⟩ := h.new j hj l' hl'
        exact ⟨v', by rw [if_neg e]; exact e1, e2.kept k hX⟩ }
end

set_option maxRecDepth 10000 in
set_option maxHeartbeats 3200000 in
theorem refSync_any {w : World} {b : Nat} {F : List Nat} {d : PDisk} (h : RefRep w b F d) :
    Calls Try.prog 40 #[.pointer (some ⟨b, 0, none⟩)] w fun e w' => e = .returned (.int .i64 d.sync.1) ∧ RefRep w' b F d.sync.2 ∧ Kept F w w' := by
  have H := Lib.hid h
  obtain ⟨sb, nb, lb, scap, ncap, lcap, svals, nvals, lvals, rfl, h⟩ := h
  have c5 := h.c5
  unfold PDisk.sync
  cases ho : d.off
  · rw [ho] at c5
    rw [if_neg (by simp)]
    have hg := refGoes_any h
    rw [← goes_off ho] at hg
    have Hg := Lib.hid hg
    clear hg h ho H
    generalize d.goes = dg at *
    cases hof : dg.off
    · rw [hof] at Hg
      rw [if_neg (by simp)]
      clear hof
      go_enter Try.func40, Try.ntmps40
      go_wp2_with (go_at_call 63; refine Hg.out.mono ?_; rintro e w1 ⟨rfl, hR, hk1⟩; have HR := Lib.hid hR; have HK1 := Lib.hid hk1; clear hR hk1)
      have hn := HR.out.ok.le
      go_loopw [3] (fun i wr => ∃ (k : Nat) (sv nv lv : List Value), i = .int .i64 k ∧ k ≤ dg.sure.length ∧ RefAt wr b sb nb lb scap ncap lcap sv nv lv (dg.part k) ∧ Kept [b, sb, nb, lb] w1 wr) (fun i _ => dg.sure.length - (intOf i).toNat)
      case atStart => exact ⟨0, _, _, _, rfl, Nat.zero_le _, by rw [PDisk.part_zero]; exact HR.out, Kept.refl _ _⟩
      case round =>
        obtain ⟨k, sv, nv, lv, rfl, hk, hR, hkr⟩ := hrel
        have c0 := hR.c0
        rw [PDisk.part_len] at c0
        by_cases hlt : k < dg.sure.length
        · have hkk : (k : Int) < dg.sure.length := by omega
          have hlt' : k < (dg.part k).sure.length := by rw [PDisk.part_len]; exact hlt
          have c2 := hR.c2
          rw [PDisk.part_len] at c2
          have qf := hR.rowl.cellAt k (by omega)
          rw [hR.flag k hlt', PDisk.part_loose] at qf
          cases hl : dg.loose k with
          | none =>
            rw [hl] at qf
            have Hp := Lib.hid (PDisk.part_none hl)
            have HR1 := Lib.hid hR
            clear hl hR
            go_wp2
            go_roundw
            case rel => exact ⟨k + 1, _, _, _, by go_num, by omega, by rw [Hp.out]; exact HR1.out, hkr⟩
            case measure => simp [intOf]; omega
          | some l =>
            rw [hl] at qf
            have Hp := Lib.hid (PDisk.part_some hl)
            obtain ⟨v, hv, hdv⟩ := hR.new k hlt' l (by rw [PDisk.part_loose]; exact hl)
            obtain ⟨va, vc, rfl, -, -⟩ := hdv.1.form
            have hlen : l.length = 64 := HR.out.ok.l64 k l hl
            have c1 := hR.c1
            rw [PDisk.part_len] at c1
            have qn := hR.rown.cellAt k (by omega)
            rw [hv] at qn
            have HR1 := Lib.hid hR
            have HV := Lib.hid hv
            have HD := Lib.hid hdv
            have HL := Lib.hid hlen
            clear hl hR hv hdv hlen
            go_wp2_with fail
            have hSS : (fun w' : World => w'.cell? ⟨b, 0, none⟩ = some (.slice (some ⟨sb, 0, none⟩) dg.sure.length scap) ∧ w'.cell? ⟨b, 1, none⟩ = some (.slice (some ⟨nb, 0, none⟩) dg.sure.length ncap) ∧ w'.cell? ⟨b, 2, none⟩ = some (.slice (some ⟨lb, 0, none⟩) dg.sure.length lcap)) wr.drew := ⟨c0, c1, c2⟩
            refine wp_region_last' (n := 28) (fun w' : World => w'.cell? ⟨b, 0, none⟩ = some (.slice (some ⟨sb, 0, none⟩) dg.sure.length scap) ∧ w'.cell? ⟨b, 1, none⟩ = some (.slice (some ⟨nb, 0, none⟩) dg.sure.length ncap) ∧ w'.cell? ⟨b, 2, none⟩ = some (.slice (some ⟨lb, 0, none⟩) dg.sure.length lcap)) 27 (by kernel_rfl) (by kernel_rfl) ?_
            change wpAnyT _ _ _ _ _ _ _ _ _ wr.drew
            have HR2 := Lib.hid (HR1.out.kept (Kept.refl [] wr).drew (by simp) (by simp) (by simp) (by simp) (by simp))
            have HD2 := Lib.hid (HD.out.kept (Kept.refl [] wr).drew (by simp))
            have HK2 := Lib.hid (hkr.then (Kept.refl [] wr).drew)
            have qn2 : wr.drew.cell? ⟨nb, k, none⟩ = some (.slice va l.length vc) := qn
            clear HR1 HD hkr qn qf c0 c1 c2
            revert HR2 HD2 HK2 qn2 hSS
            generalize wr.drew = W
            intro hSS HR2 HD2 HK2 qn2
            refine wpAnyT_start ?_
            intro O R hO hR
            have hQp : ∀ c a (d : Nat) v w, R (.panic c) (a.put (some d) v) w → R (.panic c) a w := by subst hR; exact fun _ _ _ _ _ h => h
            refine wpAnyT_take' (i := 0) (v := ?_) hO rfl rfl (by kernel_rfl) (by kernel_rfl) (by kernel_rfl) (by kernel_rfl) hQp (Or.inl ⟨by kernel_rfl, fun w hSw => ?_⟩) hSS ?_
            rotate_left
            · obtain ⟨s0, s1, s2⟩ := hSw; go_simp; try with_reducible rfl
            try simp only [Act.put, List.setIfInBounds_toArray, List.set_cons_zero, List.set_cons_succ]
            refine wpAnyT_take' (i := 1) (v := ?_) hO rfl rfl (by kernel_rfl) (by kernel_rfl) (by kernel_rfl) (by kernel_rfl) hQp (Or.inl ⟨by kernel_rfl, fun w hSw => ?_⟩) hSS ?_
            rotate_left
            · obtain ⟨s0, s1, s2⟩ := hSw; go_simp; try with_reducible rfl
            try simp only [Act.put, List.setIfInBounds_toArray, List.set_cons_zero, List.set_cons_succ]
            refine wpAnyT_take' (i := 2) (v := ?_) hO rfl rfl (by kernel_rfl) (by kernel_rfl) (by kernel_rfl) (by kernel_rfl) hQp (Or.inl ⟨by kernel_rfl, fun w hSw => ?_⟩) hSS ?_
            rotate_left
            · obtain ⟨s0, s1, s2⟩ := hSw; go_simp; try with_reducible rfl
            try simp only [Act.put, List.setIfInBounds_toArray, List.set_cons_zero, List.set_cons_succ]
            refine wpAnyT_take' (i := 3) (v := ?_) hO rfl rfl (by kernel_rfl) (by kernel_rfl) (by kernel_rfl) (by kernel_rfl) hQp (Or.inl ⟨by kernel_rfl, fun w hSw => ?_⟩) hSS ?_
            rotate_left
            · obtain ⟨s0, s1, s2⟩ := hSw; go_simp; try with_reducible rfl
            try simp only [Act.put, List.setIfInBounds_toArray, List.set_cons_zero, List.set_cons_succ]
            refine wpAnyT_take' (i := 4) (v := ?_) hO rfl rfl (by kernel_rfl) (by kernel_rfl) (by kernel_rfl) (by kernel_rfl) hQp (Or.inl ⟨by kernel_rfl, fun w hSw => ?_⟩) hSS ?_
            rotate_left
            · obtain ⟨s0, s1, s2⟩ := hSw; go_simp; try with_reducible rfl
            try simp only [Act.put, List.setIfInBounds_toArray, List.set_cons_zero, List.set_cons_succ]
            refine wpAnyT_take' (i := 5) (v := ?_) hO rfl rfl (by kernel_rfl) (by kernel_rfl) (by kernel_rfl) (by kernel_rfl) hQp (Or.inl ⟨by kernel_rfl, fun w hSw => ?_⟩) hSS ?_
            rotate_left
            · obtain ⟨s0, s1, s2⟩ := hSw; go_simp; try with_reducible rfl
            try simp only [Act.put, List.setIfInBounds_toArray, List.set_cons_zero, List.set_cons_succ]
            refine wpAnyT_take' (i := 6) (v := ?_) hO rfl rfl (by kernel_rfl) (by kernel_rfl) (by kernel_rfl) (by kernel_rfl) hQp (Or.inl ⟨by kernel_rfl, fun w hSw => ?_⟩) hSS ?_
            rotate_left
            · obtain ⟨s0, s1, s2⟩ := hSw; go_simp; try with_reducible rfl
            try simp only [Act.put, List.setIfInBounds_toArray, List.set_cons_zero, List.set_cons_succ]
            refine wpAnyT_take' (i := 7) (v := ?_) hO rfl rfl (by kernel_rfl) (by kernel_rfl) (by kernel_rfl) (by kernel_rfl) hQp (Or.inl ⟨by kernel_rfl, fun w hSw => ?_⟩) hSS ?_
            rotate_left
            · obtain ⟨s0, s1, s2⟩ := hSw; go_simp; try with_reducible rfl
            try simp only [Act.put, List.setIfInBounds_toArray, List.set_cons_zero, List.set_cons_succ]
            refine wpAnyT_take' (i := 8) (v := ?_) hO rfl rfl (by kernel_rfl) (by kernel_rfl) (by kernel_rfl) (by kernel_rfl) hQp (Or.inl ⟨by kernel_rfl, fun w hSw => ?_⟩) hSS ?_
            rotate_left
            · obtain ⟨s0, s1, s2⟩ := hSw; go_simp; try with_reducible rfl
            try simp only [Act.put, List.setIfInBounds_toArray, List.set_cons_zero, List.set_cons_succ]
            refine wpAnyT_take' (i := 9) (v := ?_) hO rfl rfl (by kernel_rfl) (by kernel_rfl) (by kernel_rfl) (by kernel_rfl) hQp (Or.inl ⟨by kernel_rfl, fun w hSw => ?_⟩) hSS ?_
            rotate_left
            · obtain ⟨s0, s1, s2⟩ := hSw; go_simp; try with_reducible rfl
            try simp only [Act.put, List.setIfInBounds_toArray, List.set_cons_zero, List.set_cons_succ]
            refine wpAnyT_take' (i := 10) (v := ?_) hO rfl rfl (by kernel_rfl) (by kernel_rfl) (by kernel_rfl) (by kernel_rfl) hQp (Or.inl ⟨by kernel_rfl, fun w hSw => ?_⟩) hSS ?_
            rotate_left
            · obtain ⟨s0, s1, s2⟩ := hSw; go_simp; try with_reducible rfl
            try simp only [Act.put, List.setIfInBounds_toArray, List.set_cons_zero, List.set_cons_succ]
            refine wpAnyT_take' (i := 11) (v := ?_) hO rfl rfl (by kernel_rfl) (by kernel_rfl) (by kernel_rfl) (by kernel_rfl) hQp (Or.inl ⟨by kernel_rfl, fun w hSw => ?_⟩) hSS ?_
            rotate_left
            · obtain ⟨s0, s1, s2⟩ := hSw; go_simp; try with_reducible rfl
            try simp only [Act.put, List.setIfInBounds_toArray, List.set_cons_zero, List.set_cons_succ]
            refine wpAnyT_take' (i := 12) (v := ?_) hO rfl rfl (by kernel_rfl) (by kernel_rfl) (by kernel_rfl) (by kernel_rfl) hQp (Or.inl ⟨by kernel_rfl, fun w hSw => ?_⟩) hSS ?_
            rotate_left
            · obtain ⟨s0, s1, s2⟩ := hSw; go_simp; try with_reducible rfl
            try simp only [Act.put, List.setIfInBounds_toArray, List.set_cons_zero, List.set_cons_succ]
            refine wpAnyT_take' (i := 13) (v := ?_) hO rfl rfl (by kernel_rfl) (by kernel_rfl) (by kernel_rfl) (by kernel_rfl) hQp (Or.inl ⟨by kernel_rfl, fun w hSw => ?_⟩) hSS ?_
            rotate_left
            · obtain ⟨s0, s1, s2⟩ := hSw; go_simp; try with_reducible rfl
            try simp only [Act.put, List.setIfInBounds_toArray, List.set_cons_zero, List.set_cons_succ]
            refine wpAnyT_take' (i := 14) (v := ?_) hO rfl rfl (by kernel_rfl) (by kernel_rfl) (by kernel_rfl) (by kernel_rfl) hQp (Or.inl ⟨by kernel_rfl, fun w hSw => ?_⟩) hSS ?_
            rotate_left
            · obtain ⟨s0, s1, s2⟩ := hSw; go_simp; try with_reducible rfl
            try simp only [Act.put, List.setIfInBounds_toArray, List.set_cons_zero, List.set_cons_succ]
            refine wpAnyT_take' (i := 15) (v := ?_) hO rfl rfl (by kernel_rfl) (by kernel_rfl) (by kernel_rfl) (by kernel_rfl) hQp (Or.inl ⟨by kernel_rfl, fun w hSw => ?_⟩) hSS ?_
            rotate_left
            · obtain ⟨s0, s1, s2⟩ := hSw; go_simp; try with_reducible rfl
            try simp only [Act.put, List.setIfInBounds_toArray, List.set_cons_zero, List.set_cons_succ]
            refine wpAnyT_take' (i := 16) (v := ?_) hO rfl rfl (by kernel_rfl) (by kernel_rfl) (by kernel_rfl) (by kernel_rfl) hQp (Or.inl ⟨by kernel_rfl, fun w hSw => ?_⟩) hSS ?_
            rotate_left
            · obtain ⟨s0, s1, s2⟩ := hSw; go_simp; try with_reducible rfl
            try simp only [Act.put, List.setIfInBounds_toArray, List.set_cons_zero, List.set_cons_succ]
            refine wpAnyT_take' (i := 17) (v := ?_) hO rfl rfl (by kernel_rfl) (by kernel_rfl) (by kernel_rfl) (by kernel_rfl) hQp (Or.inl ⟨by kernel_rfl, fun w hSw => ?_⟩) hSS ?_
            rotate_left
            · obtain ⟨s0, s1, s2⟩ := hSw; go_simp; try with_reducible rfl
            try simp only [Act.put, List.setIfInBounds_toArray, List.set_cons_zero, List.set_cons_succ]
            refine wpAnyT_take' (i := 18) (v := ?_) hO rfl rfl (by kernel_rfl) (by kernel_rfl) (by kernel_rfl) (by kernel_rfl) hQp (Or.inl ⟨by kernel_rfl, fun w hSw => ?_⟩) hSS ?_
            rotate_left
            · obtain ⟨s0, s1, s2⟩ := hSw; go_simp; try with_reducible rfl
            try simp only [Act.put, List.setIfInBounds_toArray, List.set_cons_zero, List.set_cons_succ]
            refine wpAnyT_take' (i := 19) (v := ?_) hO rfl rfl (by kernel_rfl) (by kernel_rfl) (by kernel_rfl) (by kernel_rfl) hQp (Or.inl ⟨by kernel_rfl, fun w hSw => ?_⟩) hSS ?_
            rotate_left
            · obtain ⟨s0, s1, s2⟩ := hSw; go_simp; try with_reducible rfl
            try simp only [Act.put, List.setIfInBounds_toArray, List.set_cons_zero, List.set_cons_succ]
            refine wpAnyT_take' (i := 20) (v := ?_) hO rfl rfl (by kernel_rfl) (by kernel_rfl) (by kernel_rfl) (by kernel_rfl) hQp (Or.inl ⟨by kernel_rfl, fun w hSw => ?_⟩) hSS ?_
            rotate_left
            · obtain ⟨s0, s1, s2⟩ := hSw; go_simp; try with_reducible rfl
            try simp only [Act.put, List.setIfInBounds_toArray, List.set_cons_zero, List.set_cons_succ]
            refine wpAnyT_one' (i := 21) hO rfl (by kernel_rfl) (by kernel_rfl) (fun K hK => ?_)
            go_simp
            refine hK _ _ (.inr hSS) ?_
            clear hK K
            try simp only [Act.put, List.setIfInBounds_toArray, List.set_cons_zero, List.set_cons_succ]
            refine wpAnyT_take' (i := 22) (v := ?_) hO rfl rfl (by kernel_rfl) (by kernel_rfl) (by kernel_rfl) (by kernel_rfl) hQp (Or.inl ⟨by kernel_rfl, fun w hSw => ?_⟩) hSS ?_
            rotate_left
            · obtain ⟨s0, s1, s2⟩ := hSw; go_simp; try with_reducible rfl
            try simp only [Act.put, List.setIfInBounds_toArray, List.set_cons_zero, List.set_cons_succ]
            have hks : k < sv.length := by have := HR2.out.rows.1; rw [PDisk.part_len] at this; omega
            have hkn : k < nv.length := by have := HR2.out.rown.1; rw [PDisk.part_len] at this; omega
            have hkl : k < lv.length := by have := HR2.out.rowl.1; rw [PDisk.part_len] at this; omega
            have hd := Lib.hid HR2.out.dist
            have q0 := HR2.out.rows.cellAt k (by omega)
            rw [List.getElem?_eq_getElem hks] at q0
            have f0 := HR2.out.rows.frozenAt k
            have HR3 := Lib.hid (HR2.out.setSure k HD2.out HL.out)
            have HK3 := Lib.hid (HK2.out.setCell (p := ⟨sb, k, none⟩) (.inl (by simp)) (.slice va l.length vc))
            clear hSS
            have hSS : (fun w' : World => w'.cell? ⟨b, 0, none⟩ = some (.slice (some ⟨sb, 0, none⟩) dg.sure.length scap) ∧ w'.cell? ⟨b, 1, none⟩ = some (.slice (some ⟨nb, 0, none⟩) dg.sure.length ncap) ∧ w'.cell? ⟨b, 2, none⟩ = some (.slice (some ⟨lb, 0, none⟩) dg.sure.length lcap)) (W.setCell ⟨sb, k, none⟩ (.slice va l.length vc)) := by
              have x0 := HR3.out.c0
              have x1 := HR3.out.c1
              have x2 := HR3.out.c2
              simp only [PDisk.setSure, List.length_set, PDisk.part_len] at x0 x1 x2
              exact ⟨x0, x1, x2⟩
            refine wpAnyT_one' (i := 23) hO rfl (by kernel_rfl) (by kernel_rfl) (fun K hK => ?_)
            go_simp
            refine hK _ _ (.inr hSS) ?_
            clear hK K
            try simp only [Act.put, List.setIfInBounds_toArray, List.set_cons_zero, List.set_cons_succ]
            clear q0 f0 qn2
            revert HR3 HK3 hSS
            generalize W.setCell ⟨sb, k, none⟩ (.slice va l.length vc) = W1
            intro HR3 HK3 hSS
            refine wpAnyT_take' (i := 24) (v := ?_) hO rfl rfl (by kernel_rfl) (by kernel_rfl) (by kernel_rfl) (by kernel_rfl) hQp (Or.inl ⟨by kernel_rfl, fun w hSw => ?_⟩) hSS ?_
            rotate_left
            · obtain ⟨s0, s1, s2⟩ := hSw; go_simp; try with_reducible rfl
            try simp only [Act.put, List.setIfInBounds_toArray, List.set_cons_zero, List.set_cons_succ]
            have q1 := HR3.out.rown.cellAt k (by simp [PDisk.setSure, PDisk.part_len]; omega)
            rw [List.getElem?_eq_getElem hkn] at q1
            have f1 := HR3.out.rown.frozenAt k
            have k12 : Kept [nb] W1 (W1.setCell ⟨nb, k, none⟩ (.slice none 0 0)) := (Kept.refl [nb] W1).setCell (.inl (by simp)) _
            have HR4 := Lib.hid (HR3.out.clr k)
            have HK4 := Lib.hid ((HK3.out.setCell (p := ⟨nb, k, none⟩) (.inl (by simp)) (.slice none 0 0)).setCell (p := ⟨lb, k, none⟩) (.inl (by simp)) (.bool false))
            have hrow := row_kept HR3.out.rowl k12 (by intro g hg; simp [Value.ownBlock] at hg; subst hg; simpa using hd.out.2.2.2.2.2.symm)
            have q2 := hrow.cellAt k (by simp [PDisk.setSure, PDisk.part_len]; omega)
            rw [List.getElem?_eq_getElem hkl] at q2
            have f2 := hrow.frozenAt k
            obtain ⟨s0, s1, s2⟩ := hSS
            have hSS : (fun w' : World => w'.cell? ⟨b, 0, none⟩ = some (.slice (some ⟨sb, 0, none⟩) dg.sure.length scap) ∧ w'.cell? ⟨b, 1, none⟩ = some (.slice (some ⟨nb, 0, none⟩) dg.sure.length ncap) ∧ w'.cell? ⟨b, 2, none⟩ = some (.slice (some ⟨lb, 0, none⟩) dg.sure.length lcap)) (W1.setCell ⟨nb, k, none⟩ (.slice none 0 0)) := ⟨k12.cell s0 (by simp [hd.out.2.1]), k12.cell s1 (by simp [hd.out.2.1]), k12.cell s2 (by simp [hd.out.2.1])⟩
            clear s0 s1 s2 k12 hrow
            refine wpAnyT_one' (i := 25) hO rfl (by kernel_rfl) (by kernel_rfl) (fun K hK => ?_)
            go_simp
            refine hK _ _ (.inr hSS) ?_
            clear hK K
            try simp only [Act.put, List.setIfInBounds_toArray, List.set_cons_zero, List.set_cons_succ]
            clear q1 f1
            revert hSS HR4 HK4 q2 f2
            generalize W1.setCell ⟨nb, k, none⟩ (.slice none 0 0) = W2
            intro HR4 HK4 q2 f2 hSS
            refine wpAnyT_take' (i := 26) (v := ?_) hO rfl rfl (by kernel_rfl) (by kernel_rfl) (by kernel_rfl) (by kernel_rfl) hQp (Or.inl ⟨by kernel_rfl, fun w hSw => ?_⟩) hSS ?_
            rotate_left
            · obtain ⟨s0, s1, s2⟩ := hSw; go_simp; try with_reducible rfl
            try simp only [Act.put, List.setIfInBounds_toArray, List.set_cons_zero, List.set_cons_succ]
            refine wpAnyT_one' (i := 27) hO rfl (by kernel_rfl) (by kernel_rfl) (fun K hK => ?_)
            go_simp
            refine hK _ _ (.inl rfl) ?_
            clear hK K
            try simp only [Act.put, List.setIfInBounds_toArray, List.set_cons_zero, List.set_cons_succ]
            refine wpAnyT_done' hO (by kernel_rfl) ?_ _
            subst hR
            try clear hQp hO O
            rw [← Hp.out] at HR4
            go_wp2_with fail
            go_roundw
            case rel => exact ⟨k + 1, _, _, _, by go_num, by omega, HR4.out, HK4.out⟩
            case measure => simp [intOf]; omega
        · obtain rfl : k = dg.sure.length := by omega
          have HR1 := Lib.hid hR
          clear hR
          go_wp2
          go_ret
          refine ⟨rfl, ⟨sb, nb, lb, scap, ncap, lcap, sv, nv, lv, rfl, ?_⟩, ?_⟩
          · have := HR1.out
            rw [PDisk.part_all HR.out.ok] at this
            exact this
          · exact (HK1.out.mono (by simp)).trans' hkr
    · rw [hof] at Hg
      rw [if_pos rfl]
      clear hof
      go_enter Try.func40, Try.ntmps40
      go_wp2_with (go_at_call 63; refine Hg.out.mono ?_; rintro e w1 ⟨rfl, hR, hk1⟩; have HR := Lib.hid hR; have HK1 := Lib.hid hk1; clear hR hk1)
      go_ret
      exact ⟨rfl, ⟨sb, nb, lb, scap, ncap, lcap, _, _, _, rfl, HR.out⟩, HK1.out.mono (by simp)⟩
  · rw [ho] at c5
    rw [if_pos rfl]
    clear h ho
    go_enter Try.func40, Try.ntmps40
    go_wp2_with fail
    go_ret
    exact ⟨rfl, H.out, Kept.refl _ _⟩
end Go.Proofs.Ytfkdoinlbdcaaaa

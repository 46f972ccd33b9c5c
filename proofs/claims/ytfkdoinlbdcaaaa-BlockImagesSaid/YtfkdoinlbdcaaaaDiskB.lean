/- The disk of blocks: Sync, Stop, Off, Len. -/
import Derived.Test.YtfkdoinlbdcaaaaDisk
namespace Go.Proofs.Ytfkdoinlbdcaaaa
open Go.RowKit
open Go.Maps (Keyed)

namespace PDisk
def synced (d : PDisk) : PDisk := { d with sure := (List.range d.sure.length).map (fun j => d.now (j : Nat)), loose := fun _ => none }
def sync (d : PDisk) : Int × PDisk := if d.off then (210, d) else if d.goes.off then (210, d.goes) else (0, d.goes.synced)
theorem may_at0 {d : PDisk} (h : d.Ok) : d.may 0 = if d.off then 210 else 0 := by
  unfold may
  have := h.pos
  split
  · rfl
  · rw [if_neg (by omega)]
end PDisk

theorem getD_row {xs : List Value} {j : Nat} (h : j < xs.length) (z : Value) : xs.getD j z = xs[j] := by
  rw [List.getD_eq_getElem?_getD, List.getElem?_eq_getElem h]; rfl

/-- The disk behind a sync: all that was loose is sure. -/
theorem DiskAt.sync {w w' : World} {b sb scap mb cnt : Nat} {svals svals' : List Value} {M : Lit → Option Value} {d : PDisk} (h : DiskAt w b sb scap mb cnt svals M d) (k : Kept [sb, mb] w w')
    (hrow : w'.ownsRow 0 30 1 (.slice (some ⟨sb, 0, none⟩) d.sure.length scap) d.sure.length svals') (hmap : MapAt Try.prog w' 3 mb 0 (fun _ => none))
    (hs : ∀ (j : Nat) (hj : j < d.sure.length), svals'[j]? = some ((M (.int .i64 j)).getD (svals.getD j (.bool false)))) : DiskAt w' b sb scap mb 0 svals' (fun _ => none) d.synced := by
  have hX : ∀ k, k ∈ [sb, mb] → kind w k ≠ 5 + 2 := by
    intro k hk
    simp at hk
    rcases hk with rfl | rfl
    · rw [h.ks]; decide
    · rw [h.km]; decide
  have hd := h.dist
  have hl : svals'.length = d.sure.length := by have := hrow.1; simpa using this
  have e1 : d.synced.sure.length = d.sure.length := by simp [PDisk.synced]
  refine { ok := ?_, head := ?_, row := ?_, map := hmap, cnt := Nat.zero_le _, sure := ?_, loose := ?_, gone := fun _ _ => rfl }
  · refine ⟨by rw [e1]; exact h.ok.pos, by rw [e1]; exact h.ok.le, h.ok.b0, h.ok.b1, h.ok.l0, h.ok.l1, ?_, ?_, ?_⟩
    · intro x hx; exact absurd rfl hx
    · intro l hl
      simp only [PDisk.synced, List.mem_map, List.mem_range] at hl
      obtain ⟨j, hj, rfl⟩ := hl
      exact h.ok.now64 (by omega) (by omega)
    · intro x l hx; cases hx
  · rw [e1]
    exact k.heap h.head (by simp; exact ⟨hd.1, hd.2.1⟩)
  · rw [e1]; exact hrow
  · refine ⟨by rw [e1, hl], ?_⟩
    intro j x y hx hy
    have hj : j < d.sure.length := by
      rcases Nat.lt_or_ge j d.sure.length with g | g
      · exact g
      · rw [List.getElem?_eq_none (by omega)] at hx; cases hx
    rw [hs j hj] at hx
    have hy' : y = d.now (j : Nat) := by
      simp only [PDisk.synced, List.getElem?_map] at hy
      rw [List.getElem?_range hj] at hy
      simpa [eq_comm] using hy
    subst hy'
    cases hM : M (.int .i64 j) with
    | some v =>
      rw [hM] at hx
      obtain ⟨l, e, r⟩ := h.loose j v hM
      have : x = v := by simpa [eq_comm] using hx
      subst this
      unfold PDisk.now
      rw [e]
      exact r.kept k hX
    | none =>
      rw [hM] at hx
      have e := h.gone j hM
      have hjs : j < svals.length := by rw [h.len]; exact hj
      rw [getD_row hjs] at hx
      have : x = svals[j] := by simpa [eq_comm] using hx
      subst this
      unfold PDisk.now
      rw [e, Option.getD_none, Int.toNat_natCast, List.getD_eq_getElem?_getD, List.getElem?_eq_getElem hj]
      exact (h.sure.2 j svals[j] d.sure[j] (by simp [hjs]) (by simp [hj])).kept k hX
  · intro x v hv; cases hv

set_option maxRecDepth 10000 in
set_option maxHeartbeats 800000 in
theorem sync_any {w : World} {b : Nat} {F : List Nat} {d : PDisk} (h : DiskRep w b F d) :
    Calls Try.prog 12 #[.pointer (some ⟨b, 0, none⟩)] w fun e w' => e = .returned (.int .i64 d.sync.1) ∧ DiskRep w' b F d.sync.2 ∧ Kept F w w' := by
  obtain ⟨sb, scap, mb, cnt, svals, M, rfl, h⟩ := h
  have hm := may_any h 0
  rw [PDisk.may_at0 h.ok] at hm
  unfold PDisk.sync
  cases ho : d.off
  · rw [ho] at hm
    rw [if_neg (by simp)]
    have Hm := Lib.hid hm
    have hg := goes_any h
    have Hg := Lib.hid hg
    clear hm hg
    cases hof : d.goes.off
    · rw [hof] at Hg
      rw [if_neg (by simp)]
      generalize d.goes = dg at *
      clear ho hof h
      go_enter Try.func12, Try.ntmps12
      go_wp2_with (first
        | (go_at_call 31; refine Hm.out.mono ?_; rintro e w' ⟨rfl, rfl⟩)
        | (go_at_call 32; refine Hg.out.mono ?_; rintro e w1 ⟨rfl, hd, hk⟩; have c1 := hd.c1; obtain ⟨w2, c, hrun, hgo, hk2⟩ := hd.map.range keyInt Try.underlying64; have Hd := Lib.hid hd; clear hd))
      have hr0 := Hd.out.map.lt
      have hn := Hd.out.ok.le
      go_loopw [4] (fun _ wr => ∃ left c svals', Going Try.prog wr 3 mb w1.heap.size cnt M left c ∧ wr.ownsRow 0 30 1 (.slice (some ⟨sb, 0, none⟩) dg.sure.length scap) dg.sure.length svals' ∧
          (∀ j : Nat, j < dg.sure.length → svals'[j]? = some (if left (.int .i64 j) then svals.getD j (.bool false) else (M (.int .i64 j)).getD (svals.getD j (.bool false)))) ∧ Kept [sb] w1 wr) (fun _ wr => wr.rangeLeft mb w1.heap.size)
      case atStart =>
        refine ⟨_, _, svals, hgo, row_kept Hd.out.row hk2 (by simp), ?_, hk2.mono (by simp)⟩
        intro j hj
        have hjs : j < svals.length := by rw [Hd.out.len]; exact hj
        rw [getD_row hjs, List.getElem?_eq_getElem hjs]
        cases hM : M (.int .i64 j) <;> simp
      case round =>
        obtain ⟨left, c, svals', hgo, hown, hs, hkr⟩ := hrel
        have hsb : sb ≠ b := Hd.out.dist.1.symm
        have k0 := hkr.cell (p := ⟨b, 0, none⟩) Hd.out.c0 (by simpa using Hd.out.dist.1)
        have k1 := hkr.cell (p := ⟨b, 1, none⟩) Hd.out.c1 (by simpa using Hd.out.dist.1)
        rcases hgo.next keyInt 0 with ⟨hc0, hl0, hrun⟩ | ⟨key, v, kl, w3, c', hkey, hlk, hMk, hrun, hgo', hlt, hk3, hsz, hen⟩
        · obtain ⟨w3, hrc, hm3, hk3, hsz⟩ := hgo.map.clear Try.underlying64 0
          have Hs := Lib.hid hs
          have Hl0 := Lib.hid hl0
          have Hown := Lib.hid hown
          clear hc0 hl0 hs hgo hown hsb
          go_wp2
          go_ret
          have kk : Kept [sb, mb] w1 w3 := (hkr.mono (by simp)).trans' (hk3.mono (by simp))
          refine ⟨rfl, ⟨sb, scap, mb, 0, svals', fun _ => none, rfl, Hd.out.sync kk (row_kept Hown.out hk3 ?_) hm3 ?_⟩, ?_⟩
          · intro g hg
            simp [Value.ownBlock] at hg
            subst hg
            simpa using Hd.out.dist.2.2
          · intro j hj
            rw [Hs.out j hj, Hl0.out]
            rfl
          · exact (hk.mono (Y := [b, sb, mb]) (by simp)).trans' (kk.mono (by simp))
        · obtain ⟨x, rfl, rfl, hwf⟩ := Maps.keyOf_int_inv Try.underlying3 hkey
          obtain ⟨l, hlx, hdv⟩ := Hd.out.loose x v hMk
          obtain ⟨va, vc, rfl, -, -⟩ := hdv.1.form
          obtain ⟨x0, x1⟩ := Hd.out.ok.dom x (by rw [hlx]; simp)
          have vc1 : True := trivial
          obtain ⟨k, rfl⟩ := Int.eq_ofNat_of_zero_le x0
          have hkn : k < dg.sure.length := by omega
          have hown3 := row_kept hown hk3 (by intro g hg; simp [Value.ownBlock] at hg; subst hg; simp; exact Nat.ne_of_lt (Hd.out.row.lt _ rfl).2)
          have q0 := hk3.cell k0 (by simp; exact Nat.ne_of_lt Hd.out.lt)
          have qc := hown3.cellAt k (by omega)
          have qf := hown3.frozenAt k
          have hsl : svals'.length = dg.sure.length := by have := hown.1; simpa using this
          rw [List.getElem?_eq_getElem (by rw [hsl]; exact hkn)] at qc
          have Hown3 := Lib.hid hown3
          have Hs := Lib.hid hs
          have HM := Lib.hid hMk
          have hcq : ∃ cv, w3.cell? ⟨sb, k, none⟩ = some cv := ⟨_, qc⟩
          obtain ⟨cv, qc'⟩ := hcq
          clear qc hown3 hs hMk hlx hown k0 k1 hsb hsl hwf
          go_wp2
          go_roundw
          case rel =>
            have hst := Hown3.out.stored k (.slice va l.length vc)
            have ks : Kept [sb] w3 (w3.setCell ⟨sb, k, none⟩ (.slice va l.length vc)) := (Kept.refl [sb] w3).setCell (by simp) _
            refine ⟨_, c', svals'.set k (.slice va l.length vc), hgo'.kept ks (by simpa using Hd.out.dist.2.2.symm) ?_, hst.1, ?_, ?_⟩
            · simp
              exact (Nat.ne_of_lt (Hd.out.row.lt _ rfl).2).symm
            · intro j hj
              rw [List.getElem?_set]
              by_cases e : k = j
              · subst e
                rw [if_pos rfl, if_pos (by have := Hown3.out.1; simp at this; omega)]
                rw [HM.out]
                simp [sameInt]
              · rw [if_neg e, Hs.out j hj]
                have e' : ¬ (j : Int) = (k : Int) := by omega
                simp [sameInt, e']
            · exact (hkr.trans hk3 (by simp)).setCell (by simp) _
          case measure =>
            have ks : Kept [sb] w3 (w3.setCell ⟨sb, k, none⟩ (.slice va l.length vc)) := (Kept.refl [sb] w3).setCell (by simp) _
            rw [hgo.left_eq, (hgo'.kept ks (by simpa using Hd.out.dist.2.2.symm) (by simp; exact (Nat.ne_of_lt (Hd.out.row.lt _ rfl).2).symm)).left_eq]
            exact hlt
    · rw [hof] at Hg
      rw [if_pos rfl]
      generalize d.goes = dg at *
      clear ho h hof
      go_enter Try.func12, Try.ntmps12
      go_wp2_with (first
        | (go_at_call 31; refine Hm.out.mono ?_; rintro e w' ⟨rfl, rfl⟩)
        | (go_at_call 32; refine Hg.out.mono ?_; rintro e w1 ⟨rfl, hd, hk⟩))
      go_ret
      exact ⟨rfl, ⟨sb, scap, mb, cnt, svals, M, rfl, hd⟩, hk.mono (by simp)⟩
  · rw [ho] at hm
    rw [if_pos rfl]
    have Hm := Lib.hid hm
    have H : DiskRep w b [b, sb, mb] d := ⟨sb, scap, mb, cnt, svals, M, rfl, h⟩
    clear hm h ho
    go_enter Try.func12, Try.ntmps12
    go_wp2_with (first
      | (go_at_call 31; refine Hm.out.mono ?_; rintro e w' ⟨rfl, rfl⟩))
    go_ret
    exact ⟨rfl, H, Kept.refl _ _⟩
end Go.Proofs.Ytfkdoinlbdcaaaa

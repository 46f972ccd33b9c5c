/- The document's disk: List; the law's own 'same'. -/
import Derived.Test.YtfkdoinlbdcaaaaRefE
namespace Go.Proofs.Ytfkdoinlbdcaaaa
open Go.RowKit

def iv (x : Int) : Value := .int .i64 x
def PDisk.looseTo (d : PDisk) (k : Nat) : List Int := ((List.range k).filter (fun j => (d.loose (j : Nat)).isSome)).map Int.ofNat
theorem looseTo_some {d : PDisk} {k : Nat} (h : (d.loose k).isSome = true) : d.looseTo (k + 1) = d.looseTo k ++ [(k : Int)] := by
  unfold PDisk.looseTo
  rw [List.range_succ, List.filter_append, List.map_append]
  simp [h]
theorem looseTo_none {d : PDisk} {k : Nat} (h : (d.loose k).isSome = false) : d.looseTo (k + 1) = d.looseTo k := by
  unfold PDisk.looseTo
  rw [List.range_succ, List.filter_append, List.map_append]
  simp [h]
theorem looseTo_all (d : PDisk) : d.looseTo d.sure.length = d.looseKeys := rfl
theorem looseTo_len (d : PDisk) (k : Nat) : (d.looseTo k).length ≤ k := by
  unfold PDisk.looseTo
  rw [List.length_map]
  exact Nat.le_trans (List.length_filter_le _ _) (by simp)

set_option maxRecDepth 10000 in
set_option maxHeartbeats 1600000 in
theorem refList_any {w : World} {b : Nat} {F : List Nat} {d : PDisk} (h : RefRep w b F d) :
    Calls Try.prog 21 #[.pointer (some ⟨b, 0, none⟩)] w fun e w' => ∃ v, e = .returned v ∧ Slc w' 1 v d.looseKeys.length (d.looseKeys.map iv) ∧ Kept [] w w' := by
  obtain ⟨sb, nb, lb, scap, ncap, lcap, svals, nvals, lvals, rfl, h⟩ := h
  have hn := h.ok.le
  have H := Lib.hid h
  clear h
  go_enter Try.func21, Try.ntmps21
  go_wp2_with fail
  go_loopw [3, 4] (fun v i wr => ∃ (k : Nat) (a : Option Addr) (c : Nat), i = .int .i64 k ∧ k ≤ d.sure.length ∧ v = .slice a (d.looseTo k).length c ∧ wr.ownsRow w.heap.size 3 1 v (d.looseTo k).length ((d.looseTo k).map iv) ∧ Kept [] w wr) (fun _ i _ => d.sure.length - (intOf i).toNat)
  case atStart => exact ⟨0, none, 0, rfl, Nat.zero_le _, rfl, World.ownsRow_nil _ _ _ _, Kept.refl _ _⟩
  case round =>
    obtain ⟨k, a, c, rfl, hk, rfl, hown, hkr⟩ := hrel
    have hR := H.out.kept hkr (by simp) (by simp) (by simp) (by simp) (by simp)
    have c2 := hR.c2
    have HR := Lib.hid hR
    have HO := Lib.hid hown
    have HK := Lib.hid hkr
    clear hown hkr
    by_cases hlt : k < d.sure.length
    · have hltI : (k : Int) < d.sure.length := by omega
      have qf := hR.rowl.cellAt k (by omega)
      rw [hR.flag k hlt] at qf
      clear hR
      cases hl : (d.loose k).isSome
      · rw [hl] at qf
        have HS := Lib.hid (looseTo_none hl)
        clear hl
        go_wp2_with fail
        go_roundw
        case rel => exact ⟨k + 1, a, c, by go_num, by omega, by rw [HS.out], by rw [HS.out]; exact HO.out, HK.out⟩
        case measure => simp [intOf]; omega
      · rw [hl] at qf
        have HS := Lib.hid (looseTo_some hl)
        clear hl
        have hA := (Kept.refl [] wr).alloc (.cells #[.int .i64 k] 3)
        have hsrc := Lib.hid (slc_one wr (.int .i64 k) 3 wr.heap.size rfl)
        have hownA := Lib.hid (row_kept HO.out hA (by simp))
        have hll := looseTo_len d k
        have hbase := HK.out.size
        have HA := Lib.hid hA
        clear hA
        go_wp2_with (at_builtin; refine wpList_append_pos tyInts hownA.out hsrc.out (by simp [Value.oneCell']) (by decide) (by simp only [maxLen]; omega) (by omega) (by first | omega | (simp; omega)) (by rfl) (.tmp 21) (.tmp 23) (by rfl) (by rfl) (by rfl) ?_; intro g cap w1 hown1 hk1 hg1)
        go_roundw
        case rel =>
          have h1 : w.heap.size ≤ wr.heap.size := hbase
          refine ⟨k + 1, some ⟨g, 0, none⟩, cap, by go_num, by omega, ?_, ?_, ?_⟩
          · rw [HS.out]; simp
          · rw [HS.out]; simpa [iv] using hown1
          · refine (HK.out.then HA.out).trans hk1 fun i hi => .inr ?_
            exact (HO.out.lt i (Option.mem_toList.1 hi)).1
        case measure => simp [intOf]; omega
    · obtain rfl : k = d.sure.length := by omega
      clear hR
      go_wp2_with fail
      go_ret
      exact ⟨_, rfl, Slc.of_row HO.out, HK.out⟩

set_option maxRecDepth 10000 in
set_option maxHeartbeats 1600000 in
theorem same_any (va vb : Value) (l : List Int) (w : World) (ha : Slc w 1 va l.length (l.map iv)) (hb : Slc w 1 vb l.length (l.map iv)) (hl : l.length ≤ 100000) :
    Calls Try.prog 20 #[va, vb] w fun e w' => e = .returned (.bool true) ∧ Kept [] w w' := by
  obtain ⟨a, c, rfl, -, -⟩ := ha.form
  obtain ⟨a', c', rfl, -, -⟩ := hb.form
  have HA := Lib.hid ha
  have HB := Lib.hid hb
  clear ha hb
  go_enter Try.func20, Try.ntmps20
  go_wp2_with fail
  go_loopw [5] (fun i wr => ∃ k : Nat, i = .int .i64 k ∧ k ≤ l.length ∧ Kept [] w wr) (fun i _ => l.length - (intOf i).toNat)
  case atStart => exact ⟨0, rfl, Nat.zero_le _, Kept.refl _ _⟩
  case round =>
    obtain ⟨k, rfl, hk, hkr⟩ := hrel
    have HK := Lib.hid hkr
    clear hkr
    by_cases hlt : k < l.length
    · have hltI : (k : Int) < l.length := by omega
      have hx : (l.map iv)[k]? = some (iv l[k]) := by simp [hlt]
      obtain ⟨g, o, rfl, q0⟩ : ∃ g o, a = some ⟨g, o, none⟩ ∧ wr.cell? ⟨g, o + k, none⟩ = some (iv l[k]) := by
        rcases (HA.out.kept0 HK.out).2 with ⟨_, h0⟩ | ⟨h0, _⟩ | ⟨g, o, cap, hsv, _, _, hrow⟩
        · omega
        · omega
        simp only [Value.slice.injEq] at hsv
        obtain ⟨rfl, -, -⟩ := hsv
        exact ⟨g, o, rfl, hrow.cells _ _ hx⟩
      obtain ⟨g', o', rfl, q1⟩ : ∃ g o, a' = some ⟨g, o, none⟩ ∧ wr.cell? ⟨g, o + k, none⟩ = some (iv l[k]) := by
        rcases (HB.out.kept0 HK.out).2 with ⟨_, h0⟩ | ⟨h0, _⟩ | ⟨g, o, cap, hsv, _, _, hrow⟩
        · omega
        · omega
        simp only [Value.slice.injEq] at hsv
        obtain ⟨rfl, -, -⟩ := hsv
        exact ⟨g, o, rfl, hrow.cells _ _ hx⟩
      unfold iv at q0 q1
      clear hx
      revert q0 q1
      generalize l[k] = x
      intro q0 q1
      go_wp2_with fail
      go_quiet (fail)
      go_wp2_with fail
      case roundEnd => exact ⟨⟨k + 1, by go_num, by omega, HK.out.drewN _⟩, by simp [intOf]; omega⟩
    · obtain rfl : k = l.length := by omega
      go_wp2_with fail
      go_ret
      exact ⟨rfl, HK.out⟩
end Go.Proofs.Ytfkdoinlbdcaaaa

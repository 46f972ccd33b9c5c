/- blank and zeros: are bytes all zeros? -/
import Derived.Test.YtfkdoinlbdcaaaaOctC
namespace Go.Proofs.Ytfkdoinlbdcaaaa
open Go.RowKit

def allZero (l : List UInt8) : Bool := l.all (· == 0)
theorem allZero_take (l : List UInt8) (k : Nat) (hk : k < l.length) : allZero (l.take (k + 1)) = (allZero (l.take k) && l[k] == 0) := by
  unfold allZero
  rw [List.take_succ_eq_append_getElem hk, List.all_append]
  simp
theorem allZero_no {l : List UInt8} {k : Nat} (hk : k < l.length) (h : l[k] ≠ 0) : allZero l = false := by
  unfold allZero
  rw [List.all_eq_false]
  exact ⟨l[k], List.getElem_mem hk, by simpa using h⟩
/-- A slice's j-th byte. -/
theorem byte_at {w w' : World} {a : Option Addr} {n c : Nat} {l : List UInt8} (h : Bytes w (.slice a n c) l) (hk : Kept [] w w') (j : Nat) (hj : j < l.length) : ∃ g o, a = some ⟨g, o, none⟩ ∧ w'.cell? ⟨g, o + j, none⟩ = some (.int .u8 l[j].toNat) := by
  rcases (h.kept0 hk).2 with ⟨_, h0⟩ | ⟨h0, _⟩ | ⟨g, o, cap, hsv, _, _, hrow⟩
  · omega
  · omega
  simp only [Value.slice.injEq] at hsv
  obtain ⟨rfl, -, -⟩ := hsv
  exact ⟨g, o, rfl, hrow.cells j _ (by simp [hj, bv])⟩

set_option maxRecDepth 10000 in
set_option maxHeartbeats 800000 in
theorem zeros_any {w : World} {v : Value} {l : List UInt8} (hv : Bytes w v l) (hl : l.length ≤ 100000) : Calls Try.prog 53 #[v] w fun e w' => e = .returned (.bool (allZero l)) ∧ w = w' := by
  obtain ⟨a, c, rfl, -, -⟩ := hv.form
  have hlI : (l.length : Int) ≤ 100000 := by omega
  have HV := Lib.hid hv
  clear hv hl
  go_enter Try.func53, Try.ntmps53
  go_wp2_with fail
  go_loopw [3] (fun i wr => ∃ j : Nat, i = .int .i64 j ∧ j ≤ l.length ∧ allZero (l.take j) = true ∧ wr = w) (fun i _ => l.length - (intOf i).toNat)
  case atStart => exact ⟨0, rfl, Nat.zero_le _, rfl, rfl⟩
  case round =>
    obtain ⟨j, rfl, hj, hz, rfl⟩ := hrel
    have HZ := Lib.hid hz
    clear hz
    by_cases hlt : j < l.length
    · have hltI : (j : Int) < l.length := by omega
      obtain ⟨g, o, rfl, q⟩ := byte_at HV.out (Kept.refl [] _) j hlt
      have HT := Lib.hid (allZero_take l j hlt)
      have HNO := Lib.hid (allZero_no (l := l) (k := j) hlt)
      revert q HT HNO
      generalize l[j] = b
      intro q HT HNO
      by_cases hb : b = 0
      · subst hb
        go_wp2_with fail
        case roundEnd => exact ⟨⟨j + 1, by go_num, by omega, by rw [HT.out, HZ.out]; rfl, trivial⟩, by simp [intOf]; omega⟩
      · have hbI : ¬((b.toNat : Int) = 0) := by
          intro e
          apply hb
          apply UInt8.toNat_inj.1
          simp
          omega
        have HB := Lib.hid hb
        clear hb
        go_wp2_with fail
        go_ret
        exact ⟨by rw [HNO.out HB.out]; rfl, rfl⟩
    · obtain rfl : j = l.length := by omega
      have hz := HZ.out
      rw [List.take_length] at hz
      have HZ2 := Lib.hid hz
      clear hz
      go_wp2_with fail
      go_ret
      exact ⟨by rw [HZ2.out]; rfl, rfl⟩
end Go.Proofs.Ytfkdoinlbdcaaaa

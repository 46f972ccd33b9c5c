/- The law's own Block; Crash with its look at what may be kept; Fork. -/
import Derived.Test.YtfkdoinlbdcaaaaDiskC
namespace Go.Proofs.Ytfkdoinlbdcaaaa
open Go.RowKit
open Go.Maps (Keyed)

/-- The first 64 bytes of a text, and zeros behind. -/
def padTo (l : List UInt8) (k : Nat) : List UInt8 := l.take k ++ List.replicate (64 - k) 0
def pad (l : List UInt8) : List UInt8 := padTo l (min l.length 64)
theorem padTo_len (l : List UInt8) (k : Nat) (h1 : k ≤ l.length) (h2 : k ≤ 64) : (padTo l k).length = 64 := by simp [padTo]; omega
theorem pad_len (l : List UInt8) : (pad l).length = 64 := padTo_len _ _ (Nat.min_le_left _ _) (Nat.min_le_right _ _)
theorem padTo_set (l : List UInt8) (k : Nat) (h1 : k < l.length) (h2 : k < 64) : (padTo l k).set k l[k] = padTo l (k + 1) := by
  unfold padTo
  have e1 : (l.take k).length = k := by simp; omega
  have e2 : 64 - k = (64 - (k + 1)) + 1 := by omega
  have e3 : (l.take k ++ List.replicate (64 - k) 0).set k l[k] = l.take k ++ (List.replicate (64 - k) 0).set (k - (l.take k).length) l[k] := by
    conv => lhs; rw [List.set_append]
    rw [if_neg (by omega)]
  rw [e3, e1, Nat.sub_self, e2, List.replicate_succ, List.set_cons_zero, List.take_succ_eq_append_getElem h1]
  simp only [List.append_assoc, List.singleton_append]

set_option maxRecDepth 10000 in
set_option maxHeartbeats 800000 in
theorem block_any (s : ByteArray) (w : World) (hs : s.size ≤ maxLen) : Calls Try.prog 30 #[.string s] w fun e w' => ∃ v, e = .returned v ∧ NewBytes w w' v (pad s.data.toList) ∧ Kept [] w w' := by
  have hmk := run_make64
  have hs2 : (s.size : Int) ≤ 9223372036854775807 := by simp only [maxLen] at hs; omega
  clear hs
  go_enter Try.func30, Try.ntmps30
  go_wp2
  have hl : s.data.toList.length = s.size := by simp
  have Hl := Lib.hid hl
  clear hl
  go_loopw [4] (fun i wr => ∃ k : Nat, i = .int .i64 k ∧ k ≤ s.size ∧ k ≤ 64 ∧ wr.ownsRow w.heap.size 5 1 (.slice (some ⟨w.heap.size, 0, none⟩) 64 64) 64 ((padTo s.data.toList k).map bv) ∧ Kept [] w wr) (fun i _ => 64 - (intOf i).toNat)
  case atStart =>
    refine ⟨0, rfl, Nat.zero_le _, Nat.zero_le _, ?_, (Kept.refl _ w).alloc _⟩
    have := z64_own w w.heap.size (Nat.le_refl _)
    simpa [padTo] using this
  case round =>
    obtain ⟨k, rfl, hk1, hk2, hown, hkr⟩ := hrel
    by_cases h1 : k < s.size
    · by_cases h2 : k < 64
      · have hc := hown.cellAt k (by omega)
        have hf := hown.frozenAt k
        have hlen := padTo_len s.data.toList k (by rw [Hl.out]; exact hk1) hk2
        rw [List.getElem?_eq_getElem (by rw [List.length_map]; omega)] at hc
        have hst := (hown.stored k (bv s.data.toList[k])).1
        rw [← List.map_set, padTo_set _ _ (by rw [Hl.out]; exact h1) h2] at hst
        have Hst := Lib.hid hst
        have Hown := Lib.hid hown
        have hcc : ∃ cv, wr.cell? ⟨w.heap.size, k, none⟩ = some cv := ⟨_, hc⟩
        obtain ⟨cv, hcv⟩ := hcc
        clear hc hst hown hlen
        go_wp2
        go_roundw
        case rel => exact ⟨k + 1, by go_num, by omega, by omega, Hst.out, hkr.setCell (by simp) _⟩
        case measure => simp [intOf]; omega
      · obtain rfl : k = 64 := by omega
        have Hown := Lib.hid hown
        clear hown
        go_wp2
        go_ret
        have e1 : pad s.data.toList = padTo s.data.toList 64 := by unfold pad; congr 1; rw [Hl.out]; omega
        exact ⟨_, rfl, by rw [e1]; exact newBytes_of_row Hown.out, hkr⟩
    · obtain rfl : k = s.size := by omega
      have Hown := Lib.hid hown
      clear hown
      go_wp2
      go_ret
      have e1 : pad s.data.toList = padTo s.data.toList s.size := by unfold pad; congr 1; rw [Hl.out]; omega
      exact ⟨_, rfl, by rw [e1]; exact newBytes_of_row Hown.out, hkr⟩
end Go.Proofs.Ytfkdoinlbdcaaaa

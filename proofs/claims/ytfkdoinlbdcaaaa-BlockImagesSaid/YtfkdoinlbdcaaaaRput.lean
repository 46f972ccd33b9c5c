/- The document's Put: a number's four bytes. -/
import Derived.Test.YtfkdoinlbdcaaaaRedD
namespace Go.Proofs.Ytfkdoinlbdcaaaa
open Go.RowKit

def down4 (n j : Nat) : List UInt8 := List.replicate (4 - j) 0 ++ (put4 n).drop (4 - j)
theorem down4_set (n j : Nat) (hj : j < 4) (m : Nat) (hm : m = n / 256 ^ j) : ((down4 n j).map bv).set (3 - j) (.int .u8 ((m : Int) % 256)) = (down4 n (j + 1)).map bv := by
  have hb : ∀ q : Nat, m = q → Value.int .u8 ((m : Int) % 256) = bv (UInt8.ofNat q) := by
    intro q hq
    rw [bv_ofNat, hq]
  obtain rfl | rfl | rfl | rfl : j = 0 ∨ j = 1 ∨ j = 2 ∨ j = 3 := by omega
  · rw [hb n (by rw [hm]; simp)]; rfl
  · rw [hb (n / 256) (by rw [hm])]; rfl
  · rw [hb (n / 65536) (by rw [hm])]; rfl
  · rw [hb (n / 16777216) (by rw [hm])]; rfl
set_option maxRecDepth 100000 in
set_option maxHeartbeats 1600000 in
theorem rput_any (n : Nat) (w : World) (hn : n < 4294967296) : Calls Try.prog 58 #[.int .i64 n, .int .i64 4] w fun e w' => ∃ v, e = .returned (.tuple #[v, .bool true]) ∧ w'.ownsRow w.heap.size 5 1 v 4 ((put4 n).map bv) ∧ Kept [] w w' := by
  have hmk := run_make4
  have hnn := Lib.hid hn
  clear hn
  go_enter Try.func58, Try.ntmps58
  go_wp2_with fail
  go_loopw [0, 7] (fun nv i wr => ∃ j m : Nat, j ≤ 4 ∧ i = .int .i64 (3 - (j : Int)) ∧ nv = .int .i64 m ∧ m = n / 256 ^ j ∧ wr.ownsRow w.heap.size 5 1 (.slice (some ⟨w.heap.size, 0, none⟩) 4 4) 4 ((down4 n j).map bv) ∧ Kept [] w wr) (fun _ i _ => (intOf i + 1).toNat)
  case atStart => exact ⟨0, n, Nat.zero_le _, rfl, rfl, by simp, z4_own w w.heap.size (Nat.le_refl _), (Kept.refl _ w).alloc _⟩
  case round =>
    obtain ⟨j, m, hj, rfl, rfl, hm, hown, hkr⟩ := hrel
    have Hown := Lib.hid hown
    have HK := Lib.hid hkr
    have HM := Lib.hid hm
    have hmI : (m : Int) ≤ 4294967296 := by rw [hm]; have := Nat.div_le_self n (256 ^ j); have := hnn.out; omega
    by_cases h4 : j < 4
    · have hi : (0 : Int) ≤ 3 - j := by omega
      have hi2 : (3 : Int) - j < 4 := by omega
      have hc := hown.cellAt (3 - j) (by omega)
      have hf := hown.frozenAt (3 - j)
      obtain ⟨cv, hcv⟩ : ∃ cv, wr.cell? ⟨w.heap.size, 3 - j, none⟩ = some cv := by
        refine ⟨_, hc.trans (List.getElem?_eq_getElem ?_)⟩
        simp [down4, put4]; omega
      have ht : ((3 : Int) - j).toNat = 3 - j := by omega
      have HT := Lib.hid ht
      clear hc hown hkr hm ht
      go_wp2_with fail
      have hst := (Hown.out.stored (3 - j) (.int .u8 ((m : Int) % 256))).1
      rw [down4_set n j h4 m HM.out] at hst
      refine ⟨⟨j + 1, m / 256, by omega, ?_, ?_, ?_, hst, HK.out.setCell (by simp) _⟩, by simp [intOf]; omega⟩
      · rw [show (3 : Int) - ((j + 1 : Nat) : Int) = 3 - j - 1 by omega]
      · rw [Int.natCast_ediv]; rfl
      · rw [HM.out, Nat.div_div_eq_div_mul, Nat.pow_succ]
    · obtain rfl : j = 4 := by omega
      have h0 : m = 0 := by rw [hm]; exact Nat.div_eq_of_lt (by have := hnn.out; simpa using this)
      clear hown hkr hm
      subst h0
      go_wp2_with fail
      go_ret2
      exact ⟨_, rfl, Hown.out, HK.out⟩
end Go.Proofs.Ytfkdoinlbdcaaaa

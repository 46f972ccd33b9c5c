/- Put: a number's four bytes. -/
import Derived.Test.YtfkdoinlbdcaaaaOctG
namespace Go.Proofs.Ytfkdoinlbdcaaaa
open Go.RowKit

def put4 (n : Nat) : List UInt8 := [UInt8.ofNat (n / 16777216), UInt8.ofNat (n / 65536), UInt8.ofNat (n / 256), UInt8.ofNat n]
def z4 : Array Value := madeCells #[.int .u8 0] 4
theorem z4_list : z4.toList = (List.replicate 4 (0 : UInt8)).map bv := by
  rw [z4, toList_madeCells_one, List.map_replicate]; rfl
theorem run_make4 (W : World) : (Instr.makeSlice 30 (.int .i64 4) (.int .i64 4)).run Try.prog W = .ok (.slice (some ⟨W.heap.size, 0, none⟩) 4 4) (W.alloc (.cells z4 5)) := by
  obtain ⟨i, hi, hz, hs, hb⟩ := info_parts tyBytes.info
  have := run_make (P := Try.prog) W 30 5 i (.int .u8 0) Try.underlying30 hi hz .i64 .i64 4 4 (by decide) (by decide) (by rw [hb]; decide) (by decide)
  rw [hs] at this
  exact this
theorem z4_own (W : World) (base : Nat) (hb : base ≤ W.heap.size) : (W.alloc (.cells z4 5)).ownsRow base 5 1 (.slice (some ⟨W.heap.size, 0, none⟩) 4 4) 4 ((List.replicate 4 (0 : UInt8)).map bv) := by
  rw [← z4_list]
  exact World.ownsRow_lit W z4 4 hb (by decide) (by simp [z4, size_madeCells])

theorem put4_len (n : Nat) : (put4 n).length = 4 := rfl
theorem bv_ofNat (m : Nat) : bv (UInt8.ofNat m) = .int .u8 ((m : Int) % 256) := by
  simp [bv, UInt8.toNat_ofNat]
theorem put4_set (n k : Nat) (hk : k < 4) : (((put4 n).take k ++ List.replicate (4 - k) 0).map bv).set k (.int .u8 ((n : Int) / 2 ^ (8 * (3 - k)) % 256)) = (((put4 n).take (k + 1) ++ List.replicate (4 - (k + 1)) 0).map bv) := by
  have hb : ∀ m : Nat, m = n / 2 ^ (8 * (3 - k)) → Value.int .u8 ((n : Int) / 2 ^ (8 * (3 - k)) % 256) = bv (UInt8.ofNat m) := by
    intro m hm
    rw [bv_ofNat, hm]
    simp
  obtain rfl | rfl | rfl | rfl : k = 0 ∨ k = 1 ∨ k = 2 ∨ k = 3 := by omega
  · rw [hb (n / 16777216) (by simp)]; rfl
  · rw [hb (n / 65536) (by simp)]; rfl
  · rw [hb (n / 256) (by simp)]; rfl
  · rw [hb n (by simp)]; rfl
set_option maxRecDepth 10000 in
set_option maxHeartbeats 1600000 in
theorem put_any (n : Nat) (w : World) (hn : n < 4294967296) : Calls Try.prog 55 #[.int .i64 n, .int .i64 4] w fun e w' => ∃ v, e = .returned (.tuple #[v, .int .i64 0]) ∧ NewBytes w w' v (put4 n) ∧ Kept [] w w' := by
  have hmk := run_make4
  have hq : ((n : Int) / 4294967296 != 0) = false := by simp; omega
  have hnn := Lib.hid hn
  clear hn
  go_enter Try.func55, Try.ntmps55
  go_wp2_with fail
  go_loopw [33] (fun i wr => ∃ k : Nat, i = .int .i64 k ∧ k ≤ 4 ∧ wr.ownsRow w.heap.size 5 1 (.slice (some ⟨w.heap.size, 0, none⟩) 4 4) 4 (((put4 n).take k ++ List.replicate (4 - k) 0).map bv) ∧ Kept [] w wr) (fun i _ => 4 - (intOf i).toNat)
  case atStart => exact ⟨0, rfl, Nat.zero_le _, z4_own w w.heap.size (Nat.le_refl _), (Kept.refl _ w).alloc _⟩
  case round =>
    obtain ⟨k, rfl, hk, hown, hkr⟩ := hrel
    have Hown := Lib.hid hown
    have HK := Lib.hid hkr
    by_cases h4 : k < 4
    · have h4I : (k : Int) < 4 := by omega
      have hc := hown.cellAt k (by omega)
      have hf := hown.frozenAt k
      obtain ⟨cv, hcv⟩ : ∃ cv, wr.cell? ⟨w.heap.size, k, none⟩ = some cv := by
        refine ⟨_, hc.trans (List.getElem?_eq_getElem ?_)⟩
        simp [put4]; omega
      clear hc hown hkr
      go_wp2_with fail
      case roundEnd =>
        have hst := (Hown.out.stored k (.int .u8 ((n : Int) / 2 ^ (8 * (3 - k)) % 256))).1
        rw [put4_set n k h4] at hst
        exact ⟨⟨k + 1, by go_num, by omega, hst, HK.out.setCell (by simp) _⟩, by simp [intOf]; omega⟩
    · obtain rfl : k = 4 := by omega
      clear hown hkr
      go_wp2_with fail
      go_ret2
      exact ⟨_, rfl, newBytes_of_row Hown.out, HK.out⟩
end Go.Proofs.Ytfkdoinlbdcaaaa

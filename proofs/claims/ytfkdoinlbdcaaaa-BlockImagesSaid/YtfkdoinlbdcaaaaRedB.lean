/- The document's reader: Int of four bytes, where they stand. -/
import Derived.Test.YtfkdoinlbdcaaaaRed
namespace Go.Proofs.Ytfkdoinlbdcaaaa
open Go.RowKit

set_option maxRecDepth 10000 in
set_option maxHeartbeats 1600000 in
theorem r1int_yes {w : World} {B r : Nat} {l : List UInt8} {bad : Bool} (h : R1At w B r l bad) (h4 : 4 ≤ l.length) :
    Calls Try.prog 51 #[.pointer (some ⟨r, 0, none⟩), .int .i64 4] w fun e w' => e = .returned (.int .i64 (be (l.take 4))) ∧ R1At w' B r (l.drop 4) false ∧ Kept [r] w w' := by
  obtain rfl : bad = false := by
    cases bad
    · rfl
    · have := h.spoilt rfl
      subst this
      simp at h4
  have hfew := h.few
  have H := Lib.hid h
  obtain ⟨a, c, h1, hb, hg⟩ := h.rep
  have q0 : w.cell? ⟨r, 0, none⟩ = some (.slice a l.length c) := cell_head h1 rfl
  have f0 := free_head (o := 0) h1
  obtain ⟨a2, c2, hr2, hb2, hv2⟩ := Bytes.from tyBytes hb 4 h4
  have hr3 : ∀ W, (Instr.slice 30 (.slice a l.length c) (some (.int .i64 4)) none none).run Try.prog W = .ok (.slice a2 (l.length - 4) c2) W := hr2
  clear hr2
  have hcI : ¬(l.length : Int) < 4 := by omega
  have h4I : (4 : Int) ≤ l.length := by omega
  have hlI : (l.length : Int) ≤ 100000 := by omega
  have H1 := Lib.hid h1
  have HB := Lib.hid hb
  have HB2 := Lib.hid hb2
  have HV2 := Lib.hid (fun g h => hg g (hv2 g h))
  have HLD : Hid ((l.drop 4).length = l.length - 4) := Lib.hid (by rw [List.length_drop])
  clear h h1 hb hg hb2 hv2
  go_enter Try.func51, Try.ntmps51
  go_wp2_with fail
  go_loopw [5, 6] (fun n i wr => ∃ j : Nat, i = .int .i64 j ∧ j ≤ 4 ∧ n = .int .i64 (be (l.take j)) ∧ wr = w) (fun _ i _ => 4 - (intOf i).toNat)
  case atStart => exact ⟨0, rfl, by decide, rfl, rfl⟩
  case round =>
    obtain ⟨j, rfl, hj, rfl, rfl⟩ := hrel
    by_cases hlt : j < 4
    · have hltI : (j : Int) < 4 := by omega
      have hjk : j < l.length := by omega
      obtain ⟨g, o, rfl, q⟩ := byte_at HB.out (Kept.refl [] _) j hjk
      have hnext : be (l.take (j + 1)) = be (l.take j) * 256 + l[j].toNat := by rw [List.take_succ_eq_append_getElem hjk, be_snoc]
      have hbl := be_lt (l.take j)
      have hc := l[j].toNat_lt
      have HNX := Lib.hid hnext
      clear hnext
      have hB : be (l.take j) < 16777216 := by
        refine Nat.lt_of_lt_of_le hbl ?_
        rw [show (16777216 : Nat) = 256 ^ 3 by decide]
        exact Nat.pow_le_pow_right (by decide) (by rw [List.length_take]; omega)
      have HBB := Lib.hid hB
      have HC := Lib.hid hc
      clear hbl hc hB
      go_wp2_with fail
      case roundEnd =>
        refine ⟨⟨j + 1, by go_num, by omega, ?_, trivial⟩, by simp [intOf]; omega⟩
        have hB := HBB.out
        have hC := HC.out
        rw [HNX.out, Go.IntWalk.wrap64_in (256 * (be (l.take j) : Int)) (by omega), Go.IntWalk.wrap64_in (l[j].toNat : Int) (by omega), Go.IntWalk.wrap64_in _ (by omega)]
        congr 1
        omega
    · obtain rfl : j = 4 := by omega
      go_wp2_with fail
      go_ret
      have k := (Kept.refl [r] wr).setCell (a := wr) (p := ⟨r, 0, none⟩) (.inl (by simp)) (.slice a2 (l.length - 4) c2)
      refine ⟨rfl, H.out.put k (a := a2) (c := c2) (l' := l.drop 4) (bad' := false) ?_ ?_ ?_ (by rw [HLD.out]; omega) (by simp), k⟩
      · rw [setCell_heap H1.out, HLD.out]
        rfl
      · rw [HLD.out]; exact HB2.out
      · rw [HLD.out]; exact HV2.out
end Go.Proofs.Ytfkdoinlbdcaaaa

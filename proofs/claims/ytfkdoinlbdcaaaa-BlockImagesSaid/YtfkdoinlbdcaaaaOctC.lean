/- The reader of bytes: Int of four bytes. -/
import Derived.Test.YtfkdoinlbdcaaaaOctB
import Derived.Laws.BitsLemmas
namespace Go.Proofs.Ytfkdoinlbdcaaaa
open Go.RowKit

def be (l : List UInt8) : Nat := l.foldl (fun a c => a * 256 + c.toNat) 0
theorem be_snoc (l : List UInt8) (c : UInt8) : be (l ++ [c]) = be l * 256 + c.toNat := by simp [be]
theorem be_go (l : List UInt8) : ∀ a : Nat, l.foldl (fun a c => a * 256 + c.toNat) a < (a + 1) * 256 ^ l.length := by
  induction l with
  | nil => intro a; simp
  | cons c r ih =>
    intro a
    rw [List.foldl_cons, List.length_cons, Nat.pow_succ]
    refine Nat.lt_of_lt_of_le (ih _) ?_
    have h1 : a * 256 + c.toNat + 1 ≤ (a + 1) * 256 := by have := c.toNat_lt; omega
    have h2 := Nat.mul_le_mul_right (256 ^ r.length) h1
    rw [Nat.mul_assoc] at h2
    rw [Nat.mul_comm (256 ^ r.length) 256]
    exact h2
theorem be_lt (l : List UInt8) : be l < 256 ^ l.length := by
  have := be_go l 0
  simpa [be] using this

set_option maxRecDepth 10000 in
set_option maxHeartbeats 800000 in
theorem rint_no {w : World} {r : Nat} {l : List UInt8} {bad : Bool} (h : RdAt w r l bad) (hb : l.length < 4) :
    Calls Try.prog 48 #[.pointer (some ⟨r, 0, none⟩), .int .i64 4] w fun e w' => e = .returned (.int .i64 0) ∧ RdAt w' r [] true ∧ Kept [r] w w' := by
  have hl := Lib.hid (left_any h)
  have hs := Lib.hid (spoil_any h)
  have hcI : (l.length : Int) < 4 := by omega
  clear h hb
  generalize l.length = m at *
  go_enter Try.func48, Try.ntmps48
  go_wp2_with (first
    | (go_at_call 67; refine hl.out.mono ?_; rintro e w' ⟨rfl, rfl⟩)
    | (go_at_call 68; refine hs.out.mono ?_; rintro e w1 ⟨rfl, h1, h2⟩))
  go_ret
  exact ⟨rfl, h1, h2⟩
set_option maxRecDepth 10000 in
set_option maxHeartbeats 1600000 in
theorem rint_yes {w : World} {r : Nat} {l : List UInt8} {bad : Bool} (h : RdAt w r l bad) (h4 : 4 ≤ l.length) :
    Calls Try.prog 48 #[.pointer (some ⟨r, 0, none⟩), .int .i64 4] w fun e w' => e = .returned (.int .i64 (be (l.take 4))) ∧ RdAt w' r (l.drop 4) false ∧ Kept [r] w w' := by
  obtain rfl : bad = false := by
    cases bad
    · rfl
    · have := h.spoilt rfl
      subst this
      simp at h4
  have hl := Lib.hid (left_any h)
  have hby := Lib.hid (rbytes_yes h 4 h4)
  have hlen : (l.take 4).length = 4 := by rw [List.length_take]; omega
  have hcI : ¬(l.length : Int) < 4 := by omega
  clear h h4
  revert hby hl hcI hlen
  generalize l.take 4 = k
  generalize l.drop 4 = l2
  generalize l.length = m
  intro hl hby hlen hcI
  have HLEN := Lib.hid hlen
  go_enter Try.func48, Try.ntmps48
  go_wp2_with (first
    | (go_at_call 67; refine hl.out.mono ?_; rintro e w' ⟨rfl, rfl⟩)
    | (go_at_call 69; refine hby.out.mono ?_; rintro e w1 ⟨⟨v1, rfl, hv1⟩, h1, h2⟩; have HV := Lib.hid hv1; have HR := Lib.hid h1; have HK := Lib.hid h2; obtain ⟨a1, c1, rfl, -, -⟩ := hv1.1.form; rw [hlen]; clear hv1 h1 h2))
  go_loopw [5, 39] (fun n i wr => ∃ j : Nat, i = .int .i64 j ∧ j ≤ 4 ∧ n = .int .i64 (be (k.take j)) ∧ wr = w1) (fun _ i _ => 4 - (intOf i).toNat)
  case atStart => exact ⟨0, rfl, by decide, rfl, rfl⟩
  case round =>
    obtain ⟨j, rfl, hj, rfl, rfl⟩ := hrel
    by_cases hlt : j < 4
    · have hltI : (j : Int) < 4 := by omega
      have hjk : j < k.length := by rw [HLEN.out]; exact hlt
      obtain ⟨g, o, rfl, q⟩ : ∃ g o, a1 = some ⟨g, o, none⟩ ∧ wr.cell? ⟨g, o + j, none⟩ = some (.int .u8 k[j].toNat) := by
        rcases HV.out.1.2 with ⟨_, h0⟩ | ⟨h0, _⟩ | ⟨g, o, cap, hsv, _, _, hrow⟩
        · omega
        · omega
        simp only [Value.slice.injEq] at hsv
        obtain ⟨rfl, -, -⟩ := hsv
        exact ⟨g, o, rfl, hrow.cells j _ (by simp [hjk, bv])⟩
      have hnext : be (k.take (j + 1)) = be (k.take j) * 256 + k[j].toNat := by rw [List.take_succ_eq_append_getElem hjk, be_snoc]
      have hbl := be_lt (k.take j)
      have hc := k[j].toNat_lt
      have HNX := Lib.hid hnext
      clear hnext
      have hB : be (k.take j) < 16777216 := by
        refine Nat.lt_of_lt_of_le hbl ?_
        rw [show (16777216 : Nat) = 256 ^ 3 by decide]
        exact Nat.pow_le_pow_right (by decide) (by rw [List.length_take]; omega)
      have HB := Lib.hid hB
      have HC := Lib.hid hc
      clear hbl hc hB
      go_wp2_with fail
      case roundEnd =>
        refine ⟨⟨j + 1, by go_num, by omega, ?_, trivial⟩, by simp [intOf]; omega⟩
        have hB := HB.out
        have hC := HC.out
        rw [HNX.out, Go.IntWalk.wrap64_in ((be (k.take j) : Int) * 256) (by omega), Go.IntWalk.wrap64_in (k[j].toNat : Int) (by omega), bits_join .i64 32 (by decide) (fun n h0 h1 => by rw [IntKind.wrap_i64]; omega) 8 _ _ (by omega) (by omega) (by omega) (by omega) (by omega) (by omega)]
        congr 1
    · obtain rfl : j = 4 := by omega
      have hk4 : k.take 4 = k := List.take_of_length_le (by rw [HLEN.out]; exact Nat.le_refl _)
      rw [hk4]
      go_wp2_with fail
      go_ret
      exact ⟨rfl, HR.out, HK.out⟩
end Go.Proofs.Ytfkdoinlbdcaaaa

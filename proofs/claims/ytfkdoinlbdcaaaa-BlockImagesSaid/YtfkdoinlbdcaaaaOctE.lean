/- blank. -/
import Derived.Test.YtfkdoinlbdcaaaaOctD
namespace Go.Proofs.Ytfkdoinlbdcaaaa
open Go.RowKit

set_option maxRecDepth 10000 in
theorem isnt_any (b : UInt8) (w : World) : Calls Try.prog 73 #[.int .u8 b.toNat] w fun e w' => e = .returned (.bool (!(b == 0))) ∧ w = w' := by
  by_cases hb : b = 0
  · subst hb
    go_enter Try.func73, Try.ntmps73
    go_wp2_with fail
    go_ret
    exact ⟨rfl, rfl⟩
  · have hbI : ¬((b.toNat : Int) = 0) := by
      intro e
      apply hb
      apply UInt8.toNat_inj.1
      simp
      omega
    have hB : (b == 0) = false := by simpa using hb
    rw [hB]
    have hne : ((b.toNat : Int) != 0) = true := by simpa using hbI
    clear hb hB hbI
    go_enter Try.func73, Try.ntmps73
    go_wp2_with fail
    go_ret
    exact ⟨rfl, rfl⟩

set_option maxRecDepth 10000 in
set_option maxHeartbeats 800000 in
theorem indexFunc_any {w : World} {v : Value} {l : List UInt8} (hv : Bytes w v l) (hl : l.length ≤ 100000) : Calls Try.prog 77 #[v, .func (.func 73) #[] #[]] w fun e w' => (∃ r : Int, e = .returned (.int .i64 r) ∧ ((allZero l = true ∧ r = -1) ∨ (allZero l = false ∧ 0 ≤ r))) ∧ w = w' := by
  obtain ⟨a, c, rfl, -, -⟩ := hv.form
  have hlI : (l.length : Int) ≤ 100000 := by omega
  have HV := Lib.hid hv
  clear hv hl
  go_enter Try.func77, Try.ntmps77
  go_wp2_with fail
  go_loopw [8] (fun i wr => ∃ j : Nat, i = .int .i64 j ∧ j ≤ l.length ∧ allZero (l.take j) = true ∧ wr = w) (fun i _ => l.length - (intOf i).toNat)
  case atStart => exact ⟨0, rfl, Nat.zero_le _, rfl, rfl⟩
  case round =>
    obtain ⟨j, rfl, hj, hz, rfl⟩ := hrel
    have HZ := Lib.hid hz
    clear hz
    by_cases hlt : j < l.length
    · have hltI : (j : Int) < l.length := by omega
      obtain ⟨g, o, rfl, q⟩ := byte_at HV.out (Kept.refl [] _) j hlt
      have HT := Lib.hid (allZero_take l j hlt)
      have HNO := Lib.hid (allZero_no (l := l) (k := j) hlt)
      revert q HT HNO
      generalize l[j] = b
      intro q HT HNO
      have hb := Lib.hid (isnt_any b wr)
      cases hbb : (b == 0)
      · rw [hbb] at hb
        have HB : Hid (b ≠ 0) := Lib.hid (by simpa using hbb)
        clear hbb
        go_wp2_with (go_at_call 73; refine hb.out.mono ?_; rintro e w' ⟨rfl, rfl⟩)
        go_ret
        exact ⟨⟨_, rfl, .inr ⟨HNO.out HB.out, by omega⟩⟩, rfl⟩
      · rw [hbb] at hb
        have HB := Lib.hid hbb
        clear hbb
        go_wp2_with (go_at_call 73; refine hb.out.mono ?_; rintro e w' ⟨rfl, rfl⟩)
        case roundEnd => exact ⟨⟨j + 1, by go_num, by omega, by rw [HT.out, HZ.out, HB.out]; rfl, trivial⟩, by simp [intOf]; omega⟩
    · obtain rfl : j = l.length := by omega
      have hz := HZ.out
      rw [List.take_length] at hz
      have HZ2 := Lib.hid hz
      clear hz
      go_wp2_with fail
      go_ret
      exact ⟨⟨_, rfl, .inl ⟨HZ2.out, rfl⟩⟩, rfl⟩

set_option maxRecDepth 10000 in
set_option maxHeartbeats 800000 in
theorem contains_any {w : World} {v : Value} {l : List UInt8} (hv : Bytes w v l) (hl : l.length ≤ 100000) : Calls Try.prog 72 #[v, .func (.func 73) #[] #[]] w fun e w' => e = .returned (.bool (!allZero l)) ∧ w = w' := by
  have hi := Lib.hid (indexFunc_any hv hl)
  clear hv hl
  go_enter Try.func72, Try.ntmps72
  go_wp2_with (go_at_call 77; refine hi.out.mono ?_; rintro e w' ⟨⟨r, rfl, hr⟩, rfl⟩)
  go_ret
  rcases hr with ⟨hz, rfl⟩ | ⟨hz, hr⟩
  · rw [hz]; exact ⟨rfl, rfl⟩
  · rw [hz]; exact ⟨by simp [hr], rfl⟩
set_option maxRecDepth 10000 in
theorem blank_any {w : World} {v : Value} {l : List UInt8} (hv : Bytes w v l) (hl : l.length ≤ 100000) : Calls Try.prog 54 #[v] w fun e w' => e = .returned (.bool (allZero l)) ∧ w = w' := by
  have hi := Lib.hid (contains_any hv hl)
  clear hv hl
  go_enter Try.func54, Try.ntmps54
  go_wp2_with (go_at_call 72; refine hi.out.mono ?_; rintro e w' ⟨rfl, rfl⟩)
  go_ret
  exact ⟨by simp, rfl⟩
end Go.Proofs.Ytfkdoinlbdcaaaa

/- Numbers' digits: the document's; names. -/
import Derived.Test.YtfkdoinlbdcaaaaDoorMirF
namespace Go.Proofs.YtfkdoinlbdcaaaaDoor
open Go.RowKit

def tDigits : ByteArray := ⟨#[48, 49, 50, 51, 52, 53, 54, 55, 56, 57]⟩
theorem one_digit (k : Nat) (hk : k < 10) : (⟨#[48, 49, 50, 51, 52, 53, 54, 55, 56, 57]⟩ : ByteArray).extract k (k + 1) = ⟨#[UInt8.ofNat (48 + k)]⟩ := by
  have : k = 0 ∨ k = 1 ∨ k = 2 ∨ k = 3 ∨ k = 4 ∨ k = 5 ∨ k = 6 ∨ k = 7 ∨ k = 8 ∨ k = 9 := by omega
  rcases this with rfl | rfl | rfl | rfl | rfl | rfl | rfl | rfl | rfl | rfl <;> rfl
theorem digits_len (u : Nat) (h : u ≤ 9223372036854775808) : (Lib.decDigits u).length ≤ 21 := by
  by_cases h0 : u = 0
  · subst h0
    rw [Lib.decDigits]
    simp
  · have := Lib.itoa_length_le (-(u : Int)) (by omega) (by omega)
    rw [Lib.itoa_neg u (by omega)] at this
    simp at this
    omega

set_option maxRecDepth 10000 in
set_option maxHeartbeats 1600000 in
theorem below_any (u : Nat) : u ≤ 9223372036854775808 → ∀ w : World, Calls Tryd.prog 41 #[.int .i64 (-(u : Int))] w fun e w' => e = .returned (.string ⟨(Lib.decDigits u).toArray⟩) ∧ w = w' := by
  induction u using Nat.strongRecOn with
  | ind u ih =>
    intro hu w
    have hq : (-(u : Int)).tdiv 10 = -((u / 10 : Nat) : Int) := by rw [Int.neg_tdiv]; rfl
    have hr : (-(u : Int)).tmod 10 = -((u % 10 : Nat) : Int) := by rw [Int.neg_tmod]; rfl
    have hs := Lib.hid (one_digit (u % 10) (Nat.mod_lt _ (by decide)))
    have hl := digits_len u hu
    have hm : u % 10 < 10 := Nat.mod_lt _ (by decide)
    by_cases h10 : 10 ≤ u
    · have hi := Lib.hid (ih (u / 10) (by omega) (by omega))
      have hl2 := digits_len (u / 10) (by omega)
      have hd : Hid ((⟨(Lib.decDigits u).toArray⟩ : ByteArray) = ⟨(Lib.decDigits (u / 10)).toArray⟩ ++ ⟨#[UInt8.ofNat (48 + u % 10)]⟩) := Lib.hid (by
        rw [Lib.decDigits, dif_neg (by omega)]
        apply ByteArray.ext
        simp)
      have hsz : ¬ 9223372036854775807 < (⟨(Lib.decDigits (u / 10)).toArray⟩ : ByteArray).size + 1 := by simp [ByteArray.size]; omega
      revert hd hi hsz
      generalize (⟨(Lib.decDigits (u / 10)).toArray⟩ : ByteArray) = t
      intro hi hd hsz
      clear ih hl hl2
      go_enter Tryd.func41, Tryd.ntmps41
      go_wp2_with (go_at_call 41; refine (hi.out _).mono ?_; rintro e w' ⟨rfl, rfl⟩)
      go_ret
      exact ⟨by rw [hd.out, ← hs.out]; rfl, rfl⟩
    · have hd : Hid ((⟨(Lib.decDigits u).toArray⟩ : ByteArray) = ⟨#[UInt8.ofNat (48 + u % 10)]⟩) := Lib.hid (by
        rw [Lib.decDigits, dif_pos (by omega), Nat.mod_eq_of_lt (by omega)])
      have hn : ¬ (-(u : Int)) ≤ -10 := by omega
      clear ih hl
      go_enter Tryd.func41, Tryd.ntmps41
      go_wp2_with fail
      go_ret
      exact ⟨by rw [hd.out, ← hs.out]; exact congrArg (fun b => Ending.returned (Value.string b)) (by apply ByteArray.ext; simp), rfl⟩

theorem itoa_size (n : Int) (h0 : -9223372036854775808 ≤ n) (h1 : n ≤ 9223372036854775807) : (⟨(Lib.itoa n).toArray⟩ : ByteArray).size ≤ 21 := by
  have := Lib.itoa_length_le n h0 h1
  simpa [ByteArray.size] using this
set_option maxRecDepth 10000 in
theorem refDigits_any (n : Int) (h0 : -9223372036854775808 ≤ n) (h1 : n ≤ 9223372036854775807) (w : World) : Calls Tryd.prog 33 #[.int .i64 n] w fun e w' => e = .returned (.string ⟨(Lib.itoa n).toArray⟩) ∧ w = w' := by
  by_cases hn : n < 0
  · obtain ⟨u, rfl⟩ : ∃ u : Nat, n = -(u : Int) := ⟨n.natAbs, by omega⟩
    have hb := Lib.hid (below_any u (by omega) w)
    have hd : Hid ((⟨(Lib.itoa (-(u : Int))).toArray⟩ : ByteArray) = ⟨#[45]⟩ ++ ⟨(Lib.decDigits u).toArray⟩) := Lib.hid (by
      rw [Lib.itoa_neg u (by omega)]
      apply ByteArray.ext
      simp)
    have hl := digits_len u (by omega)
    have hsz : ¬ 9223372036854775807 < 1 + (⟨(Lib.decDigits u).toArray⟩ : ByteArray).size := by simp [ByteArray.size]; omega
    rw [hd.out]
    clear hl
    revert hb hsz
    generalize (⟨(Lib.decDigits u).toArray⟩ : ByteArray) = t
    intro hb hsz
    clear hd
    go_enter Tryd.func33, Tryd.ntmps33
    go_wp2_with (go_at_call 41; refine hb.out.mono ?_; rintro e w' ⟨rfl, rfl⟩)
    go_ret
    exact ⟨rfl, rfl⟩
  · obtain ⟨u, rfl⟩ := Int.eq_ofNat_of_zero_le (show 0 ≤ n by omega)
    have hb := Lib.hid (below_any u (by omega) w)
    rw [Lib.itoa_nonneg]
    generalize (⟨(Lib.decDigits u).toArray⟩ : ByteArray) = t at hb ⊢
    have hw : IntKind.i64.wrap (-(u : Int)) = -(u : Int) := by rw [IntKind.wrap_i64]; omega
    go_enter Tryd.func33, Tryd.ntmps33
    go_wp2_with (go_at_call 41; refine hb.out.mono ?_; rintro e w' ⟨rfl, rfl⟩)
    go_ret
    exact ⟨rfl, rfl⟩

set_option maxRecDepth 10000 in
theorem refFileName_any (n : Int) (h0 : -9223372036854775808 ≤ n) (h1 : n ≤ 9223372036854775807) (s : ByteArray) (hs : s.size ≤ 281474976710656) (w : World) :
    Calls Tryd.prog 16 #[.int .i64 n, .string s, .bool true] w fun e w' => e = .returned (.string ((⟨(Lib.itoa n).toArray⟩ ++ ⟨#[46]⟩) ++ s)) ∧ w = w' := by
  have h := Lib.hid (refDigits_any n h0 h1 w)
  have ht := itoa_size n h0 h1
  revert h ht
  generalize (⟨(Lib.itoa n).toArray⟩ : ByteArray) = t
  intro h ht
  have h2 : ¬ 9223372036854775807 < t.size + 1 := by omega
  have h3 : ¬ 9223372036854775807 < t.size + 1 + s.size := by omega
  clear hs ht h0 h1
  go_enter Tryd.func16, Tryd.ntmps16
  go_wp2_with (go_at_call 33; refine h.out.mono ?_; rintro e w' ⟨rfl, rfl⟩)
  go_ret
  exact ⟨rfl, rfl⟩
set_option maxRecDepth 10000 in
theorem refFileName_plain (n : Value) (s : ByteArray) (w : World) : Calls Tryd.prog 16 #[n, .string s, .bool false] w fun e w' => e = .returned (.string s) ∧ w = w' := by
  go_enter Tryd.func16, Tryd.ntmps16
  go_wp2_with fail
  go_ret
  exact ⟨rfl, rfl⟩
theorem bytes_assoc (a b c : ByteArray) : (a ++ b) ++ c = a ++ (b ++ c) := by apply ByteArray.ext; simp
set_option maxRecDepth 10000 in
theorem refRootName_any (n : Int) (h0 : -9223372036854775808 ≤ n) (h1 : n ≤ 9223372036854775807) (w : World) :
    Calls Tryd.prog 14 #[.int .i64 n] w fun e w' => e = .returned (.string ((⟨(Lib.itoa n).toArray⟩ ++ ⟨#[46]⟩) ++ tRoot)) ∧ w = w' := by
  have h := Lib.hid (refDigits_any n h0 h1 w)
  have ht := itoa_size n h0 h1
  rw [bytes_assoc, show (⟨#[46]⟩ : ByteArray) ++ tRoot = ⟨#[46, 114, 111, 111, 116, 46, 106, 115, 111, 110]⟩ from rfl]
  revert h ht
  generalize (⟨(Lib.itoa n).toArray⟩ : ByteArray) = t
  intro h ht
  have h2 : ¬ 9223372036854775807 < t.size + 10 := by omega
  clear ht h0 h1
  go_enter Tryd.func14, Tryd.ntmps14
  go_wp2_with (go_at_call 33; refine h.out.mono ?_; rintro e w' ⟨rfl, rfl⟩)
  go_ret
  exact ⟨rfl, rfl⟩

def tTargets : ByteArray := ⟨#[116, 97, 114, 103, 101, 116, 115, 47]⟩
def targetOf (c : Bool) (p h : ByteArray) : ByteArray := if c then ((tTargets ++ h) ++ ⟨#[46]⟩) ++ p else tTargets ++ p
set_option maxRecDepth 10000 in
theorem targetName_any (c : Bool) (p h : ByteArray) (len : Int) (hp : p.size ≤ 281474976710656) (hh : h.size ≤ 281474976710656) (w : World) :
    Calls Tryd.prog 17 #[.agg #[.string p, .int .i64 len, .string h], .bool c] w fun e w' => e = .returned (.string (targetOf c p h)) ∧ Kept [] w w' := by
  have h1 : ¬ 9223372036854775807 < 8 + p.size := by omega
  have h2 : ¬ 9223372036854775807 < 8 + h.size := by omega
  have h3 : ¬ 9223372036854775807 < 8 + h.size + 1 := by omega
  have h4 : ¬ 9223372036854775807 < 8 + h.size + 1 + p.size := by omega
  clear hp hh
  cases c
  all_goals
    go_enter Tryd.func17, Tryd.ntmps17
    go_wp2_with fail
    go_ret
    exact ⟨rfl, (Kept.refl _ w).alloc _⟩
set_option maxRecDepth 10000 in
theorem refTargetName_any (c : Bool) (p h : ByteArray) (len : Int) (hp : p.size ≤ 281474976710656) (hh : h.size ≤ 281474976710656) (w : World) :
    Calls Tryd.prog 18 #[.agg #[.string p, .int .i64 len, .string h], .bool c] w fun e w' => e = .returned (.string (targetOf c p h)) ∧ Kept [] w w' := by
  have h1 : ¬ 9223372036854775807 < 8 + p.size := by omega
  have h2 : ¬ 9223372036854775807 < 8 + h.size := by omega
  have h3 : ¬ 9223372036854775807 < 8 + h.size + 1 := by omega
  have h4 : ¬ 9223372036854775807 < 8 + h.size + 1 + p.size := by omega
  clear hp hh
  cases c
  all_goals
    go_enter Tryd.func18, Tryd.ntmps18
    go_wp2_with fail
    go_ret
    exact ⟨rfl, (Kept.refl _ w).alloc _⟩
end Go.Proofs.YtfkdoinlbdcaaaaDoor

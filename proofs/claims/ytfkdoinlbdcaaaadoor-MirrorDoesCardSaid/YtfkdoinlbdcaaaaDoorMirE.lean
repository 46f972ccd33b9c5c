/- The mirror's names; the nil mirror. -/
import Derived.Test.YtfkdoinlbdcaaaaDoorMirD
import Derived.Test.YtfkdoinlbdcaaaaDoorItoa
import Derived.Lib.ItoaLen
namespace Go.Proofs.YtfkdoinlbdcaaaaDoor
open Go.RowKit

theorem itoa_small (i : Nat) (hi : i < 100) (w : World) : Calls Tryd.prog 34 #[.int .i64 i] w fun e w' => e = .returned (.string ⟨(Lib.decDigits i).toArray⟩) ∧ w' = w :=
  Any.strconv_Itoa_small { Tryd.laysItoa with } i hi w
theorem digits_size (i : Nat) (hi : i < 100) : (⟨(Lib.decDigits i).toArray⟩ : ByteArray).size ≤ 21 := by
  have := Lib.itoa_length_le (i : Int) (by omega) (by omega)
  rw [Lib.itoa_nonneg] at this
  simpa [ByteArray.size] using this
set_option maxRecDepth 10000 in
theorem fileName_any {n : Int} {t : ByteArray} {w : World} (hit : Calls Tryd.prog 34 #[.int .i64 n] w fun e w' => e = .returned (.string t) ∧ Kept [] w w') (ht : t.size ≤ 21) (s : ByteArray) (hs : s.size ≤ 281474976710656) :
    Calls Tryd.prog 15 #[.int .i64 n, .string s, .bool true] w fun e w' => e = .returned (.string ((t ++ ⟨#[46]⟩) ++ s)) ∧ Kept [] w w' := by
  have h := Lib.hid hit
  have h1 : ¬ 9223372036854775807 < t.size + 1 := by omega
  have h2 : ¬ 9223372036854775807 < t.size + 1 + s.size := by omega
  clear hit hs ht
  go_enter Tryd.func15, Tryd.ntmps15
  go_wp2_with (go_at_call 34; refine h.out.mono ?_; rintro e w' ⟨rfl, hk⟩)
  go_ret
  exact ⟨rfl, hk⟩
set_option maxRecDepth 10000 in
theorem fileName_plain (n : Value) (s : ByteArray) (w : World) : Calls Tryd.prog 15 #[n, .string s, .bool false] w fun e w' => e = .returned (.string s) ∧ w = w' := by
  go_enter Tryd.func15, Tryd.ntmps15
  go_wp2_with fail
  go_ret
  exact ⟨rfl, rfl⟩
theorem itoa_small0 (i : Nat) (hi : i < 100) (w : World) : Calls Tryd.prog 34 #[.int .i64 i] w fun e w' => e = .returned (.string ⟨(Lib.decDigits i).toArray⟩) ∧ Kept [] w w' :=
  (itoa_small i hi w).mono fun e w' ⟨h1, h2⟩ => ⟨h1, by rw [h2]; exact Kept.refl _ _⟩
def tRoot : ByteArray := ⟨#[114, 111, 111, 116, 46, 106, 115, 111, 110]⟩
set_option maxRecDepth 10000 in
theorem rootName_any {n : Int} {t : ByteArray} {w : World} (hit : Calls Tryd.prog 34 #[.int .i64 n] w fun e w' => e = .returned (.string t) ∧ Kept [] w w') (ht : t.size ≤ 21) :
    Calls Tryd.prog 13 #[.int .i64 n] w fun e w' => e = .returned (.string ((t ++ ⟨#[46]⟩) ++ tRoot)) ∧ Kept [] w w' := by
  have h := Lib.hid (fileName_any hit ht tRoot (by decide))
  clear hit ht
  go_enter Tryd.func13, Tryd.ntmps13
  go_wp2_with (go_at_call 15; refine h.out.mono ?_; rintro e w' ⟨rfl, hk⟩)
  go_ret
  exact ⟨rfl, hk⟩

set_option maxRecDepth 10000 in
theorem fetch_nil (v n : Value) (w : World) : Calls Tryd.prog 11 #[.pointer none, v, n] w fun e w' => e = .returned (.tuple #[.slice none 0 0, .int .i64 6]) ∧ w = w' := by
  go_enter Tryd.func11, Tryd.ntmps11
  go_wp2_with (go_at_call 28; refine (made_nil _).mono ?_; rintro e w' ⟨rfl, rfl⟩)
  go_ret2
  exact ⟨rfl, rfl⟩
set_option maxRecDepth 10000 in
theorem put_nil (v n : Value) (w : World) : Calls Tryd.prog 9 #[.pointer none, v, n] w fun e w' => e = .returned (.int .i64 6) ∧ w = w' := by
  go_enter Tryd.func9, Tryd.ntmps9
  go_wp2_with (go_at_call 28; refine (made_nil _).mono ?_; rintro e w' ⟨rfl, rfl⟩)
  go_ret
  exact ⟨rfl, rfl⟩
set_option maxRecDepth 10000 in
theorem drop_nil (v : Value) (w : World) : Calls Tryd.prog 26 #[.pointer none, v] w fun e w' => e = .returned (.int .i64 6) ∧ w = w' := by
  go_enter Tryd.func26, Tryd.ntmps26
  go_wp2_with (go_at_call 28; refine (made_nil _).mono ?_; rintro e w' ⟨rfl, rfl⟩)
  go_ret
  exact ⟨rfl, rfl⟩
set_option maxRecDepth 10000 in
theorem load_nil (v : Value) (w : World) : Calls Tryd.prog 27 #[.pointer none, v] w fun e w' => e = .returned (.int .i64 6) ∧ w = w' := by
  go_enter Tryd.func27, Tryd.ntmps27
  go_wp2_with (go_at_call 28; refine (made_nil _).mono ?_; rintro e w' ⟨rfl, rfl⟩)
  go_ret
  exact ⟨rfl, rfl⟩
set_option maxRecDepth 10000 in
theorem asked_nil (w : World) : Calls Tryd.prog 12 #[.pointer none] w fun e w' => e = .returned (.slice none 0 0) ∧ w = w' := by
  go_enter Tryd.func12, Tryd.ntmps12
  go_wp2_with (go_at_call 28; refine (made_nil _).mono ?_; rintro e w' ⟨rfl, rfl⟩)
  go_ret
  exact ⟨rfl, rfl⟩
set_option maxRecDepth 10000 in
theorem files_nil (w : World) : Calls Tryd.prog 23 #[.pointer none] w fun e w' => e = .returned (.slice none 0 0) ∧ w = w' := by
  go_enter Tryd.func23, Tryd.ntmps23
  go_wp2_with (go_at_call 28; refine (made_nil _).mono ?_; rintro e w' ⟨rfl, rfl⟩)
  go_ret
  exact ⟨rfl, rfl⟩
set_option maxRecDepth 10000 in
theorem slow_nil (v : Value) (w : World) : Calls Tryd.prog 24 #[.pointer none, v] w fun e w' => e = .returned (.tuple #[]) ∧ w = w' := by
  go_enter Tryd.func24, Tryd.ntmps24
  go_wp2_with (go_at_call 28; refine (made_nil _).mono ?_; rintro e w' ⟨rfl, rfl⟩)
  refine bodyPost_end (results_none rfl _ _ _) rfl ?_
  exact ⟨rfl, rfl⟩
set_option maxRecDepth 10000 in
theorem forget_nil (w : World) : Calls Tryd.prog 25 #[.pointer none] w fun e w' => e = .returned (.tuple #[]) ∧ w = w' := by
  go_enter Tryd.func25, Tryd.ntmps25
  go_wp2_with (go_at_call 28; refine (made_nil _).mono ?_; rintro e w' ⟨rfl, rfl⟩)
  refine bodyPost_end (results_none rfl _ _ _) rfl ?_
  exact ⟨rfl, rfl⟩
end Go.Proofs.YtfkdoinlbdcaaaaDoor

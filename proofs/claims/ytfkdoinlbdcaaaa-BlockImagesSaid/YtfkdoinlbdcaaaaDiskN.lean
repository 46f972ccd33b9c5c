/- A nil disk. -/
import Derived.Test.YtfkdoinlbdcaaaaDiskG
namespace Go.Proofs.Ytfkdoinlbdcaaaa
open Go.RowKit

set_option maxRecDepth 10000 in
theorem read_nil (i : Int) (w : World) : Calls Try.prog 13 #[.pointer none, .int .i64 i] w fun e w' => e = .returned (.tuple #[.slice none 0 0, .int .i64 6]) ∧ w = w' := by
  have hm := Lib.hid (may_nil i w)
  go_enter Try.func13, Try.ntmps13
  go_wp2_with (go_at_call 31; refine hm.out.mono ?_; rintro e w' ⟨rfl, rfl⟩)
  go_ret2
  exact ⟨rfl, rfl⟩
set_option maxRecDepth 10000 in
theorem write_nil (i : Int) (v : Value) (w : World) : Calls Try.prog 11 #[.pointer none, .int .i64 i, v] w fun e w' => e = .returned (.int .i64 6) ∧ w = w' := by
  have hm := Lib.hid (may_nil i w)
  go_enter Try.func11, Try.ntmps11
  go_wp2_with (go_at_call 31; refine hm.out.mono ?_; rintro e w' ⟨rfl, rfl⟩)
  go_ret
  exact ⟨rfl, rfl⟩
set_option maxRecDepth 10000 in
theorem sync_nil (w : World) : Calls Try.prog 12 #[.pointer none] w fun e w' => e = .returned (.int .i64 6) ∧ w = w' := by
  have hm := Lib.hid (may_nil 0 w)
  go_enter Try.func12, Try.ntmps12
  go_wp2_with (go_at_call 31; refine hm.out.mono ?_; rintro e w' ⟨rfl, rfl⟩)
  go_ret
  exact ⟨rfl, rfl⟩
set_option maxRecDepth 10000 in
theorem stop_nil (n k : Int) (w : World) : Calls Try.prog 23 #[.pointer none, .int .i64 n, .int .i64 k] w fun e w' => e = .returned (.int .i64 6) ∧ w = w' := by
  have hm := Lib.hid (may_nil 0 w)
  go_enter Try.func23, Try.ntmps23
  go_wp2_with (go_at_call 31; refine hm.out.mono ?_; rintro e w' ⟨rfl, rfl⟩)
  go_ret
  exact ⟨rfl, rfl⟩
set_option maxRecDepth 10000 in
theorem crash_nil (v : Value) (w : World) : Calls Try.prog 14 #[.pointer none, v] w fun e w' => e = .returned (.int .i64 6) ∧ w = w' := by
  go_enter Try.func14, Try.ntmps14
  go_wp2
  go_ret
  exact ⟨rfl, rfl⟩
set_option maxRecDepth 10000 in
theorem loose_nil (w : World) : Calls Try.prog 15 #[.pointer none] w fun e w' => e = .returned (.slice none 0 0) ∧ w = w' := by
  go_enter Try.func15, Try.ntmps15
  go_wp2
  go_ret
  exact ⟨rfl, rfl⟩
set_option maxRecDepth 10000 in
theorem fork_nil (w : World) : Calls Try.prog 24 #[.pointer none] w fun e w' => e = .returned (.pointer none) ∧ w = w' := by
  go_enter Try.func24, Try.ntmps24
  go_wp2
  go_ret
  exact ⟨rfl, rfl⟩
end Go.Proofs.Ytfkdoinlbdcaaaa

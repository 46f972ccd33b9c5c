/- For every call whatever, a nil mirror answers ErrClosed, and lives() is true. No condition. -/
import Derived.Test.YtfkdoinlbdcaaaaDoorMirF
namespace Go.Proofs.YtfkdoinlbdcaaaaDoor
open Go.RowKit

set_option maxRecDepth 10000 in
set_option maxHeartbeats 4000000 in
theorem nobody_any (kind n : Int) (s s2 : ByteArray) (vb : Value) (w : World) : Calls Tryd.prog 6 #[.agg #[.int .i64 kind, .string s, .string s2, .int .i64 n, vb]] w fun e w' => e = .returned (.bool true) ∧ Kept [] w w' := by
  go_enter Tryd.func6, Tryd.ntmps6
  go_wp2_with (first
    | (go_at_call 11; refine (fetch_nil _ _ _).mono ?_; rintro e w' ⟨rfl, rfl⟩)
    | (go_at_call 24; refine (slow_nil _ _).mono ?_; rintro e w' ⟨rfl, rfl⟩)
    | (go_at_call 25; refine (forget_nil _).mono ?_; rintro e w' ⟨rfl, rfl⟩)
    | (go_at_call 7; refine (lives_any _).mono ?_; rintro e wl ⟨rfl, hk⟩; have hb := hk.heap (heap_alloc_new w _) (by simp); have c1 := cell_head hb (o := 1) rfl; have c3 := cell_head hb (o := 3) rfl; have c4 := cell_head hb (o := 4) rfl; have HK := Lib.hid (((Kept.refl [] w).alloc _).then hk); clear hb hk)
    | (go_at_call 9; refine (put_nil _ _ _).mono ?_; rintro e w' ⟨rfl, rfl⟩)
    | (go_at_call 26; refine (drop_nil _ _).mono ?_; rintro e w' ⟨rfl, rfl⟩)
    | (go_at_call 27; refine (load_nil _ _).mono ?_; rintro e w' ⟨rfl, rfl⟩)
    | (go_at_call 12; refine (asked_nil _).mono ?_; rintro e w' ⟨rfl, rfl⟩)
    | (go_at_call 23; refine (files_nil _).mono ?_; rintro e w' ⟨rfl, rfl⟩))
  go_ret
  exact ⟨rfl, HK.out.alloc _⟩
end Go.Proofs.YtfkdoinlbdcaaaaDoor

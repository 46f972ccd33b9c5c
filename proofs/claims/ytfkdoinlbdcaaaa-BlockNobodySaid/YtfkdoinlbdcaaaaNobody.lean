/- For every call whatever, a nil disk answers ErrClosed, and lives() is true. No condition. -/
import Derived.Test.YtfkdoinlbdcaaaaArgs
import Derived.Test.YtfkdoinlbdcaaaaDiskN
import Derived.Test.YtfkdoinlbdcaaaaLives
namespace Go.Proofs.Ytfkdoinlbdcaaaa
open Go.RowKit

set_option maxRecDepth 10000 in
set_option maxHeartbeats 4000000 in
theorem nobody_any (o : OpV) (w : World) : Calls Try.prog 6 #[.agg #[.int .i64 o.kind, .int .i64 o.n, .int .i64 o.k, o.vb, o.vl]] w fun e w' => e = .returned (.bool true) ∧ Kept [] w w' := by
  obtain ⟨x0, x1, x2, vb, vl⟩ := o
  go_enter Try.func6, Try.ntmps6
  go_wp2_with (first
    | (go_at_call 13; refine (read_nil _ _).mono ?_; rintro e w' ⟨rfl, rfl⟩)
    | (go_at_call 10; refine (lives_any _).mono ?_; rintro e wl ⟨rfl, hk⟩; have hb := hk.heap (heap_alloc_new w _) (by simp); have c1 := cell_head hb (o := 1) rfl; have c2 := cell_head hb (o := 2) rfl; have c3 := cell_head hb (o := 3) rfl; have c4 := cell_head hb (o := 4) rfl; have HK := Lib.hid (((Kept.refl [] w).alloc _).then hk); clear hb hk)
    | (go_at_call 11; refine (write_nil _ _ _).mono ?_; rintro e w' ⟨rfl, rfl⟩)
    | (go_at_call 12; refine (sync_nil _).mono ?_; rintro e w' ⟨rfl, rfl⟩)
    | (go_at_call 14; refine (crash_nil _ _).mono ?_; rintro e w' ⟨rfl, rfl⟩)
    | (go_at_call 23; refine (stop_nil _ _ _).mono ?_; rintro e w' ⟨rfl, rfl⟩)
    | (go_at_call 18; refine (off_nil _).mono ?_; rintro e w' ⟨rfl, rfl⟩)
    | (go_at_call 19; refine (len_nil _).mono ?_; rintro e w' ⟨rfl, rfl⟩)
    | (go_at_call 15; refine (loose_nil _).mono ?_; rintro e w' ⟨rfl, rfl⟩)
    | (go_at_call 24; refine (fork_nil _).mono ?_; rintro e w' ⟨rfl, rfl⟩))
  go_ret
  exact ⟨rfl, HK.out⟩
end Go.Proofs.Ytfkdoinlbdcaaaa

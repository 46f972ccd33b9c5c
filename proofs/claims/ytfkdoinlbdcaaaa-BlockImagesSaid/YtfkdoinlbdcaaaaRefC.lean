/- The document's disk: Stop, join. -/
import Derived.Test.YtfkdoinlbdcaaaaRefB
namespace Go.Proofs.Ytfkdoinlbdcaaaa
open Go.RowKit
set_option maxRecDepth 10000 in
theorem refStop_any {w : World} {b : Nat} {F : List Nat} {d : PDisk} (h : RefRep w b F d) (n bytes : Int) (hn : n ≤ 9223372036854775807) :
    Calls Try.prog 42 #[.pointer (some ⟨b, 0, none⟩), .int .i64 n, .int .i64 bytes] w fun e w' => e = .returned (.int .i64 (d.stop n bytes).1) ∧ RefRep w' b F (d.stop n bytes).2 ∧ Kept F w w' := by
  have H := Lib.hid h
  obtain ⟨sb, nb, lb, scap, ncap, lcap, svals, nvals, lvals, rfl, h⟩ := h
  have c3 := h.c3
  have c4 := h.c4
  have c5 := h.c5
  have f3 := h.free 3
  have f4 := h.free 4
  unfold PDisk.stop
  have h' := Lib.hid h
  clear h
  cases ho : d.off
  · rw [ho] at c5
    rw [if_neg (by simp)]
    by_cases hb : n < -1 ∨ bytes < 0 ∨ 64 < bytes
    · rw [if_pos hb]
      by_cases h1 : n < -1
      · clear hb ho
        go_enter Try.func42, Try.ntmps42
        go_wp2_with fail
        go_ret
        exact ⟨rfl, H.out, Kept.refl _ _⟩
      · by_cases h2 : bytes < 0
        · clear hb ho
          go_enter Try.func42, Try.ntmps42
          go_wp2_with fail
          go_ret
          exact ⟨rfl, H.out, Kept.refl _ _⟩
        · have h3 : 64 < bytes := by omega
          clear hb ho
          go_enter Try.func42, Try.ntmps42
          go_wp2_with fail
          go_ret
          exact ⟨rfl, H.out, Kept.refl _ _⟩
    · rw [if_neg hb]
      have h1 : ¬ n < -1 := by omega
      have h2 : ¬ bytes < 0 := by omega
      have h3 : ¬ 64 < bytes := by omega
      have Ho := Lib.hid ho
      clear hb ho
      go_enter Try.func42, Try.ntmps42
      go_wp2_with fail
      go_ret
      have h := h'.out
      have k : Kept [b] w ((w.setCell ⟨b, 3, none⟩ (.int .i64 n)).setCell ⟨b, 4, none⟩ (.int .i64 bytes)) := ((Kept.refl [b] w).setCell (by simp) _).setCell (by simp) _
      refine ⟨rfl, ⟨sb, nb, lb, scap, ncap, lcap, svals, nvals, lvals, rfl, h.setLeft k ?_ (by omega) (by omega) (by omega) (by omega)⟩, k.mono (by simp)⟩
      rw [setCell_heap (setCell_heap h.head _)]
      simp [Ho.out]
  · rw [ho] at c5
    clear ho
    rw [if_pos rfl]
    go_enter Try.func42, Try.ntmps42
    go_wp2_with fail
    go_ret
    exact ⟨rfl, H.out, Kept.refl _ _⟩
end Go.Proofs.Ytfkdoinlbdcaaaa

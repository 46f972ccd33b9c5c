/- Crash, with its look at what may be kept. -/
import Derived.Test.YtfkdoinlbdcaaaaDiskD
namespace Go.Proofs.Ytfkdoinlbdcaaaa
open Go.RowKit
open Go.Maps (Keyed)

namespace PDisk
def keepsGo (d : PDisk) : List Int → List (Int × Int) → Bool
  | _, [] => true
  | seen, k :: r => if d.loose k.1 = none ∨ k.1 ∈ seen ∨ k.2 < 0 ∨ 64 < k.2 then false else keepsGo d (k.1 :: seen) r
def keeps (d : PDisk) (l : List (Int × Int)) : Bool := d.keepsGo [] l
end PDisk

/-- What is kept, as cells. -/
def keptCells (l : List (Int × Int)) : List Value := l.flatMap (fun k => [.int .i64 k.1, .int .i64 k.2])
theorem keptCells_len (l : List (Int × Int)) : (keptCells l).length = l.length * 2 := by
  induction l with
  | nil => rfl
  | cons k r ih =>
    have : keptCells (k :: r) = [.int .i64 k.1, .int .i64 k.2] ++ keptCells r := rfl
    rw [this, List.length_append, ih]
    simp
    omega
theorem keptCells_get (l : List (Int × Int)) (j : Nat) (h : j < l.length) : (keptCells l)[2 * j]? = some (.int .i64 l[j].1) ∧ (keptCells l)[2 * j + 1]? = some (.int .i64 l[j].2) := by
  induction l generalizing j with
  | nil => simp at h
  | cons k r ih =>
    have e : keptCells (k :: r) = .int .i64 k.1 :: .int .i64 k.2 :: keptCells r := rfl
    rw [e]
    cases j with
    | zero => exact ⟨rfl, rfl⟩
    | succ j =>
      have := ih j (by simpa using h)
      rw [show 2 * (j + 1) = 2 * j + 1 + 1 by omega]
      simpa using this
theorem zeroBool (w : World) : (zeroValue 4).run Try.prog w = .ok (.bool false) w := by kernel_rfl

set_option maxRecDepth 10000 in
set_option maxHeartbeats 1600000 in
theorem keeps_any {w : World} {b : Nat} {F : List Nat} {d : PDisk} (h : DiskRep w b F d) (l : List (Int × Int)) {v : Value} (hv : Slc w 2 v l.length (keptCells l)) (hw : ∀ k, k ∈ l → (Lit.int .i64 k.1).wf = true) (hl : l.length ≤ lim) :
    Calls Try.prog 36 #[.pointer (some ⟨b, 0, none⟩), v] w fun e w' => e = .returned (.bool (d.keeps l)) ∧ Kept [] w w' := by
  obtain ⟨sb, scap, mb, cnt, svals, M, rfl, h⟩ := h
  obtain ⟨va, vc, rfl, hvc, hvm⟩ := hv.form
  have hmm := @run_makeMap Try.prog
  have hl2 : (l.length : Int) ≤ 140737488351232 := by simp only [lim] at hl; omega
  have H := Lib.hid h
  have Hv := Lib.hid hv
  have Hw := Lib.hid hw
  clear h hv hl hw hvc hvm
  go_enter Try.func36, Try.ntmps36
  go_wp2
  have hm0 := mapAt_made Try.prog w 3
  go_loopw [13] (fun i wr => ∃ (k : Nat) (S : Lit → Option Value), i = .int .i64 k ∧ k ≤ l.length ∧ MapAt Try.prog wr 3 w.heap.size k S ∧ (∀ x, S (.int .i64 x) = if x ∈ ((l.take k).map Prod.fst).reverse then some (.bool true) else none) ∧
      d.keepsGo ((l.take k).map Prod.fst).reverse (l.drop k) = d.keeps l ∧ Kept [] w wr) (fun i _ => l.length - (intOf i).toNat)
  case atStart => exact ⟨0, _, rfl, Nat.zero_le _, hm0, by simp, rfl, (Kept.refl _ w).alloc _⟩
  case round =>
    obtain ⟨k, S, rfl, hk, hmap, hS, hgo, hkr⟩ := hrel
    by_cases hlt : k < l.length
    · have hvv := Hv.out.kept0 hkr
      rcases hvv.2 with ⟨_, h0⟩ | ⟨h0, _⟩ | ⟨g, o, cap, hsv, _, _, hrow⟩
      · omega
      · omega
      simp only [Value.slice.injEq] at hsv
      obtain ⟨rfl, _, rfl⟩ := hsv
      obtain ⟨g1, g2⟩ := keptCells_get l k hlt
      have q1 := hrow.cells _ _ g1
      have q2 := hrow.cells _ _ g2
      have hd := H.out.kept hkr (by simp) (by simp) (by simp) (by simp)
      have hkw := Hw.out l[k] (List.getElem_mem _)
      have Hd := Lib.hid hd
      have HS := Lib.hid hS
      have Hgo := Lib.hid hgo
      clear hd hS hgo hvv
      have e2 : o + k * 2 = o + 2 * k := by omega
      have q1' : wr.cell? ⟨g, o + k * 2, none⟩ = some (.int .i64 l[k].1) := by rw [e2]; exact q1
      have q2' : wr.cell? ⟨g, o + k * 2 + 1, none⟩ = some (.int .i64 l[k].2) := by rw [e2]; exact q2
      clear q1 q2 e2 g1 g2
      revert q1' q2' hkw
      generalize hkk : l[k] = kk
      obtain ⟨x, y⟩ := kk
      intro hkw q1' q2'
      have Hkk := Lib.hid hkk
      clear hkk
      simp only at hkw q1' q2'
      go_wp2
      have hdrop : l.drop k = (x, y) :: l.drop (k + 1) := by rw [List.drop_eq_getElem_cons hlt, Hkk.out]
      have htake : ((l.take (k + 1)).map Prod.fst).reverse = x :: ((l.take k).map Prod.fst).reverse := by
        rw [List.take_succ_eq_append_getElem hlt, Hkk.out, List.map_append, List.reverse_append]; rfl
      have hgo2 := Hgo.out
      rw [hdrop] at hgo2
      simp only [PDisk.keepsGo] at hgo2
      have hSx := HS.out x
      have hka := (Kept.refl [] wr).alloc (.cells #[.int .i64 x, .int .i64 y] 39)
      have a0 : (wr.alloc (.cells #[.int .i64 x, .int .i64 y] 39)).cell? ⟨wr.heap.size, 0, none⟩ = some (.int .i64 x) := by simp
      have a1 : (wr.alloc (.cells #[.int .i64 x, .int .i64 y] 39)).cell? ⟨wr.heap.size, 1, none⟩ = some (.int .i64 y) := by simp
      revert hka a0 a1
      generalize (wr.alloc (.cells #[.int .i64 x, .int .i64 y] 39)) = W1
      intro hka a0 a1
      have hd1 := Hd.out.kept hka (by simp) (by simp) (by simp) (by simp)
      have c1 := hd1.c1
      have hlk := fun nq => ((hd1.map.kept0 ((Kept.refl _ W1).drewN nq)).lookup keyInt Try.underlying64 (zeroBytes _) (Maps.keyOf_int_mk Try.underlying3 hkw)).1
      have hsk := fun nq => ((hmap.kept0 (hka.drewN nq)).lookup keyInt Try.underlying92 (zeroBool _) (Maps.keyOf_int_mk Try.underlying3 hkw)).2
      have Hgo2 := Lib.hid hgo2
      have Hdrop := Lib.hid hdrop
      have Htake := Lib.hid htake
      have Hd1 := Lib.hid hd1
      have HSx := Lib.hid hSx
      clear hgo2 hdrop htake hd1 hSx q1' q2'
      cases hM : M (.int .i64 x) with
      | none =>
        rw [hM] at hlk
        have hno := Hd.out.gone x hM
        have Hno := Lib.hid hno
        clear hM hno hsk
        go_quiet (fail)
        go_wp2
        go_ret
        have : d.keeps l = false := by rw [← Hgo2.out, if_pos (.inl Hno.out)]
        exact ⟨by rw [this]; rfl, (hkr.then hka).drewN _⟩
      | some v =>
        rw [hM] at hlk
        obtain ⟨bl, hbl, -⟩ := Hd.out.loose x v hM
        have Hbl := Lib.hid hbl
        clear hM hbl
        go_quiet (fail)
        rename_i nq
        have hsk := hsk nq
        have hkD : Kept [] w (W1.drewN nq) := (hkr.then hka).drewN nq
        have hmD := hmap.kept0 (hka.drewN nq)
        have a0 : (W1.drewN nq).cell? ⟨wr.heap.size, 0, none⟩ = some (.int .i64 x) := a0
        have a1 : (W1.drewN nq).cell? ⟨wr.heap.size, 1, none⟩ = some (.int .i64 y) := a1
        revert hsk hkD hmD a0 a1
        clear hlk hka c1 hmap hkr
        generalize W1.drewN nq = W2
        intro hsk hkD hmD a0 a1
        by_cases hin : x ∈ ((l.take k).map Prod.fst).reverse
        · rw [HSx.out, if_pos hin] at hsk
          have Hin := Lib.hid hin
          clear hin
          go_wp2
          go_ret
          have : d.keeps l = false := by rw [← Hgo2.out, if_pos (.inr (.inl Hin.out))]
          exact ⟨by rw [this]; rfl, hkD⟩
        · rw [HSx.out, if_neg hin] at hsk
          have Hin := Lib.hid hin
          clear hin
          by_cases hy0 : y < 0
          · go_wp2
            go_ret
            have : d.keeps l = false := by rw [← Hgo2.out, if_pos (.inr (.inr (.inl hy0)))]
            exact ⟨by rw [this]; rfl, hkD⟩
          · by_cases hy1 : 64 < y
            · go_wp2
              go_ret
              have : d.keeps l = false := by rw [← Hgo2.out, if_pos (.inr (.inr (.inr hy1)))]
              exact ⟨by rw [this]; rfl, hkD⟩
            · obtain ⟨W3, hup, hmU, hkU, -⟩ := hmD.update keyInt Try.underlying92 (by simp only [maxLen]; omega) (Maps.keyOf_int_mk Try.underlying3 hkw) (.bool true)
              go_wp2
              go_roundw
              case rel =>
                refine ⟨k + 1, _, by go_num, by omega, hmU, ?_, ?_, hkD.trans hkU (by simp)⟩
                · intro z
                  rw [Htake.out, sameInt, HS.out z]
                  by_cases hz : z = x
                  · subst hz; simp
                  · simp [hz]
                · rw [Htake.out, ← Hgo2.out, if_neg]
                  rintro (h1 | h1 | h1 | h1)
                  · rw [Hbl.out] at h1; cases h1
                  · exact Hin.out h1
                  · omega
                  · omega
              case measure => simp [intOf]; omega
    · obtain rfl : k = l.length := by omega
      have : d.keeps l = true := by
        rw [← hgo, List.drop_length]
        rfl
      have Hk := Lib.hid this
      clear this hgo hS
      go_wp2
      go_ret
      exact ⟨by rw [Hk.out]; rfl, hkr⟩
end Go.Proofs.Ytfkdoinlbdcaaaa

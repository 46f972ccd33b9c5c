/- A disk that was never told to stop, plainly; rows of calls; arrays of strings. -/
import Derived.Test.YtfkdoinlbdcaaaaArgs
import Derived.Test.YtfkdoinlbdcaaaaLoose
import Derived.Laws.Tables
namespace Go.Proofs.Ytfkdoinlbdcaaaa
open Go.RowKit

namespace PDisk
/-- n blocks; it stops at no write. -/
def Calm (n : Nat) (d : PDisk) : Prop := d.off = false ∧ d.left = -1 ∧ d.sure.length = n
theorem Calm.goes {n : Nat} {d : PDisk} (h : d.Calm n) : d.goes = d := by
  unfold PDisk.goes
  rw [h.2.1]
  rfl
theorem Calm.new (n : Nat) : (PDisk.new n).Calm n := ⟨rfl, rfl, by simp [PDisk.new]⟩
theorem Calm.may {n : Nat} {d : PDisk} (h : d.Calm n) (i : Int) : d.may i = if i < 0 ∨ (n : Int) ≤ i then 4 else 0 := by
  unfold PDisk.may
  rw [h.1, h.2.2]
  simp
theorem Calm.read {n : Nat} {d : PDisk} (h : d.Calm n) {i : Nat} (hi : i < n) : d.read i = (d.now i, 0) := by
  unfold PDisk.read
  rw [h.may i, if_neg (show ¬((i : Int) < 0 ∨ (n : Int) ≤ (i : Int)) by omega), if_neg (fun h : (0 : Int) ≠ 0 => h rfl)]
theorem Calm.write {n : Nat} {d : PDisk} (h : d.Calm n) (i : Int) (l : List UInt8) : (d.write i l).2.Calm n := by
  unfold PDisk.write
  rw [h.goes]
  split
  · exact h
  · split
    · exact h
    · rw [h.1]
      exact h
theorem Calm.sync {n : Nat} {d : PDisk} (h : d.Calm n) : d.sync = (0, d.synced) := by
  unfold PDisk.sync
  rw [h.goes, h.1]
  rfl
theorem Calm.synced {n : Nat} {d : PDisk} (h : d.Calm n) : d.synced.Calm n := ⟨h.1, h.2.1, by simp [PDisk.synced, h.2.2]⟩
theorem synced_now {d : PDisk} {i : Nat} (hi : i < d.sure.length) : d.synced.now i = d.now i := by
  simp [PDisk.now, PDisk.synced, List.getD_eq_getElem?_getD, hi]
theorem synced_loose (d : PDisk) : d.synced.looseKeys = [] := by
  unfold PDisk.looseKeys
  simp [PDisk.synced]
theorem synced_keeps (d : PDisk) (k : Int) : d.synced.keeps [(k, 0)] = false := by
  simp [PDisk.keeps, PDisk.keepsGo, PDisk.synced]
theorem keeps_nil (d : PDisk) : d.keeps [] = true := rfl
theorem crash_calm {n : Nat} {d : PDisk} (h : d.sure.length = n) {l : List (Int × Int)} (hk : d.keeps l = true) : (d.crash l).2.Calm n ∧ (d.crash l).1 = 0 ∧ (∀ i : Nat, (d.crash l).2.now i = (d.crashSure l).getD i []) := by
  unfold PDisk.crash
  rw [if_neg (by rw [hk]; simp)]
  refine ⟨⟨rfl, rfl, ?_⟩, rfl, fun i => ?_⟩
  · show (d.crashSure l).length = n
    rw [PDisk.crashSure_len, h]
  · simp [PDisk.now]
theorem synced_sure {d : PDisk} {i : Nat} (hi : i < d.sure.length) : d.synced.sure.getD i [] = d.now i := by
  simp [PDisk.synced, List.getD_eq_getElem?_getD, hi]
end PDisk

theorem ops_get (os : List OpV) (k : Nat) (h : k < os.length) (j : Nat) (hj : j < 5) : (os.flatMap opCells)[k * 5 + j]? = (opCells os[k])[j]? := by
  induction os generalizing k with
  | nil => simp at h
  | cons o os ih =>
    rw [List.flatMap_cons]
    cases k with
    | zero =>
      rw [Nat.zero_mul, Nat.zero_add, List.getElem?_append_left (by simpa [opCells] using hj)]
      rfl
    | succ k =>
      have e : (k + 1) * 5 + j = 5 + (k * 5 + j) := by omega
      rw [e, List.getElem?_append_right (by simp [opCells])]
      have e2 : 5 + (k * 5 + j) - (opCells o).length = k * 5 + j := by simp [opCells]
      rw [e2]
      simpa using ih k (by simpa using h)

theorem Ops.form {w : World} {v : Value} {os : List OpV} (h : Ops w v os) : ∃ a c, v = .slice a os.length c := by
  obtain ⟨a, c, e, _⟩ := h.1.form
  exact ⟨a, c, e⟩

/-- One call of a row of calls, in a later world. -/
theorem Ops.at {w w' : World} {a : Option Addr} {c n : Nat} {os : List OpV} (h : Ops w (.slice a n c) os) (hk : Kept [] w w') (k : Nat) (hlt : k < os.length) :
    ∃ g o, a = some ⟨g, o, none⟩ ∧ w'.cell? ⟨g, o + k * 5, none⟩ = some (.int .i64 os[k].kind) ∧ w'.cell? ⟨g, o + k * 5 + 1, none⟩ = some (.int .i64 os[k].n) ∧ w'.cell? ⟨g, o + k * 5 + 2, none⟩ = some (.int .i64 os[k].k) ∧
      w'.cell? ⟨g, o + k * 5 + 3, none⟩ = some os[k].vb ∧ w'.cell? ⟨g, o + k * 5 + 4, none⟩ = some os[k].vl ∧ g < w.heap.size ∧ OpAt w os[k] ∧ OpAt w' os[k] := by
  have hlt0 := fun g (hg : vblk (.slice a n c) = some g) => h.1.lt hg
  have h1 := h.1.kept0 hk
  rcases h1.2 with ⟨_, h0⟩ | ⟨h0, _⟩ | ⟨g, o, cap, hsv, _, _, hrow⟩
  · omega
  · omega
  simp only [Value.slice.injEq] at hsv
  obtain ⟨rfl, rfl, rfl⟩ := hsv
  have hat := h.2.2 _ (List.getElem_mem hlt)
  have hat' : OpAt w' os[k] := by
    obtain ⟨w1, w2, w3, ⟨l, hl, hll⟩, ks, hks, hp⟩ := hat
    exact ⟨w1, w2, w3, ⟨l, hl.kept0 hk, hll⟩, ks, hks.kept0 hk, hp⟩
  refine ⟨g, o, rfl, ?_, ?_, ?_, ?_, ?_, hlt0 g (vblk_mk (by omega)), hat, hat'⟩
  · have := hrow.cells (k * 5 + 0) (.int .i64 os[k].kind) (by rw [ops_get os k hlt 0 (by decide)]; rfl)
    simpa using this
  all_goals rw [Nat.add_assoc]
  · exact hrow.cells (k * 5 + 1) _ (by rw [ops_get os k hlt 1 (by decide)]; rfl)
  · exact hrow.cells (k * 5 + 2) _ (by rw [ops_get os k hlt 2 (by decide)]; rfl)
  · exact hrow.cells (k * 5 + 3) _ (by rw [ops_get os k hlt 3 (by decide)]; rfl)
  · exact hrow.cells (k * 5 + 4) _ (by rw [ops_get os k hlt 4 (by decide)]; rfl)

/-- An array whose first k places are written. -/
def filled (n k : Nat) (f : Nat → Value) (z : Value) : Array Value := ((List.range n).map fun j => if j < k then f j else z).toArray
theorem filled_set (n k : Nat) (f : Nat → Value) (z : Value) : (filled n k f z).setIfInBounds k (f k) = filled n (k + 1) f z := by
  unfold filled
  rw [List.setIfInBounds_toArray]
  congr 1
  apply List.ext_getElem?
  intro j
  rw [List.getElem?_set]
  by_cases hj : j < n
  · by_cases hjk : k = j
    · subst hjk; simp [hj]
    · have : j < k ↔ j < k + 1 := by omega
      simp [hj, hjk, this]
  · by_cases hjk : k = j
    · subst hjk; simp [hj]
    · simp [hj, hjk]
/-- One place more is written. -/
theorem filled_store {w : World} {g n k : Nat} {f : Nat → Value} {z : Value} {t : TypeId} (h : w.heap[g]? = some (.cells (filled n k f z) t (0, 0))) : (w.setCell ⟨g, k, none⟩ (f k)).heap[g]? = some (.cells (filled n (k + 1) f z) t (0, 0)) := by
  rw [setCell_eq_setRow w g k _ t _ _ h, ← filled_set]
  exact setRow_heap w g _ _ t _ h
theorem filled_kept {w : World} {g : Nat} (v : Value) (o : Nat) {w0 : World} (h0 : w0.heap.size ≤ g) (hk : Kept [] w0 w) : Kept [] w0 (w.setCell ⟨g, o, none⟩ v) :=
  hk.setCell (.inr h0) v
theorem filled_disk {w : World} {b g : Nat} {F : List Nat} {d : PDisk} {C : Array Value} {t : TypeId} (hd : DiskRep w b F d) (h : w.heap[g]? = some (.cells C t (0, 0))) (ht : t ≠ 5) (hg : g ∉ F) (v : Value) (o : Nat) : DiskRep (w.setCell ⟨g, o, none⟩ v) b F d :=
  hd.kept ((Kept.refl [g] w).setCell (.inl (by simp)) v) (fun k hk => by
    simp at hk
    subst hk
    exact ⟨hg, by rw [kind_cells h]; exact fun e => ht (Nat.add_right_cancel e)⟩)
theorem filled_at (n k : Nat) (f : Nat → Value) (z : Value) (j : Nat) (hj : j < n) : (filled n k f z)[j]? = some (if j < k then f j else z) := by
  unfold filled
  simp [hj]
end Go.Proofs.Ytfkdoinlbdcaaaa

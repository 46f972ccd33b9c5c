/- What comes in, opened: slices of whatever, bytes, pairs of numbers, calls of a disk. -/
import Derived.Test.YtfkdoinlbdcaaaaDiskE
import Derived.Deep.Slices
import Derived.OpenShut
namespace Go.Proofs.Ytfkdoinlbdcaaaa
open Go.RowKit

theorem cellsInt : Try.prog.cellsOf 3 = 1 := by kernel_rfl
theorem cellsByte : Try.prog.cellsOf 5 = 1 := by kernel_rfl
theorem cellsKept : Try.prog.cellsOf 39 = 2 := by kernel_rfl
theorem cellsBytes : Try.prog.cellsOf 30 = 1 := by kernel_rfl
theorem cellsKepts : Try.prog.cellsOf 23 = 1 := by kernel_rfl

section
variable {H : Type} {enc : TypeId × Value → H} {w : World} {held : Bool}

/-- A slice that came in: its cells, and each element's own reading. -/
theorem trod_slc {P : Program} {t e size : Nat} (ht : P.underlying t = some (.slice e)) (hc : P.cellsOf e = size) (hpos : 0 < size) {fuel : Nat} {v : Value} {x : DataW H × List MemPlace}
    (h : DataW.trod enc P w 0 (fun _ => true) held fuel t [v] = some x) :
    ∃ n xs, Slc w size v n xs ∧ n ≤ maxLen ∧ ∀ i, i < n → ∃ m y, DataW.trod enc P w 0 (fun _ => true) held m e ((xs.drop (i * size)).take size) = some y := by
  rcases Deep.open_slice ht h with ⟨hcs, _⟩ | ⟨a, len, cap, m, k, D, Pl, hcs, _, hl, hm, hmm, _, hx⟩
  · obtain rfl : v = .slice none 0 0 := by simpa using hcs
    exact ⟨0, [], slc_nil _ _, Nat.zero_le _, fun i hi => by omega⟩
  · obtain rfl : v = .slice (some a) len cap := by simpa using hcs
    simp only [if_true] at hmm
    subst hmm
    rw [hc] at hx
    by_cases h0 : len = 0
    · subst h0
      exact ⟨0, [], ⟨by simp, .inr (.inl ⟨rfl, a, m, rfl, hm⟩)⟩, Nat.zero_le _, fun i hi => by omega⟩
    · have hcell : ∀ j, j < len * size → ∃ u, w.cell? (a.add j) = some u := by
        intro j hj
        have hi : j / size < m := by
          have : j / size < len := Nat.div_lt_of_lt_mul (by rw [Nat.mul_comm]; exact hj)
          omega
        obtain ⟨cs', h1, _⟩ := hx _ hi
        obtain ⟨_, h2, h3⟩ := World.cells?_some h1
        have hr := Nat.mod_lt j hpos
        have h4 := h3 _ hr
        rw [Deep.add_add, show j / size * size + j % size = j by rw [Nat.mul_comm]; exact Nat.div_add_mod j size] at h4
        rw [h4]
        exact ⟨cs'[j % size], by simp [h2, hr]⟩
      have hpos2 : 0 < len * size := Nat.mul_pos (by omega) hpos
      obtain ⟨u0, hu0⟩ := hcell 0 hpos2
      obtain ⟨g, o, spot⟩ := a
      have hspot : spot = none := by simpa [Addr.add] using World.cell?_spot hu0
      subst hspot
      have hlt : g < w.heap.size := by
        rcases Nat.lt_or_ge g w.heap.size with h | h
        · exact h
        · exfalso
          simp [World.cell?, Addr.add, Array.getElem?_eq_none h] at hu0
      refine ⟨len, (List.range (len * size)).map fun j => (w.cell? ⟨g, o + j, none⟩).getD (.bool false), ⟨by simp, .inr (.inr ⟨g, o, m, rfl, hl, hm, ⟨?_, hlt⟩⟩)⟩, by omega, ?_⟩
      · intro j u hu
        rw [List.getElem?_map] at hu
        by_cases hj : j < len * size
        · obtain ⟨u', hu'⟩ := hcell j hj
          rw [addr_add] at hu'
          simp [hj, hu'] at hu
          rw [hu', hu]
        · simp [hj] at hu
      · intro i hi
        obtain ⟨cs', h1, h2⟩ := hx i (by omega)
        obtain ⟨_, h3, h4⟩ := World.cells?_some h1
        have hle : i * size + size ≤ len * size := by
          have := Nat.mul_le_mul_right size (show i + 1 ≤ len by omega)
          rw [Nat.add_mul, Nat.one_mul] at this
          exact this
        have e1 : (((List.range (len * size)).map fun j => (w.cell? ⟨g, o + j, none⟩).getD (.bool false)).drop (i * size)).take size = cs' := by
          apply List.ext_getElem?
          intro r
          by_cases hr : r < size
          · have h5 := h4 r hr
            rw [Deep.add_add, addr_add] at h5
            rw [List.getElem?_take, if_pos hr, List.getElem?_drop, List.getElem?_map, List.getElem?_range (by omega)]
            simp only [Option.map_some]
            rw [h5]
            simp [h3, hr]
          · rw [List.getElem?_eq_none (by rw [List.length_take]; omega), List.getElem?_eq_none (by omega)]
        exact ⟨_, _, by rw [e1]; exact h2⟩

def byteOf : Value → UInt8
  | .int _ k => UInt8.ofNat k.toNat
  | _ => 0
theorem byteOf_wf {k : Int} (h : (Lit.int .u8 k).wf = true) : bv (byteOf (.int .u8 k)) = .int .u8 k := by
  have h1 := bounds_u8 h
  unfold bv byteOf
  congr 1
  simp only [UInt8.toNat_ofNat']
  omega

theorem one_cell {xs : List Value} {i : Nat} (hi : i < xs.length) : (xs.drop (i * 1)).take 1 = [xs[i]] := by
  rw [Nat.mul_one, List.drop_eq_getElem_cons hi]
  rfl

/-- Bytes that came in. -/
theorem trod_bytes {fuel : Nat} {v : Value} {x : DataW H × List MemPlace} (h : DataW.trod enc Try.prog w 0 (fun _ => true) held fuel 30 [v] = some x) : ∃ l : List UInt8, Bytes w v l ∧ l.length ≤ maxLen := by
  obtain ⟨n, xs, h1, h2, h3⟩ := trod_slc Try.underlying30 cellsByte (by decide) h
  have hlen : xs.length = n := by simpa using h1.1
  refine ⟨xs.map byteOf, ?_, by simpa [hlen] using h2⟩
  have e : (xs.map byteOf).map bv = xs := by
    apply List.ext_getElem (by simp)
    intro i hi hi'
    obtain ⟨m, y, hy⟩ := h3 i (by omega)
    rw [one_cell hi'] at hy
    obtain ⟨k, hk, _, hw⟩ := DataW.trod_int Try.underlying5 hy
    have hk' : xs[i] = .int .u8 k := by simpa using hk
    simp only [List.getElem_map]
    rw [hk']
    exact byteOf_wf hw
  unfold Bytes
  rw [e, List.length_map, hlen]
  exact h1

theorem list_two {α : Type} {l : List α} (h : l.length = 2) : ∃ a b, l = [a, b] := by
  match l, h with
  | [a, b], _ => exact ⟨a, b, rfl⟩
theorem list_five {α : Type} {l : List α} (h : l.length = 5) : ∃ a b c d e, l = [a, b, c, d, e] := by
  match l, h with
  | [a, b, c, d, e], _ => exact ⟨a, b, c, d, e, rfl⟩
theorem trod_two {fuel : Nat} {cs : List Value} {x : DataW H × List MemPlace} (h : DataW.trod enc Try.prog w 0 (fun _ => true) held fuel 39 cs = some x) :
    ∃ i k, cs = [.int .i64 i, .int .i64 k] ∧ (Lit.int .i64 i).wf = true ∧ (Lit.int .i64 k).wf = true := by
  obtain ⟨y0, y1, n, _, hl, h0, h1⟩ := ChangeShapes.trod_struct2 Try.underlying39 h
  rw [cellsKept] at hl
  obtain ⟨c0, c1, rfl⟩ := list_two hl
  rw [cellsInt] at h0 h1
  obtain ⟨i, e0, _, w0⟩ := DataW.trod_int Try.underlying3 h0
  obtain ⟨k, e1, _, w1⟩ := DataW.trod_int Try.underlying3 h1
  simp at e0 e1
  exact ⟨i, k, by rw [e0, e1], w0, w1⟩

/-- Numbers of 64 bits, and as many. -/
def Pairs (l : List (Int × Int)) : Prop := (∀ k, k ∈ l → (Lit.int .i64 k.1).wf = true ∧ (Lit.int .i64 k.2).wf = true) ∧ l.length ≤ maxLen

theorem cells_of {size : Nat} (hpos : 0 < size) {α : Type} (f : α → List Value) (hf : ∀ x, (f x).length = size) : ∀ (n : Nat) (xs : List Value), xs.length = n * size → (∀ i, i < n → ∃ y, (xs.drop (i * size)).take size = f y) →
    ∃ l : List α, l.length = n ∧ xs = l.flatMap f ∧ ∀ i (hi : i < l.length), (xs.drop (i * size)).take size = f l[i]
  | 0, xs, hl, _ => ⟨[], rfl, by simpa using hl, fun i hi => by simp at hi⟩
  | n + 1, xs, hl, h => by
    obtain ⟨y, hy⟩ := h 0 (by omega)
    rw [Nat.zero_mul, List.drop_zero] at hy
    have hl' : (xs.drop size).length = n * size := by rw [List.length_drop, hl, Nat.add_mul, Nat.one_mul]; omega
    obtain ⟨l, h1, h2, h3⟩ := cells_of hpos f hf n (xs.drop size) hl' (fun i hi => by
      obtain ⟨z, hz⟩ := h (i + 1) (by omega)
      rw [Nat.add_mul, Nat.one_mul, Nat.add_comm, ← List.drop_drop] at hz
      exact ⟨z, hz⟩)
    have e : xs = f y ++ l.flatMap f := by rw [← h2, ← hy]; exact (List.take_append_drop size xs).symm
    refine ⟨y :: l, by simp [h1], by rw [List.flatMap_cons]; exact e, fun i hi => ?_⟩
    cases i with
    | zero => rw [Nat.zero_mul, List.drop_zero]; exact hy
    | succ i =>
      have := h3 i (by simpa using hi)
      rw [List.drop_drop] at this
      rw [Nat.add_mul, Nat.one_mul, Nat.add_comm]
      exact this

/-- Pairs of numbers that came in. -/
theorem trod_kepts {fuel : Nat} {v : Value} {x : DataW H × List MemPlace} (h : DataW.trod enc Try.prog w 0 (fun _ => true) held fuel 23 [v] = some x) : ∃ l : List (Int × Int), Slc w 2 v l.length (keptCells l) ∧ Pairs l := by
  obtain ⟨n, xs, h1, h2, h3⟩ := trod_slc Try.underlying23 cellsKept (by decide) h
  obtain ⟨l, e1, e2, e3⟩ := cells_of (size := 2) (by decide) (fun k : Int × Int => [Value.int .i64 k.1, .int .i64 k.2]) (fun _ => rfl) n xs h1.1 (fun i hi => by
    obtain ⟨m, y, hy⟩ := h3 i hi
    obtain ⟨a, b, hab, _, _⟩ := trod_two hy
    exact ⟨(a, b), hab⟩)
  subst e1
  refine ⟨l, by rw [e2] at h1; exact h1, fun k hk => ?_, h2⟩
  obtain ⟨i, hi, rfl⟩ := List.getElem_of_mem hk
  obtain ⟨m, y, hy⟩ := h3 i hi
  rw [e3 i hi] at hy
  obtain ⟨a, b, hab, wa, wb⟩ := trod_two hy
  simp at hab
  obtain ⟨rfl, rfl⟩ := hab
  exact ⟨wa, wb⟩

/-- One call that came in: three numbers, and where its bytes and its pairs lie. -/
structure OpV where
  kind : Int
  n : Int
  k : Int
  vb : Value
  vl : Value
def opCells (o : OpV) : List Value := [.int .i64 o.kind, .int .i64 o.n, .int .i64 o.k, o.vb, o.vl]
def OpAt (w : World) (o : OpV) : Prop := (Lit.int .i64 o.kind).wf = true ∧ (Lit.int .i64 o.n).wf = true ∧ (Lit.int .i64 o.k).wf = true ∧ (∃ l : List UInt8, Bytes w o.vb l ∧ l.length ≤ maxLen) ∧ ∃ ks : List (Int × Int), Slc w 2 o.vl ks.length (keptCells ks) ∧ Pairs ks
def Ops (w : World) (v : Value) (os : List OpV) : Prop := Slc w 5 v os.length (os.flatMap opCells) ∧ os.length ≤ maxLen ∧ ∀ o, o ∈ os → OpAt w o

theorem trod_op {fuel : Nat} {cs : List Value} {x : DataW H × List MemPlace} (h : DataW.trod enc Try.prog w 0 (fun _ => true) held fuel 32 cs = some x) : ∃ o : OpV, cs = opCells o ∧ OpAt w o := by
  obtain ⟨xs, n, _, _, hl, hlen, hf⟩ := DataW.trod_struct Try.underlying32 h
  rw [show Try.prog.cellsOf 32 = 5 by kernel_rfl] at hl
  obtain ⟨c0, c1, c2, c3, c4, rfl⟩ := list_five hl
  obtain ⟨y0, y1, y2, y3, y4, rfl⟩ := list_five hlen
  have h0 : DataW.trod enc Try.prog w 0 (fun _ => true) held n 3 (([c0, c1, c2, c3, c4].drop 0).take (Try.prog.cellsOf 3)) = some y0 := hf 0 _ rfl
  have h1 : DataW.trod enc Try.prog w 0 (fun _ => true) held n 3 (([c0, c1, c2, c3, c4].drop 1).take (Try.prog.cellsOf 3)) = some y1 := hf 1 _ rfl
  have h2 : DataW.trod enc Try.prog w 0 (fun _ => true) held n 3 (([c0, c1, c2, c3, c4].drop 2).take (Try.prog.cellsOf 3)) = some y2 := hf 2 _ rfl
  have h3 : DataW.trod enc Try.prog w 0 (fun _ => true) held n 30 (([c0, c1, c2, c3, c4].drop 3).take (Try.prog.cellsOf 30)) = some y3 := hf 3 _ rfl
  have h4 : DataW.trod enc Try.prog w 0 (fun _ => true) held n 23 (([c0, c1, c2, c3, c4].drop 4).take (Try.prog.cellsOf 23)) = some y4 := hf 4 _ rfl
  rw [cellsInt] at h0 h1 h2
  rw [cellsBytes] at h3
  rw [cellsKepts] at h4
  obtain ⟨i, e0, _, w0⟩ := DataW.trod_int Try.underlying3 (x := y0) h0
  obtain ⟨j, e1, _, w1⟩ := DataW.trod_int Try.underlying3 (x := y1) h1
  obtain ⟨k, e2, _, w2⟩ := DataW.trod_int Try.underlying3 (x := y2) h2
  have hb := trod_bytes (v := c3) (x := y3) h3
  have hk := trod_kepts (v := c4) (x := y4) h4
  simp at e0 e1 e2
  exact ⟨⟨i, j, k, c3, c4⟩, by rw [e0, e1, e2]; rfl, w0, w1, w2, hb, hk⟩

/-- Calls that came in. -/
theorem trod_ops {fuel : Nat} {v : Value} {x : DataW H × List MemPlace} (h : DataW.trod enc Try.prog w 0 (fun _ => true) held fuel 22 [v] = some x) : ∃ os, Ops w v os := by
  obtain ⟨n, xs, h1, h2, h3⟩ := trod_slc (size := 5) Try.underlying22 (by kernel_rfl) (by decide) h
  obtain ⟨l, e1, e2, e3⟩ := cells_of (size := 5) (by decide) opCells (fun _ => rfl) n xs h1.1 (fun i hi => by
    obtain ⟨m, y, hy⟩ := h3 i hi
    obtain ⟨o, ho, _⟩ := trod_op hy
    exact ⟨o, ho⟩)
  subst e1
  refine ⟨l, by rw [e2] at h1; exact h1, h2, fun o ho => ?_⟩
  obtain ⟨i, hi, rfl⟩ := List.getElem_of_mem ho
  obtain ⟨m, y, hy⟩ := h3 i hi
  rw [e3 i hi] at hy
  obtain ⟨o', ho', hat⟩ := trod_op hy
  have : l[i] = o' := by
    cases hli : l[i]
    rw [hli] at ho'
    cases o'
    simp [opCells] at ho'
    obtain ⟨rfl, rfl, rfl, rfl, rfl⟩ := ho'
    rfl
  rw [this]
  exact hat
end
end Go.Proofs.Ytfkdoinlbdcaaaa

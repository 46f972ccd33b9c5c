/- What comes in, opened: slices of whatever, bytes, calls of a mirror. -/
import Derived.Test.YtfkdoinlbdcaaaaDoorMLib
import Derived.Deep.Slices
import Derived.OpenShut
namespace Go.Proofs.YtfkdoinlbdcaaaaDoor
open Go.RowKit

theorem cellsInt : Tryd.prog.cellsOf 3 = 1 := by kernel_rfl
theorem cellsByte : Tryd.prog.cellsOf 5 = 1 := by kernel_rfl
theorem cellsStr : Tryd.prog.cellsOf 9 = 1 := by kernel_rfl
theorem cellsBytes : Tryd.prog.cellsOf 28 = 1 := by kernel_rfl

section
variable {H : Type} {enc : TypeId × Value → H} {w : World} {held : Bool}

/-- A slice that came in: its cells, and each element's own reading. -/
theorem trod_slc {P : Program} {t e size : Nat} (ht : P.underlying t = some (.slice e)) (hc : P.cellsOf e = size) (hpos : 0 < size) {fuel : Nat} {v : Value} {x : DataW H × List MemPlace}
    (h : DataW.trod enc P w 0 (fun _ => true) held fuel t [v] = some x) :
    ∃ n xs, Slc w size v n xs ∧ n ≤ maxLen ∧ ∀ i, i < n → ∃ m y, DataW.trod enc P w 0 (fun _ => true) held m e ((xs.drop (i * size)).take size) = some y := by
  rcases Deep.open_slice ht h with ⟨hcs, _⟩ | ⟨a, len, cap, m, k, D, Pl, hcs, _, hl, hm, hmm, _, hx⟩
  · obtain rfl : v = .slice none 0 0 := by simpa using hcs
    exact ⟨0, [], slc_nil _ _, Nat.zero_le _, fun i hi => by omega⟩
  · obtain rfl : v = .slice (some a) len cap := by simpa using hcs
    simp only [if_true] at hmm
    subst hmm
    rw [hc] at hx
    by_cases h0 : len = 0
    · subst h0
      exact ⟨0, [], ⟨by simp, .inr (.inl ⟨rfl, a, m, rfl, hm⟩)⟩, Nat.zero_le _, fun i hi => by omega⟩
    · have hcell : ∀ j, j < len * size → ∃ u, w.cell? (a.add j) = some u := by
        intro j hj
        have hi : j / size < m := by
          have : j / size < len := Nat.div_lt_of_lt_mul (by rw [Nat.mul_comm]; exact hj)
          omega
        obtain ⟨cs', h1, _⟩ := hx _ hi
        obtain ⟨_, h2, h3⟩ := World.cells?_some h1
        have hr := Nat.mod_lt j hpos
        have h4 := h3 _ hr
        rw [Deep.add_add, show j / size * size + j % size = j by rw [Nat.mul_comm]; exact Nat.div_add_mod j size] at h4
        rw [h4]
        exact ⟨cs'[j % size], by simp [h2, hr]⟩
      have hpos2 : 0 < len * size := Nat.mul_pos (by omega) hpos
      obtain ⟨u0, hu0⟩ := hcell 0 hpos2
      obtain ⟨g, o, spot⟩ := a
      have hspot : spot = none := by simpa [Addr.add] using World.cell?_spot hu0
      subst hspot
      have hlt : g < w.heap.size := by
        rcases Nat.lt_or_ge g w.heap.size with h | h
        · exact h
        · exfalso
          simp [World.cell?, Addr.add, Array.getElem?_eq_none h] at hu0
      refine ⟨len, (List.range (len * size)).map fun j => (w.cell? ⟨g, o + j, none⟩).getD (.bool false), ⟨by simp, .inr (.inr ⟨g, o, m, rfl, hl, hm, ⟨?_, hlt⟩⟩)⟩, by omega, ?_⟩
      · intro j u hu
        rw [List.getElem?_map] at hu
        by_cases hj : j < len * size
        · obtain ⟨u', hu'⟩ := hcell j hj
          rw [addr_add] at hu'
          simp [hj, hu'] at hu
          rw [hu', hu]
        · simp [hj] at hu
      · intro i hi
        obtain ⟨cs', h1, h2⟩ := hx i (by omega)
        obtain ⟨_, h3, h4⟩ := World.cells?_some h1
        have hle : i * size + size ≤ len * size := by
          have := Nat.mul_le_mul_right size (show i + 1 ≤ len by omega)
          rw [Nat.add_mul, Nat.one_mul] at this
          exact this
        have e1 : (((List.range (len * size)).map fun j => (w.cell? ⟨g, o + j, none⟩).getD (.bool false)).drop (i * size)).take size = cs' := by
          apply List.ext_getElem?
          intro r
          by_cases hr : r < size
          · have h5 := h4 r hr
            rw [Deep.add_add, addr_add] at h5
            rw [List.getElem?_take, if_pos hr, List.getElem?_drop, List.getElem?_map, List.getElem?_range (by omega)]
            simp only [Option.map_some]
            rw [h5]
            simp [h3, hr]
          · rw [List.getElem?_eq_none (by rw [List.length_take]; omega), List.getElem?_eq_none (by omega)]
        exact ⟨_, _, by rw [e1]; exact h2⟩

def byteOf : Value → UInt8
  | .int _ k => UInt8.ofNat k.toNat
  | _ => 0
theorem byteOf_wf {k : Int} (h : (Lit.int .u8 k).wf = true) : bv (byteOf (.int .u8 k)) = .int .u8 k := by
  have h1 := bounds_u8 h
  unfold bv byteOf
  congr 1
  simp only [UInt8.toNat_ofNat']
  omega

theorem one_cell {xs : List Value} {i : Nat} (hi : i < xs.length) : (xs.drop (i * 1)).take 1 = [xs[i]] := by
  rw [Nat.mul_one, List.drop_eq_getElem_cons hi]
  rfl

/-- Bytes that came in. -/
theorem trod_bytes {fuel : Nat} {v : Value} {x : DataW H × List MemPlace} (h : DataW.trod enc Tryd.prog w 0 (fun _ => true) held fuel 28 [v] = some x) : ∃ l : List UInt8, Bytes w v l ∧ l.length ≤ maxLen := by
  obtain ⟨n, xs, h1, h2, h3⟩ := trod_slc Tryd.underlying28 cellsByte (by decide) h
  have hlen : xs.length = n := by simpa using h1.1
  refine ⟨xs.map byteOf, ?_, by simpa [hlen] using h2⟩
  have e : (xs.map byteOf).map bv = xs := by
    apply List.ext_getElem (by simp)
    intro i hi hi'
    obtain ⟨m, y, hy⟩ := h3 i (by omega)
    rw [one_cell hi'] at hy
    obtain ⟨k, hk, _, hw⟩ := DataW.trod_int Tryd.underlying5 hy
    have hk' : xs[i] = .int .u8 k := by simpa using hk
    simp only [List.getElem_map]
    rw [hk']
    exact byteOf_wf hw
  unfold Bytes
  rw [e, List.length_map, hlen]
  exact h1

theorem list_five {α : Type} {l : List α} (h : l.length = 5) : ∃ a b c d e, l = [a, b, c, d, e] := by
  match l, h with
  | [a, b, c, d, e], _ => exact ⟨a, b, c, d, e, rfl⟩

/-- One call that came in. -/
structure MOp where
  kind : Int
  s : ByteArray
  s2 : ByteArray
  n : Int
  vb : Value
def mopCells (o : MOp) : List Value := [.int .i64 o.kind, .string o.s, .string o.s2, .int .i64 o.n, o.vb]
def MOpAt (w : World) (o : MOp) : Prop := (Lit.int .i64 o.kind).wf = true ∧ (Lit.int .i64 o.n).wf = true ∧ o.s.size ≤ maxLen ∧ o.s2.size ≤ maxLen ∧ ∃ l : List UInt8, Bytes w o.vb l ∧ l.length ≤ maxLen
theorem trod_mop {fuel : Nat} {cs : List Value} {x : DataW H × List MemPlace} (h : DataW.trod enc Tryd.prog w 0 (fun _ => true) held fuel 45 cs = some x) : ∃ o : MOp, cs = mopCells o ∧ MOpAt w o := by
  obtain ⟨xs, n, _, _, hl, hlen, hf⟩ := DataW.trod_struct Tryd.underlying45 h
  rw [show Tryd.prog.cellsOf 45 = 5 by kernel_rfl] at hl
  obtain ⟨c0, c1, c2, c3, c4, rfl⟩ := list_five hl
  obtain ⟨y0, y1, y2, y3, y4, rfl⟩ := list_five hlen
  have h0 : DataW.trod enc Tryd.prog w 0 (fun _ => true) held n 3 (([c0, c1, c2, c3, c4].drop 0).take (Tryd.prog.cellsOf 3)) = some y0 := hf 0 _ rfl
  have h1 : DataW.trod enc Tryd.prog w 0 (fun _ => true) held n 9 (([c0, c1, c2, c3, c4].drop 1).take (Tryd.prog.cellsOf 9)) = some y1 := hf 1 _ rfl
  have h2 : DataW.trod enc Tryd.prog w 0 (fun _ => true) held n 9 (([c0, c1, c2, c3, c4].drop 2).take (Tryd.prog.cellsOf 9)) = some y2 := hf 2 _ rfl
  have h3 : DataW.trod enc Tryd.prog w 0 (fun _ => true) held n 3 (([c0, c1, c2, c3, c4].drop 3).take (Tryd.prog.cellsOf 3)) = some y3 := hf 3 _ rfl
  have h4 : DataW.trod enc Tryd.prog w 0 (fun _ => true) held n 28 (([c0, c1, c2, c3, c4].drop 4).take (Tryd.prog.cellsOf 28)) = some y4 := hf 4 _ rfl
  rw [cellsInt] at h0 h3
  rw [cellsStr] at h1 h2
  rw [cellsBytes] at h4
  obtain ⟨i, e0, _, w0⟩ := DataW.trod_int Tryd.underlying3 (x := y0) h0
  obtain ⟨s, e1, _, w1⟩ := DataW.trod_string Tryd.underlying9 (x := y1) h1
  obtain ⟨s2, e2, _, w2⟩ := DataW.trod_string Tryd.underlying9 (x := y2) h2
  obtain ⟨k, e3, _, w3⟩ := DataW.trod_int Tryd.underlying3 (x := y3) h3
  have hb := trod_bytes (v := c4) (x := y4) h4
  simp at e0 e1 e2 e3
  exact ⟨⟨i, s, s2, k, c4⟩, by rw [e0, e1, e2, e3]; rfl, w0, w3, w1, w2, hb⟩
end
end Go.Proofs.YtfkdoinlbdcaaaaDoor

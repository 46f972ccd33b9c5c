/- A slice of one's own that may begin within its array: what is kept, append, a cut from the front. -/
import Derived.Test.YtfkdoinlbdcaaaaDoorMap
import Derived.Deep.Upon
namespace Go.Proofs.YtfkdoinlbdcaaaaDoor
open Go.RowKit

def tb : Value → Option Nat
  | .slice (some a) _ _ => some a.block
  | _ => none
/-- v is a slice of n elements with the cells xs, in an array of its own. -/
def Tail (w : World) (e size : Nat) (v : Value) (n : Nat) (xs : List Value) : Prop :=
  xs.length = n * size ∧ ((v = .slice none 0 0 ∧ n = 0) ∨ ∃ g o cap cur, v = .slice (some ⟨g, o, none⟩) n cap ∧ w.heap[g]? = some (.cells cur e (0, 0)) ∧ n ≤ cap ∧ cap ≤ maxLen ∧ o + cap * size ≤ cur.size ∧ ∀ j u, xs[j]? = some u → cur[o + j]? = some u)
theorem Tail.nil (w : World) (e size : Nat) : Tail w e size (.slice none 0 0) 0 [] := ⟨by simp, .inl ⟨rfl, rfl⟩⟩
theorem Tail.kind {w : World} {e size : Nat} {v : Value} {n : Nat} {xs : List Value} (h : Tail w e size v n xs) {g : Nat} (hg : tb v = some g) : kind w g = e + 2 := by
  rcases h.2 with ⟨rfl, _⟩ | ⟨g', o, cap, cur, rfl, hh, _⟩
  · simp [tb] at hg
  · simp [tb] at hg
    subst hg
    exact kind_cells hh
theorem Tail.lt {w : World} {e size : Nat} {v : Value} {n : Nat} {xs : List Value} (h : Tail w e size v n xs) {g : Nat} (hg : tb v = some g) : g < w.heap.size := by
  rcases h.2 with ⟨rfl, _⟩ | ⟨g', o, cap, cur, rfl, hh, _⟩
  · simp [tb] at hg
  · simp [tb] at hg
    subst hg
    exact lt_of_block hh
theorem Tail.kept {X : List Nat} {w w' : World} {e size : Nat} {v : Value} {n : Nat} {xs : List Value} (h : Tail w e size v n xs) (k : Kept X w w') (hX : ∀ g, tb v = some g → g ∉ X) : Tail w' e size v n xs := by
  refine ⟨h.1, ?_⟩
  rcases h.2 with h2 | ⟨g', o, cap, cur, rfl, hh, h3⟩
  · exact .inl h2
  · exact .inr ⟨g', o, cap, cur, rfl, k.heap hh (hX g' rfl), h3⟩
theorem Tail.slc {w : World} {e size : Nat} {v : Value} {n : Nat} {xs : List Value} (h : Tail w e size v n xs) : Slc w size v n xs := by
  refine ⟨h.1, ?_⟩
  rcases h.2 with h2 | ⟨g, o, cap, cur, rfl, hh, hc, hm, hs, ht⟩
  · exact .inl h2
  · refine .inr (.inr ⟨g, o, cap, rfl, hc, hm, ⟨?_, lt_of_block hh⟩⟩)
    intro j u hu
    rw [cell_of_row w g (o + j) cur e (0, 0) hh]
    exact ht j u hu
/-- From the k-th element on. -/
theorem Tail.drop {w : World} {e size : Nat} {g o n cap : Nat} {xs : List Value} (h : Tail w e size (.slice (some ⟨g, o, none⟩) n cap) n xs) (k : Nat) (hk : k ≤ n) : Tail w e size (.slice (some ⟨g, o + k * size, none⟩) (n - k) (cap - k)) (n - k) (xs.drop (k * size)) := by
  refine ⟨by rw [List.length_drop, h.1, Nat.sub_mul], .inr ?_⟩
  rcases h.2 with ⟨h2, _⟩ | ⟨g', o', cap', cur, hv, hh, hc, hm, hs, ht⟩
  · cases h2
  · simp only [Value.slice.injEq, Option.some.injEq, Addr.mk.injEq, and_true, true_and] at hv
    obtain ⟨⟨rfl, rfl⟩, rfl⟩ := hv
    refine ⟨g, o + k * size, cap - k, cur, rfl, hh, by omega, by omega, ?_, ?_⟩
    · have : k * size + (cap - k) * size = cap * size := by rw [← Nat.add_mul]; congr 1; omega
      omega
    · intro j u hu
      rw [List.getElem?_drop] at hu
      have := ht _ _ hu
      rwa [← Nat.add_assoc] at this

theorem setCells_kept (g : Nat) : ∀ (vs : List Value) (o : Nat) (w : World), Kept [g] w (w.setCells g o vs)
  | [], o, w => Kept.refl _ _
  | v :: r, o, w => ((Kept.refl [g] w).setCell (p := ⟨g, o, none⟩) (.inl (by simp)) v).trans' (setCells_kept g r (o + 1) _)
theorem setCells_at (g : Nat) {e : Nat} {f : Nat × Nat} : ∀ (vs : List Value) (o : Nat) (w : World) (cur : Array Value), w.heap[g]? = some (.cells cur e f) →
    ∃ cur', (w.setCells g o vs).heap[g]? = some (.cells cur' e f) ∧ cur'.size = cur.size ∧ ∀ j, j < cur.size → cur'[j]? = if o ≤ j ∧ j < o + vs.length then vs[j - o]? else cur[j]?
  | [], o, w, cur, h => ⟨cur, h, rfl, fun j hj => by rw [if_neg (by simp)]⟩
  | v :: r, o, w, cur, h => by
    have h1 : (w.setCell ⟨g, o, none⟩ v).heap[g]? = some (.cells (cur.setIfInBounds o v) e f) := by simp [World.setCell, Array.getElem?_modify, h]
    obtain ⟨cur', h2, h3, h4⟩ := setCells_at g r (o + 1) _ _ h1
    refine ⟨cur', h2, by rw [h3]; simp, ?_⟩
    intro j hj
    rw [h4 j (by simpa using hj)]
    simp only [List.length_cons]
    by_cases e1 : j = o
    · subst e1
      rw [if_neg (by omega), if_pos (by omega)]
      simp [hj]
    · by_cases e2 : o + 1 ≤ j ∧ j < o + 1 + r.length
      · rw [if_pos e2, if_pos (by omega)]
        rw [show j - o = (j - (o + 1)) + 1 by omega]
        rfl
      · rw [if_neg e2, if_neg (by omega)]
        rw [Array.getElem?_setIfInBounds]
        rw [if_neg (by omega)]

theorem Tail.append {P : Program} {t e size bytes : Nat} {z : Value} (T : SliceTy P t e size bytes z) {w : World} {v : Value} {n : Nat} {xs : List Value} (h : Tail w e size v n xs) (ty : Nat) {vx : Value} {m : Nat} {news : List Value}
    (hsrc : Slc w size vx m news) (h1 : ∀ u ∈ news, u.oneCell' = true) (hm : 0 < m) (h63 : n + m ≤ maxLen) (hbytes : (n + m) * bytes ≤ 140737488355328) :
    ∃ g o cap w', (Builtin.append_ #[t, t] ty #[v, vx]).run P w = .ok (.slice (some ⟨g, o, none⟩) (n + m) cap) w' ∧ Tail w' e size (.slice (some ⟨g, o, none⟩) (n + m) cap) (n + m) (xs ++ news) ∧ Kept (tb v).toList w w' ∧ (tb v = some g ∨ g = w.heap.size) := by
  obtain ⟨i, hi, hz, hs, hb⟩ := info_parts T.info
  obtain ⟨g', o', c', rfl, hsr⟩ : ∃ g' o' c', vx = .slice (some ⟨g', o', none⟩) m c' ∧ Row w g' o' news := by
    rcases hsrc.2 with ⟨_, h0⟩ | ⟨h0, _⟩ | ⟨g, o, cap, rfl, hc, _, hr⟩
    · omega
    · omega
    · exact ⟨g, o, cap, rfl, hr⟩
  have hS : Src P i.size t (.slice (some ⟨g', o', none⟩) m c') m news w := Src.ofSlice w T.und ⟨g', o', none⟩ m c' news (by rw [hs]; exact hsrc.1) hsr.adds h1
  have hlen : (xs ++ news).length = (n + m) * size := by rw [List.length_append, h.1, hsrc.1, Nat.add_mul]
  have hgrow : ∀ (bs : Option Addr) (sc : Nat), v = .slice bs n sc → sc < n + m → (Builtin.firstCells i.size n (.slice bs n sc)).run P w.drew = .ok xs.toArray w.drew →
      ∃ g o cap w', (Builtin.append_ #[t, t] ty #[v, .slice (some ⟨g', o', none⟩) m c']).run P w = .ok (.slice (some ⟨g, o, none⟩) (n + m) cap) w' ∧ Tail w' e size (.slice (some ⟨g, o, none⟩) (n + m) cap) (n + m) (xs ++ news) ∧ Kept (tb v).toList w w' ∧ (tb v = some g ∨ g = w.heap.size) := by
    rintro bs sc rfl hg hold
    have hrun := run_append_grow_src (P := P) w t t ty e i z T.und hi hz bs n sc xs hold _ m news hS hg (by simp only [maxLen] at h63; omega) (growslice_fits hg (by rw [hb]; exact hbytes))
    have hge := grownCap_ge w (n + m) sc e
    have hcm := grownCap_le_maxLen w (n + m) sc e h63
    refine ⟨w.heap.size, 0, _, _, hrun, ⟨hlen, .inr ⟨w.heap.size, 0, _, _, rfl, heap_alloc_new w.drew _, hge, hcm, ?_, ?_⟩⟩, ((Kept.refl _ w).drew).alloc _, .inr rfl⟩
    · rw [Array.size_append, List.size_toArray, hlen, size_zeroCells, T.zs, ← Nat.add_mul, Nat.zero_add]
      apply Nat.le_of_eq
      congr 1
      omega
    · intro j u hu
      have hj : j < (xs ++ news).length := by
        rcases Nat.lt_or_ge j (xs ++ news).length with h' | h'
        · exact h'
        · rw [List.getElem?_eq_none h'] at hu; cases hu
      rw [Nat.zero_add, Array.getElem?_append_left (by simpa using hj), List.getElem?_toArray]
      exact hu
  rcases h.2 with ⟨rfl, rfl⟩ | ⟨g, o, cap, cur, rfl, hh, hc, hcm, hsz, ht⟩
  · have hx : xs = [] := List.eq_nil_of_length_eq_zero (by simpa using h.1)
    subst hx
    exact hgrow none 0 rfl (by omega) (run_firstCells_none w.drew i.size 0 0 0)
  · by_cases hroom : n + m ≤ cap
    · have hn : (n + m) * size ≤ cap * size := Nat.mul_le_mul_right _ hroom
      rw [Nat.add_mul] at hn
      have hnl := hsrc.1
      have hin : ∀ j, j < news.length → w.cell? ⟨g, o + n * i.size + j, none⟩ = cur[o + n * i.size + j]? := fun j hj => cell_of_row w g _ cur e (0, 0) hh
      have hrun := run_append_room_src (P := P) w t t ty e i T.und hi g o n cap _ m news hS hroom
        (fun j hj => by rw [hin j hj, hs, Array.getElem?_eq_getElem (by omega)]; rfl) (fun j hj => free_head hh)
      obtain ⟨cur', h2, h3, h4⟩ := setCells_at g news (o + n * i.size) w cur hh
      refine ⟨g, o, cap, _, hrun, ⟨hlen, .inr ⟨g, o, cap, cur', rfl, h2, hroom, hcm, by rw [h3]; exact hsz, ?_⟩⟩, by simpa [tb] using setCells_kept g news _ w, .inl rfl⟩
      intro j u hu
      have hj : j < (xs ++ news).length := by
        rcases Nat.lt_or_ge j (xs ++ news).length with h' | h'
        · exact h'
        · rw [List.getElem?_eq_none h'] at hu; cases hu
      have hjl := h.1
      rw [List.length_append] at hj
      rw [h4 _ (by omega), hs]
      by_cases e1 : j < xs.length
      · rw [if_neg (by omega)]
        rw [List.getElem?_append_left e1] at hu
        exact ht j u hu
      · rw [if_pos (by omega)]
        rw [List.getElem?_append_right (by omega)] at hu
        rw [show o + j - (o + n * size) = j - xs.length by omega]
        exact hu
    · refine hgrow (some ⟨g, o, none⟩) cap rfl (by omega) (run_firstCells_some w.drew i.size n ⟨g, o, none⟩ n cap xs (by rw [hs]; exact h.1) ?_)
      intro j u hu
      have := ht j u hu
      show w.cell? _ = _
      have e2 : (⟨g, o, none⟩ : Addr).add j = ⟨g, o + j, none⟩ := by simp [Addr.add_lit]
      rw [e2, cell_of_row w g _ cur e (0, 0) hh]
      exact this
end Go.Proofs.YtfkdoinlbdcaaaaDoor

/- Plain: the mirror's files, and the document's list of files by rising names. -/
import Derived.Test.YtfkdoinlbdcaaaaDoorMRefC
import Derived.Sort.Walk0
namespace Go.Proofs.YtfkdoinlbdcaaaaDoor
open Go.RowKit

abbrev PF := ByteArray × List UInt8
theorem less_iff (x y : ByteArray) : less x y = true ↔ x.data.toList < y.data.toList := by
  unfold less
  rw [ByteArray.toList_eq, ByteArray.toList_eq, Go.Proofs.bytesLess_eq]
  exact decide_eq_true_iff
theorem ba_ext {x y : ByteArray} (h : x.data.toList = y.data.toList) : x = y := by
  cases x; cases y
  simp only [ByteArray.mk.injEq] at *
  exact Array.toList_inj.1 h
/-- The files that the list tells are the mirror's. -/
structure Agree (d : PMir) (fs : List PF) : Prop where
  sorted : fs.Pairwise (fun a b => a.1.data.toList < b.1.data.toList)
  file : ∀ x l, d.file x = some l ↔ ∃ s, (s, l) ∈ fs ∧ s.data.toList = x
  cnt : d.cnt = fs.length
theorem agree_new : Agree PMir.new [] := ⟨List.Pairwise.nil, by simp [PMir.new], rfl⟩
theorem Agree.none_iff {d : PMir} {fs : List PF} (h : Agree d fs) (s : ByteArray) : d.file s.data.toList = none ↔ ∀ f, f ∈ fs → f.1 ≠ s := by
  constructor
  · intro hn f hf e
    have := (h.file s.data.toList f.2).2 ⟨f.1, hf, by rw [e]⟩
    rw [hn] at this
    cases this
  · intro hno
    cases hd : d.file s.data.toList with
    | none => rfl
    | some l =>
      obtain ⟨t, ht, e⟩ := (h.file _ _).1 hd
      exact absurd (ba_ext e) (hno _ ht)
theorem Agree.at {d : PMir} {fs A B : List PF} {s : ByteArray} {l : List UInt8} (h : Agree d fs) (e : fs = A ++ (s, l) :: B) : d.file s.data.toList = some l := (h.file _ _).2 ⟨s, by rw [e]; simp, rfl⟩
theorem sorted_mid {A B : List PF} {f : PF} (h : (A ++ f :: B).Pairwise (fun a b => a.1.data.toList < b.1.data.toList)) :
    (∀ a, a ∈ A → a.1.data.toList < f.1.data.toList) ∧ (∀ b, b ∈ B → f.1.data.toList < b.1.data.toList) := by
  obtain ⟨_, h2, h3⟩ := List.pairwise_append.1 h
  exact ⟨fun a ha => h3 a ha f (by simp), fun b hb => (List.pairwise_cons.1 h2).1 b hb⟩
theorem lt_ne {a b : List UInt8} (h : a < b) : a ≠ b := fun e => List.lt_irrefl _ (e ▸ h)
/-- Another text at a name. -/
theorem Agree.stored {d : PMir} {fs fs' : List PF} (h : Agree d fs) (s : ByteArray) (l : List UInt8) (hp : PutTo s l fs fs') : Agree (d.stored s l) fs' := by
  rcases hp with ⟨i, hi, he, hfs⟩ | ⟨hno, i, hi, hlt, hge, hfs⟩
  · have e0 : fs = fs.take i ++ (fs[i].1, fs[i].2) :: fs.drop (i + 1) := by
      conv => lhs; rw [← List.take_append_drop i fs, List.drop_eq_getElem_cons hi]
    rw [he] at e0
    revert e0 hfs
    generalize fs[i].2 = l0
    generalize fs.take i = A
    generalize fs.drop (i + 1) = B
    intro hfs e0
    have hsome := h.at e0
    have hs := h.sorted
    rw [e0] at hs
    obtain ⟨hA, hB⟩ := sorted_mid hs
    refine ⟨?_, ?_, ?_⟩
    · rw [hfs]
      obtain ⟨p1, p2, p3⟩ := List.pairwise_append.1 hs
      obtain ⟨p4, p5⟩ := List.pairwise_cons.1 p2
      refine List.pairwise_append.2 ⟨p1, List.pairwise_cons.2 ⟨p4, p5⟩, ?_⟩
      intro a ha b hb
      rcases List.mem_cons.1 hb with rfl | hb
      · exact hA a ha
      · exact p3 a ha b (by simp [hb])
    · intro x l1
      unfold PMir.stored
      simp only
      by_cases hx : x = s.data.toList
      · subst hx
        rw [if_pos rfl]
        constructor
        · intro e
          cases e
          exact ⟨s, by rw [hfs]; simp, rfl⟩
        · rintro ⟨t, ht, e⟩
          rw [hfs] at ht
          rcases List.mem_append.1 ht with ht | ht
          · exact absurd e (lt_ne (hA _ ht))
          · rcases List.mem_cons.1 ht with e1 | ht
            · simp only [Prod.mk.injEq] at e1; rw [e1.2]
            · exact absurd e.symm (lt_ne (hB _ ht))
      · rw [if_neg hx, h.file x l1, hfs, e0]
        constructor
        · rintro ⟨t, ht, e⟩
          refine ⟨t, ?_, e⟩
          rcases List.mem_append.1 ht with ht | ht
          · simp [ht]
          · rcases List.mem_cons.1 ht with e1 | ht
            · simp only [Prod.mk.injEq] at e1; rw [e1.1] at e; exact absurd e.symm hx
            · simp [ht]
        · rintro ⟨t, ht, e⟩
          refine ⟨t, ?_, e⟩
          rcases List.mem_append.1 ht with ht | ht
          · simp [ht]
          · rcases List.mem_cons.1 ht with e1 | ht
            · simp only [Prod.mk.injEq] at e1; rw [e1.1] at e; exact absurd e.symm hx
            · simp [ht]
    · unfold PMir.stored
      simp only
      rw [hsome, hfs, h.cnt, e0]
      simp
  · have e0 : fs = fs.take i ++ fs.drop i := (List.take_append_drop i fs).symm
    have hnone : d.file s.data.toList = none := (h.none_iff s).2 (by
      intro f hf e
      obtain ⟨j, hj, rfl⟩ := List.getElem_of_mem hf
      exact hno j hj e)
    have hA : ∀ a, a ∈ fs.take i → a.1.data.toList < s.data.toList := by
      intro a ha
      obtain ⟨j, hj, rfl⟩ := List.getElem_of_mem ha
      rw [List.length_take] at hj
      rw [List.getElem_take]
      exact (less_iff _ _).1 (hlt j (by omega) (by omega))
    have hB : ∀ b, b ∈ fs.drop i → s.data.toList < b.1.data.toList := by
      intro b hb
      obtain ⟨j, hj, rfl⟩ := List.getElem_of_mem hb
      rw [List.length_drop] at hj
      rw [List.getElem_drop]
      have hi' : i < fs.length := by omega
      have h1 : ¬ fs[i].1.data.toList < s.data.toList := fun x => by
        have := hge hi'
        rw [(less_iff _ _).2 x] at this
        cases this
      have h2 : s.data.toList ≠ fs[i].1.data.toList := fun e => hno i hi' (ba_ext e.symm)
      have h3 : s.data.toList < fs[i].1.data.toList := by
        have h4 : s.data.toList ≤ fs[i].1.data.toList := List.not_lt.1 h1
        rcases List.le_iff_lt_or_eq.1 h4 with h5 | h5
        · exact h5
        · exact absurd h5 h2
      by_cases hj0 : j = 0
      · subst hj0; exact h3
      · exact List.lt_trans h3 ((List.pairwise_iff_getElem.1 h.sorted) i (i + j) hi' (by omega) (by omega))
    revert e0 hfs hA hB
    generalize fs.take i = A
    generalize fs.drop i = B
    intro hfs e0 hA hB
    have hs := h.sorted
    rw [e0] at hs
    refine ⟨?_, ?_, ?_⟩
    · rw [hfs]
      obtain ⟨p1, p2, p3⟩ := List.pairwise_append.1 hs
      refine List.pairwise_append.2 ⟨p1, List.pairwise_cons.2 ⟨hB, p2⟩, ?_⟩
      intro a ha b hb
      rcases List.mem_cons.1 hb with rfl | hb
      · exact hA a ha
      · exact p3 a ha b hb
    · intro x l1
      unfold PMir.stored
      simp only
      by_cases hx : x = s.data.toList
      · subst hx
        rw [if_pos rfl]
        constructor
        · intro e
          cases e
          exact ⟨s, by rw [hfs]; simp, rfl⟩
        · rintro ⟨t, ht, e⟩
          rw [hfs] at ht
          rcases List.mem_append.1 ht with ht | ht
          · exact absurd e (lt_ne (hA _ ht))
          · rcases List.mem_cons.1 ht with e1 | ht
            · simp only [Prod.mk.injEq] at e1; rw [e1.2]
            · exact absurd e.symm (lt_ne (hB _ ht))
      · rw [if_neg hx, h.file x l1, hfs, e0]
        constructor
        · rintro ⟨t, ht, e⟩
          refine ⟨t, ?_, e⟩
          rcases List.mem_append.1 ht with ht | ht <;> simp [ht]
        · rintro ⟨t, ht, e⟩
          refine ⟨t, ?_, e⟩
          rcases List.mem_append.1 ht with ht | ht
          · simp [ht]
          · rcases List.mem_cons.1 ht with e1 | ht
            · simp only [Prod.mk.injEq] at e1; rw [e1.1] at e; exact absurd e.symm hx
            · simp [ht]
    · unfold PMir.stored
      simp only
      rw [hnone, hfs, h.cnt, e0]
      simp
      omega
/-- A name less. -/
theorem Agree.dropped {d : PMir} {fs : List PF} (h : Agree d fs) (s : ByteArray) (hin : d.file s.data.toList ≠ none) : Agree (d.dropped s) (fs.filter (fun r => decide (r.1 ≠ s))) := by
  obtain ⟨l, hl⟩ : ∃ l, d.file s.data.toList = some l := by
    cases hd : d.file s.data.toList with
    | none => exact absurd hd hin
    | some l => exact ⟨l, rfl⟩
  obtain ⟨t, ht, e⟩ := (h.file _ _).1 hl
  obtain rfl := ba_ext e
  obtain ⟨A, B, e0⟩ := List.append_of_mem ht
  have hs := h.sorted
  rw [e0] at hs
  obtain ⟨hA, hB⟩ := sorted_mid hs
  refine ⟨List.Pairwise.filter _ h.sorted, ?_, ?_⟩
  · intro x l1
    unfold PMir.dropped
    simp only
    by_cases hx : x = t.data.toList
    · subst hx
      rw [if_pos rfl]
      constructor
      · intro e; cases e
      · rintro ⟨t', ht', e'⟩
        have := (List.mem_filter.1 ht').2
        simp only [decide_eq_true_eq] at this
        exact absurd (ba_ext e') this
    · rw [if_neg hx, h.file x l1]
      constructor
      · rintro ⟨t', ht', e'⟩
        refine ⟨t', List.mem_filter.2 ⟨ht', ?_⟩, e'⟩
        simp only [decide_eq_true_eq]
        rintro rfl
        exact hx e'.symm
      · rintro ⟨t', ht', e'⟩
        exact ⟨t', (List.mem_filter.1 ht').1, e'⟩
  · unfold PMir.dropped
    simp only
    have fA : A.filter (fun r => decide (r.1 ≠ t)) = A := List.filter_eq_self.2 (fun a ha => by
      simp only [decide_eq_true_eq]
      rintro e
      exact lt_ne (hA a ha) (by rw [e]))
    have fB : B.filter (fun r => decide (r.1 ≠ t)) = B := List.filter_eq_self.2 (fun b hb => by
      simp only [decide_eq_true_eq]
      rintro e
      exact lt_ne (hB b hb) (by rw [e]))
    rw [h.cnt, e0, List.filter_append, fA, List.filter_cons, fB]
    simp
/-- The rows' names rise as the mirror's names do. -/
theorem Agree.names {d : PMir} {fs : List PF} (h : Agree d fs) : (fs.map (fun f => f.1.data.toList)).Pairwise (fun a b => a < b) := List.pairwise_map.2 h.sorted
end Go.Proofs.YtfkdoinlbdcaaaaDoor

/- Plain: what is loaded from an image, and its image. -/
import Derived.Test.YtfkdoinlbdcaaaaRedD
namespace Go.Proofs.Ytfkdoinlbdcaaaa
open Go.RowKit

theorem toNat_of (m : Nat) : (UInt8.ofNat m).toNat = m % 256 := by simp
theorem put4_be (l : List UInt8) (h : l.length = 4) : put4 (be l) = l := by
  match l, h with
  | [a, b, c, d], _ =>
    have ha := a.toNat_lt
    have hb := b.toNat_lt
    have hc := c.toNat_lt
    have hd := d.toNat_lt
    have e : be [a, b, c, d] = ((a.toNat * 256 + b.toNat) * 256 + c.toNat) * 256 + d.toNat := by simp [be]
    rw [e]
    unfold put4
    have q : ∀ (m : Nat) (u : UInt8), m % 256 = u.toNat → UInt8.ofNat m = u := by
      intro m u hm
      apply UInt8.toNat_inj.1
      rw [toNat_of]
      exact hm
    rw [q _ a (by omega), q _ b (by omega), q _ c (by omega), q _ d (by omega)]
theorem be_put4 (n : Nat) (h : n < 4294967296) : be (put4 n) = n := by
  unfold be put4
  simp only [List.foldl_cons, List.foldl_nil, toNat_of]
  omega
theorem fill_few (n : Nat) : ∀ (c : Nat) (s : List (List UInt8)) (last : Int) (rest : List UInt8) (r : List (List UInt8) × List UInt8), last < n → fillGo n c s last rest = some r → (c : Int) + last < n
  | 0, s, last, rest, r, hl, _ => by omega
  | c + 1, s, last, rest, r, hl, h => by
    unfold fillGo at h
    split at h
    · cases h
    · split at h
      · cases h
      · rename_i hc
        have h1 : ¬(be (rest.take 4) : Int) ≤ last := fun x => hc (.inl x)
        have h2 : ¬n ≤ be (rest.take 4) := fun x => hc (.inr (.inl x))
        have := fill_few n c _ _ _ r (by omega) h
        omega
theorem load_same (n c : Nat) (l : List UInt8) (bad : Bool) (hb : bad = true → c = 0) : loadGo n c l bad = refLoadGo n c l bad := by
  unfold loadGo refLoadGo
  by_cases h1 : n < 1 ∨ 16384 < n
  · rw [if_pos h1, if_pos (by rcases h1 with h | h; exact .inr (.inl h); exact .inr (.inr (.inl h)))]
  · rw [if_neg h1]
    cases bad with
    | true =>
      obtain rfl := hb rfl
      rw [if_pos (.inl rfl)]
      simp [fillGo]
    | false =>
      by_cases h2 : n < c
      · rw [if_pos (.inr (.inr (.inr h2)))]
        cases hf : fillGo n c (PDisk.new n).sure (-1) l with
        | none => rfl
        | some r =>
          have := fill_few n c _ _ _ r (by omega) hf
          omega
      · rw [if_neg (by rintro (h | h | h | h); cases h; exact h1 (.inl h); exact h1 (.inr h); exact h2 h)]
        cases hf : fillGo n c (PDisk.new n).sure (-1) l with
        | none => rfl
        | some r =>
          obtain ⟨s, rest⟩ := r
          simp [refOut]

theorem imgUp_zero (s : List (List UInt8)) (m : Nat) : ∀ k, (∀ j, m ≤ j → j < m + k → allZero (s.getD j []) = true) → imgUp s (m + k) = imgUp s m
  | 0, _ => rfl
  | k + 1, h => by
    rw [← Nat.add_assoc, imgUp_yes (h (m + k) (by omega) (by omega))]
    exact imgUp_zero s m k (fun j h1 h2 => h j h1 (by omega))
theorem imgUp_congr (s t : List (List UInt8)) : ∀ m, (∀ j, j < m → s.getD j [] = t.getD j []) → imgUp s m = imgUp t m
  | 0, _ => rfl
  | m + 1, h => by
    unfold imgUp
    rw [h m (by omega), imgUp_congr s t m (fun j hj => h j (by omega))]
theorem getD_set_ne (s : List (List UInt8)) (k j : Nat) (B : List UInt8) (h : k ≠ j) : (s.set k B).getD j [] = s.getD j [] := by
  simp [List.getD_eq_getElem?_getD, List.getElem?_set_ne h]
theorem getD_set_eq (s : List (List UInt8)) (k : Nat) (B : List UInt8) (h : k < s.length) : (s.set k B).getD k [] = B := by
  simp [List.getD_eq_getElem?_getD, h]
theorem fill_image (n : Nat) : ∀ (c : Nat) (s : List (List UInt8)) (m : Nat) (rest : List UInt8) (s' : List (List UInt8)) (rest' : List UInt8), s.length = n → m ≤ n → (∀ j, m ≤ j → j < n → allZero (s.getD j []) = true) →
    fillGo n c s ((m : Int) - 1) rest = some (s', rest') → ∃ mid, rest = mid ++ rest' ∧ imgUp s' n = ((imgUp s m).1 ++ mid, (imgUp s m).2 + c) ∧ s'.length = n
  | 0, s, m, rest, s', rest', hs, hm, hz, h => by
    simp only [fillGo, Option.some.injEq, Prod.mk.injEq] at h
    obtain ⟨rfl, rfl⟩ := h
    refine ⟨[], rfl, ?_, hs⟩
    have := imgUp_zero s m (n - m) (fun j h1 h2 => hz j h1 (by omega))
    rw [show m + (n - m) = n by omega] at this
    rw [this]
    simp
  | c + 1, s, m, rest, s', rest', hs, hm, hz, h => by
    unfold fillGo at h
    split at h
    · cases h
    · rename_i h68
      split at h
      · cases h
      · rename_i hc
        have h1 : ¬(be (rest.take 4) : Int) ≤ (m : Int) - 1 := fun x => hc (.inl x)
        have h2 : ¬n ≤ be (rest.take 4) := fun x => hc (.inr (.inl x))
        have h3 : allZero ((rest.drop 4).take 64) = false := by
          cases hq : allZero ((rest.drop 4).take 64) with
          | true => exact absurd (.inr (.inr hq)) hc
          | false => rfl
        have h4 : (rest.take 4).length = 4 := by rw [List.length_take]; omega
        have hp := put4_be _ h4
        have hr : rest = rest.take 4 ++ ((rest.drop 4).take 64 ++ rest.drop 68) := by
          rw [show rest.drop 68 = (rest.drop 4).drop 64 by rw [List.drop_drop], List.take_append_drop, List.take_append_drop]
        revert h1 h2 h3 hp hr h
        generalize be (rest.take 4) = k
        generalize rest.take 4 = hd
        generalize (rest.drop 4).take 64 = B
        generalize rest.drop 68 = r2
        intro h h1 h2 h3 hp hr
        obtain ⟨mid, e1, e2, e3⟩ := fill_image n c (s.set k B) (k + 1) r2 s' rest' (by simpa using hs) (by omega) (fun j h1 h2 => by rw [getD_set_ne _ _ _ _ (by omega)]; exact hz j (by omega) h2) (by rw [show ((k + 1 : Nat) : Int) - 1 = k by omega]; exact h)
        refine ⟨hd ++ (B ++ mid), by rw [hr, e1]; simp, ?_, e3⟩
        have e4 := imgUp_no (s := s.set k B) (j := k) (by rw [getD_set_eq _ _ _ (by omega)]; exact h3)
        rw [getD_set_eq _ _ _ (by omega), imgUp_congr (s.set k B) s k (fun j hj => getD_set_ne _ _ _ _ (by omega))] at e4
        have e5 := imgUp_zero s m (k - m) (fun j h1 h2 => hz j h1 (by omega))
        rw [show m + (k - m) = k by omega] at e5
        rw [e2, e4, e5, hp]
        simp only [List.append_assoc, Prod.mk.injEq, true_and]
        omega
theorem new_zero (n j : Nat) (h : j < n) : (PDisk.new n).sure.getD j [] = List.replicate 64 0 := by
  simp [PDisk.new, List.getD_eq_getElem?_getD, h]
theorem zero64 : allZero (List.replicate 64 0) = true := by decide
theorem rintV_false {l : List UInt8} (h : (rintV l).2.2 = false) : l = put4 (rintV l).1 ++ (rintV l).2.1 := by
  unfold rintV at *
  split at h
  · cases h
  · rename_i h4
    rw [if_neg h4, put4_be _ (by rw [List.length_take]; omega)]
    exact (List.take_append_drop 4 l).symm
theorem rintV_true {l : List UInt8} (h : (rintV l).2.2 = true) : (rintV l).2.1 = [] := by
  unfold rintV at *
  split at h
  · rename_i h4
    rw [if_pos h4]
  · cases h
/-- An image that is loaded is its disk's image. -/
theorem load_image {l : List UInt8} {d : PDisk} (h : loadP l = some d) : imageP d.sure = l := by
  unfold loadP loadGo at h
  split at h
  · cases h
  · rename_i hn
    split at h
    · cases h
    · rename_i s rest hf
      split at h
      · cases h
      · rename_i hb
        simp only [Option.some.injEq] at h
        subst h
        have hb2 : (rintV (rintV l).2.1).2.2 = false := by
          cases hq : (rintV (rintV l).2.1).2.2 with
          | true => exact absurd (.inl hq) hb
          | false => rfl
        have hb1 : (rintV l).2.2 = false := by
          cases hq : (rintV l).2.2 with
          | true =>
            rw [rintV_true hq] at hb2
            revert hb2
            decide
          | false => rfl
        have hrest : rest = [] := by
          have : ¬0 < rest.length := fun x => hb (.inr x)
          exact List.eq_nil_of_length_eq_zero (by omega)
        subst hrest
        have el := rintV_false hb1
        have el1 := rintV_false hb2
        obtain ⟨mid, e1, e2, e3⟩ := fill_image (rintV l).1 _ (PDisk.new (rintV l).1).sure 0 _ s [] (by simp [PDisk.new]) (by omega) (fun j _ hj => by rw [new_zero _ _ hj]; exact zero64) hf
        simp only [List.append_nil] at e1
        show put4 s.length ++ (put4 (imgUp s s.length).2 ++ (imgUp s s.length).1) = l
        rw [e3, e2]
        simp only [imgUp, List.nil_append, Nat.zero_add]
        rw [← e1, ← el1]
        exact el.symm
theorem load_len {l : List UInt8} {d : PDisk} (h : loadP l = some d) : d.off = false ∧ d.loose = (fun _ => none) ∧ d.left = -1 ∧ d.bytes = 0 := by
  unfold loadP loadGo at h
  split at h
  · cases h
  · split at h
    · cases h
    · split at h
      · cases h
      · simp only [Option.some.injEq] at h
        subst h
        exact ⟨rfl, rfl, rfl, rfl⟩
end Go.Proofs.Ytfkdoinlbdcaaaa

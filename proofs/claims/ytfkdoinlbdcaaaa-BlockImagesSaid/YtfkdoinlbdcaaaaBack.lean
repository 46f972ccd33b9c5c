/- Plain: what is loaded from a disk's image. -/
import Derived.Test.YtfkdoinlbdcaaaaRimg
namespace Go.Proofs.Ytfkdoinlbdcaaaa
open Go.RowKit

def imgFrom (s : List (List UInt8)) (m : Nat) : Nat → List UInt8 × Nat
  | 0 => ([], 0)
  | k + 1 => if allZero (s.getD m []) = true then imgFrom s (m + 1) k else (put4 m ++ (s.getD m [] ++ (imgFrom s (m + 1) k).1), (imgFrom s (m + 1) k).2 + 1)
theorem imgUp_from (s : List (List UInt8)) : ∀ (k m : Nat), imgUp s (m + k) = ((imgUp s m).1 ++ (imgFrom s m k).1, (imgUp s m).2 + (imgFrom s m k).2)
  | 0, m => by simp [imgFrom]
  | k + 1, m => by
    rw [show m + (k + 1) = (m + 1) + k by omega, imgUp_from s k (m + 1)]
    cases hz : allZero (s.getD m []) with
    | true =>
      rw [imgUp_yes hz]
      conv => rhs; unfold imgFrom
      rw [if_pos hz]
    | false =>
      rw [imgUp_no hz]
      conv => rhs; unfold imgFrom
      rw [if_neg (by rw [hz]; decide)]
      simp only [List.append_assoc, Prod.mk.injEq, true_and]
      omega
theorem zero_all {l : List UInt8} (h : allZero l = true) : l = List.replicate l.length 0 := by
  refine List.eq_replicate_iff.2 ⟨rfl, fun b hb => ?_⟩
  have := List.all_eq_true.1 h b hb
  simpa using this
theorem fill_from {s : List (List UInt8)} (hs : ∀ l, l ∈ s → l.length = 64) (hle : s.length ≤ 16384) : ∀ (k m : Nat) (t : List (List UInt8)) (last : Int), m + k = s.length → t.length = s.length → (∀ j, j < m → t.getD j [] = s.getD j []) →
    (∀ j, m ≤ j → j < s.length → t.getD j [] = List.replicate 64 0) → last < m → fillGo s.length (imgFrom s m k).2 t last (imgFrom s m k).1 = some (s, [])
  | 0, m, t, last, hm, ht, h1, h2, hl => by
    have : t = s := by
      apply List.ext_getElem ht
      intro j hj1 hj2
      have := h1 j (by omega)
      simpa [List.getD_eq_getElem?_getD, hj1, hj2] using this
    subst this
    rfl
  | k + 1, m, t, last, hm, ht, h1, h2, hl => by
    have hms : m < s.length := by omega
    have h64 : (s.getD m []).length = 64 := by
      rw [List.getD_eq_getElem?_getD, List.getElem?_eq_getElem hms]
      exact hs _ (List.getElem_mem _)
    cases hz : allZero (s.getD m []) with
    | true =>
      have e : imgFrom s m (k + 1) = imgFrom s (m + 1) k := by
        conv => lhs; unfold imgFrom
        rw [if_pos hz]
      rw [e]
      refine fill_from hs hle k (m + 1) t last (by omega) ht ?_ (fun j h3 h4 => h2 j (by omega) h4) (by omega)
      intro j hj
      by_cases hjm : j = m
      · subst hjm
        rw [h2 j (Nat.le_refl _) hms]
        have := zero_all hz
        rw [h64] at this
        exact this.symm
      · exact h1 j (by omega)
    | false =>
      have e : imgFrom s m (k + 1) = (put4 m ++ (s.getD m [] ++ (imgFrom s (m + 1) k).1), (imgFrom s (m + 1) k).2 + 1) := by
        conv => lhs; unfold imgFrom
        rw [if_neg (by rw [hz]; decide)]
      rw [e]
      simp only
      have ih := fill_from hs hle k (m + 1) (t.set m (s.getD m [])) m (by omega) (by simpa using ht) (fun j hj => by
        by_cases hjm : j = m
        · subst hjm; rw [getD_set_eq _ _ _ (by omega)]
        · rw [getD_set_ne _ _ _ _ (Ne.symm hjm)]; exact h1 j (by omega)) (fun j h3 h4 => by rw [getD_set_ne _ _ _ _ (by omega)]; exact h2 j (by omega) h4) (by omega)
      revert ih
      generalize imgFrom s (m + 1) k = r
      obtain ⟨R, c⟩ := r
      intro ih
      simp only at ih ⊢
      unfold fillGo
      have p4 : (put4 m).length = 4 := put4_len m
      have q1 : (put4 m ++ (s.getD m [] ++ R)).take 4 = put4 m := by rw [← p4]; exact List.take_left
      have q2 : (put4 m ++ (s.getD m [] ++ R)).drop 4 = s.getD m [] ++ R := by rw [← p4]; exact List.drop_left
      have q3 : (s.getD m [] ++ R).take 64 = s.getD m [] := by rw [← h64]; exact List.take_left
      have q4 : (put4 m ++ (s.getD m [] ++ R)).drop 68 = R := by
        rw [show 68 = 4 + 64 from rfl, ← List.drop_drop, q2, ← h64]
        exact List.drop_left
      rw [if_neg (by simp only [List.length_append, p4, h64]; omega), q1, q2, q3, q4, be_put4 m (by omega), if_neg, ih]
      rintro (x | x | x)
      · omega
      · omega
      · rw [hz] at x; cases x
theorem rintV_put (n : Nat) (hn : n < 4294967296) (l : List UInt8) : rintV (put4 n ++ l) = (n, l, false) := by
  unfold rintV
  have p4 : (put4 n).length = 4 := put4_len n
  have q1 : (put4 n ++ l).take 4 = put4 n := by rw [← p4]; exact List.take_left
  have q2 : (put4 n ++ l).drop 4 = l := by rw [← p4]; exact List.drop_left
  rw [if_neg (by simp only [List.length_append, p4]; omega), q1, q2, be_put4 n hn]
/-- What is loaded from the image of sure blocks has just these. -/
theorem load_back {s : List (List UInt8)} (hs : ∀ l, l ∈ s → l.length = 64) (h1 : 1 ≤ s.length) (hle : s.length ≤ 16384) : loadP (imageP s) = some { PDisk.new s.length with sure := s } := by
  have hf := imgUp_few hs s.length (Nat.le_refl _)
  have hu := imgUp_from s s.length 0
  rw [Nat.zero_add] at hu
  have hu' : imgUp s s.length = imgFrom s 0 s.length := by
    rw [hu]
    simp [imgUp]
  unfold loadP imageP
  rw [rintV_put _ (by omega)]
  simp only
  rw [rintV_put _ (by omega)]
  simp only
  unfold loadGo
  rw [if_neg (by omega), hu', fill_from hs hle s.length 0 _ (-1) (by omega) (by simp [PDisk.new]) (fun j hj => by omega) (fun j _ hj => new_zero _ _ hj) (by omega)]
  simp
theorem image_len {s : List (List UInt8)} (hs : ∀ l, l ∈ s → l.length = 64) (hle : s.length ≤ 16384) : (imageP s).length ≤ 8 + 68 * s.length := by
  have hf := imgUp_few hs s.length (Nat.le_refl _)
  unfold imageP
  simp only [List.length_append, put4_len]
  omega
end Go.Proofs.Ytfkdoinlbdcaaaa

/- Behind a crash, plainly: each block has its new bytes as far as they are kept, and its sure ones behind. -/
import Derived.Test.YtfkdoinlbdcaaaaCalm
import Derived.Test.YtfkdoinlbdcaaaaLives
namespace Go.Proofs.Ytfkdoinlbdcaaaa
open Go.RowKit

theorem len63 {n : Nat} (h : n ≤ maxLen) : (n : Int) ≤ 9223372036854775807 := by simp only [maxLen] at h; omega
/-- How many new bytes of block i are kept: what the last pair says of it. -/
def lastN (l : List (Int × Int)) (i : Nat) : Int := l.foldl (fun n p => if p.1 = (i : Int) then p.2 else n) 0
theorem lastN_succ (l : List (Int × Int)) (k : Nat) (h : k < l.length) (i : Nat) : lastN (l.take (k + 1)) i = if l[k].1 = (i : Int) then l[k].2 else lastN (l.take k) i := by
  unfold lastN
  rw [List.take_succ_eq_append_getElem h, List.foldl_append]
  rfl
theorem lastN_from (l : List (Int × Int)) (i : Nat) : ∀ (z : Int), (∀ p, p ∈ l → p.1 ≠ (i : Int)) → l.foldl (fun n p => if p.1 = (i : Int) then p.2 else n) z = z := by
  induction l with
  | nil => intro z _; rfl
  | cons p l ih =>
    intro z h
    rw [List.foldl_cons, if_neg (h p (by simp))]
    exact ih z (fun q hq => h q (List.mem_cons_of_mem _ hq))

namespace PDisk
theorem write_sure (d : PDisk) (i : Int) (l : List UInt8) : (d.write i l).2.sure = d.sure := by
  unfold PDisk.write
  split
  · rfl
  · split
    · rfl
    · split
      · exact d.goes_sure
      · exact d.goes_sure
theorem synced_now' (d : PDisk) (i : Nat) : d.synced.now (i : Int) = d.synced.sure.getD i [] := by
  simp [PDisk.now, PDisk.synced]
theorem keepsGo_seen (d : PDisk) : ∀ (l : List (Int × Int)) (seen : List Int), d.keepsGo seen l = true → ∀ p, p ∈ l → p.1 ∉ seen
  | [], _, _, p, hp => by simp at hp
  | q :: r, seen, h, p, hp => by
    unfold keepsGo at h
    split at h
    · cases h
    · rename_i hc
      rcases List.mem_cons.1 hp with rfl | hp
      · exact fun hx => hc (.inr (.inl hx))
      · exact fun hx => keepsGo_seen d r (q.1 :: seen) h p hp (List.mem_cons_of_mem _ hx)
theorem getD_set_self {α : Type} (s : List α) (i : Nat) (v z : α) (h : i < s.length) : (s.set i v).getD i z = v := by
  simp [List.getD_eq_getElem?_getD, h]
theorem getD_set_other {α : Type} (s : List α) (i j : Nat) (v z : α) (h : i ≠ j) : (s.set i v).getD j z = s.getD j z := by
  simp [List.getD_eq_getElem?_getD, h]
theorem foldl_untouched (d : PDisk) (i : Nat) : ∀ (l : List (Int × Int)) (s : List (List UInt8)), (∀ p, p ∈ l → 0 ≤ p.1) → (∀ p, p ∈ l → p.1 ≠ (i : Int)) → (l.foldl d.crashOne s).getD i [] = s.getD i []
  | [], s, _, _ => rfl
  | p :: l, s, h0, h => by
    rw [List.foldl_cons, foldl_untouched d i l _ (fun q hq => h0 q (List.mem_cons_of_mem _ hq)) (fun q hq => h q (List.mem_cons_of_mem _ hq))]
    unfold crashOne
    have hp := h p (by simp)
    have hp0 := h0 p (by simp)
    exact getD_set_other _ _ _ _ _ (by omega)
theorem crash_at (d : PDisk) (hd : d.Ok) (i : Nat) (hi : i < d.sure.length) : ∀ (l : List (Int × Int)) (seen : List Int) (s : List (List UInt8)), d.keepsGo seen l = true → s.length = d.sure.length → s.getD i [] = d.sure.getD i [] →
    (l.foldl d.crashOne s).getD i [] = (d.now i).take (lastN l i).toNat ++ (d.sure.getD i []).drop (lastN l i).toNat ∧ 0 ≤ lastN l i ∧ lastN l i ≤ 64
  | [], seen, s, _, _, hs => by
    refine ⟨?_, Int.le_refl 0, (by decide : (0 : Int) ≤ 64)⟩
    show s.getD i [] = _
    rw [hs]
    simp [lastN]
  | p :: l, seen, s, h, hlen, hs => by
    have hall := keepsGo_all d (p :: l) seen h
    have hp := hall p (by simp)
    have hdom := hd.dom p.1 hp.1
    have hrest : d.keepsGo (p.1 :: seen) l = true := by
      unfold keepsGo at h
      split at h
      · cases h
      · exact h
    by_cases hpi : p.1 = (i : Int)
    · have hnot : ∀ q, q ∈ l → q.1 ≠ (i : Int) := fun q hq e => keepsGo_seen d l _ hrest q hq (by rw [e, hpi]; simp)
      have e1 : lastN (p :: l) i = p.2 := by
        unfold lastN
        rw [List.foldl_cons, if_pos hpi]
        exact lastN_from l i _ hnot
      rw [e1]
      refine ⟨?_, hp.2.1, hp.2.2⟩
      rw [List.foldl_cons, foldl_untouched d i l _ (fun q hq => (hd.dom q.1 ((hall q (List.mem_cons_of_mem _ hq)).1)).1) hnot]
      unfold crashOne
      have e2 : p.1.toNat = i := by omega
      rw [e2, getD_set_self _ _ _ _ (by omega), hs, hpi]
      congr 2
      unfold now
      cases hl : d.loose i with
      | none => rw [hpi] at hp; exact absurd hl hp.1
      | some b => rfl
    · have e1 : lastN (p :: l) i = lastN l i := by
        unfold lastN
        rw [List.foldl_cons, if_neg hpi]
      rw [e1, List.foldl_cons]
      refine crash_at d hd i hi l _ _ hrest ?_ ?_
      · rw [crashOne_len, hlen]
      · rw [← hs]
        unfold crashOne
        exact getD_set_other _ _ _ _ _ (by omega)
end PDisk

theorem kepts_at {w w' : World} {a : Option Addr} {c n : Nat} {l : List (Int × Int)} (h : Slc w 2 (.slice a n c) l.length (keptCells l)) (hk : Kept [] w w') (k : Nat) (hlt : k < l.length) :
    ∃ g o, a = some ⟨g, o, none⟩ ∧ w'.cell? ⟨g, o + k * 2, none⟩ = some (.int .i64 l[k].1) ∧ w'.cell? ⟨g, o + k * 2 + 1, none⟩ = some (.int .i64 l[k].2) := by
  have h1 := h.kept0 hk
  rcases h1.2 with ⟨_, h0⟩ | ⟨h0, _⟩ | ⟨g, o, cap, hsv, _, _, hrow⟩
  · omega
  · omega
  simp only [Value.slice.injEq] at hsv
  obtain ⟨rfl, rfl, rfl⟩ := hsv
  obtain ⟨g1, g2⟩ := keptCells_get l k hlt
  refine ⟨g, o, rfl, ?_, ?_⟩
  · have := hrow.cells _ _ g1
    rw [Nat.mul_comm] at this
    exact this
  · have := hrow.cells _ _ g2
    rw [Nat.mul_comm] at this
    exact this

theorem str_cut (a b : List UInt8) (n : Nat) (hb : b.length = 64) : str (a.take n ++ b.drop n) = (str a).extract 0 n ++ (str b).extract n 64 := by
  apply ByteArray.ext
  apply Array.ext'
  simp [str, ByteArray.data_append, ByteArray.data_extract, ← hb]
  rw [List.take_of_length_le (by rw [List.length_drop]; omega)]
end Go.Proofs.Ytfkdoinlbdcaaaa

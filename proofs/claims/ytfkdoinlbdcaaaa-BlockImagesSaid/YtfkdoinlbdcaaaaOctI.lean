/- Image: a disk's sure blocks. -/
import Derived.Test.YtfkdoinlbdcaaaaOctH
namespace Go.Proofs.Ytfkdoinlbdcaaaa
open Go.RowKit

def imgUp (s : List (List UInt8)) : Nat → List UInt8 × Nat
  | 0 => ([], 0)
  | j + 1 => if allZero (s.getD j []) = true then imgUp s j else ((imgUp s j).1 ++ (put4 j ++ s.getD j []), (imgUp s j).2 + 1)
def imageP (s : List (List UInt8)) : List UInt8 := put4 s.length ++ (put4 (imgUp s s.length).2 ++ (imgUp s s.length).1)
theorem imgUp_yes {s : List (List UInt8)} {j : Nat} (h : allZero (s.getD j []) = true) : imgUp s (j + 1) = imgUp s j := by
  conv => lhs; unfold imgUp
  rw [if_pos h]
theorem imgUp_no {s : List (List UInt8)} {j : Nat} (h : allZero (s.getD j []) = false) : imgUp s (j + 1) = ((imgUp s j).1 ++ (put4 j ++ s.getD j []), (imgUp s j).2 + 1) := by
  conv => lhs; unfold imgUp
  rw [if_neg (by rw [h]; decide)]
theorem imgUp_few {s : List (List UInt8)} (hs : ∀ l, l ∈ s → l.length = 64) : ∀ j, j ≤ s.length → (imgUp s j).2 ≤ j ∧ (imgUp s j).1.length = 68 * (imgUp s j).2
  | 0, _ => ⟨Nat.le_refl _, rfl⟩
  | j + 1, h => by
    have ih := imgUp_few hs j (by omega)
    have hj : (s.getD j []).length = 64 := by
      rw [List.getD_eq_getElem?_getD, List.getElem?_eq_getElem (by omega)]
      exact hs _ (List.getElem_mem _)
    cases hz : allZero (s.getD j []) with
    | true => rw [imgUp_yes hz]; exact ⟨by omega, ih.2⟩
    | false =>
      rw [imgUp_no hz]
      refine ⟨by simp only; omega, ?_⟩
      simp only [List.length_append, hj, put4_len, ih.2]
      omega

theorem NewBytes.later {w w' u : World} {v : Value} {l : List UInt8} (h : NewBytes u w' v l) (hs : w.heap.size ≤ u.heap.size) : NewBytes w w' v l := ⟨h.1, fun g hg => ⟨Nat.le_trans hs (h.2 g hg).1, (h.2 g hg).2⟩⟩
set_option maxRecDepth 10000 in
theorem image_nil (w : World) : Calls Try.prog 27 #[.pointer none] w fun e w' => e = .returned (.slice none 0 0) ∧ w = w' := by
  go_enter Try.func27, Try.ntmps27
  go_wp2
  go_ret
  exact ⟨rfl, rfl⟩
set_option maxRecDepth 10000 in
set_option maxHeartbeats 3200000 in
theorem image_any {w : World} {b sb scap mb cnt : Nat} {svals : List Value} {M : Lit → Option Value} {d : PDisk} (h : DiskAt w b sb scap mb cnt svals M d) :
    Calls Try.prog 27 #[.pointer (some ⟨b, 0, none⟩)] w fun e w' => ∃ v, e = .returned v ∧ NewBytes w w' v (imageP d.sure) ∧ Kept [] w w' := by
  have hpos := h.ok.pos
  have hle := h.ok.le
  have hfew := Lib.hid (imgUp_few h.ok.s64)
  have H := Lib.hid h
  have c0 := h.c0
  have hposI : (1 : Int) ≤ d.sure.length := by omega
  have hleI : (d.sure.length : Int) ≤ 16384 := by omega
  unfold imageP
  clear h
  go_enter Try.func27, Try.ntmps27
  go_wp2_with fail
  go_loopw [3, 4, 20] (fun all c i wr => ∃ (j m n : Nat) (a : Option Addr) (cc : Nat), i = .int .i64 j ∧ j ≤ d.sure.length ∧ c = .int .i64 n ∧ n = (imgUp d.sure j).2 ∧ all = .slice a m cc ∧ m = (imgUp d.sure j).1.length ∧ NewBytes w wr all (imgUp d.sure j).1 ∧ Kept [] w wr) (fun _ _ i _ => d.sure.length - (intOf i).toNat)
  case atStart => exact ⟨0, 0, 0, none, 0, rfl, Nat.zero_le _, rfl, rfl, rfl, rfl, ⟨slc_nil _ _, by simp [vblk]⟩, Kept.refl _ _⟩
  case round =>
    obtain ⟨j, m, n, a, cc, rfl, hj, rfl, hn, rfl, hm, hall, hkr⟩ := hrel
    have HN := Lib.hid hn
    have HM := Lib.hid hm
    have HALL := Lib.hid hall
    have HK := Lib.hid hkr
    have hf := hfew.out j hj
    rw [← hn, ← hm] at hf
    have HF := Lib.hid hf
    have hnj := hf.1
    clear hf
    have HD := Lib.hid (H.out.kept hkr (by simp) (by simp) (by simp) (by simp))
    have c0r := hkr.cell c0 (by simp)
    clear hn hm hall hkr
    by_cases hlt : j < d.sure.length
    · have hltI : (j : Int) < d.sure.length := by omega
      have hjs : j < svals.length := by rw [H.out.len]; exact hlt
      have hdv := HD.out.sure.2 j _ _ (List.getElem?_eq_getElem hjs) (List.getElem?_eq_getElem hlt)
      have hgd : d.sure.getD j [] = d.sure[j] := by rw [List.getD_eq_getElem?_getD, List.getElem?_eq_getElem hlt]; rfl
      have q := HD.out.cell hjs
      have h64 : d.sure[j].length = 64 := H.out.ok.s64 _ (List.getElem_mem _)
      have hy := @imgUp_yes d.sure j
      have hno := @imgUp_no d.sure j
      rw [hgd] at hy hno
      clear hgd
      revert q hdv h64 hy hno
      generalize svals[j] = bvl
      generalize d.sure[j] = B
      intro hdv q h64 hy hno
      obtain ⟨a2, c2, rfl, -, -⟩ := hdv.1.form
      rw [h64] at q hdv
      have HB := Lib.hid hdv
      have H64 := Lib.hid h64
      clear hdv h64
      cases hz : allZero B with
      | true =>
        have HU := Lib.hid (hy hz)
        have HZ := Lib.hid hz
        clear hz hy hno
        go_wp2_with (go_at_call 54; go_loud (refine Calls.mono (blank_any HB.out.1 (by rw [H64.out]; decide)) ?_; rintro e w' ⟨rfl, rfl⟩; rw [HZ.out]))
        case roundEnd => exact ⟨⟨j + 1, m, n, a, cc, by go_num, by omega, rfl, by rw [HU.out]; exact HN.out, rfl, by rw [HU.out]; exact HM.out, by rw [HU.out]; exact HALL.out, HK.out⟩, by simp [intOf]; omega⟩
      | false =>
        have HU := Lib.hid (hno hz)
        have HZ := Lib.hid hz
        have hput : Hid (∀ w, _) := Lib.hid fun w => put_any j w (by omega)
        clear hz hy hno
        go_wp2_with (first
          | (go_at_call 54; go_loud (refine Calls.mono (blank_any HB.out.1 (by rw [H64.out]; decide)) ?_; rintro e w' ⟨rfl, rfl⟩; rw [HZ.out]))
          | (go_at_call 55; refine (hput.out _).mono ?_; rintro e w1 ⟨pv, rfl, hp1, hp2⟩; obtain ⟨a3, c3, rfl, -, -⟩ := hp1.1.form; have HP := Lib.hid hp1; have HK1 := Lib.hid hp2; clear hp1 hp2)
          | (go_at_call 33; refine Calls.mono (concat3 _ _ (.slice a m cc) (.slice a3 (put4 j).length c3) (.slice a2 64 c2) (imgUp d.sure j).1 (put4 j) B _ (row_new _ _ _) (HALL.out.1.kept0 (HK1.out.alloc _)) (HP.out.1.kept0 ((Kept.refl [] _).alloc _)) (HB.out.1.kept0 (HK1.out.alloc _)) (by rw [← HM.out, H64.out, put4_len]; have := HF.out; simp only [lim]; omega)) ?_; rintro e w2 ⟨v', rfl, hn2, hk2⟩; obtain ⟨a4, c4, rfl, -, -⟩ := hn2.1.form; have HN2 := Lib.hid hn2; have HK2 := Lib.hid ((HK1.out.alloc _).then hk2); clear hn2 hk2))
        case roundEnd => 
          refine ⟨⟨j + 1, ((imgUp d.sure j).1 ++ (put4 j ++ B)).length, n + 1, a4, c4, by go_num, by omega, by go_num, by rw [HU.out, ← HN.out], by simp only [List.length_append], by rw [HU.out], ?_, HK.out.then HK2.out⟩, by simp [intOf]; omega⟩
          rw [HU.out]
          have := NewBytes.later HN2.out (w := w) (Nat.le_trans HK.out.size (HK1.out.alloc _).size)
          simpa only [List.length_append] using this
    · obtain rfl : j = d.sure.length := by omega
      have hput1 : Hid (∀ w, _) := Lib.hid fun w => put_any d.sure.length w (by omega)
      have hput2 : Hid (∀ w, _) := Lib.hid fun w => put_any n w (by omega)
      go_wp2_with (first
        | (go_at_call 55; refine (hput1.out _).mono ?_; rintro e w1 ⟨pv, rfl, hp1, hp2⟩; clear hput1; obtain ⟨a3, c3, rfl, -, -⟩ := hp1.1.form; have HP := Lib.hid hp1; have HK1 := Lib.hid hp2; clear hp1 hp2)
        | (go_at_call 55; refine (hput2.out _).mono ?_; rintro e w2 ⟨pv, rfl, hp1, hp2⟩; clear hput2; obtain ⟨a4, c4, rfl, -, -⟩ := hp1.1.form; have HP2 := Lib.hid hp1; have HK2 := Lib.hid hp2; clear hp1 hp2)
        | (go_at_call 33; refine Calls.mono (concat3 _ _ (.slice a3 (put4 d.sure.length).length c3) (.slice a4 (put4 n).length c4) (.slice a m cc) (put4 d.sure.length) (put4 n) (imgUp d.sure d.sure.length).1 _ (row_new _ _ _) (HP.out.1.kept0 (HK2.out.alloc _)) (HP2.out.1.kept0 ((Kept.refl [] _).alloc _)) (HALL.out.1.kept0 ((HK1.out.trans' HK2.out).alloc _)) (by rw [← HM.out, put4_len, put4_len]; have := HF.out; simp only [lim]; omega)) ?_; rintro e w3 ⟨v', rfl, hn3, hk3⟩; have HN3 := Lib.hid hn3; have HK3 := Lib.hid (((HK.out.trans' (HK1.out.trans' HK2.out)).alloc _).then hk3); have hsz := Lib.hid (((HK.out.trans' (HK1.out.trans' HK2.out)).alloc (.cells #[.slice a3 (put4 d.sure.length).length c3, .slice a4 (put4 n).length c4, .slice a m cc] 30)).size); clear hn3 hk3))
      go_ret
      rw [← HN.out]
      exact ⟨_, rfl, HN3.out.later hsz.out, HK3.out⟩
end Go.Proofs.Ytfkdoinlbdcaaaa

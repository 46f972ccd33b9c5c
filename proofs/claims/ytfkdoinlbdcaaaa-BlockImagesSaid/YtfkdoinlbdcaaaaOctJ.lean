/- Same: two disks' sure blocks. -/
import Derived.Test.YtfkdoinlbdcaaaaOctI
namespace Go.Proofs.Ytfkdoinlbdcaaaa
open Go.RowKit

theorem str_beq (l m : List UInt8) : ((str l).toList == (str m).toList) = decide (l = m) := by
  rw [ByteArray.toList_eq, ByteArray.toList_eq, str_list, str_list]
  by_cases h : l = m
  · subst h; simp
  · simp [h]
set_option maxRecDepth 10000 in
theorem bytesEqual_any {w : World} {u v : Value} {l m : List UInt8} (hu : Bytes w u l) (hv : Bytes w v m) : Calls Try.prog 57 #[u, v] w fun e w' => e = .returned (.bool (decide (l = m))) ∧ w = w' := by
  have cu : (convert 30 9 u).run Try.prog w = .ok (.string (str l)) w := Bytes.toStr hu
  have cv : (convert 30 9 v).run Try.prog w = .ok (.string (str m)) w := Bytes.toStr hv
  rw [← str_beq l m]
  clear hu hv
  revert cu cv
  generalize str l = s
  generalize str m = s'
  intro cu cv
  go_enter Try.func57, Try.ntmps57
  go_wp2_with fail
  go_ret
  exact ⟨rfl, rfl⟩

theorem take_eq_succ {α : Type} {s t : List α} {j : Nat} (h1 : j < s.length) (h2 : j < t.length) (h : s.take j = t.take j) (he : s[j] = t[j]) : s.take (j + 1) = t.take (j + 1) := by
  rw [List.take_succ_eq_append_getElem h1, List.take_succ_eq_append_getElem h2, h, he]
set_option maxRecDepth 10000 in
set_option maxHeartbeats 1600000 in
theorem equalFunc_any {w : World} {b b2 scap scap2 : Nat} {sv tv : List Value} {s t : List (List UInt8)} (hs : w.ownsRow 0 30 1 (.slice (some ⟨b, 0, none⟩) s.length scap) s.length sv) (ht : w.ownsRow 0 30 1 (.slice (some ⟨b2, 0, none⟩) t.length scap2) t.length tv)
    (hsv : All2 (Data w) sv s) (htv : All2 (Data w) tv t) (hsl : s.length ≤ 16384) (htl : t.length ≤ 16384) : Calls Try.prog 56 #[.slice (some ⟨b, 0, none⟩) s.length scap, .slice (some ⟨b2, 0, none⟩) t.length scap2, .func (.func 57) #[] #[]] w fun e w' => e = .returned (.bool (decide (s = t))) ∧ w = w' := by
  have HS := Lib.hid hs
  have HT := Lib.hid ht
  have HSV := Lib.hid hsv
  have HTV := Lib.hid htv
  have h1 : (s.length : Int) ≤ 16384 := by omega
  have h2 : (t.length : Int) ≤ 16384 := by omega
  clear hs ht hsv htv
  by_cases hlen : s.length = t.length
  · rw [hlen] at HS ⊢
    clear h1
    have HLEN := Lib.hid hlen
    clear hlen
    go_enter Try.func56, Try.ntmps56
    go_wp2_with fail
    go_loopw [17] (fun i wr => ∃ j : Nat, i = .int .i64 j ∧ j ≤ t.length ∧ s.take j = t.take j ∧ wr = w) (fun i _ => t.length - (intOf i).toNat)
    case atStart => exact ⟨0, rfl, Nat.zero_le _, rfl, rfl⟩
    case round =>
      obtain ⟨j, rfl, hj, htk, rfl⟩ := hrel
      have HTK := Lib.hid htk
      clear htk
      by_cases hlt : j < t.length
      · have hltI : (j : Int) < t.length := by omega
        have hls : j < s.length := by rw [HLEN.out]; exact hlt
        have hj1 : j < sv.length := by rw [HSV.out.1]; exact hls
        have hj2 : j < tv.length := by rw [HTV.out.1]; exact hlt
        have d1 := HSV.out.2 j _ _ (List.getElem?_eq_getElem hj1) (List.getElem?_eq_getElem hls)
        have d2 := HTV.out.2 j _ _ (List.getElem?_eq_getElem hj2) (List.getElem?_eq_getElem hlt)
        have q1 := HS.out.cellAt j (by omega)
        have q2 := HT.out.cellAt j (by omega)
        rw [List.getElem?_eq_getElem hj1] at q1
        rw [List.getElem?_eq_getElem hj2] at q2
        have hc := Lib.hid (bytesEqual_any d1.1 d2.1)
        have HY := Lib.hid (take_eq_succ hls hlt HTK.out)
        have HN : Hid (¬s[j] = t[j] → decide (s = t) = false) := Lib.hid (by intro h; simp; intro e; subst e; exact h rfl)
        revert q1 q2 hc HY HN
        generalize sv[j] = v1
        generalize tv[j] = v2
        generalize s[j] = l1
        generalize t[j] = l2
        intro q1 q2 hc HY HN
        clear d1 d2
        by_cases he : l1 = l2
        · subst he
          rw [show decide (l1 = l1) = true by simp] at hc
          have HT1 := Lib.hid (HY.out rfl)
          go_wp2_with (go_at_call 57; refine hc.out.mono ?_; rintro e w' ⟨rfl, rfl⟩)
          case roundEnd => exact ⟨⟨j + 1, by go_num, by omega, HT1.out, trivial⟩, by simp [intOf]; omega⟩
        · rw [show decide (l1 = l2) = false by simpa using he] at hc
          have HN1 := Lib.hid (HN.out he)
          clear he
          go_wp2_with (go_at_call 57; refine hc.out.mono ?_; rintro e w' ⟨rfl, rfl⟩)
          go_ret
          rw [HN1.out]
          exact ⟨rfl, rfl⟩
      · obtain rfl : j = t.length := by omega
        have he : Hid (decide (s = t) = true) := Lib.hid (by
          have := HTK.out
          rw [List.take_length, List.take_of_length_le (by rw [HLEN.out]; exact Nat.le_refl _)] at this
          simpa using this)
        go_wp2_with fail
        go_ret
        rw [he.out]
        exact ⟨rfl, rfl⟩
  · have hn : decide (s = t) = false := by simp; intro e; exact hlen (by rw [e])
    have hI : ((s.length : Int) != (t.length : Int)) = true := by simp; omega
    rw [hn]
    clear hn
    go_enter Try.func56, Try.ntmps56
    go_wp2_with fail
    go_ret
    exact ⟨rfl, rfl⟩

set_option maxRecDepth 10000 in
set_option maxHeartbeats 1600000 in
theorem diskSame_any {w : World} {b c : Nat} {F G : List Nat} {d x : PDisk} (h : DiskRep w b F d) (g : DiskRep w c G x) : Calls Try.prog 28 #[.pointer (some ⟨b, 0, none⟩), .pointer (some ⟨c, 0, none⟩)] w fun e w' => e = .returned (.bool (decide (d.sure = x.sure))) ∧ Kept [] w w' := by
  obtain ⟨sb, scap, mb, cnt, svals, M, rfl, h⟩ := h
  obtain ⟨tb, tcap, nb, cnt2, tvals, M2, rfl, g⟩ := g
  have c0 := h.c0
  have c1 := g.c0
  have he : Hid (Calls _ _ _ w.drew _) := Lib.hid (by
    have k : Kept [] w w.drew := (Kept.refl [] w).drew
    exact equalFunc_any (row_kept h.row k (by simp)) (row_kept g.row k (by simp)) (h.sure.mono fun _ _ _ r => r.kept k (by simp)) (g.sure.mono fun _ _ _ r => r.kept k (by simp)) h.ok.le g.ok.le)
  clear h g
  go_enter Try.func28, Try.ntmps28
  go_wp2
  have hSS : (fun w' : World => w'.cell? ⟨b, 0, none⟩ = some (.slice (some ⟨sb, 0, none⟩) d.sure.length scap) ∧ w'.cell? ⟨c, 0, none⟩ = some (.slice (some ⟨tb, 0, none⟩) x.sure.length tcap)) w.drew := ⟨c0, c1⟩
  refine wp_region_last' (n := 18) (fun w' : World => w'.cell? ⟨b, 0, none⟩ = some (.slice (some ⟨sb, 0, none⟩) d.sure.length scap) ∧ w'.cell? ⟨c, 0, none⟩ = some (.slice (some ⟨tb, 0, none⟩) x.sure.length tcap)) 18 (by kernel_rfl) (by kernel_rfl) ?_
  change wpAnyT _ _ _ _ _ _ _ _ _ w.drew
  have HK : Hid (Kept [] w w.drew) := Lib.hid (Kept.refl [] w).drew
  clear c0 c1
  revert he hSS HK
  generalize w.drew = W
  intro he hSS HK
  refine wpAnyT_start ?_
  intro O R hO hR
  have hQp : ∀ c a (d : Nat) v w, R (.panic c) (a.put (some d) v) w → R (.panic c) a w := by subst hR; exact fun _ _ _ _ _ h => h
  refine wpAnyT_take' (i := 0) (v := ?_) hO rfl rfl (by kernel_rfl) (by kernel_rfl) (by kernel_rfl) (by kernel_rfl) hQp (Or.inl ⟨by kernel_rfl, fun w hSw => ?_⟩) hSS ?_
  rotate_left
  · obtain ⟨s1, s2⟩ := hSw; go_simp; try with_reducible rfl
  try simp only [Act.put, List.setIfInBounds_toArray, List.set_cons_zero, List.set_cons_succ]
  refine wpAnyT_take' (i := 1) (v := ?_) hO rfl rfl (by kernel_rfl) (by kernel_rfl) (by kernel_rfl) (by kernel_rfl) hQp (Or.inl ⟨by kernel_rfl, fun w hSw => ?_⟩) hSS ?_
  rotate_left
  · obtain ⟨s1, s2⟩ := hSw; go_simp; try with_reducible rfl
  try simp only [Act.put, List.setIfInBounds_toArray, List.set_cons_zero, List.set_cons_succ]
  refine wpAnyT_take' (i := 2) (v := ?_) hO rfl rfl (by kernel_rfl) (by kernel_rfl) (by kernel_rfl) (by kernel_rfl) hQp (Or.inl ⟨by kernel_rfl, fun w hSw => ?_⟩) hSS ?_
  rotate_left
  · obtain ⟨s1, s2⟩ := hSw; go_simp; try with_reducible rfl
  try simp only [Act.put, List.setIfInBounds_toArray, List.set_cons_zero, List.set_cons_succ]
  refine wpAnyT_take' (i := 3) (v := ?_) hO rfl rfl (by kernel_rfl) (by kernel_rfl) (by kernel_rfl) (by kernel_rfl) hQp (Or.inl ⟨by kernel_rfl, fun w hSw => ?_⟩) hSS ?_
  rotate_left
  · obtain ⟨s1, s2⟩ := hSw; go_simp; try with_reducible rfl
  try simp only [Act.put, List.setIfInBounds_toArray, List.set_cons_zero, List.set_cons_succ]
  refine wpAnyT_take' (i := 4) (v := ?_) hO rfl rfl (by kernel_rfl) (by kernel_rfl) (by kernel_rfl) (by kernel_rfl) hQp (Or.inl ⟨by kernel_rfl, fun w hSw => ?_⟩) hSS ?_
  rotate_left
  · obtain ⟨s1, s2⟩ := hSw; go_simp; try with_reducible rfl
  try simp only [Act.put, List.setIfInBounds_toArray, List.set_cons_zero, List.set_cons_succ]
  refine wpAnyT_take' (i := 5) (v := ?_) hO rfl rfl (by kernel_rfl) (by kernel_rfl) (by kernel_rfl) (by kernel_rfl) hQp (Or.inl ⟨by kernel_rfl, fun w hSw => ?_⟩) hSS ?_
  rotate_left
  · obtain ⟨s1, s2⟩ := hSw; go_simp; try with_reducible rfl
  try simp only [Act.put, List.setIfInBounds_toArray, List.set_cons_zero, List.set_cons_succ]
  refine wpAnyT_take' (i := 6) (v := ?_) hO rfl rfl (by kernel_rfl) (by kernel_rfl) (by kernel_rfl) (by kernel_rfl) hQp (Or.inl ⟨by kernel_rfl, fun w hSw => ?_⟩) hSS ?_
  rotate_left
  · obtain ⟨s1, s2⟩ := hSw; go_simp; try with_reducible rfl
  try simp only [Act.put, List.setIfInBounds_toArray, List.set_cons_zero, List.set_cons_succ]
  refine wpAnyT_take' (i := 7) (v := ?_) hO rfl rfl (by kernel_rfl) (by kernel_rfl) (by kernel_rfl) (by kernel_rfl) hQp (Or.inl ⟨by kernel_rfl, fun w hSw => ?_⟩) hSS ?_
  rotate_left
  · obtain ⟨s1, s2⟩ := hSw; go_simp; try with_reducible rfl
  try simp only [Act.put, List.setIfInBounds_toArray, List.set_cons_zero, List.set_cons_succ]
  refine wpAnyT_take' (i := 8) (v := ?_) hO rfl rfl (by kernel_rfl) (by kernel_rfl) (by kernel_rfl) (by kernel_rfl) hQp (Or.inl ⟨by kernel_rfl, fun w hSw => ?_⟩) hSS ?_
  rotate_left
  · obtain ⟨s1, s2⟩ := hSw; go_simp; try with_reducible rfl
  try simp only [Act.put, List.setIfInBounds_toArray, List.set_cons_zero, List.set_cons_succ]
  refine wpAnyT_take' (i := 9) (v := ?_) hO rfl rfl (by kernel_rfl) (by kernel_rfl) (by kernel_rfl) (by kernel_rfl) hQp (Or.inl ⟨by kernel_rfl, fun w hSw => ?_⟩) hSS ?_
  rotate_left
  · obtain ⟨s1, s2⟩ := hSw; go_simp; try with_reducible rfl
  try simp only [Act.put, List.setIfInBounds_toArray, List.set_cons_zero, List.set_cons_succ]
  refine wpAnyT_take' (i := 10) (v := ?_) hO rfl rfl (by kernel_rfl) (by kernel_rfl) (by kernel_rfl) (by kernel_rfl) hQp (Or.inl ⟨by kernel_rfl, fun w hSw => ?_⟩) hSS ?_
  rotate_left
  · obtain ⟨s1, s2⟩ := hSw; go_simp; try with_reducible rfl
  try simp only [Act.put, List.setIfInBounds_toArray, List.set_cons_zero, List.set_cons_succ]
  refine wpAnyT_take' (i := 11) (v := ?_) hO rfl rfl (by kernel_rfl) (by kernel_rfl) (by kernel_rfl) (by kernel_rfl) hQp (Or.inl ⟨by kernel_rfl, fun w hSw => ?_⟩) hSS ?_
  rotate_left
  · obtain ⟨s1, s2⟩ := hSw; go_simp; try with_reducible rfl
  try simp only [Act.put, List.setIfInBounds_toArray, List.set_cons_zero, List.set_cons_succ]
  refine wpAnyT_take' (i := 12) (v := ?_) hO rfl rfl (by kernel_rfl) (by kernel_rfl) (by kernel_rfl) (by kernel_rfl) hQp (Or.inl ⟨by kernel_rfl, fun w hSw => ?_⟩) hSS ?_
  rotate_left
  · obtain ⟨s1, s2⟩ := hSw; go_simp; try with_reducible rfl
  try simp only [Act.put, List.setIfInBounds_toArray, List.set_cons_zero, List.set_cons_succ]
  refine wpAnyT_take' (i := 13) (v := ?_) hO rfl rfl (by kernel_rfl) (by kernel_rfl) (by kernel_rfl) (by kernel_rfl) hQp (Or.inl ⟨by kernel_rfl, fun w hSw => ?_⟩) hSS ?_
  rotate_left
  · obtain ⟨s1, s2⟩ := hSw; go_simp; try with_reducible rfl
  try simp only [Act.put, List.setIfInBounds_toArray, List.set_cons_zero, List.set_cons_succ]
  refine wpAnyT_take' (i := 14) (v := ?_) hO rfl rfl (by kernel_rfl) (by kernel_rfl) (by kernel_rfl) (by kernel_rfl) hQp (Or.inl ⟨by kernel_rfl, fun w hSw => ?_⟩) hSS ?_
  rotate_left
  · obtain ⟨s1, s2⟩ := hSw; go_simp; try with_reducible rfl
  try simp only [Act.put, List.setIfInBounds_toArray, List.set_cons_zero, List.set_cons_succ]
  refine wpAnyT_one' (i := 15) hO rfl (by kernel_rfl) (by kernel_rfl) (fun K hK => ?_)
  go_simp
  refine he.out.mono ?_
  rintro e w' ⟨rfl, rfl⟩
  refine hK _ _ (.inr hSS) ?_
  clear hK K
  try simp only [Act.put, List.setIfInBounds_toArray, List.set_cons_zero, List.set_cons_succ]
  refine wpAnyT_take' (i := 16) (v := ?_) hO rfl rfl (by kernel_rfl) (by kernel_rfl) (by kernel_rfl) (by kernel_rfl) hQp (Or.inl ⟨by kernel_rfl, fun w hSw => ?_⟩) hSS ?_
  rotate_left
  · obtain ⟨s1, s2⟩ := hSw; go_simp; try with_reducible rfl
  try simp only [Act.put, List.setIfInBounds_toArray, List.set_cons_zero, List.set_cons_succ]
  refine wpAnyT_take' (i := 17) (v := ?_) hO rfl rfl (by kernel_rfl) (by kernel_rfl) (by kernel_rfl) (by kernel_rfl) hQp (Or.inl ⟨by kernel_rfl, fun w hSw => ?_⟩) hSS ?_
  rotate_left
  · obtain ⟨s1, s2⟩ := hSw; go_simp; try with_reducible rfl
  try simp only [Act.put, List.setIfInBounds_toArray, List.set_cons_zero, List.set_cons_succ]
  refine wpAnyT_done' hO (by kernel_rfl) ?_ _
  subst hR
  try clear hQp hO O
  go_wp2
  go_ret
  exact ⟨rfl, HK.out⟩
set_option maxRecDepth 10000 in
theorem diskSame_nil (v : Value) (w : World) : Calls Try.prog 28 #[.pointer none, v] w fun e w' => e = .returned (.bool false) ∧ Kept [] w w' := by
  go_enter Try.func28, Try.ntmps28
  go_wp2
  go_quiet (fail)
  go_wp2
  go_ret
  exact ⟨rfl, (Kept.refl [] w).drewN _⟩
set_option maxRecDepth 10000 in
theorem diskSame_none (b : Nat) (w : World) : Calls Try.prog 28 #[.pointer (some ⟨b, 0, none⟩), .pointer none] w fun e w' => e = .returned (.bool false) ∧ Kept [] w w' := by
  go_enter Try.func28, Try.ntmps28
  go_wp2
  go_quiet (fail)
  go_wp2
  go_ret
  exact ⟨rfl, (Kept.refl [] w).drewN _⟩
end Go.Proofs.Ytfkdoinlbdcaaaa

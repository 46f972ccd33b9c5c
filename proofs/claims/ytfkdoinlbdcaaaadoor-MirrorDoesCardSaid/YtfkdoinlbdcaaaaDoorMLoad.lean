/- Load, of the mirror and of the document's; Forget. -/
import Derived.Test.YtfkdoinlbdcaaaaDoorMRefG
namespace Go.Proofs.YtfkdoinlbdcaaaaDoor
open Go.RowKit

def PMir.load (d : PMir) : List PF → Int × PMir
  | [] => (0, d)
  | f :: l => if (d.put f.1 f.2).1 = 0 then PMir.load (d.put f.1 f.2).2 l else d.put f.1 f.2
theorem PMir.load_yes {d : PMir} {f : PF} {l : List PF} (h : (d.put f.1 f.2).1 = 0) : d.load (f :: l) = (d.put f.1 f.2).2.load l := by
  conv => lhs; unfold PMir.load
  rw [if_pos h]
theorem PMir.load_no {d : PMir} {f : PF} {l : List PF} (h : (d.put f.1 f.2).1 ≠ 0) : d.load (f :: l) = d.put f.1 f.2 := by
  conv => lhs; unfold PMir.load
  rw [if_neg h]

/-- Files that came in: rows of a slice, bodies anywhere but in F. -/
structure FilesIn (w : World) (F : List Nat) (v : Value) (rows : List Row2) (fs : List PF) : Prop where
  slc : Slc w 2 v rows.length (fileCells rows)
  out : ∀ g, vblk v = some g → g ∉ F
  all : All2 (fun r f => r.1 = f.1 ∧ Bytes w r.2 f.2 ∧ ∀ g, vblk r.2 = some g → g ∉ F) rows fs
  size : ∀ f, f ∈ fs → f.1.size ≤ maxLen ∧ f.2.length ≤ maxLen
  few : rows.length ≤ 1000
theorem FilesIn.kept {w w' : World} {F : List Nat} {v : Value} {rows : List Row2} {fs : List PF} (h : FilesIn w F v rows fs) (k : Kept F w w') : FilesIn w' F v rows fs :=
  ⟨h.slc.kept k h.out, h.out, h.all.mono fun _ _ _ e => ⟨e.1, e.2.1.kept k e.2.2, e.2.2⟩, h.size, h.few⟩
theorem FilesIn.at {w : World} {F : List Nat} {a : Option Addr} {c : Nat} {rows : List Row2} {fs : List PF} (h : FilesIn w F (.slice a rows.length c) rows fs) (j : Nat) (hj : j < rows.length) :
    ∃ g o, a = some ⟨g, o, none⟩ ∧ ∃ (nm : ByteArray) (ba : Option Addr) (bc : Nat) (l : List UInt8), w.cell? ⟨g, o + j * 2, none⟩ = some (.string nm) ∧ w.cell? ⟨g, o + j * 2 + 1, none⟩ = some (.slice ba l.length bc) ∧ fs.drop j = (nm, l) :: fs.drop (j + 1) ∧ nm.size ≤ maxLen ∧ l.length ≤ maxLen ∧ Bytes w (.slice ba l.length bc) l ∧ (∀ g, vblk (.slice ba l.length bc) = some g → g ∉ F) ∧ g ∉ F := by
  obtain ⟨g, o, e, q0, q1⟩ := files_at h.slc (Kept.refl [] w) j hj
  have hj' : j < fs.length := by rw [← h.all.1]; exact hj
  obtain ⟨e1, e2, e4⟩ := h.all.2 j _ _ (List.getElem?_eq_getElem hj) (List.getElem?_eq_getElem hj')
  obtain ⟨ba, bc, e3, -, -⟩ := e2.form
  obtain ⟨s1, s2⟩ := h.size _ (List.getElem_mem hj')
  rw [e3] at q1 e2 e4
  rw [e1] at q0
  exact ⟨g, o, e, fs[j].1, ba, bc, fs[j].2, q0, q1, List.drop_eq_getElem_cons hj', s1, s2, e2, e4, h.out g (by rw [e]; exact vblk_mk (by omega))⟩

set_option maxRecDepth 10000 in
set_option maxHeartbeats 1600000 in
theorem mload_any {w : World} {b : Nat} {F : List Nat} {d : PMir} (h : MirRep w b F d) {v : Value} {rows : List Row2} {fs : List PF} (hv : FilesIn w F v rows fs) :
    Calls Tryd.prog 27 #[.pointer (some ⟨b, 0, none⟩), v] w fun e w' => e = .returned (.int .i64 (d.load fs).1) ∧ MirRep w' b F (d.load fs).2 ∧ Kept F w w' := by
  have hm := Lib.hid (made_any h)
  obtain ⟨a, c, rfl, -, -⟩ := hv.slc.form
  have H := Lib.hid h
  have HV := Lib.hid hv
  have hfew := hv.few
  have hlI : (rows.length : Int) ≤ 1000 := by omega
  clear h hv
  go_enter Tryd.func27, Tryd.ntmps27
  go_wp2_with (go_at_call 28; refine hm.out.mono ?_; rintro e w' ⟨rfl, rfl⟩)
  go_loopw [13] (fun i wr => ∃ (k : Nat) (dk : PMir), i = .int .i64 k ∧ k ≤ rows.length ∧ d.load fs = dk.load (fs.drop k) ∧ MirRep wr b F dk ∧ Kept F w wr) (fun i _ => rows.length - (intOf i).toNat)
  case atStart => exact ⟨0, d, rfl, Nat.zero_le _, by rw [List.drop_zero], H.out, Kept.refl _ _⟩
  case round =>
    obtain ⟨k, dk, rfl, hk, hld, hr, hkr⟩ := hrel
    have HLD := Lib.hid hld
    have HR := Lib.hid hr
    have HK := Lib.hid hkr
    clear hld hr hkr
    by_cases hlt : k < rows.length
    · have hltI : (k : Int) < rows.length := by omega
      obtain ⟨g, o, rfl, nm, ba, bc, l, q0, q1, hdr, hs1, hs2, hby, -, -⟩ := (HV.out.kept HK.out).at k hlt
      have hs1' := Lib.hid hs1
      have hs2' := Lib.hid hs2
      have HDR := Lib.hid hdr
      have HBY := Lib.hid hby
      have HY : Hid ((dk.put nm l).1 = 0 → d.load fs = (dk.put nm l).2.load (fs.drop (k + 1))) := Lib.hid (fun e => by rw [HLD.out, HDR.out]; exact PMir.load_yes (f := (nm, l)) e)
      have HN : Hid ((dk.put nm l).1 ≠ 0 → d.load fs = dk.put nm l) := Lib.hid (fun e => by rw [HLD.out, HDR.out]; exact PMir.load_no (f := (nm, l)) e)
      have kA : Hid (Kept [] wr (wr.alloc (.cells #[.string nm, .slice ba l.length bc] 58))) := Lib.hid ((Kept.refl [] wr).alloc _)
      have hput := Lib.hid (put_any (HR.out.kept0 kA.out) nm hs1 (HBY.out.kept0 kA.out) hs2)
      have hsz : (l.length : Int) ≤ 9223372036854775807 := by simp only [maxLen] at hs2; omega
      clear hs1 hs2 hdr hby HLD HDR HBY
      revert hput HY HN
      generalize dk.put nm l = r
      obtain ⟨er, dr⟩ := r
      intro HY HN hput
      simp only at hput HY HN
      by_cases he : er = 0
      · subst he
        have HY' := Lib.hid (HY.out rfl)
        clear HY HN
        go_wp2_with (go_at_call 9; refine hput.out.mono ?_; rintro e w1 ⟨rfl, hr1, hk1⟩; have HR1 := Lib.hid hr1; have HK1 : Hid (Kept F w w1) := Lib.hid ((HK.out.then kA.out).trans' hk1); clear hr1 hk1)
        case roundEnd => exact ⟨⟨k + 1, dr, by go_num, by omega, HY'.out, HR1.out, HK1.out⟩, by simp [intOf]; omega⟩
      · have HN' := Lib.hid (HN.out he)
        have he' : (er != 0) = true := by simpa using he
        clear HY HN he
        go_wp2_with (go_at_call 9; refine hput.out.mono ?_; rintro e w1 ⟨rfl, hr1, hk1⟩; have HR1 := Lib.hid hr1; have HK1 : Hid (Kept F w w1) := Lib.hid ((HK.out.then kA.out).trans' hk1); clear hr1 hk1)
        go_ret
        rw [HN'.out]
        exact ⟨rfl, HR1.out, HK1.out⟩
    · obtain rfl : k = rows.length := by omega
      have hz : Hid (d.load fs = (0, dk)) := Lib.hid (by rw [HLD.out, List.drop_of_length_le (by rw [HV.out.all.1]; exact Nat.le_refl _)]; rfl)
      go_wp2_with fail
      go_ret
      rw [hz.out]
      exact ⟨rfl, HR.out, HK.out⟩

set_option maxRecDepth 10000 in
set_option maxHeartbeats 1600000 in
theorem rload_any {w : World} {b : Nat} {F : List Nat} {d : PMir} (h : RMirRep w b F d) {v : Value} {rows : List Row2} {fs : List PF} (hv : FilesIn w F v rows fs) :
    Calls Tryd.prog 38 #[.pointer (some ⟨b, 0, none⟩), v] w fun e w' => e = .returned (.int .i64 (d.load fs).1) ∧ NotePost w b F (d.load fs).2 w' := by
  obtain ⟨a, c, rfl, -, -⟩ := hv.slc.form
  have H := Lib.hid h
  have HV := Lib.hid hv
  have hfew := hv.few
  have hlI : (rows.length : Int) ≤ 1000 := by omega
  clear h hv
  go_enter Tryd.func38, Tryd.ntmps38
  go_wp2_with fail
  go_loopw [5] (fun i wr => ∃ (k : Nat) (dk : PMir), i = .int .i64 k ∧ k ≤ rows.length ∧ d.load fs = dk.load (fs.drop k) ∧ NotePost w b F dk wr) (fun i _ => rows.length - (intOf i).toNat)
  case atStart => exact ⟨0, d, rfl, Nat.zero_le _, by rw [List.drop_zero], F, H.out, Kept.refl _ _, fun k hk => .inl hk⟩
  case round =>
    obtain ⟨k, dk, rfl, hk, hld, hnp⟩ := hrel
    have HLD := Lib.hid hld
    have HP := Lib.hid hnp
    clear hld hnp
    by_cases hlt : k < rows.length
    · have hltI : (k : Int) < rows.length := by omega
      obtain ⟨F1, hr, hkr, hF1⟩ := HP.out
      obtain ⟨g, o, rfl, nm, ba, bc, l, p0, p1, hdr, hs1, hs2, hby0, hbF, hgF⟩ := HV.out.at k hlt
      have q0 := hkr.cell p0 hgF
      have q1 := hkr.cell p1 hgF
      have hby := hby0.kept hkr hbF
      have HPP : Hid (w.cell? ⟨g, o + k * 2, none⟩ = some (.string nm) ∧ w.cell? ⟨g, o + k * 2 + 1, none⟩ = some (.slice ba l.length bc) ∧ g ∉ F) := Lib.hid ⟨p0, p1, hgF⟩
      clear p0 p1 hby0 hbF hgF
      have HDR := Lib.hid hdr
      have HY : Hid ((dk.put nm l).1 = 0 → d.load fs = (dk.put nm l).2.load (fs.drop (k + 1))) := Lib.hid (fun e => by rw [HLD.out, HDR.out]; exact PMir.load_yes (f := (nm, l)) e)
      have HN : Hid ((dk.put nm l).1 ≠ 0 → d.load fs = dk.put nm l) := Lib.hid (fun e => by rw [HLD.out, HDR.out]; exact PMir.load_no (f := (nm, l)) e)
      have hput : Hid (Calls Tryd.prog 35 #[.pointer (some ⟨b, 0, none⟩), .string nm, .slice ba l.length bc] wr.drew (fun e w' => e = .returned (.int .i64 (dk.put nm l).1) ∧ NotePost w b F (dk.put nm l).2 w')) := Lib.hid (by
        refine (rput_any (hr.kept0 (Kept.refl [] wr).drew) nm hs1 (hby.kept0 (Kept.refl [] wr).drew) hs2).mono ?_
        rintro e' w' ⟨e1, F2, r2, k2, f2⟩
        refine ⟨e1, F2, r2, Kept.trans (Y := F1) hkr (Kept.trans' (X := F1) (((Kept.refl [] wr).drew).mono (by simp)) k2) hF1, ?_⟩
        intro x hx
        rcases f2 x hx with g2 | g2
        · exact hF1 x g2
        · exact .inr (Nat.le_trans hkr.size g2))
      have hsz : (l.length : Int) ≤ 9223372036854775807 := by simp only [maxLen] at hs2; omega
      clear hs1 hs2 hdr hby HLD HDR hr hkr hF1
      revert hput HY HN
      generalize dk.put nm l = r
      obtain ⟨er, dr⟩ := r
      intro HY HN hput
      simp only at hput HY HN
      go_wp2_with fail
      have hSS : (fun w' : World => w'.cell? ⟨g, o + k * 2, none⟩ = some (.string nm) ∧ w'.cell? ⟨g, o + k * 2 + 1, none⟩ = some (.slice ba l.length bc)) wr.drew := ⟨q0, q1⟩
      refine wp_region_last' (n := 13) (fun w' : World => w'.cell? ⟨g, o + k * 2, none⟩ = some (.string nm) ∧ w'.cell? ⟨g, o + k * 2 + 1, none⟩ = some (.slice ba l.length bc)) 12 (by kernel_rfl) (by kernel_rfl) ?_
      change wpAnyT _ _ _ _ _ _ _ _ _ wr.drew
      clear q0 q1 HP
      revert hput hSS
      generalize wr.drew = W
      intro hp2 hSS
      refine wpAnyT_start ?_
      intro O R hO hR
      have hQp : ∀ c a (d : Nat) v w, R (.panic c) (a.put (some d) v) w → R (.panic c) a w := by subst hR; exact fun _ _ _ _ _ h => h
      refine wpAnyT_take' (i := 0) (v := ?_) hO rfl rfl (by kernel_rfl) (by kernel_rfl) (by kernel_rfl) (by kernel_rfl) hQp (Or.inl ⟨by kernel_rfl, fun w hSw => ?_⟩) hSS ?_
      rotate_left
      · obtain ⟨s0, s1⟩ := hSw; go_simp; try with_reducible rfl
      try simp only [Act.put, List.setIfInBounds_toArray, List.set_cons_zero, List.set_cons_succ]
      refine wpAnyT_take' (i := 1) (v := ?_) hO rfl rfl (by kernel_rfl) (by kernel_rfl) (by kernel_rfl) (by kernel_rfl) hQp (Or.inl ⟨by kernel_rfl, fun w hSw => ?_⟩) hSS ?_
      rotate_left
      · obtain ⟨s0, s1⟩ := hSw; go_simp; try with_reducible rfl
      try simp only [Act.put, List.setIfInBounds_toArray, List.set_cons_zero, List.set_cons_succ]
      refine wpAnyT_take' (i := 2) (v := ?_) hO rfl rfl (by kernel_rfl) (by kernel_rfl) (by kernel_rfl) (by kernel_rfl) hQp (Or.inl ⟨by kernel_rfl, fun w hSw => ?_⟩) hSS ?_
      rotate_left
      · obtain ⟨s0, s1⟩ := hSw; go_simp; try with_reducible rfl
      try simp only [Act.put, List.setIfInBounds_toArray, List.set_cons_zero, List.set_cons_succ]
      refine wpAnyT_take' (i := 3) (v := ?_) hO rfl rfl (by kernel_rfl) (by kernel_rfl) (by kernel_rfl) (by kernel_rfl) hQp (Or.inl ⟨by kernel_rfl, fun w hSw => ?_⟩) hSS ?_
      rotate_left
      · obtain ⟨s0, s1⟩ := hSw; go_simp; try with_reducible rfl
      try simp only [Act.put, List.setIfInBounds_toArray, List.set_cons_zero, List.set_cons_succ]
      refine wpAnyT_take' (i := 4) (v := ?_) hO rfl rfl (by kernel_rfl) (by kernel_rfl) (by kernel_rfl) (by kernel_rfl) hQp (Or.inl ⟨by kernel_rfl, fun w hSw => ?_⟩) hSS ?_
      rotate_left
      · obtain ⟨s0, s1⟩ := hSw; go_simp; try with_reducible rfl
      try simp only [Act.put, List.setIfInBounds_toArray, List.set_cons_zero, List.set_cons_succ]
      refine wpAnyT_take' (i := 5) (v := ?_) hO rfl rfl (by kernel_rfl) (by kernel_rfl) (by kernel_rfl) (by kernel_rfl) hQp (Or.inl ⟨by kernel_rfl, fun w hSw => ?_⟩) hSS ?_
      rotate_left
      · obtain ⟨s0, s1⟩ := hSw; go_simp; try with_reducible rfl
      try simp only [Act.put, List.setIfInBounds_toArray, List.set_cons_zero, List.set_cons_succ]
      refine wpAnyT_take' (i := 6) (v := ?_) hO rfl rfl (by kernel_rfl) (by kernel_rfl) (by kernel_rfl) (by kernel_rfl) hQp (Or.inl ⟨by kernel_rfl, fun w hSw => ?_⟩) hSS ?_
      rotate_left
      · obtain ⟨s0, s1⟩ := hSw; go_simp; try with_reducible rfl
      try simp only [Act.put, List.setIfInBounds_toArray, List.set_cons_zero, List.set_cons_succ]
      refine wpAnyT_take' (i := 7) (v := ?_) hO rfl rfl (by kernel_rfl) (by kernel_rfl) (by kernel_rfl) (by kernel_rfl) hQp (Or.inl ⟨by kernel_rfl, fun w hSw => ?_⟩) hSS ?_
      rotate_left
      · obtain ⟨s0, s1⟩ := hSw; go_simp; try with_reducible rfl
      try simp only [Act.put, List.setIfInBounds_toArray, List.set_cons_zero, List.set_cons_succ]
      refine wpAnyT_take' (i := 8) (v := ?_) hO rfl rfl (by kernel_rfl) (by kernel_rfl) (by kernel_rfl) (by kernel_rfl) hQp (Or.inl ⟨by kernel_rfl, fun w hSw => ?_⟩) hSS ?_
      rotate_left
      · obtain ⟨s0, s1⟩ := hSw; go_simp; try with_reducible rfl
      try simp only [Act.put, List.setIfInBounds_toArray, List.set_cons_zero, List.set_cons_succ]
      refine wpAnyT_take' (i := 9) (v := ?_) hO rfl rfl (by kernel_rfl) (by kernel_rfl) (by kernel_rfl) (by kernel_rfl) hQp (Or.inl ⟨by kernel_rfl, fun w hSw => ?_⟩) hSS ?_
      rotate_left
      · obtain ⟨s0, s1⟩ := hSw; go_simp; try with_reducible rfl
      try simp only [Act.put, List.setIfInBounds_toArray, List.set_cons_zero, List.set_cons_succ]
      refine wpAnyT_take' (i := 10) (v := ?_) hO rfl rfl (by kernel_rfl) (by kernel_rfl) (by kernel_rfl) (by kernel_rfl) hQp (Or.inl ⟨by kernel_rfl, fun w hSw => ?_⟩) hSS ?_
      rotate_left
      · obtain ⟨s0, s1⟩ := hSw; go_simp; try with_reducible rfl
      try simp only [Act.put, List.setIfInBounds_toArray, List.set_cons_zero, List.set_cons_succ]
      refine wpAnyT_one' (i := 11) hO rfl (by kernel_rfl) (by kernel_rfl) (fun K hK => ?_)
      go_simp
      refine hp2.out.mono ?_
      rintro e w1 ⟨rfl, hnp⟩
      have HP1 := Lib.hid hnp
      have hs3 : (fun w' : World => w'.cell? ⟨g, o + k * 2, none⟩ = some (.string nm) ∧ w'.cell? ⟨g, o + k * 2 + 1, none⟩ = some (.slice ba l.length bc)) w1 := by
        obtain ⟨_, _, k1, _⟩ := hnp
        exact ⟨k1.cell HPP.out.1 HPP.out.2.2, k1.cell HPP.out.2.1 HPP.out.2.2⟩
      refine hK _ _ (.inr hs3) ?_
      clear hK K
      try simp only [Act.put, List.setIfInBounds_toArray, List.set_cons_zero, List.set_cons_succ]
      clear hSS hnp
      have hSS := hs3
      clear hs3
      refine wpAnyT_one' (i := 12) hO rfl (by kernel_rfl) (by kernel_rfl) (fun K hK => ?_)
      go_simp
      refine hK _ _ (.inl rfl) ?_
      clear hK K
      try simp only [Act.put, List.setIfInBounds_toArray, List.set_cons_zero, List.set_cons_succ]
      refine wpAnyT_done' hO (by kernel_rfl) ?_ _
      subst hR
      by_cases he : er = 0
      · subst he
        have HY' := Lib.hid (HY.out rfl)
        clear HY HN
        go_wp2_with fail
        case roundEnd => exact ⟨⟨k + 1, dr, by go_num, by omega, HY'.out, HP1.out⟩, by simp [intOf]; omega⟩
      · have HN' := Lib.hid (HN.out he)
        have he' : (er != 0) = true := by simpa using he
        clear HY HN he
        go_wp2_with fail
        go_ret
        rw [HN'.out]
        exact ⟨rfl, HP1.out⟩
    · obtain rfl : k = rows.length := by omega
      have hz : Hid (d.load fs = (0, dk)) := Lib.hid (by rw [HLD.out, List.drop_of_length_le (by rw [HV.out.all.1]; exact Nat.le_refl _)]; rfl)
      go_wp2_with fail
      go_ret
      rw [hz.out]
      exact ⟨rfl, HP.out⟩

set_option maxRecDepth 10000 in
theorem forget_any {w : World} {b : Nat} {F : List Nat} {d : PMir} (h : MirRep w b F d) : Calls Tryd.prog 25 #[.pointer (some ⟨b, 0, none⟩)] w fun e w' => e = .returned (.tuple #[]) ∧ ∃ F', MirRep w' b F' { d with asked := [] } ∧ Kept F w w' ∧ (∀ k, k ∈ F' → k ∈ F ∨ w.heap.size ≤ k) := by
  have hm := Lib.hid (made_any h)
  obtain ⟨mb, aa, ac, M, rfl, h⟩ := h
  have f2 := h.fr 1
  have c1 := h.c1
  have H := Lib.hid h
  clear h
  go_enter Tryd.func25, Tryd.ntmps25
  go_wp2_with (go_at_call 28; refine hm.out.mono ?_; rintro e w' ⟨rfl, rfl⟩)
  refine bodyPost_end (results_none rfl _ _ _) rfl ?_
  have hM := H.out.setAsked (Kept.refl _ w) (l := []) (a' := none) (c' := 0) (by decide) (Tail.nil _ _ _)
  refine ⟨rfl, _, ⟨mb, none, 0, M, rfl, hM⟩, (Kept.refl _ w).setCell (.inl (by simp)) _, ?_⟩
  intro k hk
  simp only [List.mem_cons, Option.mem_toList] at hk
  rcases hk with rfl | rfl | hk
  · exact .inl (by simp)
  · exact .inl (by simp)
  · cases hk
end Go.Proofs.YtfkdoinlbdcaaaaDoor

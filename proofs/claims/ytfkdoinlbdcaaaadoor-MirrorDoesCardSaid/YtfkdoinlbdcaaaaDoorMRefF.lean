/- The document's mirror: Put, Drop. -/
import Derived.Test.YtfkdoinlbdcaaaaDoorMRefE
namespace Go.Proofs.YtfkdoinlbdcaaaaDoor
open Go.RowKit

theorem All2.take {α β : Type} {R : α → β → Prop} {xs : List α} {ys : List β} (h : All2 R xs ys) (k : Nat) : All2 R (xs.take k) (ys.take k) := by
  refine ⟨by rw [List.length_take, List.length_take, h.1], ?_⟩
  intro j a b ha hb
  rw [List.getElem?_take] at ha hb
  split at ha
  · rename_i hj; rw [if_pos hj] at hb; exact h.2 j a b ha hb
  · cases ha
theorem All2.drop {α β : Type} {R : α → β → Prop} {xs : List α} {ys : List β} (h : All2 R xs ys) (k : Nat) : All2 R (xs.drop k) (ys.drop k) := by
  refine ⟨by rw [List.length_drop, List.length_drop, h.1], ?_⟩
  intro j a b ha hb
  rw [List.getElem?_drop] at ha hb
  exact h.2 (k + j) a b ha hb
theorem getR_spec {w : World} (s : ByteArray) : ∀ (rows : List Row2) (fs : List PF), All2 (fun r f => r.1 = f.1 ∧ Data w r.2 f.2) rows fs →
    ((∀ f, f ∈ fs → f.1 ≠ s) ∧ getR s rows = (.slice none 0 0, false)) ∨ ∃ l a c, (s, l) ∈ fs ∧ getR s rows = (.slice a l.length c, true) ∧ Data w (.slice a l.length c) l
  | [], fs, h => by
    have : fs = [] := List.eq_nil_of_length_eq_zero h.1.symm
    subst this
    exact .inl ⟨by simp, rfl⟩
  | r :: rows, [], h => by have := h.1; simp at this
  | r :: rows, f :: fs, h => by
    obtain ⟨h1, h2⟩ := h.2 0 r f rfl rfl
    have ht : All2 (fun r f => r.1 = f.1 ∧ Data w r.2 f.2) rows fs := by simpa using h.drop 1
    by_cases e : r.1 = s
    · obtain ⟨a, c, e2, -, -⟩ := h2.1.form
      refine .inr ⟨f.2, a, c, ?_, ?_, ?_⟩
      · rw [← e, h1]; exact List.mem_cons_self ..
      · unfold getR
        rw [if_pos e, e2]
      · rw [← e2]; exact h2
    · rcases getR_spec s rows fs ht with ⟨g1, g2⟩ | ⟨l, a, c, g1, g2, g3⟩
      · refine .inl ⟨?_, ?_⟩
        · intro x hx
          rcases List.mem_cons.1 hx with rfl | hx
          · rw [← h1]; exact e
          · exact g1 x hx
        · unfold getR; rw [if_neg e]; exact g2
      · exact .inr ⟨l, a, c, List.mem_cons_of_mem _ g1, by unfold getR; rw [if_neg e]; exact g2, g3⟩
theorem RMirAt.get {w : World} {b : Nat} {la : Option Addr} {lc : Nat} {aa : Option Addr} {ac : Nat} {rs : Int} {rows : List Row2} {fs : List PF} {d : PMir} (h : RMirAt w b la lc aa ac rs rows fs d) (s : ByteArray) :
    (d.file s.data.toList = none ∧ getR s rows = (.slice none 0 0, false)) ∨ ∃ l a c, d.file s.data.toList = some l ∧ getR s rows = (.slice a l.length c, true) ∧ Data w (.slice a l.length c) l ∧ l.length ≤ 1048576 := by
  rcases getR_spec s rows fs h.bodies with ⟨g1, g2⟩ | ⟨l, a, c, g1, g2, g3⟩
  · exact .inl ⟨(h.agree.none_iff s).2 g1, g2⟩
  · exact .inr ⟨l, a, c, (h.agree.file _ _).2 ⟨s, g1, rfl⟩, g2, g3, h.small _ g1⟩
theorem put_both {Q : Value → List UInt8 → Prop} {rows rows' : List Row2} {fs : List PF} {s : ByteArray} {v : Value} {l : List UInt8} (h : All2 (fun r f => r.1 = f.1 ∧ Q r.2 f.2) rows fs) (hq : Q v l) (hp : PutTo s v rows rows') :
    ∃ fs', PutTo s l fs fs' ∧ All2 (fun r f => r.1 = f.1 ∧ Q r.2 f.2) rows' fs' ∧ ∀ f, f ∈ fs' → f ∈ fs ∨ f = (s, l) := by
  have hlen := h.1
  have hname : ∀ (j : Nat) (hj : j < rows.length) (hj' : j < fs.length), rows[j].1 = fs[j].1 := fun j hj hj' => (h.2 j _ _ (List.getElem?_eq_getElem hj) (List.getElem?_eq_getElem hj')).1
  rcases hp with ⟨i, hi, he, rfl⟩ | ⟨hno, i, hi, hlt, hge, rfl⟩
  · refine ⟨fs.take i ++ (s, l) :: fs.drop (i + 1), .inl ⟨i, by omega, by rw [← hname i hi (by omega)]; exact he, rfl⟩, (h.take i).app ((h.drop (i + 1)).cons ⟨rfl, hq⟩), ?_⟩
    intro f hf
    rcases List.mem_append.1 hf with hf | hf
    · exact .inl (List.mem_of_mem_take hf)
    · rcases List.mem_cons.1 hf with rfl | hf
      · exact .inr rfl
      · exact .inl (List.mem_of_mem_drop hf)
  · refine ⟨fs.take i ++ (s, l) :: fs.drop i, .inr ⟨fun j hj => by rw [← hname j (by omega) hj]; exact hno j (by omega), i, by omega, fun j hj hji => by rw [← hname j (by omega) hj]; exact hlt j (by omega) hji, fun hi' => by rw [← hname i (by omega) hi']; exact hge (by omega), rfl⟩, (h.take i).app ((h.drop i).cons ⟨rfl, hq⟩), ?_⟩
    intro f hf
    rcases List.mem_append.1 hf with hf | hf
    · exact .inl (List.mem_of_mem_take hf)
    · rcases List.mem_cons.1 hf with rfl | hf
      · exact .inr rfl
      · exact .inl (List.mem_of_mem_drop hf)

/-- The files behind a Put. -/
theorem RMirAt.put {w : World} {b : Nat} {la : Option Addr} {lc : Nat} {aa : Option Addr} {ac : Nat} {rs : Int} {rows : List Row2} {fs : List PF} {d : PMir} (h : RMirAt w b la lc aa ac rs rows fs d) (s : ByteArray) {l : List UInt8} (hl : l.length ≤ 1048576) {w1 : World} (k1 : Kept [] w w1)
    {v : Value} {rows' : List Row2} {a' : Option Addr} {c' : Nat} (hv : Data w1 v l) (hp : PutTo s v rows rows') (hown : w1.ownsRow w.heap.size 58 2 (.slice a' rows'.length c') rows'.length (fileCells rows')) (hfull : d.file s.data.toList ≠ none ∨ d.cnt < 256) :
    NotePost w b (b :: ((vblk (.slice la rows.length lc)).toList ++ (tb (.slice aa d.asked.length ac)).toList)) (d.stored s l) (w1.setCell ⟨b, 0, none⟩ (.slice a' rows'.length c')) := by
  obtain ⟨fs', hp', hb', hm⟩ := put_both (Q := Data w1) ((h.kept0 k1).bodies) hv hp
  have ha := h.agree.stored s l hp'
  have hc : fs'.length ≤ 256 := by
    rw [← ha.cnt]
    unfold PMir.stored
    simp only
    have := h.cnt
    have h2 := h.agree.cnt
    split
    · omega
    · rename_i hn
      rcases hfull with h3 | h3
      · exact absurd (by cases hd : d.file s.data.toList with | none => exact absurd hd h3 | some _ => rfl) hn
      · omega
  have hs : ∀ f, f ∈ fs' → f.2.length ≤ 1048576 := fun f hf => by
    rcases hm f hf with hf | rfl
    · exact h.small f hf
    · exact hl
  have hM := h.setFiles k1 (Slc.of_row hown) (fun g hg => row_kind hown (own_of_vblk hg)) hb' ha hs hc rfl rfl
  refine ⟨_, ⟨a', c', aa, ac, rs, rows', fs', rfl, hM⟩, ?_, ?_⟩
  · exact (k1.mono (by simp)).trans' ((Kept.refl _ w1).setCell (.inl (by simp)) _)
  · intro k hk
    simp only [List.mem_cons, List.mem_append, Option.mem_toList] at hk
    rcases hk with rfl | hk | hk
    · exact .inl (by simp)
    · exact .inr (hown.lt k (own_of_vblk hk)).1
    · exact .inl (by
        have : tb (.slice aa d.asked.length ac) = some k := hk
        simp [this])

set_option maxRecDepth 10000 in
set_option maxHeartbeats 1600000 in
theorem rput_any {w : World} {b : Nat} {F : List Nat} {d : PMir} (h : RMirRep w b F d) (s : ByteArray) (hs : s.size ≤ maxLen) {v : Value} {l : List UInt8} (hv : Bytes w v l) (hl : l.length ≤ maxLen) :
    Calls Tryd.prog 35 #[.pointer (some ⟨b, 0, none⟩), .string s, v] w fun e w' => e = .returned (.int .i64 (d.put s l).1) ∧ NotePost w b F (d.put s l).2 w' := by
  have H0 := Lib.hid h
  have hsI : (s.size : Int) ≤ 9223372036854775807 := by simp only [maxLen] at hs; omega
  obtain ⟨la, lc, aa, ac, rs, rows, fs, rfl, h⟩ := h
  obtain ⟨va, vc, rfl, -, -⟩ := hv.form
  have c0 := h.c0
  have hget := Lib.hid (refGet_any h.files s (by have := h.len; have := h.cnt; omega))
  have hl2 : (l.length : Int) ≤ 9223372036854775807 := by simp only [maxLen] at hl; omega
  have hg := h.get s
  have hcnt := h.agree.cnt
  have hrl := h.len
  have HPO : Hid (NotePost w b (b :: ((vblk (.slice la rows.length lc)).toList ++ (tb (.slice aa d.asked.length ac)).toList)) d w) := Lib.hid ⟨_, H0.out, Kept.refl _ _, fun k hk => .inl hk⟩
  have hnm : nameOk s = decide (0 < s.size ∧ s.size ≤ 256) := rfl
  obtain ⟨gv, gis, hgr⟩ : ∃ gv gis, getR s rows = (gv, gis) := ⟨_, _, rfl⟩
  rw [hgr] at hget hg
  simp only at hget
  unfold PMir.put
  cases hk : nameOk s
  · rw [if_pos rfl]
    have hk' : ¬(0 < s.size ∧ s.size ≤ 256) := by rw [hnm] at hk; simpa using hk
    have h1 : ((s.size : Int) < 1) ∨ (¬(s.size : Int) < 1 ∧ (256 : Int) < s.size) := by omega
    clear h hk hnm hk' hs hg hgr hv hl hcnt hrl
    rcases h1 with h1 | ⟨h1, h2⟩
    all_goals
      go_enter Tryd.func35, Tryd.ntmps35
      go_wp2_with (go_at_call 43; refine hget.out.mono ?_; rintro e w' ⟨rfl, rfl⟩)
      go_ret
      exact ⟨rfl, HPO.out⟩
  · rw [if_neg (by simp)]
    have hk' : 0 < s.size ∧ s.size ≤ 256 := by rw [hnm] at hk; simpa using hk
    have h1 : ¬(s.size : Int) < 1 := by omega
    have h2 : ¬(256 : Int) < s.size := by omega
    clear hk hnm hk' hs
    by_cases hbig : 1048576 < l.length
    · rw [if_pos hbig]
      have hbig' : (1048576 : Int) < l.length := by omega
      clear h hg hgr hv hl hcnt hrl hbig
      go_enter Tryd.func35, Tryd.ntmps35
      go_wp2_with (go_at_call 43; refine hget.out.mono ?_; rintro e w' ⟨rfl, rfl⟩)
      go_ret
      exact ⟨rfl, HPO.out⟩
    · rw [if_neg hbig]
      have hbig' : ¬(1048576 : Int) < l.length := by omega
      by_cases hfull : d.file s.data.toList = none ∧ 256 ≤ d.cnt
      · rw [if_pos hfull]
        have hgis : gis = false := by
          rcases hg with ⟨-, e⟩ | ⟨l1, a1, c1, e, -⟩
          · cases e; rfl
          · rw [hfull.1] at e; cases e
        subst hgis
        have hfull' : (256 : Int) ≤ rows.length := by omega
        clear h hg hgr hv hl hcnt hrl hbig hfull
        go_enter Tryd.func35, Tryd.ntmps35
        go_wp2_with (go_at_call 43; refine hget.out.mono ?_; rintro e w' ⟨rfl, rfl⟩)
        go_ret
        exact ⟨rfl, HPO.out⟩
      · rw [if_neg hfull]
        have hor : (gis = true ∧ True) ∨ (gis = false ∧ ¬(256 : Int) ≤ rows.length) := by
          rcases hg with ⟨e0, e⟩ | ⟨l1, a1, c1, e0, e, -⟩
          · cases e
            refine .inr ⟨rfl, fun hx => hfull ⟨e0, by omega⟩⟩
          · cases e; exact .inl ⟨rfl, trivial⟩
        have hF : Hid (d.file s.data.toList ≠ none ∨ d.cnt < 256) := Lib.hid (by
          by_cases hn : d.file s.data.toList = none
          · exact .inr (by
              rcases Nat.lt_or_ge d.cnt 256 with h3 | h3
              · exact h3
              · exact absurd ⟨hn, h3⟩ hfull)
          · exact .inl hn)
        have hll : l.length ≤ 1048576 := by omega
        have hr256 : rows.length ≤ 256 := by have := h.cnt; omega
        have H := Lib.hid h
        have HV := Lib.hid hv
        clear h hg hgr hv hl hcnt hrl hbig hfull HPO H0
        rcases hor with ⟨rfl, -⟩ | ⟨rfl, hnf⟩
        all_goals
          go_enter Tryd.func35, Tryd.ntmps35
          go_wp2_with (go_at_call 43; refine hget.out.mono ?_; rintro e w' ⟨rfl, rfl⟩)
          have hSS : (fun w' : World => w'.cell? ⟨b, 0, none⟩ = some (.slice la rows.length lc)) w.drew := c0
          refine wp_region_last' (n := 13) (fun w' : World => w'.cell? ⟨b, 0, none⟩ = some (.slice la rows.length lc)) 12 (by kernel_rfl) (by kernel_rfl) ?_
          change wpAnyT _ _ _ _ _ _ _ _ _ w.drew
          refine wpAnyT_start ?_
          intro O R hO hR
          have hQp : ∀ c a (d : Nat) v w, R (.panic c) (a.put (some d) v) w → R (.panic c) a w := by subst hR; exact fun _ _ _ _ _ h => h
          refine wpAnyT_take' (i := 0) (v := ?_) hO rfl rfl (by kernel_rfl) (by kernel_rfl) (by kernel_rfl) (by kernel_rfl) hQp (Or.inl ⟨by kernel_rfl, fun w hSw => ?_⟩) hSS ?_
          rotate_left
          · have s0 := hSw; go_simp; try with_reducible rfl
          try simp only [Act.put, List.setIfInBounds_toArray, List.set_cons_zero, List.set_cons_succ]
          refine wpAnyT_take' (i := 1) (v := ?_) hO rfl rfl (by kernel_rfl) (by kernel_rfl) (by kernel_rfl) (by kernel_rfl) hQp (Or.inl ⟨by kernel_rfl, fun w hSw => ?_⟩) hSS ?_
          rotate_left
          · have s0 := hSw; go_simp; try with_reducible rfl
          try simp only [Act.put, List.setIfInBounds_toArray, List.set_cons_zero, List.set_cons_succ]
          refine wpAnyT_take' (i := 2) (v := ?_) hO rfl rfl (by kernel_rfl) (by kernel_rfl) (by kernel_rfl) (by kernel_rfl) hQp (Or.inl ⟨by kernel_rfl, fun w hSw => ?_⟩) hSS ?_
          rotate_left
          · have s0 := hSw; go_simp; try with_reducible rfl
          try simp only [Act.put, List.setIfInBounds_toArray, List.set_cons_zero, List.set_cons_succ]
          refine wpAnyT_take' (i := 3) (v := ?_) hO rfl rfl (by kernel_rfl) (by kernel_rfl) (by kernel_rfl) (by kernel_rfl) hQp (Or.inl ⟨by kernel_rfl, fun w hSw => ?_⟩) hSS ?_
          rotate_left
          · have s0 := hSw; go_simp; try with_reducible rfl
          try simp only [Act.put, List.setIfInBounds_toArray, List.set_cons_zero, List.set_cons_succ]
          refine wpAnyT_take' (i := 4) (v := ?_) hO rfl rfl (by kernel_rfl) (by kernel_rfl) (by kernel_rfl) (by kernel_rfl) hQp (Or.inl ⟨by kernel_rfl, fun w hSw => ?_⟩) hSS ?_
          rotate_left
          · have s0 := hSw; go_simp; try with_reducible rfl
          try simp only [Act.put, List.setIfInBounds_toArray, List.set_cons_zero, List.set_cons_succ]
          refine wpAnyT_take' (i := 5) (v := ?_) hO rfl rfl (by kernel_rfl) (by kernel_rfl) (by kernel_rfl) (by kernel_rfl) hQp (Or.inl ⟨by kernel_rfl, fun w hSw => ?_⟩) hSS ?_
          rotate_left
          · have s0 := hSw; go_simp; try with_reducible rfl
          try simp only [Act.put, List.setIfInBounds_toArray, List.set_cons_zero, List.set_cons_succ]
          refine wpAnyT_take' (i := 7) (v := ?_) hO rfl rfl (by kernel_rfl) (by kernel_rfl) (by kernel_rfl) (by kernel_rfl) hQp (Or.inl ⟨by kernel_rfl, fun w hSw => ?_⟩) hSS ?_
          rotate_left
          · have s0 := hSw; go_simp; try with_reducible rfl
          try simp only [Act.put, List.setIfInBounds_toArray, List.set_cons_zero, List.set_cons_succ]
          refine wpAnyT_one' (i := 6) hO rfl (by kernel_rfl) (by kernel_rfl) (fun K hK => ?_)
          go_simp
          have kA : Kept [] w (w.drew.alloc (.cells #[] 5)) := ((Kept.refl [] w).drew).alloc _
          have hown0 := World.ownsRow_made (base := w.heap.size) (size := 1) (e := 5) w.drew #[] 0 (Nat.le_refl _) (by decide) rfl
          have hSA : (fun w' : World => w'.cell? ⟨b, 0, none⟩ = some (.slice la rows.length lc)) (w.drew.alloc (.cells #[] 5)) := kA.cell c0 (by simp)
          refine hK _ _ (.inr hSA) ?_
          clear hK K
          try simp only [Act.put, List.setIfInBounds_toArray, List.set_cons_zero, List.set_cons_succ]
          clear hSS
          have hSS := hSA
          clear hSA
          refine wpAnyT_one' (i := 8) hO rfl (by kernel_rfl) (by kernel_rfl) (fun K hK => ?_)
          refine oper_append0 tyBytes hown0 (HV.out.kept0 kA) (bvs_one l) (by simp only [maxLen]; omega) (by omega) (by simp) (.tmp 48) (.tmp 49) rfl rfl rfl ?_
          intro b1 d1 w1 hown1 hk1 hg1
          have k1 : Kept [] w w1 := kA.trans hk1 (fun i hi => .inr (by simp [Value.ownBlock] at hi; omega))
          have hNB := Lib.hid (newBytes_of_row hown1)
          have hSB : (fun w' : World => w'.cell? ⟨b, 0, none⟩ = some (.slice la rows.length lc)) w1 := k1.cell c0 (by simp)
          refine hK _ _ (.inr hSB) ?_
          clear hK K
          try simp only [Act.put, List.setIfInBounds_toArray, List.set_cons_zero, List.set_cons_succ]
          clear hSS hown0 kA hk1 hg1 hown1
          have hSS := hSB
          clear hSB
          have HK1 := Lib.hid k1
          clear k1
          refine wpAnyT_one' (i := 9) hO rfl (by kernel_rfl) (by kernel_rfl) (fun K hK => ?_)
          go_simp
          refine Calls.mono (refPut2_any (H.out.files.kept0 HK1.out) H.out.sl s b1 l.length d1 (by omega)) ?_
          rintro e w2 ⟨v2, rows', rfl, hpt, hown2, hk2⟩
          obtain ⟨a2, cc2, rfl, -, -⟩ := (Slc.of_row hown2).form
          have k2 := HK1.out.then hk2
          have hown2' := row_base hown2 (base' := w.heap.size) (fun g hg => Nat.le_trans HK1.out.size (hown2.lt g hg).1)
          have hNP := Lib.hid (H.out.put s hll k2 ((Data.of_new hNB.out).kept hk2 (by simp)) hpt hown2' hF.out)
          have hfr : w2.frozen? ⟨b, 0, none⟩ = false := (H.out.kept0 k2).fr 0
          have hSC : (fun w' : World => w'.cell? ⟨b, 0, none⟩ = some (.slice la rows.length lc)) w2 := k2.cell c0 (by simp)
          refine hK _ _ (.inr hSC) ?_
          clear hK K
          try simp only [Act.put, List.setIfInBounds_toArray, List.set_cons_zero, List.set_cons_succ]
          clear hSS hNB HK1 hown2 hk2 k2 hown2' hpt
          have hSS := hSC
          clear hSC
          refine wpAnyT_one' (i := 10) hO rfl (by kernel_rfl) (by kernel_rfl) (fun K hK => ?_)
          go_simp
          refine hK _ _ (.inr hSS) ?_
          clear hK K
          try simp only [Act.put, List.setIfInBounds_toArray, List.set_cons_zero, List.set_cons_succ]
          refine wpAnyT_take' (i := 11) (v := ?_) hO rfl rfl (by kernel_rfl) (by kernel_rfl) (by kernel_rfl) (by kernel_rfl) hQp (Or.inl ⟨by kernel_rfl, fun w hSw => ?_⟩) hSS ?_
          rotate_left
          · have s0 := hSw; go_simp; try with_reducible rfl
          try simp only [Act.put, List.setIfInBounds_toArray, List.set_cons_zero, List.set_cons_succ]
          refine wpAnyT_one' (i := 12) hO rfl (by kernel_rfl) (by kernel_rfl) (fun K hK => ?_)
          go_simp
          refine hK _ _ (.inl rfl) ?_
          clear hK K
          try simp only [Act.put, List.setIfInBounds_toArray, List.set_cons_zero, List.set_cons_succ]
          refine wpAnyT_done' hO (by kernel_rfl) ?_ _
          subst hR
          go_wp2_with fail
          go_ret
          exact ⟨rfl, hNP.out⟩
end Go.Proofs.YtfkdoinlbdcaaaaDoor

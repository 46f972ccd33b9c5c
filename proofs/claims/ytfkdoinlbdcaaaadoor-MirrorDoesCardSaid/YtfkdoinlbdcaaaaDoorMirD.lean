/- The mirror: Drop, Asked, Fetch. -/
import Derived.Test.YtfkdoinlbdcaaaaDoorMirC
namespace Go.Proofs.YtfkdoinlbdcaaaaDoor
open Go.RowKit
open Go.Maps (Keyed)

set_option maxRecDepth 10000 in
set_option maxHeartbeats 1600000 in
theorem drop_any {w : World} {b : Nat} {F : List Nat} {d : PMir} (h : MirRep w b F d) (s : ByteArray) (hs : s.size ≤ maxLen) :
    Calls Tryd.prog 26 #[.pointer (some ⟨b, 0, none⟩), .string s] w fun e w' => e = .returned (.int .i64 (d.drop s).1) ∧ MirRep w' b F (d.drop s).2 ∧ Kept F w w' := by
  have hmade := Lib.hid (made_any h)
  have H0 := Lib.hid h
  obtain ⟨mb, aa, ac, M, rfl, h⟩ := h
  have hkey := Go.WideMaps.keyOf_string_mk (P := Tryd.prog) Tryd.underlying9 hs
  have hlk := (h.map.at.lookup keyStr Tryd.underlying60 (zeroBytes w) hkey).1
  have c0 := h.c0
  have his := h.isSome s.data.toList
  unfold PMir.drop
  cases hf : d.file s.data.toList with
  | none =>
    rw [if_pos rfl]
    rw [hf] at his
    obtain ⟨y, hy⟩ : ∃ y, (M (.string s.data.toList)).getD (.slice none 0 0) = y := ⟨_, rfl⟩
    rw [hy, show (M (.string s.data.toList)).isSome = false from his] at hlk
    clear h hy his hf hkey
    go_enter Tryd.func26, Tryd.ntmps26
    go_wp2_with (go_at_call 28; refine hmade.out.mono ?_; rintro e w' ⟨rfl, rfl⟩)
    go_ret
    exact ⟨rfl, H0.out, Kept.refl _ _⟩
  | some l =>
    rw [if_neg (by simp)]
    rw [hf] at his
    have hin : (M (.string s.data.toList)).isSome = true := his
    obtain ⟨y, hy⟩ : ∃ y, (M (.string s.data.toList)).getD (.slice none 0 0) = y := ⟨_, rfl⟩
    rw [hy, hin] at hlk
    obtain ⟨w3, hdel, hmap3, hk3, -⟩ := h.map.drop keyStr Tryd.underlying60 hkey hin 0
    have H := Lib.hid h
    have HK := Lib.hid hk3
    have HMAP := Lib.hid hmap3
    clear h hy his hf hkey hin hk3 hmap3
    go_enter Tryd.func26, Tryd.ntmps26
    go_wp2_with (go_at_call 28; refine hmade.out.mono ?_; rintro e w' ⟨rfl, rfl⟩)
    go_ret
    refine ⟨rfl, ⟨mb, aa, ac, (fun z => if z.sameKey (.string s.data.toList) then none else M z), rfl, ?_⟩, HK.out.mono (by simp)⟩
    unfold PMir.dropped
    refine H.out.keep HK.out HMAP.out ?_ ?_ (by have := H.out.cnt; omega)
    · intro x v hx
      simp only [sameStr] at hx
      by_cases e : x = s.data.toList
      · subst e
        simp at hx
      · simp only [e, decide_false, Bool.false_eq_true, if_false] at hx ⊢
        exact H.out.have_ x v hx
    · intro x hx
      simp only [sameStr] at hx
      by_cases e : x = s.data.toList
      · rw [if_pos e]
      · simp only [e, decide_false, Bool.false_eq_true, if_false] at hx ⊢
        exact H.out.gone x hx

set_option maxRecDepth 10000 in
theorem asked_any {w : World} {b : Nat} {F : List Nat} {d : PMir} (h : MirRep w b F d) :
    Calls Tryd.prog 12 #[.pointer (some ⟨b, 0, none⟩)] w fun e w' => ∃ v, e = .returned v ∧ Slc w' 2 v d.asked.length (askCells d.asked) ∧ (∀ g, vblk v = some g → w.heap.size ≤ g) ∧ Kept [] w w' := by
  have hmade := Lib.hid (made_any h)
  obtain ⟨mb, aa, ac, M, rfl, h⟩ := h
  have c1 := h.c1
  have hc := Lib.hid (cloneDues_any _ d.asked w (h.row.slc) (by have := h.few; omega))
  clear h
  go_enter Tryd.func12, Tryd.ntmps12
  go_wp2_with (first
    | (go_at_call 28; refine hmade.out.mono ?_; rintro e w' ⟨rfl, rfl⟩)
    | (go_at_call 32; refine hc.out.mono ?_; rintro e w' ⟨v', rfl, hv', hg', hk'⟩))
  go_ret
  exact ⟨_, rfl, hv', hg', hk'⟩

def FetchPost (w : World) (b : Nat) (F : List Nat) (r : (List UInt8 × Int) × PMir) (e : Ending) (w' : World) : Prop :=
  ∃ v, e = .returned (.tuple #[v, .int .i64 r.1.2]) ∧ Data w' v r.1.1 ∧ ∃ F', MirRep w' b F' r.2 ∧ Kept F w w' ∧ (∀ k, k ∈ F' → k ∈ F ∨ w.heap.size ≤ k)

set_option maxRecDepth 10000 in
set_option maxHeartbeats 3200000 in
theorem fetch_any {w : World} {b : Nat} {F : List Nat} {d : PMir} (h : MirRep w b F d) (s : ByteArray) (hs : s.size ≤ maxLen) (n : Int) (hn : n ≤ 9223372036854775806) (hl : d.asked.length ≤ 256) :
    Calls Tryd.prog 11 #[.pointer (some ⟨b, 0, none⟩), .string s, .int .i64 n] w (FetchPost w b F (d.fetch s n)) := by
  have hmade := Lib.hid (made_any h)
  have hnote := Lib.hid (fun n => note_any h s n hs hl)
  have H0 := Lib.hid h
  obtain ⟨mb, aa, ac, M, rfl, h⟩ := h
  have hkey := Go.WideMaps.keyOf_string_mk (P := Tryd.prog) Tryd.underlying9 hs
  have hlk := (h.map.at.lookup keyStr Tryd.underlying60 (zeroBytes w) hkey).1
  have c0 := h.c0
  have c2 := h.c2
  have hslow := h.slow
  unfold PMir.fetch
  cases hM : M (.string s.data.toList) with
  | none =>
    rw [h.gone _ hM]
    rw [hM] at hlk
    simp only [Option.getD_none, Option.isSome_none] at hlk
    clear h hM hkey
    go_enter Tryd.func11, Tryd.ntmps11
    go_wp2_with (first
      | (go_at_call 28; refine hmade.out.mono ?_; rintro e w' ⟨rfl, rfl⟩)
      | (go_at_call 31; refine (hnote.out _).mono ?_; rintro e w1 ⟨rfl, F', hm, hk, hF⟩))
    go_ret2
    exact ⟨_, rfl, ⟨slc_nil _ _, by simp [vblk]⟩, F', hm, hk, hF⟩
  | some v0 =>
    obtain ⟨l0, hfile, hd0, hbig⟩ := h.have_ _ _ hM
    rw [hM] at hlk
    simp only [Option.getD_some, Option.isSome_some] at hlk
    rw [hfile]
    obtain ⟨a0, cc0, rfl, -, -⟩ := hd0.1.form
    have hvar : ∃ (ap : Option Addr) (ln cp : Nat) (lp : List UInt8), d.part l0 = lp ∧ lp.length = ln ∧ ln ≤ 1048576 ∧ Data w (.slice ap ln cp) lp ∧
        ((d.slow < 0 ∧ ap = a0 ∧ ln = l0.length ∧ cp = cc0) ∨ (¬d.slow < 0 ∧ ¬(l0.length : Int) < d.slow ∧ (∀ W, (Instr.slice 28 (.slice a0 l0.length cc0) none (some (.int .i64 d.slow)) none).run Tryd.prog W = .ok (.slice ap ln cp) W)) ∨
          (¬d.slow < 0 ∧ (l0.length : Int) < d.slow ∧ (∀ W, (Instr.slice 28 (.slice a0 l0.length cc0) none (some (.int .i64 l0.length)) none).run Tryd.prog W = .ok (.slice ap ln cp) W))) := by
      by_cases hs0 : d.slow < 0
      · exact ⟨a0, l0.length, cc0, l0, by unfold PMir.part; rw [if_neg (by omega)], rfl, hbig, hd0, .inl ⟨hs0, rfl, rfl, rfl⟩⟩
      · obtain ⟨sl, hsl⟩ := Int.eq_ofNat_of_zero_le (Int.not_lt.1 hs0)
        by_cases hc : (l0.length : Int) < d.slow
        · obtain ⟨ap, cp, h1, h2, h5⟩ := Bytes.upto tyBytes hd0.1 l0.length (Nat.le_refl _)
          refine ⟨ap, l0.length, cp, l0.take l0.length, ?_, by rw [List.length_take]; omega, hbig, ⟨h2, fun g hg => hd0.2 g (h5 g hg)⟩, .inr (.inr ⟨hs0, hc, h1⟩)⟩
          unfold PMir.part
          rw [if_pos (by omega), show min d.slow.toNat l0.length = l0.length by omega]
        · have hle : sl ≤ l0.length := by omega
          obtain ⟨ap, cp, h1, h2, h5⟩ := Bytes.upto tyBytes hd0.1 sl hle
          refine ⟨ap, sl, cp, l0.take sl, ?_, by rw [List.length_take]; omega, by omega, ⟨h2, fun g hg => hd0.2 g (h5 g hg)⟩, .inr (.inl ⟨hs0, hc, by rw [hsl]; exact h1⟩)⟩
          unfold PMir.part
          rw [if_pos (by omega), show min d.slow.toNat l0.length = sl by omega]
    obtain ⟨ap, ln, cp, lp, hpart, hlen, hln, hbp, hvar⟩ := hvar
    simp only [hpart, hlen]
    have HBP := Lib.hid hbp
    have HLEN := Lib.hid hlen
    have hlnI : (ln : Int) ≤ 1048576 := by omega
    have hl0I : (l0.length : Int) ≤ 1048576 := by omega
    have hlim : Hid (lp.length ≤ lim) := Lib.hid (by simp only [lim]; omega)
    clear h hM hkey hfile hd0 hbig hpart hbp hln
    have hmm : (n < 0 ∧ max n 0 = 0) ∨ (¬n < 0 ∧ max n 0 = n) := by omega
    rcases hmm with ⟨hn0, hmx⟩ | ⟨hn0, hmx⟩
    · rw [hmx]
      clear hmx
      rcases hvar with ⟨hs0, e1, e2, e3⟩ | ⟨hs0, hs1, hsl⟩ | ⟨hs0, hs1, hsl⟩
      all_goals
        try (rw [← e1, ← e2, ← e3] at hlk; clear e1 e2 e3 hl0I)
        by_cases hcmp : (0 : Int) < ln
        · rw [if_pos hcmp]
          go_enter Tryd.func11, Tryd.ntmps11
          go_wp2_with (first
            | (go_at_call 28; refine hmade.out.mono ?_; rintro e w' ⟨rfl, rfl⟩)
            | (go_at_call 31; refine (hnote.out _).mono ?_; rintro e w1 ⟨rfl, F', hm, hk, hF⟩; have hb1 := HBP.out.kept hk (fun k hk => H0.out.kinds k hk); have HM := Lib.hid hm; have HK := Lib.hid hk; have HFF := Lib.hid hF; have HB1 := Lib.hid hb1; clear hm hk hF hb1)
            | (go_at_call 30; refine (clone_any _ lp _ HB1.out.1 hlim.out).mono ?_; rintro e w2 ⟨v2, rfl, hv2, hk2⟩))
          go_ret2
          exact ⟨_, rfl, ⟨slc_nil _ _, by simp [vblk]⟩, F', HM.out, HK.out, HFF.out⟩
        · rw [if_neg hcmp]
          go_enter Tryd.func11, Tryd.ntmps11
          go_wp2_with (first
            | (go_at_call 28; refine hmade.out.mono ?_; rintro e w' ⟨rfl, rfl⟩)
            | (go_at_call 31; refine (hnote.out _).mono ?_; rintro e w1 ⟨rfl, F', hm, hk, hF⟩; have hb1 := HBP.out.kept hk (fun k hk => H0.out.kinds k hk); have HM := Lib.hid hm; have HK := Lib.hid hk; have HFF := Lib.hid hF; have HB1 := Lib.hid hb1; clear hm hk hF hb1)
            | (go_at_call 30; refine (clone_any _ lp _ HB1.out.1 hlim.out).mono ?_; rintro e w2 ⟨v2, rfl, hv2, hk2⟩))
          go_ret2
          exact ⟨_, rfl, Data.of_new hv2, F', HM.out.kept0 hk2, HK.out.then hk2, HFF.out⟩
    · rw [hmx]
      clear hmx
      rcases hvar with ⟨hs0, e1, e2, e3⟩ | ⟨hs0, hs1, hsl⟩ | ⟨hs0, hs1, hsl⟩
      all_goals
        try (rw [← e1, ← e2, ← e3] at hlk; clear e1 e2 e3 hl0I)
        by_cases hcmp : n < (ln : Int)
        · rw [if_pos hcmp]
          go_enter Tryd.func11, Tryd.ntmps11
          go_wp2_with (first
            | (go_at_call 28; refine hmade.out.mono ?_; rintro e w' ⟨rfl, rfl⟩)
            | (go_at_call 31; refine (hnote.out _).mono ?_; rintro e w1 ⟨rfl, F', hm, hk, hF⟩; have hb1 := HBP.out.kept hk (fun k hk => H0.out.kinds k hk); have HM := Lib.hid hm; have HK := Lib.hid hk; have HFF := Lib.hid hF; have HB1 := Lib.hid hb1; clear hm hk hF hb1)
            | (go_at_call 30; refine (clone_any _ lp _ HB1.out.1 hlim.out).mono ?_; rintro e w2 ⟨v2, rfl, hv2, hk2⟩))
          go_ret2
          exact ⟨_, rfl, ⟨slc_nil _ _, by simp [vblk]⟩, F', HM.out, HK.out, HFF.out⟩
        · rw [if_neg hcmp]
          go_enter Tryd.func11, Tryd.ntmps11
          go_wp2_with (first
            | (go_at_call 28; refine hmade.out.mono ?_; rintro e w' ⟨rfl, rfl⟩)
            | (go_at_call 31; refine (hnote.out _).mono ?_; rintro e w1 ⟨rfl, F', hm, hk, hF⟩; have hb1 := HBP.out.kept hk (fun k hk => H0.out.kinds k hk); have HM := Lib.hid hm; have HK := Lib.hid hk; have HFF := Lib.hid hF; have HB1 := Lib.hid hb1; clear hm hk hF hb1)
            | (go_at_call 30; refine (clone_any _ lp _ HB1.out.1 hlim.out).mono ?_; rintro e w2 ⟨v2, rfl, hv2, hk2⟩))
          go_ret2
          exact ⟨_, rfl, Data.of_new hv2, F', HM.out.kept0 hk2, HK.out.then hk2, HFF.out⟩
end Go.Proofs.YtfkdoinlbdcaaaaDoor

/- The mirror: Put, Drop, Asked. -/
import Derived.Test.YtfkdoinlbdcaaaaDoorMirB
namespace Go.Proofs.YtfkdoinlbdcaaaaDoor
open Go.RowKit
open Go.Maps (Keyed)

theorem sameStr (x y : List UInt8) : (Lit.string x).sameKey (.string y) = decide (x = y) := by
  by_cases h : x = y <;> simp [Lit.sameKey, h]
section
variable {w : World} {b mb : Nat} {aa : Option Addr} {ac : Nat} {M : Lit → Option Value} {d : PMir}
theorem MirAt.keep (h : MirAt w b mb aa ac M d) {w' : World} {c : Nat} {M' : Lit → Option Value} {f : List UInt8 → Option (List UInt8)} (k : Kept [mb] w w') (hm : MapIs Tryd.prog w' 9 mb c M')
    (h1 : ∀ x v, M' (.string x) = some v → ∃ l, f x = some l ∧ Data w v l ∧ l.length ≤ 1048576) (h2 : ∀ x, M' (.string x) = none → f x = none) (hc : c ≤ 256) :
    MirAt w' b mb aa ac M' { d with file := f, cnt := c } := by
  have hX : ∀ k, k ∈ [mb] → kind w k ≠ 5 + 2 := by intro k hk; simp at hk; subst hk; rw [h.km]; decide
  exact {
    head := k.heap h.head (by simpa using h.bm)
    map := hm
    row := h.row.kept k (by intro g hg hx; simp at hx; subst hx; exact ne_kind (h.ka hg) h.km (by decide) rfl)
    have_ := fun x v hv => by obtain ⟨l, e, r, q⟩ := h1 x v hv; exact ⟨l, e, r.kept k hX, q⟩
    gone := h2
    cnt := hc
    slow := h.slow
    few := h.few }
theorem MirAt.isSome (h : MirAt w b mb aa ac M d) (x : List UInt8) : (M (.string x)).isSome = (d.file x).isSome := by
  cases hM : M (.string x) with
  | none => rw [h.gone x hM]; rfl
  | some v =>
    obtain ⟨l, e, -⟩ := h.have_ x v hM
    rw [e]; rfl
end

set_option maxRecDepth 10000 in
set_option maxHeartbeats 1600000 in
theorem put_any {w : World} {b : Nat} {F : List Nat} {d : PMir} (h : MirRep w b F d) (s : ByteArray) (hs : s.size ≤ maxLen) {v : Value} {l : List UInt8} (hv : Bytes w v l) (hl : l.length ≤ maxLen) :
    Calls Tryd.prog 9 #[.pointer (some ⟨b, 0, none⟩), .string s, v] w fun e w' => e = .returned (.int .i64 (d.put s l).1) ∧ MirRep w' b F (d.put s l).2 ∧ Kept F w w' := by
  have hmade := Lib.hid (made_any h)
  have hname := Lib.hid (isName_any s w hs)
  have H0 := Lib.hid h
  obtain ⟨mb, aa, ac, M, rfl, h⟩ := h
  obtain ⟨va, vc, rfl, -, -⟩ := hv.form
  have hkey := Go.WideMaps.keyOf_string_mk (P := Tryd.prog) Tryd.underlying9 hs
  have hlk := (h.map.at.lookup keyStr Tryd.underlying60 (zeroBytes w) hkey).1
  have hln := fun ty => h.map.len Tryd.underlying60 ty
  have c0 := h.c0
  have hl2 : (l.length : Int) ≤ 9223372036854775807 := by simp only [maxLen] at hl; omega
  have his := h.isSome s.data.toList
  have hcnt := h.cnt
  unfold PMir.put
  cases hk : nameOk s
  · rw [hk] at hname
    rw [if_pos rfl]
    have hgo : ∀ x : Option Value, ∃ y, (x.getD (.slice none 0 0)) = y := fun x => ⟨_, rfl⟩
    obtain ⟨y, hy⟩ := hgo (M (.string s.data.toList))
    obtain ⟨z, hz⟩ : ∃ z, (M (.string s.data.toList)).isSome = z := ⟨_, rfl⟩
    rw [hy, hz] at hlk
    clear h hk hy hz his hln hl hv
    go_enter Tryd.func9, Tryd.ntmps9
    go_wp2_with (first
      | (go_at_call 28; refine hmade.out.mono ?_; rintro e w' ⟨rfl, rfl⟩)
      | (go_at_call 29; refine hname.out.mono ?_; rintro e w' ⟨rfl, rfl⟩))
    go_ret
    exact ⟨rfl, H0.out, Kept.refl _ _⟩
  · rw [hk] at hname
    rw [if_neg (by simp)]
    by_cases hbig : 1048576 < l.length
    · rw [if_pos hbig]
      obtain ⟨y, hy⟩ : ∃ y, (M (.string s.data.toList)).getD (.slice none 0 0) = y := ⟨_, rfl⟩
      obtain ⟨z, hz⟩ : ∃ z, (M (.string s.data.toList)).isSome = z := ⟨_, rfl⟩
      rw [hy, hz] at hlk
      have hbig' : (1048576 : Int) < l.length := by omega
      clear h hk hy hz his hln hl hv hbig
      go_enter Tryd.func9, Tryd.ntmps9
      go_wp2_with (first
        | (go_at_call 28; refine hmade.out.mono ?_; rintro e w' ⟨rfl, rfl⟩)
        | (go_at_call 29; refine hname.out.mono ?_; rintro e w' ⟨rfl, rfl⟩))
      go_ret
      exact ⟨rfl, H0.out, Kept.refl _ _⟩
    · rw [if_neg hbig]
      have hbig' : ¬(1048576 : Int) < l.length := by omega
      by_cases hfull : d.file s.data.toList = none ∧ 256 ≤ d.cnt
      · rw [if_pos hfull]
        have hz : (M (.string s.data.toList)).isSome = false := by rw [his, hfull.1]; rfl
        obtain ⟨y, hy⟩ : ∃ y, (M (.string s.data.toList)).getD (.slice none 0 0) = y := ⟨_, rfl⟩
        rw [hy, hz] at hlk
        have hfull' : (256 : Int) ≤ d.cnt := by omega
        clear h hk hy hz his hl hv hbig hfull
        go_enter Tryd.func9, Tryd.ntmps9
        go_wp2_with (first
          | (go_at_call 28; refine hmade.out.mono ?_; rintro e w' ⟨rfl, rfl⟩)
          | (go_at_call 29; refine hname.out.mono ?_; rintro e w' ⟨rfl, rfl⟩))
        go_ret
        exact ⟨rfl, H0.out, Kept.refl _ _⟩
      · rw [if_neg hfull]
        have hor : (M (.string s.data.toList)).isSome = true ∨ ((M (.string s.data.toList)).isSome = false ∧ ¬(256 : Int) ≤ d.cnt) := by
          cases hz : (M (.string s.data.toList)).isSome
          · refine .inr ⟨rfl, fun hx => hfull ⟨?_, by omega⟩⟩
            rw [hz] at his
            cases hf : d.file s.data.toList with
            | none => rfl
            | some _ => rw [hf] at his; cases his
          · exact .inl rfl
        obtain ⟨y, hy⟩ : ∃ y, (M (.string s.data.toList)).getD (.slice none 0 0) = y := ⟨_, rfl⟩
        rw [hy] at hlk
        have hvW := Lib.hid (hv.kept0 (Kept.refl [] w).drew)
        have hll : l.length ≤ lim := by simp only [lim]; omega
        have HW := Lib.hid (h.kept0 (Kept.refl [] w).drew)
        have HKEY := Lib.hid hkey
        have HIS := Lib.hid his
        have hnb : l.length ≤ 1048576 := by omega
        have HNB := Lib.hid hnb
        have hfin : (if (M (.string s.data.toList)).isSome then d.cnt else d.cnt + 1) ≤ 256 := by
          rcases hor with e | ⟨e, e2⟩
          · rw [e]; simpa using hcnt
          · rw [e]; simp; omega
        have HFIN := Lib.hid hfin
        clear h hk hy his hl hv hbig hfull hkey hfin hnb
        rcases hor with hz | ⟨hz, hz2⟩
        all_goals
          rw [hz] at hlk
          have HZ := Lib.hid hz
          clear hz
          go_enter Tryd.func9, Tryd.ntmps9
          go_wp2_with (first
            | (go_at_call 28; refine hmade.out.mono ?_; rintro e w' ⟨rfl, rfl⟩)
            | (go_at_call 29; refine hname.out.mono ?_; rintro e w' ⟨rfl, rfl⟩))
          have hSS : (fun w' : World => w'.cell? ⟨b, 0, none⟩ = some (.map (some mb))) w.drew := c0
          refine wp_region_last' (n := 8) (fun w' : World => w'.cell? ⟨b, 0, none⟩ = some (.map (some mb))) 7 (by kernel_rfl) (by kernel_rfl) ?_
          change wpAnyT _ _ _ _ _ _ _ _ _ w.drew
          refine wpAnyT_start ?_
          intro O R hO hR
          have hQp : ∀ c a (d : Nat) v w, R (.panic c) (a.put (some d) v) w → R (.panic c) a w := by subst hR; exact fun _ _ _ _ _ h => h
          refine wpAnyT_take' (i := 0) (v := ?_) hO rfl rfl (by kernel_rfl) (by kernel_rfl) (by kernel_rfl) (by kernel_rfl) hQp (Or.inl ⟨by kernel_rfl, fun w hSw => ?_⟩) hSS ?_
          rotate_left
          · have s0 := hSw; go_simp; try with_reducible rfl
          try simp only [Act.put, List.setIfInBounds_toArray, List.set_cons_zero, List.set_cons_succ]
          refine wpAnyT_take' (i := 1) (v := ?_) hO rfl rfl (by kernel_rfl) (by kernel_rfl) (by kernel_rfl) (by kernel_rfl) hQp (Or.inl ⟨by kernel_rfl, fun w hSw => ?_⟩) hSS ?_
          rotate_left
          · have s0 := hSw; go_simp; try with_reducible rfl
          try simp only [Act.put, List.setIfInBounds_toArray, List.set_cons_zero, List.set_cons_succ]
          refine wpAnyT_take' (i := 2) (v := ?_) hO rfl rfl (by kernel_rfl) (by kernel_rfl) (by kernel_rfl) (by kernel_rfl) hQp (Or.inl ⟨by kernel_rfl, fun w hSw => ?_⟩) hSS ?_
          rotate_left
          · have s0 := hSw; go_simp; try with_reducible rfl
          try simp only [Act.put, List.setIfInBounds_toArray, List.set_cons_zero, List.set_cons_succ]
          refine wpAnyT_take' (i := 3) (v := ?_) hO rfl rfl (by kernel_rfl) (by kernel_rfl) (by kernel_rfl) (by kernel_rfl) hQp (Or.inl ⟨by kernel_rfl, fun w hSw => ?_⟩) hSS ?_
          rotate_left
          · have s0 := hSw; go_simp; try with_reducible rfl
          try simp only [Act.put, List.setIfInBounds_toArray, List.set_cons_zero, List.set_cons_succ]
          refine wpAnyT_take' (i := 4) (v := ?_) hO rfl rfl (by kernel_rfl) (by kernel_rfl) (by kernel_rfl) (by kernel_rfl) hQp (Or.inl ⟨by kernel_rfl, fun w hSw => ?_⟩) hSS ?_
          rotate_left
          · have s0 := hSw; go_simp; try with_reducible rfl
          try simp only [Act.put, List.setIfInBounds_toArray, List.set_cons_zero, List.set_cons_succ]
          refine wpAnyT_take' (i := 5) (v := ?_) hO rfl rfl (by kernel_rfl) (by kernel_rfl) (by kernel_rfl) (by kernel_rfl) hQp (Or.inl ⟨by kernel_rfl, fun w hSw => ?_⟩) hSS ?_
          rotate_left
          · have s0 := hSw; go_simp; try with_reducible rfl
          try simp only [Act.put, List.setIfInBounds_toArray, List.set_cons_zero, List.set_cons_succ]
          refine wpAnyT_one' (i := 6) hO rfl (by kernel_rfl) (by kernel_rfl) (fun K hK => ?_)
          go_simp
          refine Calls.mono (clone_any _ l _ hvW.out hll) ?_
          rintro e w2 ⟨v2, rfl, hv2, hk2⟩
          obtain ⟨a2, d2, rfl, -, -⟩ := hv2.1.form
          have hM2 := HW.out.kept0 hk2
          obtain ⟨w3, hup, hmap3, hk3, -⟩ := hM2.map.update keyStr Tryd.underlying60 (by have := hM2.cnt; simp only [maxLen]; omega) HKEY.out (.slice a2 l.length d2)
          have HM2 := Lib.hid hM2
          have HV2 := Lib.hid (Data.of_new hv2)
          have HK2 := Lib.hid ((Kept.refl [] w).drew.trans' hk2)
          have HK3 := Lib.hid hk3
          have HMAP := Lib.hid hmap3
          have s0 := hM2.c0
          clear hSS
          have hSS : (fun w' : World => w'.cell? ⟨b, 0, none⟩ = some (.map (some mb))) w2 := s0
          clear hM2 hv2 hk2 hk3 hmap3 s0
          refine hK _ _ (.inr hSS) ?_
          clear hK K
          try simp only [Act.put, List.setIfInBounds_toArray, List.set_cons_zero, List.set_cons_succ]
          refine wpAnyT_one' (i := 7) hO rfl (by kernel_rfl) (by kernel_rfl) (fun K hK => ?_)
          go_simp
          refine hK _ _ (.inl rfl) ?_
          clear hK K
          try simp only [Act.put, List.setIfInBounds_toArray, List.set_cons_zero, List.set_cons_succ]
          refine wpAnyT_done' hO (by kernel_rfl) ?_ _
          subst hR
          go_wp2_with fail
          go_ret
          refine ⟨rfl, ⟨mb, aa, ac, (fun z => if z.sameKey (.string s.data.toList) then some (.slice a2 l.length d2) else M z), rfl, ?_⟩, (HK2.out.mono (by simp)).trans' (HK3.out.mono (by simp))⟩
          have hc : (if (d.file s.data.toList).isSome = true then d.cnt else d.cnt + 1) = (if (M (.string s.data.toList)).isSome = true then d.cnt else d.cnt + 1) := by rw [HIS.out]
          unfold PMir.stored
          rw [hc]
          refine HM2.out.keep HK3.out HMAP.out ?_ ?_ HFIN.out
          · intro x v hx
            simp only [sameStr] at hx
            by_cases e : x = s.data.toList
            · subst e
              simp only [decide_true, if_true] at hx ⊢
              cases hx
              exact ⟨l, rfl, HV2.out, HNB.out⟩
            · simp only [e, decide_false, Bool.false_eq_true, if_false] at hx ⊢
              exact HM2.out.have_ x v hx
          · intro x hx
            simp only [sameStr] at hx
            by_cases e : x = s.data.toList
            · subst e
              simp at hx
            · simp only [e, decide_false, Bool.false_eq_true, if_false] at hx ⊢
              exact HM2.out.gone x hx
end Go.Proofs.YtfkdoinlbdcaaaaDoor

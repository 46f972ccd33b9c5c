/- Parts of one proof, merged: XPc XDg XDd. -/
import Derived.Test.YtpbphdkjjoipnaaGreatDoorDG
import Derived.Test.YtpbphdkjjoipnaaGreatDoorDD
import Derived.Test.YtpbphdkjjoipnaaGreatDoorDH
import Derived.Test.YtpbphdkjjoipnaaGreatDoorDL
set_option linter.all false
set_option linter.unusedVariables false
set_option linter.unusedSimpArgs false
set_option linter.unnecessarySimpa false
namespace Go.Proofs.YtpbphdkjjoipnaaGreatDoor
open Go.RowKit
section
variable {α : Type} {sub : α → α → List ByteArray} {f : Nat} {a b : List (ByteArray × α)} {i k : Nat}
theorem maps_l (hi : i < a.length) (hf : (a.length - i) + (b.length - k) ≤ f) (h : b.length ≤ k ∨ ∃ hk : k < b.length, ltB a[i].1 b[k].1 = true) : ∃ f', (a.length - (i + 1)) + (b.length - k) ≤ f' ∧ mapsGo sub f (a.drop i) (b.drop k) = (slash ++ a[i].1) :: mapsGo sub f' (a.drop (i + 1)) (b.drop k) := by
  rw [List.drop_eq_getElem_cons hi]
  obtain ⟨f', h1, h2⟩ := maps_left (sub := sub) (f := f) (x := a[i]) (a := a.drop (i + 1)) (b := b.drop k) (by simp only [List.length_cons, List.length_drop]; omega) (by
    rcases h with h | ⟨hk, h⟩
    · exact .inl (List.drop_eq_nil_of_le h)
    · exact .inr ⟨b[k], b.drop (k + 1), List.drop_eq_getElem_cons hk, h⟩)
  simp only [List.length_drop] at h1
  exact ⟨f', h1, h2⟩
theorem maps_r (hk : k < b.length) (hf : (a.length - i) + (b.length - k) ≤ f) (h : a.length ≤ i ∨ ∃ hi : i < a.length, ltB a[i].1 b[k].1 = false ∧ ltB b[k].1 a[i].1 = true) : ∃ f', (a.length - i) + (b.length - (k + 1)) ≤ f' ∧ mapsGo sub f (a.drop i) (b.drop k) = (slash ++ b[k].1) :: mapsGo sub f' (a.drop i) (b.drop (k + 1)) := by
  rw [List.drop_eq_getElem_cons hk]
  obtain ⟨f', h1, h2⟩ := maps_right (sub := sub) (f := f) (y := b[k]) (a := a.drop i) (b := b.drop (k + 1)) (by simp only [List.length_cons, List.length_drop]; omega) (by
    rcases h with h | ⟨hi, h⟩
    · exact .inl (List.drop_eq_nil_of_le h)
    · exact .inr ⟨a[i], a.drop (i + 1), List.drop_eq_getElem_cons hi, h⟩)
  simp only [List.length_drop] at h1
  exact ⟨f', h1, h2⟩
theorem maps_b (hi : i < a.length) (hk : k < b.length) (hf : (a.length - i) + (b.length - k) ≤ f) (h : ltB a[i].1 b[k].1 = false) (h2 : ltB b[k].1 a[i].1 = false) : ∃ f', (a.length - (i + 1)) + (b.length - (k + 1)) ≤ f' ∧ mapsGo sub f (a.drop i) (b.drop k) = underL a[i].1 (sub a[i].2 b[k].2) ++ mapsGo sub f' (a.drop (i + 1)) (b.drop (k + 1)) := by
  rw [List.drop_eq_getElem_cons hi, List.drop_eq_getElem_cons hk]
  obtain ⟨f', h1, h2⟩ := maps_both (sub := sub) (f := f) (x := a[i]) (y := b[k]) (a := a.drop (i + 1)) (b := b.drop (k + 1)) (by simp only [List.length_cons, List.length_drop]; omega) h h2
  simp only [List.length_drop] at h1
  exact ⟨f', h1, h2⟩
theorem maps_cases (ltk : α → α → Bool) (hi : i ≤ a.length) (hk : k ≤ b.length) : (i = a.length ∧ k = b.length) ∨ (∃ hi : i < a.length, k = b.length ∨ ∃ hk : k < b.length, ltB a[i].1 b[k].1 = true) ∨ (∃ hk : k < b.length, i = a.length ∨ ∃ hi : i < a.length, ltB a[i].1 b[k].1 = false ∧ ltB b[k].1 a[i].1 = true) ∨
    ∃ (hi : i < a.length) (hk : k < b.length), ltB a[i].1 b[k].1 = false ∧ ltB b[k].1 a[i].1 = false := by
  rcases Nat.lt_or_ge i a.length with h1 | h1
  · rcases Nat.lt_or_ge k b.length with h2 | h2
    · cases e1 : ltB a[i].1 b[k].1 with
      | true => exact .inr (.inl ⟨h1, .inr ⟨h2, e1⟩⟩)
      | false =>
        cases e2 : ltB b[k].1 a[i].1 with
        | true => exact .inr (.inr (.inl ⟨h2, .inr ⟨h1, e1, e2⟩⟩))
        | false => exact .inr (.inr (.inr ⟨h1, h2, e1, e2⟩))
    · exact .inr (.inl ⟨h1, .inl (by omega)⟩)
  · rcases Nat.lt_or_ge k b.length with h2 | h2
    · exact .inr (.inr (.inl ⟨h2, .inl (by omega)⟩))
    · exact .inl ⟨by omega, by omega⟩
end
theorem strs_snoc (o : List ByteArray) (x : ByteArray) : strsV (o ++ [x]) = strsV o ++ [.string x] := by unfold strsV; rw [List.map_append]; rfl
theorem strs_app (o p : List ByteArray) : strsV (o ++ p) = strsV o ++ strsV p := by unfold strsV; rw [List.map_append]
def RefPartsKnown (n : Nat) : Prop := ∀ (a b : V n) {S T : Nat → Prop} {w : World} {ca cb : List Value}, Rep n S w ca a → Rep n T w cb b → Good n a → Good n b →
  Calls Tryz.prog 48 #[.agg ca.toArray, .agg cb.toArray] w fun e w' => (∃ p c, e = .returned (.slice p (partsV n a b).length c) ∧ w'.ownsRow w.heap.size 9 1 (.slice p (partsV n a b).length c) (partsV n a b).length (strsV (partsV n a b))) ∧ Kept [] w w'
set_option maxRecDepth 100000 in
set_option maxHeartbeats 25600000 in
theorem refParts_step {n : Nat} (hn : n + 1 ≤ 100) (known : RefPartsKnown n) : RefPartsKnown (n + 1) := fun (va : VS (V n)) (vb : VS (V n)) {S T w ca cb} h h' hga hgb => by
  have IH := @Lib.hid (RefPartsKnown n) (by exact @known)
  have Gx := Lib.hid hga
  have Ja := Lib.hid hgb
  obtain ⟨vl, vm, lcs, mcs, h⟩ := h
  obtain ⟨a, c, b, e, rfl, rfl, rfl⟩ := h.forms
  obtain ⟨vl', vm', lcs', mcs', h'⟩ := h'
  obtain ⟨a', c', b', e', rfl, rfl, rfl⟩ := h'.forms
  have H := Lib.hid h
  have H' := Lib.hid h'
  obtain ⟨W0, Ge⟩ : ∃ W0, Hid (W0 = (w.alloc (.cells #[.int .i64 va.kind, .int .i64 va.num, .string va.s, .slice a va.l.length c, .slice b va.m.length e] 25)).alloc (.cells #[.int .i64 vb.kind, .int .i64 vb.num, .string vb.s, .slice a' vb.l.length c', .slice b' vb.m.length e'] 25)) := ⟨_, Lib.hid rfl⟩
  have Gc : Hid (Kept [] w W0) := Lib.hid (by rw [Ge.out]; exact ((Kept.refl [] w).alloc _).alloc _)
  have HA : Hid (BoxAt W0 w.heap.size va.kind va.num va.s (.slice a va.l.length c) (.slice b va.m.length e)) := Lib.hid (by rw [Ge.out]; exact (box_at _ _ _ _ _ _ _).kept0 ((Kept.refl [] _).alloc _))
  have HB : Hid (BoxAt W0 (w.heap.size + 1) vb.kind vb.num vb.s (.slice a' vb.l.length c') (.slice b' vb.m.length e')) := Lib.hid (by rw [Ge.out]; exact box_at' (by simp) _ _ _ _ _ _)
  have CS := Lib.hid (exact_any (n + 1) va vb (h.close.kept0 Gc.out) (h'.close.kept0 Gc.out) hga.few)
  have hlv : va.l.length ≤ 20000 := by have := hga.few.few; omega
  have hlv' : vb.l.length ≤ 20000 := by have := hgb.few.few; omega
  have hmv : va.m.length ≤ 20000 := by have := hga.few.few; omega
  have hmv' : vb.m.length ≤ 20000 := by have := hgb.few.few; omega
  have HN : Hid (n ≤ 100) := Lib.hid (by omega)
  have Jv : Hid ((partsV (n + 1) va vb).length ≤ 40000) := Lib.hid (by have h1 := parts_few (n + 1) va vb; have h2 := hga.few.1; have h3 := hgb.few.1; omega)
  obtain ⟨a0, a1, a2, a3, a4⟩ := HA.out
  obtain ⟨b0, b1, b2, b3, b4⟩ := HB.out
  rw [Ge.out] at a0 a1 a2 a3 a4 b0 b1 b2 b3 b4
  clear h h' hga hgb hn
  go_enter Tryz.func48, Tryz.ntmps48
  go_wp2_with fail
  rw [← Ge.out]
  clear a0 a1 a2 a3 a4 b0 b1 b2 b3 b4
  refine CS.out.mono ?_
  rintro e1 w1 ⟨rfl, hk1⟩
  have Gd := Lib.hid hk1
  have Gh := Lib.hid (Gc.out.then hk1)
  clear hk1
  obtain ⟨a0, a1, a2, a3, a4⟩ := HA.out.kept0 Gd.out
  obtain ⟨b0, b1, b2, b3, b4⟩ := HB.out.kept0 Gd.out
  cases heq : eqV (n + 1) va vb with
  | true =>
    have HE := Lib.hid (parts_same heq)
    clear heq
    go_wp2_with fail
    go_ret
    rw [HE.out]
    exact ⟨⟨_, _, rfl, World.ownsRow_nil _ _ _ _⟩, Gh.out⟩
  | false =>
  have Jk := Lib.hid heq
  clear heq
  by_cases h6 : va.kind = 6 ∧ vb.kind = 6
  · have HE := Lib.hid (parts_maps Jk.out h6)
    obtain ⟨f1, f2⟩ := int_eq h6.1
    obtain ⟨f3, f4⟩ := int_eq h6.2
    clear h6
    go_wp2_with fail
    clear f1 f2 f3 f4 a0 a1 a2 a3 a4 b0 b1 b2 b3 b4
    go_loopw [5, 6, 7] (fun z i k wr => ∃ (x y : Nat) (o : List ByteArray) (f : Nat) (o1 : Option Addr) (o2 : Nat), i = .int .i64 x ∧ k = .int .i64 y ∧ z = .slice o1 o.length o2 ∧ x ≤ va.m.length ∧ y ≤ vb.m.length ∧ wr.ownsRow w1.heap.size 9 1 (.slice o1 o.length o2) o.length (strsV o) ∧ Hid (o ++ mapsGo (partsV n) f (va.m.drop x) (vb.m.drop y) = partsV (n + 1) va vb) ∧ Hid ((va.m.length - x) + (vb.m.length - y) ≤ f) ∧ Kept [] w1 wr) (fun _ i k _ => (va.m.length - (intOf i).toNat) + (vb.m.length - (intOf k).toNat))
    case atStart => exact ⟨0, 0, [], va.m.length + vb.m.length, none, 0, rfl, rfl, rfl, Nat.zero_le _, Nat.zero_le _, World.ownsRow_nil _ _ _ _, Lib.hid (by rw [HE.out]; rfl), Lib.hid (by omega), Kept.refl _ _⟩
    case round =>
      obtain ⟨x, y, o, f, o1, o2, rfl, rfl, rfl, hx, hy, hrow, Gf, HF, hkr⟩ := hrel
      have Gg := Lib.hid hrow
      have Gb := Lib.hid hkr
      clear hrow hkr
      have hxI : (x : Int) ≤ va.m.length := by omega
      have hyI : (y : Int) ≤ vb.m.length := by omega
      obtain ⟨a0, a1, a2, a3, a4⟩ := HA.out.kept0 (Gd.out.then Gb.out)
      obtain ⟨b0, b1, b2, b3, b4⟩ := HB.out.kept0 (Gd.out.then Gb.out)
      have A4 := Lib.hid a4
      have B4 := Lib.hid b4
      have Gp : Hid (o.length ≤ 40000) := Lib.hid (by have h1 := congrArg List.length Gf.out; rw [List.length_append] at h1; have h2 := Jv.out; omega)
      clear a0 a1 a2 a3 b0 b1 b2 b3
      rcases maps_cases (fun _ _ => true) hx hy with ⟨h1, h2⟩ | ⟨hi, hb⟩ | ⟨hk, ha⟩ | ⟨hi, hk, h1, h2⟩
      · have hnx : ¬ ((x : Int) < va.m.length) := by omega
        have hny : ¬ ((y : Int) < vb.m.length) := by omega
        have HO : Hid (o = partsV (n + 1) va vb) := Lib.hid (by
          have h9 := Gf.out
          rw [h1, h2, List.drop_length, List.drop_length, maps_nil, List.append_nil] at h9
          exact h9)
        clear h1 h2
        go_wp2_with fail
        go_ret
        rw [← HO.out]
        exact ⟨⟨_, _, rfl, row_base Gg.out (fun g hg => by have h1 := (Gg.out.lt g hg).1; have h2 := Gh.out.size; omega)⟩, Gh.out.then Gb.out⟩
      · obtain ⟨f', hf', hml⟩ := maps_l (sub := partsV n) hi HF.out (by rcases hb with hb | hb; exact .inl (by omega); exact .inr hb)
        have Jb := Lib.hid hf'
        have Gj := Lib.hid hml
        have hiI : (x : Int) < va.m.length := by omega
        obtain ⟨g, o0, cap, kd, nm, st, x1, y1, he, q0, q1, q2, q3, q4, q5, hr⟩ := H.out.at_m (Gh.out.then Gb.out) x hi
        simp only [Value.slice.injEq] at he
        obtain ⟨rfl, -, rfl⟩ := he
        have hks : (va.m[x]).1.size ≤ 400000 := by have h1 := key_le (List.getElem_mem hi); have h2 := Gx.out.few.2; omega
        clear hr q1 q2 q3 q4 q5 hf' hml
        have hcond : (((y : Int) == (vb.m.length : Int)) = true ∧ Hid (y = vb.m.length)) ∨ ∃ hk : y < vb.m.length, ((y : Int) == (vb.m.length : Int)) = false ∧ Op.bytesLess (va.m[x]).1.toList (vb.m[y]).1.toList = true := by
          rcases hb with hb | ⟨hk, hb⟩
          · exact .inl ⟨(nat_eq hb).1, Lib.hid hb⟩
          · exact .inr ⟨hk, (nat_ne (by omega)).1, by rw [less_eq]; exact hb⟩
        clear hb
        have E0 := ext_cell a4
        have E1 := ext_cell b4
        have E2 := ext_cell q0
        have HX : Hid (x < va.m.length) := Lib.hid hi
        rcases hcond with ⟨f1, -⟩ | ⟨hk, f1, f2⟩
        case' inl =>
          revert q0 E2 Gj hks
          generalize va.m[x].1 = kp
          intro Gj q0 hks E2
          have Q0 := Lib.hid q0
          go_wp2_with fail
          refine wp_region_ext wr (by kernel_rfl) (by kernel_rfl) (Kept.refl _ _) ?_
          clear a4 b4 q0
          repeat go_big_quiet_step (fail)
          refine wpQuiet_nil ?_
          intro w2 hk2
          clear E0 E1 E2 f1
        case' inr =>
          have hkI : (y : Int) < vb.m.length := by omega
          obtain ⟨g', o0', cap', kd', nm', st', x1', y1', he', q0', -⟩ := H'.out.at_m (Gh.out.then Gb.out) y hk
          simp only [Value.slice.injEq] at he'
          obtain ⟨rfl, -, rfl⟩ := he'
          have E3 := ext_cell q0'
          revert q0 E2 Gj hks f2
          generalize va.m[x].1 = kp
          intro Gj q0 hks E2 f2
          have Q0 := Lib.hid q0
          go_wp2_with fail
          refine wp_region_ext wr (by kernel_rfl) (by kernel_rfl) (Kept.refl _ _) ?_
          clear a4 b4 q0 q0'
          repeat go_big_quiet_step (fail)
          refine wpQuiet_nil ?_
          intro w2 hk2
          clear E0 E1 E2 E3 f1 f2 hkI
        all_goals
          have Ga := Lib.hid hk2
          have a4 := hk2.cell A4.out (by simp)
          have q0 := hk2.cell Q0.out (by simp)
          have Gq := Lib.hid (slc_new w2 [.string (⟨#[47]⟩ ++ kp)] 1 1 9 w2.heap.size rfl rfl (by decide))
          have Gi := Lib.hid (row_kept Gg.out hk2 (by simp))
          have Gr := Lib.hid (row_kept Gi.out ((Kept.refl [] w2).alloc (.cells #[.string (⟨#[47]⟩ ++ kp)] 9)) (by simp))
          have hz1 : ¬ 9223372036854775807 < 1 + kp.size := by omega
          clear hk2
          have hol := Gp.out
          go_wp2_with (at_builtin; refine wpList_append_slc tyStrs Gr.out Gq.out (by intro u hu; simp at hu; subst hu; rfl) (by simp only [maxLen]; omega) (by omega) (by have := Gb.out.size; have := Ga.out.size; simp; omega) rfl _ _ rfl rfl rfl ?_; intro v' w' hown hk3 _ hbk; have Gk := Lib.hid hown; have Jl := Lib.hid hk3; clear hown hk3 hbk)
          case roundEnd =>
            have h9 := Gk.out
            rw [show strsV o ++ [.string (⟨#[47]⟩ ++ kp)] = strsV (o ++ [slash ++ kp]) from (strs_snoc _ _).symm] at h9
            obtain ⟨a7, c7, rfl, -, -⟩ := (Slc.of_row h9).form
            refine ⟨⟨x + 1, y, o ++ [slash ++ kp], f', a7, c7, by go_num, rfl, by rw [List.length_append]; rfl, by have := HX.out; omega, hy, by rw [List.length_append]; exact h9, Lib.hid (by rw [← Gf.out, Gj.out]; simp), Jb, ((Gb.out.then Ga.out).alloc _).trans Jl.out (fun i hi => .inr (Gi.out.lt i (Option.mem_toList.1 hi)).1)⟩, by have := HX.out; simp [intOf]; omega⟩
      · obtain ⟨f', hf', hml⟩ := maps_r (sub := partsV n) hk HF.out (by rcases ha with ha | ha; exact .inl (by omega); exact .inr ha)
        have Jb := Lib.hid hf'
        have Gj := Lib.hid hml
        have hkI : (y : Int) < vb.m.length := by omega
        obtain ⟨g, o0, cap, kd, nm, st, x1, y1, he, q0, q1, q2, q3, q4, q5, hr⟩ := H'.out.at_m (Gh.out.then Gb.out) y hk
        simp only [Value.slice.injEq] at he
        obtain ⟨rfl, -, rfl⟩ := he
        have hks : (vb.m[y]).1.size ≤ 400000 := by have h1 := key_le (List.getElem_mem hk); have h2 := Ja.out.few.2; omega
        clear hr q1 q2 q3 q4 q5 hf' hml
        have f0 : ((y : Int) == (vb.m.length : Int)) = false := (nat_ne (by omega)).1
        have hcond : (((x : Int) == (va.m.length : Int)) = true ∧ decide ((x : Int) < va.m.length) = false ∧ decide (x < va.m.length) = false) ∨ ∃ hi : x < va.m.length, ((x : Int) == (va.m.length : Int)) = false ∧ Op.bytesLess (va.m[x]).1.toList (vb.m[y]).1.toList = false ∧ Op.bytesLess (vb.m[y]).1.toList (va.m[x]).1.toList = true := by
          rcases ha with ha | ⟨hi, h1, h2⟩
          · exact .inl ⟨(nat_eq ha).1, decide_eq_false (by omega), decide_eq_false (by omega)⟩
          · exact .inr ⟨hi, (nat_ne (by omega)).1, by rw [less_eq]; exact h1, by rw [less_eq]; exact h2⟩
        clear ha
        have E0 := ext_cell a4
        have E1 := ext_cell b4
        have E2 := ext_cell q0
        have HY : Hid (y < vb.m.length) := Lib.hid hk
        rcases hcond with ⟨f1, hnx, hnx2⟩ | ⟨hi, f1, f2, f3⟩
        case' inl =>
          revert q0 E2 Gj hks
          generalize vb.m[y].1 = kp
          intro Gj q0 hks E2
          have Q0 := Lib.hid q0
          go_wp2_with fail
          refine wp_region_ext wr (by kernel_rfl) (by kernel_rfl) (Kept.refl _ _) ?_
          clear a4 b4 q0
          repeat go_big_quiet_step (fail)
          refine wpQuiet_nil ?_
          intro w2 hk2
          have F0 := ext_cell (hk2.cell A4.out (by simp))
          have F1 := ext_cell (hk2.cell B4.out (by simp))
          have F2 := ext_cell (hk2.cell Q0.out (by simp))
          clear E0 E1 E2
          go_wp2_with fail
          refine wp_region_ext w2 (by kernel_rfl) (by kernel_rfl) (Kept.refl _ _) ?_
          repeat go_big_quiet_step (fail)
          refine wpQuiet_nil ?_
          intro w3 hk3
          clear F0 F1 F2 f1 hnx hnx2
        case' inr =>
          have hiI : (x : Int) < va.m.length := by omega
          obtain ⟨g', o0', cap', kd', nm', st', x1', y1', he', q0', -⟩ := H.out.at_m (Gh.out.then Gb.out) x hi
          simp only [Value.slice.injEq] at he'
          obtain ⟨rfl, -, rfl⟩ := he'
          have E3 := ext_cell q0'
          revert q0 E2 Gj hks f2 f3
          generalize vb.m[y].1 = kp
          intro Gj q0 hks E2 f2 f3
          have Q0 := Lib.hid q0
          have Q0' := Lib.hid q0'
          go_wp2_with fail
          refine wp_region_ext wr (by kernel_rfl) (by kernel_rfl) (Kept.refl _ _) ?_
          clear a4 b4 q0 q0'
          repeat go_big_quiet_step (fail)
          refine wpQuiet_nil ?_
          intro w2 hk2
          have F0 := ext_cell (hk2.cell A4.out (by simp))
          have F1 := ext_cell (hk2.cell B4.out (by simp))
          have F2 := ext_cell (hk2.cell Q0.out (by simp))
          have F3 := ext_cell (hk2.cell Q0'.out (by simp))
          clear E0 E1 E2 E3
          go_wp2_with fail
          refine wp_region_ext w2 (by kernel_rfl) (by kernel_rfl) (Kept.refl _ _) ?_
          repeat go_big_quiet_step (fail)
          refine wpQuiet_nil ?_
          intro w3 hk3
          clear F0 F1 F2 F3 f1 f2 f3 hiI
        all_goals
          have Ga := Lib.hid (hk2.then hk3)
          have b4 := Ga.out.cell B4.out (by simp)
          have q0 := Ga.out.cell Q0.out (by simp)
          have Gq := Lib.hid (slc_new w3 [.string (⟨#[47]⟩ ++ kp)] 1 1 9 w3.heap.size rfl rfl (by decide))
          have Gi := Lib.hid (row_kept Gg.out Ga.out (by simp))
          have Gr := Lib.hid (row_kept Gi.out ((Kept.refl [] w3).alloc (.cells #[.string (⟨#[47]⟩ ++ kp)] 9)) (by simp))
          have hz1 : ¬ 9223372036854775807 < 1 + kp.size := by omega
          clear hk2 hk3 f0
          have hol := Gp.out
          go_wp2_with (at_builtin; refine wpList_append_slc tyStrs Gr.out Gq.out (by intro u hu; simp at hu; subst hu; rfl) (by simp only [maxLen]; omega) (by omega) (by have := Gb.out.size; have := Ga.out.size; simp; omega) rfl _ _ rfl rfl rfl ?_; intro v' w' hown hk3 _ hbk; have Gk := Lib.hid hown; have Jl := Lib.hid hk3; clear hown hk3 hbk)
          case roundEnd =>
            have h9 := Gk.out
            rw [show strsV o ++ [.string (⟨#[47]⟩ ++ kp)] = strsV (o ++ [slash ++ kp]) from (strs_snoc _ _).symm] at h9
            obtain ⟨a7, c7, rfl, -, -⟩ := (Slc.of_row h9).form
            refine ⟨⟨x, y + 1, o ++ [slash ++ kp], f', a7, c7, rfl, by go_num, by rw [List.length_append]; rfl, hx, by have := HY.out; omega, by rw [List.length_append]; exact h9, Lib.hid (by rw [← Gf.out, Gj.out]; simp), Jb, ((Gb.out.then Ga.out).alloc _).trans Jl.out (fun i hi => .inr (Gi.out.lt i (Option.mem_toList.1 hi)).1)⟩, by have := HY.out; simp [intOf]; omega⟩
      · obtain ⟨f', hf', hml⟩ := maps_b (sub := partsV n) hi hk HF.out h1 h2
        have Jb := Lib.hid hf'
        have Gj := Lib.hid hml
        have hiI : (x : Int) < va.m.length := by omega
        have hkI : (y : Int) < vb.m.length := by omega
        obtain ⟨g, o0, cap, kd, nm, st, x1, y1, he, q0, q1, q2, q3, q4, q5, hr⟩ := H.out.at_m Gh.out x hi
        obtain ⟨g', o0', cap', kd', nm', st', x1', y1', he', q0', q1', q2', q3', q4', q5', hr'⟩ := H'.out.at_m Gh.out y hk
        simp only [Value.slice.injEq] at he he'
        obtain ⟨rfl, -, rfl⟩ := he
        obtain ⟨rfl, -, rfl⟩ := he'
        obtain ⟨p1, i1, d1, p2, i2, d2, rfl, rfl⟩ := hr.sl
        obtain ⟨p1', i1', d1', p2', i2', d2', rfl, rfl⟩ := hr'.sl
        have Jy : Hid ((va.m[x]).1.size ≤ 400000) := Lib.hid (by have h1 := key_le (List.getElem_mem hi); have h2 := Gx.out.few.2; omega)
        have Jm := Lib.hid (Gx.out.kid (mem_m (List.getElem_mem hi)))
        have Jn := Lib.hid (Ja.out.kid (mem_m (List.getElem_mem hk)))
        have Jo := Lib.hid hr
        have Jc := Lib.hid hr'
        have f0 : ((y : Int) == (vb.m.length : Int)) = false := (nat_ne (by omega)).1
        have f1 : ((x : Int) == (va.m.length : Int)) = false := (nat_ne (by omega)).1
        have f2 : Op.bytesLess (va.m[x]).1.toList (vb.m[y]).1.toList = false := by rw [less_eq]; exact h1
        have f3 : Op.bytesLess (vb.m[y]).1.toList (va.m[x]).1.toList = false := by rw [less_eq]; exact h2
        have HX : Hid (x < va.m.length) := Lib.hid hi
        have HY : Hid (y < vb.m.length) := Lib.hid hk
        have Q0 := Lib.hid q0
        have Q0' := Lib.hid q0'
        have QS : Hid _ := Lib.hid (And.intro q1 (And.intro q2 (And.intro q3 (And.intro q4 q5))))
        have QS' : Hid _ := Lib.hid (And.intro q1' (And.intro q2' (And.intro q3' (And.intro q4' q5'))))
        clear hr hr' hf' hml h1 h2 q0 q0' q1 q2 q3 q4 q5 q1' q2' q3' q4' q5'
        have E0 := ext_cell a4
        have E1 := ext_cell b4
        have E2 := ext_cell (Gb.out.cell Q0.out (by simp))
        have E3 := ext_cell (Gb.out.cell Q0'.out (by simp))
        go_wp2_with fail
        refine wp_region_ext wr (by kernel_rfl) (by kernel_rfl) (Kept.refl _ _) ?_
        clear a4 b4
        repeat go_big_quiet_step (fail)
        refine wpQuiet_nil ?_
        intro w2 hk2
        have F0 := ext_cell (hk2.cell A4.out (by simp))
        have F1 := ext_cell (hk2.cell B4.out (by simp))
        have F2 := ext_cell ((Gb.out.then hk2).cell Q0.out (by simp))
        have F3 := ext_cell ((Gb.out.then hk2).cell Q0'.out (by simp))
        clear E0 E1 E2 E3
        go_wp2_with fail
        refine wp_region_ext w2 (by kernel_rfl) (by kernel_rfl) (Kept.refl _ _) ?_
        repeat go_big_quiet_step (fail)
        refine wpQuiet_nil ?_
        intro w3 hk3
        clear F0 F1 F2 F3 f0 f1 f2 f3
        have Ga := Lib.hid (hk2.then hk3)
        have Jz : Hid (Kept [] w1 w3) := Lib.hid (Gb.out.then Ga.out)
        clear hk2 hk3
        go_wp2_with fail
        obtain ⟨a0, a1, a2, a3, a4⟩ := HA.out.kept0 Gd.out
        obtain ⟨b0, b1, b2, b3, b4⟩ := HB.out.kept0 Gd.out
        have q0 := Q0.out
        obtain ⟨q1, q2, q3, q4, q5⟩ := QS.out
        obtain ⟨q1', q2', q3', q4', q5'⟩ := QS'.out
        have Gi := Lib.hid (row_kept Gg.out Ga.out (by simp))
        refine wp_region_last' (n := 23) (fun w' : World => Kept [] w1 w') 23 (by kernel_rfl) (by kernel_rfl) ?_
        change wpAnyT _ _ _ _ _ _ _ _ _ w3.drew
        have hSS : (fun w' : World => Kept [] w1 w') w3.drew := Jz.out.drew
        have Gs := Lib.hid (row_kept Gi.out (Kept.refl [] w3).drew (by simp))
        revert hSS Gs
        generalize w3.drew = W3
        intro hSS Gs
        refine wpAnyT_start ?_
        intro O R hO hR
        have hQp : ∀ c a (d : Nat) v w, R (.panic c) (a.put (some d) v) w → R (.panic c) a w := by subst hR; exact fun _ _ _ _ _ h => h
        refine wpAnyT_take' (i := 0) (v := ?_) hO rfl rfl (by kernel_rfl) (by kernel_rfl) (by kernel_rfl) (by kernel_rfl) hQp (Or.inl ⟨by kernel_rfl, fun w hSw => ?_⟩) hSS ?_
        rotate_left
        · go_simp; try with_reducible rfl
        try simp only [Act.put, List.setIfInBounds_toArray, List.set_cons_zero, List.set_cons_succ]
        refine wpAnyT_take' (i := 1) (v := ?_) hO rfl rfl (by kernel_rfl) (by kernel_rfl) (by kernel_rfl) (by kernel_rfl) hQp (Or.inl ⟨by kernel_rfl, fun w hSw => ?_⟩) hSS ?_
        rotate_left
        · go_simp; try with_reducible rfl
        try simp only [Act.put, List.setIfInBounds_toArray, List.set_cons_zero, List.set_cons_succ]
        refine wpAnyT_take' (i := 2) (v := ?_) hO rfl rfl (by kernel_rfl) (by kernel_rfl) (by kernel_rfl) (by kernel_rfl) hQp (Or.inl ⟨by kernel_rfl, fun w hSw => ?_⟩) hSS ?_
        rotate_left
        · have s := hSw.cell a4 (by simp); go_simp; try with_reducible rfl
        try simp only [Act.put, List.setIfInBounds_toArray, List.set_cons_zero, List.set_cons_succ]
        refine wpAnyT_take' (i := 3) (v := ?_) hO rfl rfl (by kernel_rfl) (by kernel_rfl) (by kernel_rfl) (by kernel_rfl) hQp (Or.inl ⟨by kernel_rfl, fun w hSw => ?_⟩) hSS ?_
        rotate_left
        · go_simp; try with_reducible rfl
        try simp only [Act.put, List.setIfInBounds_toArray, List.set_cons_zero, List.set_cons_succ]
        refine wpAnyT_take' (i := 4) (v := ?_) hO rfl rfl (by kernel_rfl) (by kernel_rfl) (by kernel_rfl) (by kernel_rfl) hQp (Or.inl ⟨by kernel_rfl, fun w hSw => ?_⟩) hSS ?_
        rotate_left
        · go_simp; try with_reducible rfl
        try simp only [Act.put, List.setIfInBounds_toArray, List.set_cons_zero, List.set_cons_succ]
        refine wpAnyT_take' (i := 5) (v := ?_) hO rfl rfl (by kernel_rfl) (by kernel_rfl) (by kernel_rfl) (by kernel_rfl) hQp (Or.inl ⟨by kernel_rfl, fun w hSw => ?_⟩) hSS ?_
        rotate_left
        · go_simp; try with_reducible rfl
        try simp only [Act.put, List.setIfInBounds_toArray, List.set_cons_zero, List.set_cons_succ]
        refine wpAnyT_take' (i := 6) (v := ?_) hO rfl rfl (by kernel_rfl) (by kernel_rfl) (by kernel_rfl) (by kernel_rfl) hQp (Or.inl ⟨by kernel_rfl, fun w hSw => ?_⟩) hSS ?_
        rotate_left
        · have s := hSw.cell q0 (by simp); go_simp; try with_reducible rfl
        try simp only [Act.put, List.setIfInBounds_toArray, List.set_cons_zero, List.set_cons_succ]
        refine wpAnyT_take' (i := 7) (v := ?_) hO rfl rfl (by kernel_rfl) (by kernel_rfl) (by kernel_rfl) (by kernel_rfl) hQp (Or.inl ⟨by kernel_rfl, fun w hSw => ?_⟩) hSS ?_
        rotate_left
        · go_simp; try with_reducible rfl
        try simp only [Act.put, List.setIfInBounds_toArray, List.set_cons_zero, List.set_cons_succ]
        refine wpAnyT_take' (i := 8) (v := ?_) hO rfl rfl (by kernel_rfl) (by kernel_rfl) (by kernel_rfl) (by kernel_rfl) hQp (Or.inl ⟨by kernel_rfl, fun w hSw => ?_⟩) hSS ?_
        rotate_left
        · have s := hSw.cell a4 (by simp); go_simp; try with_reducible rfl
        try simp only [Act.put, List.setIfInBounds_toArray, List.set_cons_zero, List.set_cons_succ]
        refine wpAnyT_take' (i := 9) (v := ?_) hO rfl rfl (by kernel_rfl) (by kernel_rfl) (by kernel_rfl) (by kernel_rfl) hQp (Or.inl ⟨by kernel_rfl, fun w hSw => ?_⟩) hSS ?_
        rotate_left
        · go_simp; try with_reducible rfl
        try simp only [Act.put, List.setIfInBounds_toArray, List.set_cons_zero, List.set_cons_succ]
        refine wpAnyT_take' (i := 10) (v := ?_) hO rfl rfl (by kernel_rfl) (by kernel_rfl) (by kernel_rfl) (by kernel_rfl) hQp (Or.inl ⟨by kernel_rfl, fun w hSw => ?_⟩) hSS ?_
        rotate_left
        · go_simp; try with_reducible rfl
        try simp only [Act.put, List.setIfInBounds_toArray, List.set_cons_zero, List.set_cons_succ]
        refine wpAnyT_take' (i := 11) (v := ?_) hO rfl rfl (by kernel_rfl) (by kernel_rfl) (by kernel_rfl) (by kernel_rfl) hQp (Or.inl ⟨by kernel_rfl, fun w hSw => ?_⟩) hSS ?_
        rotate_left
        · go_simp; try with_reducible rfl
        try simp only [Act.put, List.setIfInBounds_toArray, List.set_cons_zero, List.set_cons_succ]
        refine wpAnyT_take' (i := 12) (v := ?_) hO rfl rfl (by kernel_rfl) (by kernel_rfl) (by kernel_rfl) (by kernel_rfl) hQp (Or.inl ⟨by kernel_rfl, fun w hSw => ?_⟩) hSS ?_
        rotate_left
        · have s1 := hSw.cell q1 (by simp); have s2 := hSw.cell q2 (by simp); have s3 := hSw.cell q3 (by simp); have s4 := hSw.cell q4 (by simp); have s5 := hSw.cell q5 (by simp); go_simp; try with_reducible rfl
        try simp only [Act.put, List.setIfInBounds_toArray, List.set_cons_zero, List.set_cons_succ]
        refine wpAnyT_take' (i := 13) (v := ?_) hO rfl rfl (by kernel_rfl) (by kernel_rfl) (by kernel_rfl) (by kernel_rfl) hQp (Or.inl ⟨by kernel_rfl, fun w hSw => ?_⟩) hSS ?_
        rotate_left
        · go_simp; try with_reducible rfl
        try simp only [Act.put, List.setIfInBounds_toArray, List.set_cons_zero, List.set_cons_succ]
        refine wpAnyT_take' (i := 14) (v := ?_) hO rfl rfl (by kernel_rfl) (by kernel_rfl) (by kernel_rfl) (by kernel_rfl) hQp (Or.inl ⟨by kernel_rfl, fun w hSw => ?_⟩) hSS ?_
        rotate_left
        · have s := hSw.cell b4 (by simp); go_simp; try with_reducible rfl
        try simp only [Act.put, List.setIfInBounds_toArray, List.set_cons_zero, List.set_cons_succ]
        refine wpAnyT_take' (i := 15) (v := ?_) hO rfl rfl (by kernel_rfl) (by kernel_rfl) (by kernel_rfl) (by kernel_rfl) hQp (Or.inl ⟨by kernel_rfl, fun w hSw => ?_⟩) hSS ?_
        rotate_left
        · go_simp; try with_reducible rfl
        try simp only [Act.put, List.setIfInBounds_toArray, List.set_cons_zero, List.set_cons_succ]
        refine wpAnyT_take' (i := 16) (v := ?_) hO rfl rfl (by kernel_rfl) (by kernel_rfl) (by kernel_rfl) (by kernel_rfl) hQp (Or.inl ⟨by kernel_rfl, fun w hSw => ?_⟩) hSS ?_
        rotate_left
        · go_simp; try with_reducible rfl
        try simp only [Act.put, List.setIfInBounds_toArray, List.set_cons_zero, List.set_cons_succ]
        refine wpAnyT_take' (i := 17) (v := ?_) hO rfl rfl (by kernel_rfl) (by kernel_rfl) (by kernel_rfl) (by kernel_rfl) hQp (Or.inl ⟨by kernel_rfl, fun w hSw => ?_⟩) hSS ?_
        rotate_left
        · go_simp; try with_reducible rfl
        try simp only [Act.put, List.setIfInBounds_toArray, List.set_cons_zero, List.set_cons_succ]
        refine wpAnyT_take' (i := 18) (v := ?_) hO rfl rfl (by kernel_rfl) (by kernel_rfl) (by kernel_rfl) (by kernel_rfl) hQp (Or.inl ⟨by kernel_rfl, fun w hSw => ?_⟩) hSS ?_
        rotate_left
        · have s1 := hSw.cell q1' (by simp); have s2 := hSw.cell q2' (by simp); have s3 := hSw.cell q3' (by simp); have s4 := hSw.cell q4' (by simp); have s5 := hSw.cell q5' (by simp); go_simp; try with_reducible rfl
        try simp only [Act.put, List.setIfInBounds_toArray, List.set_cons_zero, List.set_cons_succ]
        refine wpAnyT_one' (i := 19) hO rfl (by kernel_rfl) (by kernel_rfl) (fun K hK => ?_)
        go_simp
        refine Calls.mono (IH.out _ _ (Jo.out.kept0 hSS) (Jc.out.kept0 hSS) Jm.out Jn.out) ?_
        rintro e w5 ⟨⟨p4, c4, rfl, ho4⟩, hk5⟩
        have hS5 : (fun w' : World => Kept [] w1 w') w5 := hSS.then hk5
        have Jd := Lib.hid ho4
        have Jp := Lib.hid (row_kept Gs.out hk5 (by simp))
        refine hK _ _ (.inr hS5) ?_
        clear hK K
        try simp only [Act.put, List.setIfInBounds_toArray, List.set_cons_zero, List.set_cons_succ]
        clear hSS hk5 ho4
        have hSS := hS5
        clear hS5
        have Gt : Hid ((partsV n va.m[x].2 vb.m[y].2).length ≤ 40000) := Lib.hid (by have h1 := parts_few n va.m[x].2 vb.m[y].2; have h2 := Jm.out.few.1; have h3 := Jn.out.few.1; omega)
        refine wpAnyT_one' (i := 20) hO rfl (by kernel_rfl) (by kernel_rfl) (fun K hK => ?_)
        go_simp
        refine Calls.mono (refUnder_any (Slc.of_row Jd.out) (by have := Gt.out; omega) va.m[x].1 (by have := Jy.out; omega) (fun z hz => by have h1 := parts_short n va.m[x].2 vb.m[y].2 Jm.out.few Jn.out.few z hz; have h2 := HN.out; omega)) ?_
        rintro e w6 ⟨⟨p5, c5, rfl, ho5⟩, hk6⟩
        have hS6 : (fun w' : World => Kept [] w1 w') w6 := hSS.then hk6
        have Gn := Lib.hid ho5
        have Je := Lib.hid (row_kept Jp.out hk6 (by simp))
        refine hK _ _ (.inr hS6) ?_
        clear hK K
        try simp only [Act.put, List.setIfInBounds_toArray, List.set_cons_zero, List.set_cons_succ]
        clear hSS hk6 ho5
        have hSS := hS6
        clear hS6
        refine wpAnyT_one' (i := 21) hO rfl (by kernel_rfl) (by kernel_rfl) (fun K hK => ?_)
        refine oper_append tyStrs Je.out (Slc.of_row Gn.out) (strs_one _) (by have := Gp.out; have := Gt.out; simp only [maxLen]; omega) (by have := Gp.out; have := Gt.out; omega) hSS.size (.tmp 33) (.tmp 53) rfl rfl rfl ?_
        intro b7 d7 w7 hown7 hk7 hg7
        have hlt7 := Je.out.lt
        have hS7 : (fun w' : World => Kept [] w1 w') w7 := Kept.trans (X := []) hSS hk7 (fun i hi => .inr (hlt7 i (Option.mem_toList.1 hi)).1)
        refine hK _ _ (.inr hS7) ?_
        clear hK K
        try simp only [Act.put, List.setIfInBounds_toArray, List.set_cons_zero, List.set_cons_succ]
        have Jq := Lib.hid hS7
        have Gl := Lib.hid hown7
        clear hSS hown7 hk7 hg7 hlt7
        have hSS := hS7
        refine wpAnyT_take' (i := 22) (v := ?_) hO rfl rfl (by kernel_rfl) (by kernel_rfl) (by kernel_rfl) (by kernel_rfl) hQp (Or.inl ⟨by kernel_rfl, fun w hSw => ?_⟩) hSS ?_
        rotate_left
        · go_simp; try with_reducible rfl
        try simp only [Act.put, List.setIfInBounds_toArray, List.set_cons_zero, List.set_cons_succ]
        refine wpAnyT_done' hO (by kernel_rfl) ?_ _
        subst hR
        try clear hQp hO O
        clear hSS hS7 q0 q1 q2 q3 q4 q5 q1' q2' q3' q4' q5' a0 a1 a2 a3 a4 b0 b1 b2 b3 b4
        go_wp2_with fail
        case roundEnd =>
          have hlen : (o ++ underL va.m[x].1 (partsV n va.m[x].2 vb.m[y].2)).length = o.length + (partsV n va.m[x].2 vb.m[y].2).length := by rw [List.length_append, under_len]
          refine ⟨⟨x + 1, y + 1, o ++ underL va.m[x].1 (partsV n va.m[x].2 vb.m[y].2), f', b7, d7, by go_num, by go_num, by rw [hlen]; try rfl, by have := HX.out; omega, by have := HY.out; omega, ?_, Lib.hid (by rw [← Gf.out, Gj.out]; simp; try rfl), Jb, Jq.out⟩, by have := HX.out; have := HY.out; simp [intOf]; omega⟩
          have h9 := Gl.out
          rw [hlen]
          rw [strs_app]
          exact h9
  · have Mi := Lib.hid h6
    have h6' : (va.kind == 6) = false ∨ ((va.kind == 6) = true ∧ (vb.kind == 6) = false) := by
      by_cases q : va.kind = 6
      · exact .inr ⟨(int_eq q).1, (int_ne (fun q2 => h6 ⟨q, q2⟩)).1⟩
      · exact .inl (int_ne q).1
    by_cases h5 : va.kind = 5 ∧ vb.kind = 5 ∧ va.l.length = vb.l.length
    · have HE := Lib.hid (parts_list Jk.out h6 h5)
      have f6 : (va.kind == 6) = false := (int_ne (by omega)).1
      obtain ⟨f1, f2⟩ := int_eq h5.1
      obtain ⟨f3, f4⟩ := int_eq h5.2.1
      obtain ⟨f7, f8⟩ := nat_eq h5.2.2
      have Ji := Lib.hid h5.2.2
      clear h5 h6 h6'
      have f9 : decide (va.l.length = vb.l.length) = true := decide_eq_true Ji.out
      go_wp2_with fail
      clear f1 f2 f3 f4 f6 f7 f8 f9 a0 a1 a2 a3 a4 b0 b1 b2 b3 b4
      go_loopw [5, 8] (fun z i wr => ∃ (k : Nat) (o : List ByteArray) (o1 : Option Addr) (o2 : Nat), i = .int .i64 k ∧ k ≤ va.l.length ∧ z = .slice o1 o.length o2 ∧ wr.ownsRow w1.heap.size 9 1 (.slice o1 o.length o2) o.length (strsV o) ∧ Hid (o ++ listGo (partsV n) k (va.l.drop k) (vb.l.drop k) = partsV (n + 1) va vb) ∧ Kept [] w1 wr) (fun _ i _ => va.l.length - (intOf i).toNat)
      case atStart => exact ⟨0, [], none, 0, rfl, Nat.zero_le _, rfl, World.ownsRow_nil _ _ _ _, Lib.hid (by rw [HE.out]; rfl), Kept.refl _ _⟩
      case round =>
        obtain ⟨k, o, o1, o2, rfl, hk, rfl, hrow, Gf, hkw⟩ := hrel
        have Gg := Lib.hid hrow
        have Gb := Lib.hid hkw
        clear hrow hkw
        obtain ⟨a0, a1, a2, a3, a4⟩ := HA.out.kept0 (Gd.out.then Gb.out)
        obtain ⟨b0, b1, b2, b3, b4⟩ := HB.out.kept0 (Gd.out.then Gb.out)
        clear a0 a1 a2 a4 b0 b1 b2 b3 b4
        by_cases hlt : k < va.l.length
        · have hltI : (k : Int) < va.l.length := by omega
          have hlt2 : k < vb.l.length := by have := Ji.out; omega
          have hlt2I : (k : Int) < vb.l.length := by omega
          obtain ⟨g, o0, cap, kd, nm, st, x1, y1, he, q0, q1, q2, q3, q4, hr⟩ := H.out.at_l Gh.out k hlt
          obtain ⟨g', o0', cap', kd', nm', st', x1', y1', he', q0', q1', q2', q3', q4', hr'⟩ := H'.out.at_l Gh.out k hlt2
          simp only [Value.slice.injEq] at he he'
          obtain ⟨rfl, -, rfl⟩ := he
          obtain ⟨rfl, -, rfl⟩ := he'
          obtain ⟨p1, i1, d1, p2, i2, d2, rfl, rfl⟩ := hr.sl
          obtain ⟨p1', i1', d1', p2', i2', d2', rfl, rfl⟩ := hr'.sl
          have HR := Lib.hid hr
          have Ma := Lib.hid hr'
          have Jr := Lib.hid (Gx.out.kid (mem_l (List.getElem_mem hlt)))
          have Gu := Lib.hid (Ja.out.kid (mem_l (List.getElem_mem hlt2)))
          have Gm : Hid (listGo (partsV n) k (va.l.drop k) (vb.l.drop k) = underL (strB (Lib.itoa (k : Int))) (partsV n va.l[k] vb.l[k]) ++ listGo (partsV n) (k + 1) (va.l.drop (k + 1)) (vb.l.drop (k + 1))) := Lib.hid (by
            have h9 := list_get (sub := partsV n) va.l vb.l 0 k hlt hlt2
            simp only [Nat.zero_add] at h9
            exact h9)
          have Gp : Hid (o.length ≤ 40000) := Lib.hid (by have h1 := congrArg List.length Gf.out; rw [List.length_append] at h1; have h2 := Jv.out; omega)
          have Gt : Hid ((partsV n va.l[k] vb.l[k]).length ≤ 40000) := Lib.hid (by have h1 := parts_few n va.l[k] vb.l[k]; have h2 := Jr.out.few.1; have h3 := Gu.out.few.1; omega)
          have Jj := Lib.hid hlt
          clear hr hr'
          go_wp2_with fail
          obtain ⟨-, -, -, a3', -⟩ := HA.out.kept0 Gd.out
          obtain ⟨-, -, -, b3', -⟩ := HB.out.kept0 Gd.out
          clear a3
          refine wp_region_last' (n := 17) (fun w' : World => Kept [] w1 w') 17 (by kernel_rfl) (by kernel_rfl) ?_
          change wpAnyT _ _ _ _ _ _ _ _ _ wr.drew
          have hSS : (fun w' : World => Kept [] w1 w') wr.drew := Gb.out.drew
          have Gs := Lib.hid (row_kept Gg.out (Kept.refl [] wr).drew (by simp))
          revert hSS Gs
          generalize wr.drew = W3
          intro hSS Gs
          refine wpAnyT_start ?_
          intro O R hO hR
          have hQp : ∀ c a (d : Nat) v w, R (.panic c) (a.put (some d) v) w → R (.panic c) a w := by subst hR; exact fun _ _ _ _ _ h => h
          refine wpAnyT_take' (i := 0) (v := ?_) hO rfl rfl (by kernel_rfl) (by kernel_rfl) (by kernel_rfl) (by kernel_rfl) hQp (Or.inl ⟨by kernel_rfl, fun w hSw => ?_⟩) hSS ?_
          rotate_left
          · go_simp; try with_reducible rfl
          try simp only [Act.put, List.setIfInBounds_toArray, List.set_cons_zero, List.set_cons_succ]
          refine wpAnyT_take' (i := 1) (v := ?_) hO rfl rfl (by kernel_rfl) (by kernel_rfl) (by kernel_rfl) (by kernel_rfl) hQp (Or.inl ⟨by kernel_rfl, fun w hSw => ?_⟩) hSS ?_
          rotate_left
          · go_simp; try with_reducible rfl
          try simp only [Act.put, List.setIfInBounds_toArray, List.set_cons_zero, List.set_cons_succ]
          refine wpAnyT_take' (i := 3) (v := ?_) hO rfl rfl (by kernel_rfl) (by kernel_rfl) (by kernel_rfl) (by kernel_rfl) hQp (Or.inl ⟨by kernel_rfl, fun w hSw => ?_⟩) hSS ?_
          rotate_left
          · go_simp; try with_reducible rfl
          try simp only [Act.put, List.setIfInBounds_toArray, List.set_cons_zero, List.set_cons_succ]
          refine wpAnyT_take' (i := 4) (v := ?_) hO rfl rfl (by kernel_rfl) (by kernel_rfl) (by kernel_rfl) (by kernel_rfl) hQp (Or.inl ⟨by kernel_rfl, fun w hSw => ?_⟩) hSS ?_
          rotate_left
          · have s := hSw.cell a3' (by simp); go_simp; try with_reducible rfl
          try simp only [Act.put, List.setIfInBounds_toArray, List.set_cons_zero, List.set_cons_succ]
          refine wpAnyT_take' (i := 5) (v := ?_) hO rfl rfl (by kernel_rfl) (by kernel_rfl) (by kernel_rfl) (by kernel_rfl) hQp (Or.inl ⟨by kernel_rfl, fun w hSw => ?_⟩) hSS ?_
          rotate_left
          · go_simp; try with_reducible rfl
          try simp only [Act.put, List.setIfInBounds_toArray, List.set_cons_zero, List.set_cons_succ]
          refine wpAnyT_take' (i := 6) (v := ?_) hO rfl rfl (by kernel_rfl) (by kernel_rfl) (by kernel_rfl) (by kernel_rfl) hQp (Or.inl ⟨by kernel_rfl, fun w hSw => ?_⟩) hSS ?_
          rotate_left
          · go_simp; try with_reducible rfl
          try simp only [Act.put, List.setIfInBounds_toArray, List.set_cons_zero, List.set_cons_succ]
          refine wpAnyT_take' (i := 7) (v := ?_) hO rfl rfl (by kernel_rfl) (by kernel_rfl) (by kernel_rfl) (by kernel_rfl) hQp (Or.inl ⟨by kernel_rfl, fun w hSw => ?_⟩) hSS ?_
          rotate_left
          · have s0 := hSw.cell q0 (by simp); have s1 := hSw.cell q1 (by simp); have s2 := hSw.cell q2 (by simp); have s3 := hSw.cell q3 (by simp); have s4 := hSw.cell q4 (by simp); go_simp; try with_reducible rfl
          try simp only [Act.put, List.setIfInBounds_toArray, List.set_cons_zero, List.set_cons_succ]
          refine wpAnyT_take' (i := 8) (v := ?_) hO rfl rfl (by kernel_rfl) (by kernel_rfl) (by kernel_rfl) (by kernel_rfl) hQp (Or.inl ⟨by kernel_rfl, fun w hSw => ?_⟩) hSS ?_
          rotate_left
          · go_simp; try with_reducible rfl
          try simp only [Act.put, List.setIfInBounds_toArray, List.set_cons_zero, List.set_cons_succ]
          refine wpAnyT_take' (i := 9) (v := ?_) hO rfl rfl (by kernel_rfl) (by kernel_rfl) (by kernel_rfl) (by kernel_rfl) hQp (Or.inl ⟨by kernel_rfl, fun w hSw => ?_⟩) hSS ?_
          rotate_left
          · have s := hSw.cell b3' (by simp); go_simp; try with_reducible rfl
          try simp only [Act.put, List.setIfInBounds_toArray, List.set_cons_zero, List.set_cons_succ]
          refine wpAnyT_take' (i := 10) (v := ?_) hO rfl rfl (by kernel_rfl) (by kernel_rfl) (by kernel_rfl) (by kernel_rfl) hQp (Or.inl ⟨by kernel_rfl, fun w hSw => ?_⟩) hSS ?_
          rotate_left
          · go_simp; try with_reducible rfl
          try simp only [Act.put, List.setIfInBounds_toArray, List.set_cons_zero, List.set_cons_succ]
          refine wpAnyT_take' (i := 11) (v := ?_) hO rfl rfl (by kernel_rfl) (by kernel_rfl) (by kernel_rfl) (by kernel_rfl) hQp (Or.inl ⟨by kernel_rfl, fun w hSw => ?_⟩) hSS ?_
          rotate_left
          · go_simp; try with_reducible rfl
          try simp only [Act.put, List.setIfInBounds_toArray, List.set_cons_zero, List.set_cons_succ]
          refine wpAnyT_take' (i := 12) (v := ?_) hO rfl rfl (by kernel_rfl) (by kernel_rfl) (by kernel_rfl) (by kernel_rfl) hQp (Or.inl ⟨by kernel_rfl, fun w hSw => ?_⟩) hSS ?_
          rotate_left
          · have s0 := hSw.cell q0' (by simp); have s1 := hSw.cell q1' (by simp); have s2 := hSw.cell q2' (by simp); have s3 := hSw.cell q3' (by simp); have s4 := hSw.cell q4' (by simp); go_simp; try with_reducible rfl
          try simp only [Act.put, List.setIfInBounds_toArray, List.set_cons_zero, List.set_cons_succ]
          refine wpAnyT_one' (i := 2) hO rfl (by kernel_rfl) (by kernel_rfl) (fun K hK => ?_)
          go_simp
          refine Calls.mono (refDigits_str (k : Int) (by omega) (by omega) _) ?_
          rintro e w4 ⟨rfl, rfl⟩
          refine hK _ _ (.inr hSS) ?_
          clear hK K
          try simp only [Act.put, List.setIfInBounds_toArray, List.set_cons_zero, List.set_cons_succ]
          have hkz : (strB (Lib.itoa (k : Int))).size ≤ 21 := by have h9 := Lib.itoa_length_le (k : Int) (by omega) (by omega); rw [strB_size]; exact h9
          have Js := Lib.hid hkz
          clear hkz
          revert Gm Js
          generalize strB (Lib.itoa (k : Int)) = kp
          intro Gm Js
          refine wpAnyT_one' (i := 13) hO rfl (by kernel_rfl) (by kernel_rfl) (fun K hK => ?_)
          go_simp
          refine Calls.mono (IH.out va.l[k] vb.l[k] (HR.out.kept0 hSS) (Ma.out.kept0 hSS) Jr.out Gu.out) ?_
          rintro e w5 ⟨⟨p4, c4, rfl, ho4⟩, hk5⟩
          have hS5 : (fun w' : World => Kept [] w1 w') w5 := hSS.then hk5
          have Jd := Lib.hid ho4
          have Jp := Lib.hid (row_kept Gs.out hk5 (by simp))
          refine hK _ _ (.inr hS5) ?_
          clear hK K
          try simp only [Act.put, List.setIfInBounds_toArray, List.set_cons_zero, List.set_cons_succ]
          clear hSS hk5 ho4
          have hSS := hS5
          clear hS5
          refine wpAnyT_one' (i := 14) hO rfl (by kernel_rfl) (by kernel_rfl) (fun K hK => ?_)
          go_simp
          refine Calls.mono (refUnder_any (Slc.of_row Jd.out) (by have := Gt.out; omega) kp (by have := Js.out; omega) (fun x hx => by have h1 := parts_short n va.l[k] vb.l[k] Jr.out.few Gu.out.few x hx; have h2 := HN.out; omega)) ?_
          rintro e w6 ⟨⟨p5, c5, rfl, ho5⟩, hk6⟩
          have hS6 : (fun w' : World => Kept [] w1 w') w6 := hSS.then hk6
          have Gn := Lib.hid ho5
          have Je := Lib.hid (row_kept Jp.out hk6 (by simp))
          refine hK _ _ (.inr hS6) ?_
          clear hK K
          try simp only [Act.put, List.setIfInBounds_toArray, List.set_cons_zero, List.set_cons_succ]
          clear hSS hk6 ho5
          have hSS := hS6
          clear hS6
          refine wpAnyT_one' (i := 15) hO rfl (by kernel_rfl) (by kernel_rfl) (fun K hK => ?_)
          refine oper_append tyStrs Je.out (Slc.of_row Gn.out) (strs_one _) (by have := Gp.out; have := Gt.out; simp only [maxLen]; omega) (by have := Gp.out; have := Gt.out; omega) hSS.size (.tmp 158) (.tmp 172) rfl rfl rfl ?_
          intro b7 d7 w7 hown7 hk7 hg7
          have hlt7 := Je.out.lt
          have hS7 : (fun w' : World => Kept [] w1 w') w7 := Kept.trans (X := []) hSS hk7 (fun i hi => .inr (hlt7 i (Option.mem_toList.1 hi)).1)
          refine hK _ _ (.inr hS7) ?_
          clear hK K
          try simp only [Act.put, List.setIfInBounds_toArray, List.set_cons_zero, List.set_cons_succ]
          have Jq := Lib.hid hS7
          have Gl := Lib.hid hown7
          clear hSS hown7 hk7 hg7 hlt7
          have hSS := hS7
          refine wpAnyT_take' (i := 16) (v := ?_) hO rfl rfl (by kernel_rfl) (by kernel_rfl) (by kernel_rfl) (by kernel_rfl) hQp (Or.inl ⟨by kernel_rfl, fun w hSw => ?_⟩) hSS ?_
          rotate_left
          · go_simp; try with_reducible rfl
          try simp only [Act.put, List.setIfInBounds_toArray, List.set_cons_zero, List.set_cons_succ]
          refine wpAnyT_done' hO (by kernel_rfl) ?_ _
          subst hR
          try clear hQp hO O
          clear hSS hS7 q0 q1 q2 q3 q4 q0' q1' q2' q3' q4' a3' b3'
          go_wp2_with fail
          case roundEnd =>
            have hlen : (o ++ underL kp (partsV n va.l[k] vb.l[k])).length = o.length + (partsV n va.l[k] vb.l[k]).length := by rw [List.length_append, under_len]
            refine ⟨⟨k + 1, o ++ underL kp (partsV n va.l[k] vb.l[k]), b7, d7, by go_num, by have := Jj.out; omega, by rw [hlen]; try rfl, ?_, Lib.hid (by rw [← Gf.out, Gm.out]; simp; try rfl), Jq.out⟩, by have := Jj.out; simp [intOf]; omega⟩
            have h9 := Gl.out
            rw [hlen]
            rw [strs_app]
            exact h9
        · obtain rfl : k = va.l.length := by omega
          have HO : Hid (o = partsV (n + 1) va vb) := Lib.hid (by have h9 := Gf.out; rw [list_end, List.append_nil] at h9; exact h9)
          have hnlt : ¬ ((va.l.length : Int) < va.l.length) := by omega
          go_wp2_with fail
          go_ret
          rw [← HO.out]
          exact ⟨⟨_, _, rfl, row_base Gg.out (fun g hg => by have h1 := (Gg.out.lt g hg).1; have h2 := Gh.out.size; omega)⟩, Gh.out.then Gb.out⟩
    · have HE := Lib.hid (parts_else Jk.out h6 h5)
      have h5' : (va.kind == 5) = false ∨ ((va.kind == 5) = true ∧ (vb.kind == 5) = false) ∨ ((va.kind == 5) = true ∧ (vb.kind == 5) = true ∧ va.l.length ≠ vb.l.length) := by
        by_cases q : va.kind = 5
        · by_cases q2 : vb.kind = 5
          · exact .inr (.inr ⟨(int_eq q).1, (int_eq q2).1, fun q3 => h5 ⟨q, q2, q3⟩⟩)
          · exact .inr (.inl ⟨(int_eq q).1, (int_ne q2).1⟩)
        · exact .inl (int_ne q).1
      clear h5 h6
      have Jt : Hid (∀ w2, Kept [] w w2 → (w2.alloc (.cells #[.string ⟨#[]⟩] 9)).ownsRow w.heap.size 9 1 (.slice (some ⟨w2.heap.size, 0, none⟩) 1 1) 1 (strsV [⟨#[]⟩])) := Lib.hid (fun w2 k => World.ownsRow_lit w2 #[.string ⟨#[]⟩] 1 k.size (by decide) rfl)
      rcases h6' with f6 | ⟨f6, f6'⟩ <;> rcases h5' with g5 | ⟨g5, g5'⟩ | ⟨g5, g5', g6⟩
      all_goals try have g7 := nat_ne g6
      all_goals try obtain ⟨g8, g9⟩ := g7
      all_goals try clear g6
      all_goals
        go_wp2_with fail
        go_ret
        rw [HE.out]
        exact ⟨⟨_, _, rfl, Jt.out _ Gh.out⟩, Gh.out.alloc _⟩
theorem refParts_any : ∀ (n : Nat), n ≤ 100 → RefPartsKnown n
  | 0, _ => fun a => nomatch a
  | n + 1, hn => refParts_step hn (refParts_any n (by omega))
end Go.Proofs.YtpbphdkjjoipnaaGreatDoor
namespace Go.Proofs.YtpbphdkjjoipnaaGreatDoor
open Go.RowKit
section
variable {n : Nat} {va vb : V n} {S T : Nat → Prop} {w : World} {ca cb : List Value}
set_option maxRecDepth 10000 in
set_option maxHeartbeats 6400000 in
theorem refDiff_any (h : Rep n S w ca va) (h' : Rep n T w cb vb) (hs : Small n va) (hs' : Small n vb) (hn : n ≤ 100) :
    Calls Tryz.prog 23 #[.agg ca.toArray, .agg cb.toArray] w fun e w' => Texts w.heap.size (diffV n va vb) e w' ∧ Kept [] w w' := by
  obtain ⟨kd, nm, st, a, la, ea, b, lb, eb, rfl⟩ := h.conv
  obtain ⟨kd', nm', st', a', la', ea', b', lb', eb', rfl⟩ := h'.conv
  obtain ⟨W0, Ge⟩ : ∃ W0, Hid (W0 = (w.alloc (.cells #[.int .i64 kd, .int .i64 nm, .string st, .slice a la ea, .slice b lb eb] 25)).alloc (.cells #[.int .i64 kd', .int .i64 nm', .string st', .slice a' la' ea', .slice b' lb' eb'] 25)) := ⟨_, Lib.hid rfl⟩
  have Gc : Hid (Kept [] w W0) := Lib.hid (by rw [Ge.out]; exact ((Kept.refl [] w).alloc _).alloc _)
  have HA : Hid (BoxAt W0 w.heap.size kd nm st (.slice a la ea) (.slice b lb eb)) := Lib.hid (by rw [Ge.out]; exact (box_at _ _ _ _ _ _ _).kept0 ((Kept.refl [] _).alloc _))
  have HB : Hid (BoxAt W0 (w.heap.size + 1) kd' nm' st' (.slice a' la' ea') (.slice b' lb' eb')) := Lib.hid (by rw [Ge.out]; exact box_at' (by simp) _ _ _ _ _ _)
  have CA : Hid (∀ w1, Kept [] W0 w1 → _) := Lib.hid (fun w1 (k : Kept [] W0 w1) => refCheck_any ((h.kept0 Gc.out).kept0 k) hs hn)
  have CB : Hid (∀ w1, Kept [] W0 w1 → _) := Lib.hid (fun w1 (k : Kept [] W0 w1) => refCheck_any ((h'.kept0 Gc.out).kept0 k) hs' hn)
  have SA : Hid (∀ w1, Kept [] W0 w1 → checkV n va = 0 → _) := Lib.hid (fun w1 (k : Kept [] W0 w1) (hr : checkV n va = 0) => refSort_any n va ((h.kept0 Gc.out).kept0 k) hs (check_right hr))
  have SB : Hid (∀ w1, Kept [] W0 w1 → checkV n vb = 0 → _) := Lib.hid (fun w1 (k : Kept [] W0 w1) (hr : checkV n vb = 0) => refSort_any n vb ((h'.kept0 Gc.out).kept0 k) hs' (check_right hr))
  have Gx := Lib.hid (fun hc : checkV n va = 0 => good_sort hs hc)
  have Ja := Lib.hid (fun hc : checkV n vb = 0 => good_sort hs' hc)
  have HN := Lib.hid hn
  have hA0 := HA.out
  rw [Ge.out] at hA0
  obtain ⟨a0, a1, a2, a3, a4⟩ := hA0
  clear h h' hs hs' hn
  go_enter Tryz.func23, Tryz.ntmps23
  go_wp2_with fail
  rw [← Ge.out]
  clear a0 a1 a2 a3 a4
  refine (CA.out _ (Kept.refl _ _)).mono ?_
  rintro e w1 ⟨rfl, hk1⟩
  have Gd := Lib.hid hk1
  obtain ⟨b0, b1, b2, b3, b4⟩ := HB.out.kept0 hk1
  clear hk1
  by_cases hca : checkV n va = 0
  rotate_left
  · have HR := Lib.hid (diff_a (b := vb) hca)
    obtain ⟨f1, f2⟩ := int_ne hca
    clear hca
    go_wp2_with fail
    go_ret
    rw [HR.out]
    exact ⟨texts_nil _ _, Gc.out.then Gd.out⟩
  have Jf := Lib.hid hca
  rw [hca]
  clear hca
  go_wp2_with fail
  refine (CB.out _ Gd.out).mono ?_
  rintro e w2 ⟨rfl, hk2⟩
  have Ga := Lib.hid (Gd.out.then hk2)
  clear hk2 b0 b1 b2 b3 b4
  by_cases hcb : checkV n vb = 0
  rotate_left
  · have HR := Lib.hid (diff_b (a := va) hcb)
    obtain ⟨f1, f2⟩ := int_ne hcb
    clear hcb
    go_wp2_with fail
    go_ret
    rw [HR.out]
    exact ⟨texts_nil _ _, Gc.out.then Ga.out⟩
  have HR := Lib.hid (diff_c Jf.out hcb)
  have Jw := Lib.hid hcb
  rw [hcb]
  clear hcb
  obtain ⟨a0, a1, a2, a3, a4⟩ := HA.out.kept0 Ga.out
  obtain ⟨b0, b1, b2, b3, b4⟩ := HB.out.kept0 Ga.out
  go_wp2_with fail
  refine wp_region_last' (n := 6) (fun w' : World => Kept [] w2 w') 6 (by kernel_rfl) (by kernel_rfl) ?_
  change wpAnyT _ _ _ _ _ _ _ _ _ w2.drew
  have hSS : (fun w' : World => Kept [] w2 w') w2.drew := (Kept.refl [] w2).drew
  revert hSS
  generalize w2.drew = W1
  intro hSS
  refine wpAnyT_start ?_
  intro O R hO hR
  have hQp : ∀ c a (d : Nat) v w, R (.panic c) (a.put (some d) v) w → R (.panic c) a w := by subst hR; exact fun _ _ _ _ _ h => h
  refine wpAnyT_take' (i := 0) (v := ?_) hO rfl rfl (by kernel_rfl) (by kernel_rfl) (by kernel_rfl) (by kernel_rfl) hQp (Or.inl ⟨by kernel_rfl, fun w hSw => ?_⟩) hSS ?_
  rotate_left
  · have s0 := hSw.cell a0 (by simp); have s1 := hSw.cell a1 (by simp); have s2 := hSw.cell a2 (by simp); have s3 := hSw.cell a3 (by simp); have s4 := hSw.cell a4 (by simp); go_simp; try with_reducible rfl
  try simp only [Act.put, List.setIfInBounds_toArray, List.set_cons_zero, List.set_cons_succ]
  refine wpAnyT_take' (i := 2) (v := ?_) hO rfl rfl (by kernel_rfl) (by kernel_rfl) (by kernel_rfl) (by kernel_rfl) hQp (Or.inl ⟨by kernel_rfl, fun w hSw => ?_⟩) hSS ?_
  rotate_left
  · have s0 := hSw.cell b0 (by simp); have s1 := hSw.cell b1 (by simp); have s2 := hSw.cell b2 (by simp); have s3 := hSw.cell b3 (by simp); have s4 := hSw.cell b4 (by simp); go_simp; try with_reducible rfl
  try simp only [Act.put, List.setIfInBounds_toArray, List.set_cons_zero, List.set_cons_succ]
  refine wpAnyT_one' (i := 1) hO rfl (by kernel_rfl) (by kernel_rfl) (fun K hK => ?_)
  go_simp
  refine Calls.mono (SA.out _ (Ga.out.then hSS) Jf.out) ?_
  rintro e w3 ⟨⟨cs3, rfl, ho3⟩, hk3⟩
  obtain ⟨k3, m3, s3, p3, i3, c3, q3, j3, d3, rfl⟩ := ho3.said
  have Ju := Lib.hid ho3
  have hS1 : (fun w' : World => Kept [] w2 w') w3 := hSS.then hk3
  refine hK _ _ (.inr hS1) ?_
  clear hK K
  try simp only [Act.put, List.setIfInBounds_toArray, List.set_cons_zero, List.set_cons_succ]
  clear hSS hk3 ho3
  have hSS := hS1
  clear hS1
  refine wpAnyT_one' (i := 3) hO rfl (by kernel_rfl) (by kernel_rfl) (fun K hK => ?_)
  go_simp
  refine Calls.mono (SB.out _ (Ga.out.then hSS) Jw.out) ?_
  rintro e w4 ⟨⟨cs4, rfl, ho4⟩, hk4⟩
  obtain ⟨k4, m4, s4, p4, i4, c4, q4, j4, d4, rfl⟩ := ho4.said
  have hS1 : (fun w' : World => Kept [] w2 w') w4 := hSS.then hk4
  have CE := Lib.hid (refParts_any n HN.out (sortV n va) (sortV n vb) (Ju.out.rep.kept0 hk4) ho4.rep (Gx.out Jf.out) (Ja.out Jw.out))
  refine hK _ _ (.inr hS1) ?_
  clear hK K
  try simp only [Act.put, List.setIfInBounds_toArray, List.set_cons_zero, List.set_cons_succ]
  clear hSS hk4 ho4
  have hSS := hS1
  clear hS1
  have Mb := Lib.hid ((Gc.out.then Ga.out).then hSS).size
  refine wpAnyT_one' (i := 4) hO rfl (by kernel_rfl) (by kernel_rfl) (fun K hK => ?_)
  go_simp
  refine Calls.mono CE.out ?_
  rintro e w5 ⟨⟨p5, c5, rfl, ho5⟩, hk5⟩
  have Gn := Lib.hid ho5
  have hS1 : (fun w' : World => Kept [] w2 w') w5 := hSS.then hk5
  refine hK _ _ (.inr hS1) ?_
  clear hK K
  try simp only [Act.put, List.setIfInBounds_toArray, List.set_cons_zero, List.set_cons_succ]
  clear hSS hk5 ho5
  have hSS := hS1
  refine wpAnyT_take' (i := 5) (v := ?_) hO rfl rfl (by kernel_rfl) (by kernel_rfl) (by kernel_rfl) (by kernel_rfl) hQp (Or.inl ⟨by kernel_rfl, fun w hSw => ?_⟩) hSS ?_
  rotate_left
  · go_simp; try with_reducible rfl
  try simp only [Act.put, List.setIfInBounds_toArray, List.set_cons_zero, List.set_cons_succ]
  refine wpAnyT_done' hO (by kernel_rfl) ?_ _
  subst hR
  try clear hQp hO O
  clear a0 a1 a2 a3 a4 b0 b1 b2 b3 b4
  go_wp2_with fail
  go_ret
  rw [HR.out]
  exact ⟨⟨_, _, rfl, row_base Gn.out (fun g hg => by have h1 := (Gn.out.lt g hg).1; have h2 := Mb.out; omega)⟩, (Gc.out.then Ga.out).then hS1⟩
end
end Go.Proofs.YtpbphdkjjoipnaaGreatDoor
namespace Go.Proofs.YtpbphdkjjoipnaaGreatDoor
open Go.RowKit
theorem incoming21 {n : Nat} {v : V n} {S : Nat → Prop} {w : World} {cs : List Value} (h : RepT n BB S w cs v) :
    (∀ w1, Kept [] w w1 → Calls Tryz.prog 11 #[.agg cs.toArray] w1 fun e w' => e = .returned (.bool true) ∧ Kept [] w1 w') ∨
    ((∀ w1, Kept [] w w1 → Calls Tryz.prog 11 #[.agg cs.toArray] w1 fun e w' => e = .returned (.bool false) ∧ Kept [] w1 w') ∧
      ∃ v' : V 21, Rep 21 S w cs v' ∧ Small 21 v') := by
  have hl : ∀ {d : Nat} {u : V d} {b : Bool}, RepT d BB S w cs u → decide (6000 < largeV d 0 u) = b → ∀ w1, Kept [] w w1 → Calls Tryz.prog 11 #[.agg cs.toArray] w1 fun e w' => e = .returned (.bool b) ∧ Kept [] w1 w' := fun hu hb w1 k => by
    subst hb
    exact refLarge_any (hu.1.kept0 k) hu.2
  by_cases hd : depthV n v ≤ 21
  · obtain ⟨u, hu⟩ := RepT.fit n 21 h hd
    by_cases hq : largeV 21 0 u ≤ 6000
    · exact .inr ⟨hl hu (decide_eq_false (by omega)), u, hu.1, small_of hq⟩
    · exact .inl (hl hu (decide_eq_true (by omega)))
  · refine .inl (hl h (decide_eq_true ?_))
    rcases Nat.lt_or_ge 6000 (largeV n 0 v) with h1 | h1
    · exact h1
    · exfalso
      rcases (large_small n 0 v h1).2.2 with rfl | h2
      · exact nomatch v
      · omega
theorem diff_test {n : Nat} {a b : V n} (ha : checkV n a = 0) (hb : checkV n b = 0) : (((diffV n a b).length : Int) == 0) = sameV n a b := by
  rw [same_c ha hb]
  have h := diff_none ha hb
  cases e : eqV n (sortV n a) (sortV n b) with
  | true =>
    have h1 : diffV n a b = [] := h.2 ((eqV_iff n _ _).1 e)
    rw [h1]; rfl
  | false =>
    have h1 : diffV n a b ≠ [] := fun q => by
      have h2 := (eqV_iff n _ _).2 (h.1 q)
      rw [e] at h2
      cases h2
    have h2 : (diffV n a b).length ≠ 0 := fun q => h1 (List.eq_nil_of_length_eq_zero q)
    simp [h2]
theorem strs_at {w : World} {B : Nat} {p : Option Addr} {c : Nat} {l : List ByteArray} (h : w.ownsRow B 9 1 (.slice p l.length c) l.length (strsV l)) {k : Nat} (hk : k < l.length) : ∃ g o, p = some ⟨g, o, none⟩ ∧ ∀ w', Kept [] w w' → w'.cell? ⟨g, o + k, none⟩ = some (.string l[k]) := by
  rcases (Slc.of_row h).2 with ⟨-, h0⟩ | ⟨h0, -⟩ | ⟨g, o, cap, e, -, -, hr⟩
  · omega
  · omega
  · simp only [Value.slice.injEq] at e
    exact ⟨g, o, e.1, fun w' q => q.cell (hr.cells k _ (by unfold strsV; rw [List.getElem?_map, List.getElem?_eq_getElem hk]; rfl)) (by simp)⟩
section
variable {S T : Nat → Prop} {w : World} {ca cb : List Value}
set_option maxRecDepth 100000 in
set_option maxHeartbeats 12800000 in
theorem diffs_any {n m : Nat} {va : V n} {vb : V m} (ha : RepT n BB S w ca va) (hb : RepT m BB T w cb vb) (ht : Tabs w) :
    Calls Tryz.prog 6 #[.agg ca.toArray, .agg cb.toArray] w fun e w' => e = .returned (.bool true) ∧ Kept [] w w' := by
  obtain ⟨kd, nm, st, a, la, ea, b, lb, eb, rfl⟩ := ha.1.conv
  obtain ⟨kd', nm', st', a', la', ea', b', lb', eb', rfl⟩ := hb.1.conv
  obtain ⟨W0, Ge⟩ : ∃ W0, Hid (W0 = (w.alloc (.cells #[.int .i64 kd, .int .i64 nm, .string st, .slice a la ea, .slice b lb eb] 25)).alloc (.cells #[.int .i64 kd', .int .i64 nm', .string st', .slice a' la' ea', .slice b' lb' eb'] 25)) := ⟨_, Lib.hid rfl⟩
  have Gc : Hid (Kept [] w W0) := Lib.hid (by rw [Ge.out]; exact ((Kept.refl [] w).alloc _).alloc _)
  have HA : Hid (BoxAt W0 w.heap.size kd nm st (.slice a la ea) (.slice b lb eb)) := Lib.hid (by rw [Ge.out]; exact (box_at _ _ _ _ _ _ _).kept0 ((Kept.refl [] _).alloc _))
  have HB : Hid (BoxAt W0 (w.heap.size + 1) kd' nm' st' (.slice a' la' ea') (.slice b' lb' eb')) := Lib.hid (by rw [Ge.out]; exact box_at' (by simp) _ _ _ _ _ _)
  have HT := Lib.hid (ht.kept0 Gc.out)
  have ia := incoming21 ha
  have ib := incoming21 hb
  have CL : Hid (∀ w1, Kept [] W0 w1 → Calls Tryz.prog 12 #[] w1 fun e w' => e = .returned (.bool true) ∧ Kept [] w1 w') := Lib.hid (fun w1 k => lives_any (HT.out.kept0 k))
  have hA0 := HA.out
  rw [Ge.out] at hA0
  obtain ⟨a0, a1, a2, a3, a4⟩ := hA0
  clear ha hb ht
  rcases ia with LA | ⟨LA, ia⟩
  · have LA := Lib.hid LA
    go_enter Tryz.func6, Tryz.ntmps6
    go_wp2_with fail
    rw [← Ge.out]
    clear a0 a1 a2 a3 a4
    refine (LA.out _ Gc.out).mono ?_
    rintro e w1 ⟨rfl, hk1⟩
    have Gd := Lib.hid hk1
    clear hk1
    go_wp2_with fail
    refine (CL.out _ Gd.out).mono ?_
    rintro e w2 ⟨rfl, hk2⟩
    go_wp2_with fail
    go_ret
    exact ⟨rfl, (Gc.out.then Gd.out).then hk2⟩
  have LA := Lib.hid LA
  rcases ib with LB | ⟨LB, ib⟩
  · have LB := Lib.hid LB
    clear ia
    go_enter Tryz.func6, Tryz.ntmps6
    go_wp2_with fail
    rw [← Ge.out]
    clear a0 a1 a2 a3 a4
    refine (LA.out _ Gc.out).mono ?_
    rintro e w1 ⟨rfl, hk1⟩
    have Gd := Lib.hid hk1
    obtain ⟨b0, b1, b2, b3, b4⟩ := HB.out.kept0 hk1
    clear hk1
    go_wp2_with fail
    refine (LB.out _ (Gc.out.then Gd.out)).mono ?_
    rintro e w2 ⟨rfl, hk2⟩
    have Ga := Lib.hid (Gd.out.then hk2)
    clear hk2 b0 b1 b2 b3 b4
    go_wp2_with fail
    refine (CL.out _ Ga.out).mono ?_
    rintro e w3 ⟨rfl, hk3⟩
    go_wp2_with fail
    go_ret
    exact ⟨rfl, (Gc.out.then Ga.out).then hk3⟩
  have LB := Lib.hid LB
  obtain ⟨ua, hra, hsa⟩ := ia
  obtain ⟨ub, hrb, hsb⟩ := ib
  have Gy := Lib.hid (hra.kept0 Gc.out)
  have Gz := Lib.hid (hrb.kept0 Gc.out)
  have Gv := Lib.hid hsa
  have Gw := Lib.hid hsb
  clear hra hrb hsa hsb
  go_enter Tryz.func6, Tryz.ntmps6
  go_wp2_with fail
  rw [← Ge.out]
  clear a0 a1 a2 a3 a4
  refine (LA.out _ Gc.out).mono ?_
  rintro e w1 ⟨rfl, hk1⟩
  have Gd := Lib.hid hk1
  obtain ⟨b0, b1, b2, b3, b4⟩ := HB.out.kept0 hk1
  clear hk1
  go_wp2_with fail
  refine (LB.out _ (Gc.out.then Gd.out)).mono ?_
  rintro e w2 ⟨rfl, hk2⟩
  have Ga := Lib.hid (Gd.out.then hk2)
  clear hk2 b0 b1 b2 b3 b4
  obtain ⟨a0, a1, a2, a3, a4⟩ := HA.out.kept0 Ga.out
  obtain ⟨b0, b1, b2, b3, b4⟩ := HB.out.kept0 Ga.out
  obtain ⟨L, hL⟩ : ∃ L, diffV 21 ua ub = L := ⟨_, rfl⟩
  have Mc : Hid (∀ w3, Kept [] w2 w3 → Calls Tryz.prog 22 #[.agg #[.int .i64 kd, .int .i64 nm, .string st, .slice a la ea, .slice b lb eb], .agg #[.int .i64 kd', .int .i64 nm', .string st', .slice a' la' ea', .slice b' lb' eb']] w3 fun e w' => Texts w3.heap.size L e w' ∧ Kept [] w3 w') := Lib.hid (fun w3 k => by
    have h9 := diff_any (Gy.out.kept0 (Ga.out.then k)) (Gz.out.kept0 (Ga.out.then k)) Gv.out Gw.out (by decide) (HT.out.kept0 (Ga.out.then k))
    rw [hL] at h9
    exact h9)
  have Md : Hid (∀ w3, Kept [] w2 w3 → Calls Tryz.prog 23 #[.agg #[.int .i64 kd, .int .i64 nm, .string st, .slice a la ea, .slice b lb eb], .agg #[.int .i64 kd', .int .i64 nm', .string st', .slice a' la' ea', .slice b' lb' eb']] w3 fun e w' => Texts w3.heap.size L e w' ∧ Kept [] w3 w') := Lib.hid (fun w3 k => by
    have h9 := refDiff_any (Gy.out.kept0 (Ga.out.then k)) (Gz.out.kept0 (Ga.out.then k)) Gv.out Gw.out (by decide)
    rw [hL] at h9
    exact h9)
  have Me : Hid (∀ w3, Kept [] w2 w3 → Calls Tryz.prog 22 #[.agg #[.int .i64 kd', .int .i64 nm', .string st', .slice a' la' ea', .slice b' lb' eb'], .agg #[.int .i64 kd, .int .i64 nm, .string st, .slice a la ea, .slice b lb eb]] w3 fun e w' => Texts w3.heap.size L e w' ∧ Kept [] w3 w') := Lib.hid (fun w3 k => by
    have h9 := diff_any (Gz.out.kept0 (Ga.out.then k)) (Gy.out.kept0 (Ga.out.then k)) Gw.out Gv.out (by decide) (HT.out.kept0 (Ga.out.then k))
    rw [diff_symm, hL] at h9
    exact h9)
  have Ji : Hid (L.length ≤ 1000000) := Lib.hid (by
    rw [← hL]
    unfold diffV
    split
    · have h1 := parts_few 21 (sortV 21 ua) (sortV 21 ub)
      rw [count_sort, count_sort] at h1
      have h2 := Gv.out.1
      have h3 := Gw.out.1
      omega
    · exact Nat.zero_le _)
  have Mf : Hid (checkV 21 ua = 0 → checkV 21 ub = 0 → ((L.length : Int) == 0) = sameV 21 ua ub) := Lib.hid (fun q1 q2 => by rw [← hL]; exact diff_test q1 q2)
  clear hL
  go_wp2_with fail
  refine wp_region_last' (n := 12) (fun w' : World => Kept [] w2 w') 12 (by kernel_rfl) (by kernel_rfl) ?_
  change wpAnyT _ _ _ _ _ _ _ _ _ w2.drew
  have hSS : (fun w' : World => Kept [] w2 w') w2.drew := (Kept.refl [] w2).drew
  revert hSS
  generalize w2.drew = W1
  intro hSS
  refine wpAnyT_start ?_
  intro O R hO hR
  have hQp : ∀ c a (d : Nat) v w, R (.panic c) (a.put (some d) v) w → R (.panic c) a w := by subst hR; exact fun _ _ _ _ _ h => h
  refine wpAnyT_take' (i := 0) (v := ?_) hO rfl rfl (by kernel_rfl) (by kernel_rfl) (by kernel_rfl) (by kernel_rfl) hQp (Or.inl ⟨by kernel_rfl, fun w hSw => ?_⟩) hSS ?_
  rotate_left
  · have s0 := hSw.cell a0 (by simp); have s1 := hSw.cell a1 (by simp); have s2 := hSw.cell a2 (by simp); have s3 := hSw.cell a3 (by simp); have s4 := hSw.cell a4 (by simp); go_simp; try with_reducible rfl
  try simp only [Act.put, List.setIfInBounds_toArray, List.set_cons_zero, List.set_cons_succ]
  refine wpAnyT_take' (i := 3) (v := ?_) hO rfl rfl (by kernel_rfl) (by kernel_rfl) (by kernel_rfl) (by kernel_rfl) hQp (Or.inl ⟨by kernel_rfl, fun w hSw => ?_⟩) hSS ?_
  rotate_left
  · have s0 := hSw.cell a0 (by simp); have s1 := hSw.cell a1 (by simp); have s2 := hSw.cell a2 (by simp); have s3 := hSw.cell a3 (by simp); have s4 := hSw.cell a4 (by simp); go_simp; try with_reducible rfl
  try simp only [Act.put, List.setIfInBounds_toArray, List.set_cons_zero, List.set_cons_succ]
  refine wpAnyT_take' (i := 7) (v := ?_) hO rfl rfl (by kernel_rfl) (by kernel_rfl) (by kernel_rfl) (by kernel_rfl) hQp (Or.inl ⟨by kernel_rfl, fun w hSw => ?_⟩) hSS ?_
  rotate_left
  · have s0 := hSw.cell a0 (by simp); have s1 := hSw.cell a1 (by simp); have s2 := hSw.cell a2 (by simp); have s3 := hSw.cell a3 (by simp); have s4 := hSw.cell a4 (by simp); go_simp; try with_reducible rfl
  try simp only [Act.put, List.setIfInBounds_toArray, List.set_cons_zero, List.set_cons_succ]
  refine wpAnyT_take' (i := 1) (v := ?_) hO rfl rfl (by kernel_rfl) (by kernel_rfl) (by kernel_rfl) (by kernel_rfl) hQp (Or.inl ⟨by kernel_rfl, fun w hSw => ?_⟩) hSS ?_
  rotate_left
  · have s0 := hSw.cell b0 (by simp); have s1 := hSw.cell b1 (by simp); have s2 := hSw.cell b2 (by simp); have s3 := hSw.cell b3 (by simp); have s4 := hSw.cell b4 (by simp); go_simp; try with_reducible rfl
  try simp only [Act.put, List.setIfInBounds_toArray, List.set_cons_zero, List.set_cons_succ]
  refine wpAnyT_take' (i := 4) (v := ?_) hO rfl rfl (by kernel_rfl) (by kernel_rfl) (by kernel_rfl) (by kernel_rfl) hQp (Or.inl ⟨by kernel_rfl, fun w hSw => ?_⟩) hSS ?_
  rotate_left
  · have s0 := hSw.cell b0 (by simp); have s1 := hSw.cell b1 (by simp); have s2 := hSw.cell b2 (by simp); have s3 := hSw.cell b3 (by simp); have s4 := hSw.cell b4 (by simp); go_simp; try with_reducible rfl
  try simp only [Act.put, List.setIfInBounds_toArray, List.set_cons_zero, List.set_cons_succ]
  refine wpAnyT_take' (i := 6) (v := ?_) hO rfl rfl (by kernel_rfl) (by kernel_rfl) (by kernel_rfl) (by kernel_rfl) hQp (Or.inl ⟨by kernel_rfl, fun w hSw => ?_⟩) hSS ?_
  rotate_left
  · have s0 := hSw.cell b0 (by simp); have s1 := hSw.cell b1 (by simp); have s2 := hSw.cell b2 (by simp); have s3 := hSw.cell b3 (by simp); have s4 := hSw.cell b4 (by simp); go_simp; try with_reducible rfl
  try simp only [Act.put, List.setIfInBounds_toArray, List.set_cons_zero, List.set_cons_succ]
  refine wpAnyT_one' (i := 2) hO rfl (by kernel_rfl) (by kernel_rfl) (fun K hK => ?_)
  go_simp
  refine Calls.mono (Mc.out _ hSS) ?_
  rintro e w3 ⟨⟨p3, c3, rfl, ho3⟩, hk3⟩
  have hS1 : (fun w' : World => Kept [] w2 w') w3 := hSS.then hk3
  refine hK _ _ (.inr hS1) ?_
  clear hK K
  try simp only [Act.put, List.setIfInBounds_toArray, List.set_cons_zero, List.set_cons_succ]
  clear hSS hk3
  have hSS := hS1
  clear hS1
  refine wpAnyT_one' (i := 5) hO rfl (by kernel_rfl) (by kernel_rfl) (fun K hK => ?_)
  go_simp
  refine Calls.mono (Md.out _ hSS) ?_
  rintro e w4 ⟨⟨p4, c4, rfl, ho4⟩, hk4⟩
  have ho3 := row_kept ho3 hk4 (by simp)
  have hS1 : (fun w' : World => Kept [] w2 w') w4 := hSS.then hk4
  refine hK _ _ (.inr hS1) ?_
  clear hK K
  try simp only [Act.put, List.setIfInBounds_toArray, List.set_cons_zero, List.set_cons_succ]
  clear hSS hk4
  have hSS := hS1
  clear hS1
  refine wpAnyT_one' (i := 8) hO rfl (by kernel_rfl) (by kernel_rfl) (fun K hK => ?_)
  go_simp
  refine Calls.mono (Me.out _ hSS) ?_
  rintro e w5 ⟨⟨p5, c5, rfl, ho5⟩, hk5⟩
  have ho3 := row_kept ho3 hk5 (by simp)
  have ho4 := row_kept ho4 hk5 (by simp)
  have hS1 : (fun w' : World => Kept [] w2 w') w5 := hSS.then hk5
  refine hK _ _ (.inr hS1) ?_
  clear hK K
  try simp only [Act.put, List.setIfInBounds_toArray, List.set_cons_zero, List.set_cons_succ]
  clear hSS hk5
  have hSS := hS1
  refine wpAnyT_take' (i := 9) (v := ?_) hO rfl rfl (by kernel_rfl) (by kernel_rfl) (by kernel_rfl) (by kernel_rfl) hQp (Or.inl ⟨by kernel_rfl, fun w hSw => ?_⟩) hSS ?_
  rotate_left
  · go_simp; try with_reducible rfl
  try simp only [Act.put, List.setIfInBounds_toArray, List.set_cons_zero, List.set_cons_succ]
  refine wpAnyT_take' (i := 10) (v := ?_) hO rfl rfl (by kernel_rfl) (by kernel_rfl) (by kernel_rfl) (by kernel_rfl) hQp (Or.inl ⟨by kernel_rfl, fun w hSw => ?_⟩) hSS ?_
  rotate_left
  · go_simp; try with_reducible rfl
  try simp only [Act.put, List.setIfInBounds_toArray, List.set_cons_zero, List.set_cons_succ]
  refine wpAnyT_take' (i := 11) (v := ?_) hO rfl rfl (by kernel_rfl) (by kernel_rfl) (by kernel_rfl) (by kernel_rfl) hQp (Or.inl ⟨by kernel_rfl, fun w hSw => ?_⟩) hSS ?_
  rotate_left
  · go_simp; try with_reducible rfl
  try simp only [Act.put, List.setIfInBounds_toArray, List.set_cons_zero, List.set_cons_succ]
  refine wpAnyT_done' hO (by kernel_rfl) ?_ _
  subst hR
  try clear hQp hO O
  clear a0 a1 a2 a3 a4 b0 b1 b2 b3 b4 hSS
  have Jx := Lib.hid (Ga.out.then hS1)
  have Ju := Lib.hid ho3
  have Jd := Lib.hid ho4
  have Gn := Lib.hid ho5
  clear hS1 ho3 ho4 ho5
  go_wp2_with fail
  refine (CL.out _ Jx.out).mono ?_
  rintro e w6 ⟨rfl, hk6⟩
  have Mg := Lib.hid hk6
  clear hk6
  go_wp2_with fail
  go_loopw [8] (fun i wr => ∃ k : Nat, i = .int .i64 k ∧ k ≤ L.length ∧ Kept [] w5 wr) (fun i _ => L.length - (intOf i).toNat)
  case atStart => exact ⟨0, rfl, Nat.zero_le _, Mg.out⟩
  case round =>
    obtain ⟨k, rfl, hk, hkr⟩ := hrel
    have Gb := Lib.hid hkr
    clear hkr
    by_cases hlt : k < L.length
    · have hltI : (k : Int) < L.length := by omega
      have Jj := Lib.hid hlt
      obtain ⟨g3, o3, rfl, r3⟩ := strs_at Ju.out hlt
      obtain ⟨g4, o4, rfl, r4⟩ := strs_at Jd.out hlt
      obtain ⟨g5, o5, rfl, r5⟩ := strs_at Gn.out hlt
      have q3 := r3 _ Gb.out
      have q4 := r4 _ Gb.out
      have q5 := r5 _ Gb.out
      clear r3 r4 r5
      have hll := Ji.out
      have hkI : (k : Int) < 1000000 := by omega
      revert q3 q4 q5
      generalize L[k] = x
      intro q3 q4 q5
      clear hll
      have E3 := ext_cell q3
      have E4 := ext_cell q4
      have E5 := ext_cell q5
      go_wp2_with fail
      refine wp_region_ext wr (by kernel_rfl) (by kernel_rfl) (Kept.refl _ _) ?_
      clear q3 q4 q5
      repeat go_big_quiet_step (fail)
      refine wpQuiet_nil ?_
      intro w7 hk7
      clear E3 E4 E5
      go_wp2_with fail
      case roundEnd => exact ⟨⟨k + 1, by go_num, by omega, Gb.out.then hk7⟩, by have := Jj.out; simp [intOf]; omega⟩
    · obtain rfl : k = L.length := by omega
      have hnlt : ¬ ((L.length : Int) < L.length) := by omega
      have Gb := Lib.hid (Jx.out.then Gb.out)
      obtain ⟨a0, a1, a2, a3, a4⟩ := HA.out.kept0 Gb.out
      go_wp2_with fail
      clear a0 a1 a2 a3 a4 hnlt hlt hk
      by_cases hca : checkV 21 ua = 0
      rotate_left
      · refine (refCheck_any (Gy.out.kept0 Gb.out) Gv.out (by decide)).mono ?_
        rintro e w8 ⟨rfl, hk8⟩
        obtain ⟨f1, f2⟩ := int_ne hca
        clear hca
        go_wp2_with fail
        go_ret
        exact ⟨rfl, (Gc.out.then Gb.out).then hk8⟩
      refine (refCheck_any (Gy.out.kept0 Gb.out) Gv.out (by decide)).mono ?_
      rintro e w8 ⟨rfl, hk8⟩
      rw [hca]
      have Jf := Lib.hid hca
      have Jg := Lib.hid (Gb.out.then hk8)
      clear hca hk8
      obtain ⟨b0, b1, b2, b3, b4⟩ := HB.out.kept0 Jg.out
      go_wp2_with fail
      clear b0 b1 b2 b3 b4
      by_cases hcb : checkV 21 ub = 0
      rotate_left
      · refine (refCheck_any (Gz.out.kept0 Jg.out) Gw.out (by decide)).mono ?_
        rintro e w9 ⟨rfl, hk9⟩
        obtain ⟨f1, f2⟩ := int_ne hcb
        clear hcb
        go_wp2_with fail
        go_ret
        exact ⟨rfl, (Gc.out.then Jg.out).then hk9⟩
      refine (refCheck_any (Gz.out.kept0 Jg.out) Gw.out (by decide)).mono ?_
      rintro e w9 ⟨rfl, hk9⟩
      rw [hcb]
      have Mh := Lib.hid (Mf.out Jf.out hcb)
      have Jh := Lib.hid (Jg.out.then hk9)
      clear hcb hk9
      obtain ⟨a0, a1, a2, a3, a4⟩ := HA.out.kept0 Jh.out
      obtain ⟨b0, b1, b2, b3, b4⟩ := HB.out.kept0 Jh.out
      go_wp2_with fail
      clear a0 a1 a2 a3 a4 b0 b1 b2 b3 b4
      refine (refSame_any (Gy.out.kept0 Jh.out) (Gz.out.kept0 Jh.out) Gv.out Gw.out (by decide)).mono ?_
      rintro e w10 ⟨rfl, hk10⟩
      have f := Mh.out
      revert f
      generalize sameV 21 ua ub = r
      intro f
      cases r <;> (
        go_wp2_with fail
        go_ret
        exact ⟨rfl, (Gc.out.then Jh.out).then hk10⟩)
end
end Go.Proofs.YtpbphdkjjoipnaaGreatDoor

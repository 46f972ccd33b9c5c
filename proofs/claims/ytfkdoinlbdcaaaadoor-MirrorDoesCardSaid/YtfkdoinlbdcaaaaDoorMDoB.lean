/- One call of both mirrors: the other kinds. -/
import Derived.Test.YtfkdoinlbdcaaaaDoorMDo
namespace Go.Proofs.YtfkdoinlbdcaaaaDoor
open Go.RowKit

set_option maxRecDepth 10000 in
set_option maxHeartbeats 3200000 in
theorem mdo_slow {w : World} {b c : Nat} {F G : List Nat} {d : PMir} (h : MBoth w b c F G d) (s s2 : ByteArray) (n : Int) (vb : Value) (hn : n ≤ 9223372036854775807) :
    Calls Tryd.prog 20 #[.pointer (some ⟨b, 0, none⟩), .pointer (some ⟨c, 0, none⟩), .agg #[.int .i64 3, .string s, .string s2, .int .i64 n, vb]] w (MDoPost w b c F G) := by
  have k0 : Kept [] w (w.alloc (.cells #[.int .i64 3, .string s, .string s2, .int .i64 n, vb] 45)) := (Kept.refl [] w).alloc _
  have hltF : w.heap.size ∉ F := fun hx => absurd (h.mir.lt _ hx) (Nat.lt_irrefl _)
  have HB := Lib.hid (h.kept0 k0)
  have HK0 := Lib.hid k0
  have HS := Lib.hid (opS_new w 3 s s2 n vb 45)
  have HN := Lib.hid hn
  have HFn := Lib.hid hltF
  clear h k0 hn hltF
  go_enter Tryd.func20, Tryd.ntmps20
  go_wp2_with (go_at_call 24; refine (slow_any HB.out.mir n HN.out).mono ?_; rintro e w1 ⟨rfl, hd, hk1⟩; have hr1 := HB.out.ref1 hk1; have hS1 := HS.out.kept hk1 HFn.out; obtain ⟨la, lc, aa, ac, rs, rows, fs, hG, hat⟩ := hr1; have c2 := hat.c2; have f2 := hat.fr 2; obtain ⟨-, -, q3, -⟩ := hS1; have HD := Lib.hid hd; have HK1 := Lib.hid hk1; have HG := Lib.hid hG; have HAT := Lib.hid hat; clear hd hk1 hG hat)
  go_ret
  refine HB.out.step HK0.out HD.out HK1.out (fun k hk => .inl hk) ⟨la, lc, aa, ac, n, rows, fs, HG.out, HAT.out.setSlow n HN.out⟩ ((Kept.refl _ w1).setCell (.inl (by rw [HG.out]; simp)) _) (fun k hk => .inl hk) HB.out.few

set_option maxRecDepth 10000 in
set_option maxHeartbeats 3200000 in
theorem mdo_forget {w : World} {b c : Nat} {F G : List Nat} {d : PMir} (h : MBoth w b c F G d) (s s2 : ByteArray) (n : Int) (vb : Value) :
    Calls Tryd.prog 20 #[.pointer (some ⟨b, 0, none⟩), .pointer (some ⟨c, 0, none⟩), .agg #[.int .i64 5, .string s, .string s2, .int .i64 n, vb]] w (MDoPost w b c F G) := by
  have k0 : Kept [] w (w.alloc (.cells #[.int .i64 5, .string s, .string s2, .int .i64 n, vb] 45)) := (Kept.refl [] w).alloc _
  have HB := Lib.hid (h.kept0 k0)
  have HK0 := Lib.hid k0
  clear h k0
  go_enter Tryd.func20, Tryd.ntmps20
  go_wp2_with (go_at_call 25; refine (forget_any HB.out.mir).mono ?_; rintro e w1 ⟨rfl, F', hd, hk1, hF'⟩; have hr1 := HB.out.ref1 hk1; obtain ⟨la, lc, aa, ac, rs, rows, fs, hG, hat⟩ := hr1; have c1 := hat.c1; have f1 := hat.fr 1; have HD := Lib.hid hd; have HK1 := Lib.hid hk1; have HG := Lib.hid hG; have HAT := Lib.hid hat; have HF' := Lib.hid hF'; clear hd hk1 hG hat hF')
  go_ret
  have hset := HAT.out.setAsked (Kept.refl _ w1) (l := []) (a' := none) (c' := 0) (by decide) (Tail.nil _ _ _)
  refine HB.out.step HK0.out HD.out HK1.out HF'.out ⟨la, lc, none, 0, rs, rows, fs, rfl, hset⟩ ((Kept.refl _ w1).setCell (.inl (by rw [HG.out]; simp)) _) (fun k hk => .inl ?_) (by simp)
  rw [HG.out]
  simp only [List.mem_cons, List.mem_append, Option.mem_toList] at hk ⊢
  rcases hk with rfl | hk | hk
  · exact .inl rfl
  · exact .inr (.inl hk)
  · cases hk

set_option maxRecDepth 10000 in
set_option maxHeartbeats 3200000 in
theorem mdo_max {w : World} {b c : Nat} {F G : List Nat} {d : PMir} (h : MBoth w b c F G d) (s s2 : ByteArray) (vb : Value) :
    Calls Tryd.prog 20 #[.pointer (some ⟨b, 0, none⟩), .pointer (some ⟨c, 0, none⟩), .agg #[.int .i64 4, .string s, .string s2, .int .i64 9223372036854775807, vb]] w (MDoPost w b c F G) := by
  have k0 : Kept [] w (w.alloc (.cells #[.int .i64 4, .string s, .string s2, .int .i64 9223372036854775807, vb] 45)) := (Kept.refl [] w).alloc _
  have HB := Lib.hid (h.kept0 k0)
  have HK0 := Lib.hid k0
  clear h k0
  go_enter Tryd.func20, Tryd.ntmps20
  go_wp2_with fail
  go_ret
  exact ⟨F, G, d, rfl, HB.out, HK0.out.mono (by simp), fun k hk => .inl hk, fun k hk => .inl hk⟩

set_option maxRecDepth 10000 in
set_option maxHeartbeats 6400000 in
theorem mdo_fetch {w : World} {b c : Nat} {F G : List Nat} {d : PMir} (h : MBoth w b c F G d) (s s2 : ByteArray) (hs : s.size ≤ maxLen) (n : Int) (vb : Value) (hn : n ≤ 9223372036854775806) :
    Calls Tryd.prog 20 #[.pointer (some ⟨b, 0, none⟩), .pointer (some ⟨c, 0, none⟩), .agg #[.int .i64 4, .string s, .string s2, .int .i64 n, vb]] w (MDoPost w b c F G) := by
  have k0 : Kept [] w (w.alloc (.cells #[.int .i64 4, .string s, .string s2, .int .i64 n, vb] 45)) := (Kept.refl [] w).alloc _
  have hltF : w.heap.size ∉ F := fun hx => absurd (h.mir.lt _ hx) (Nat.lt_irrefl _)
  have hltG : w.heap.size ∉ G := fun hx => absurd (h.ref.lt _ hx) (Nat.lt_irrefl _)
  have HB := Lib.hid (h.kept0 k0)
  have HK0 := Lib.hid k0
  have HS := Lib.hid (opS_new w 4 s s2 n vb 45)
  have HN := Lib.hid hn
  have HFn := Lib.hid hltF
  have HGn := Lib.hid hltG
  have HSZ := Lib.hid hs
  have hfit := fetch_fits d s n
  have HFEW := Lib.hid (fetch_asked d s n h.few)
  have hne : (n == 9223372036854775807) = false := by simpa using (by omega : n ≠ 9223372036854775807)
  have hf1 := Lib.hid (fetch_any HB.out.mir s hs n hn HB.out.few)
  have hf2 : Hid (∀ W, RMirRep W c G d → _) := Lib.hid (fun W (hr : RMirRep W c G d) => rfetch_any hr s hs n hn HB.out.few)
  revert hf1 hf2 HFEW hfit
  generalize d.fetch s n = r
  obtain ⟨⟨l, er⟩, d'⟩ := r
  intro hfit HFEW hf1 hf2
  simp only at hfit
  clear h k0 hn hltF hltG hs
  unfold FetchPost at hf1
  unfold RFetchPost at hf2
  simp only at hf1 hf2 HFEW
  have hcase : ((er != 0) = true) ∨ ((er != 0) = false ∧ (l.length : Int) ≤ n) ∨ ((er != 0) = false ∧ ¬(l.length : Int) ≤ n ∧ ((l.length : Int) == 0) = true) := by
    rcases hfit with e | ⟨e, g | ⟨g, g2⟩⟩
    · exact .inl (by simpa using e)
    · exact .inr (.inl ⟨by simp [e], g⟩)
    · exact .inr (.inr ⟨by simp [e], g, by simp [g2]⟩)
  clear hfit
  rcases hcase with hc | ⟨hc, hc2⟩ | ⟨hc, hc2, hc3⟩
  all_goals
    go_enter Tryd.func20, Tryd.ntmps20
    go_wp2_with (first
      | (go_at_call 11; refine hf1.out.mono ?_; rintro e w1 ⟨v1, rfl, hv1, F', hd, hk1, hF'⟩; have hr1 := Lib.hid (HB.out.ref1 hk1); have hS1 := HS.out.kept hk1 HFn.out; have HS1 := Lib.hid hS1; obtain ⟨q1, -, q3, -⟩ := hS1; have HD := Lib.hid hd; have HK1 := Lib.hid hk1; have HF' := Lib.hid hF'; have HV1 := Lib.hid hv1; clear hd hk1 hF' hv1)
      | (go_at_call 37; refine (hf2.out _ hr1.out).mono ?_; rintro e w2 ⟨v2, rfl, hv2, G', hr2, hk2, hG'⟩; clear q1 q3; obtain ⟨-, -, q3, -⟩ := HS1.out.kept hk2 HGn.out; have cv2 : (convert 28 9 v2).run Tryd.prog w2 = .ok (.string (str l)) w2 := Bytes.toStr hv2.1; have cv1 : (convert 28 9 v1).run Tryd.prog w2 = .ok (.string (str l)) w2 := Bytes.toStr (HV1.out.kept hk2 hr1.out.kinds).1; obtain ⟨a1, c1, rfl, -, -⟩ := HV1.out.1.form; have HR2 := Lib.hid hr2; have HK2 := Lib.hid hk2; have HG' := Lib.hid hG'; clear hr2 hk2 hG' hv2))
    go_ret
    exact HB.out.step HK0.out HD.out HK1.out HF'.out HR2.out HK2.out HG'.out HFEW.out

theorem files_two {w : World} {F : List Nat} {g : Nat} {s s2 : ByteArray} {ba : Option Addr} {bc : Nat} {l : List UInt8} (h : Slc w 2 (.slice (some ⟨g, 0, none⟩) 2 2) 2 [.string s, .slice ba l.length bc, .string s2, .slice ba l.length bc]) (hg : g ∉ F) (hb : Bytes w (.slice ba l.length bc) l)
    (hf : ∀ g, vblk (.slice ba l.length bc) = some g → g ∉ F) (hs : s.size ≤ maxLen) (hs2 : s2.size ≤ maxLen) (hl : l.length ≤ maxLen) : FilesIn w F (.slice (some ⟨g, 0, none⟩) 2 2) [(s, .slice ba l.length bc), (s2, .slice ba l.length bc)] [(s, l), (s2, l)] where
  slc := h
  out := fun g' e => by
    simp [vblk] at e
    subst e; exact hg
  all := ((All2.nil _).cons ⟨rfl, hb, hf⟩).cons ⟨rfl, hb, hf⟩
  size := fun f hf' => by
    simp only [List.mem_cons, List.not_mem_nil, or_false] at hf'
    rcases hf' with rfl | rfl
    · exact ⟨hs, hl⟩
    · exact ⟨hs2, hl⟩
  few := by simp
theorem FilesIn.other {w w' : World} {F G : List Nat} {v : Value} {rows : List Row2} {fs : List PF} (h : FilesIn w G v rows fs) (h' : FilesIn w F v rows fs) (k : Kept F w w') : FilesIn w' G v rows fs :=
  ⟨(h'.kept k).slc, h.out, by
    refine ⟨h.all.1, ?_⟩
    intro j a b ha hb
    obtain ⟨e1, e2, e3⟩ := h.all.2 j a b ha hb
    exact ⟨e1, ((h'.kept k).all.2 j a b ha hb).2.1, e3⟩, h.size, h.few⟩

set_option maxRecDepth 10000 in
set_option maxHeartbeats 3200000 in
theorem mdo_load {w : World} {b c : Nat} {F G : List Nat} {d : PMir} (h : MBoth w b c F G d) (s s2 : ByteArray) (hs : s.size ≤ maxLen) (hs2 : s2.size ≤ maxLen) (n : Int) (vb : Value) {l : List UInt8} (hvb : Bytes w vb l) (hl : l.length ≤ maxLen) (hfr : ∀ g, vblk vb = some g → g ∉ F ∧ g ∉ G) :
    Calls Tryd.prog 20 #[.pointer (some ⟨b, 0, none⟩), .pointer (some ⟨c, 0, none⟩), .agg #[.int .i64 6, .string s, .string s2, .int .i64 n, vb]] w (MDoPost w b c F G) := by
  obtain ⟨ba, bc, rfl, -, -⟩ := hvb.form
  have k0 : Kept [] w (w.alloc (.cells #[.int .i64 6, .string s, .string s2, .int .i64 n, .slice ba l.length bc] 45)) := (Kept.refl [] w).alloc _
  have HK0 := Lib.hid k0
  have k1 : Kept [] w ((w.alloc (.cells #[.int .i64 6, .string s, .string s2, .int .i64 n, .slice ba l.length bc] 45)).alloc (.cells #[.string s, .slice ba l.length bc, .string s2, .slice ba l.length bc] 58)) := k0.alloc _
  have HK1 := Lib.hid k1
  have HB := Lib.hid (h.kept0 k1)
  have HBY := Lib.hid (hvb.kept0 k1)
  have HFR := Lib.hid hfr
  have HSZ : Hid (s.size ≤ maxLen ∧ s2.size ≤ maxLen ∧ l.length ≤ maxLen) := Lib.hid ⟨hs, hs2, hl⟩
  have hltF : ∀ k, w.heap.size ≤ k → k ∉ F := fun k hk hx => absurd (h.mir.lt _ hx) (Nat.not_lt.2 hk)
  have hltG : ∀ k, w.heap.size ≤ k → k ∉ G := fun k hk hx => absurd (h.ref.lt _ hx) (Nat.not_lt.2 hk)
  have HFn := Lib.hid hltF
  have HGn := Lib.hid hltG
  have hsl := slc_new (w.alloc (.cells #[.int .i64 6, .string s, .string s2, .int .i64 n, .slice ba l.length bc] 45)) [.string s, .slice ba l.length bc, .string s2, .slice ba l.length bc] 2 2 58 (w.heap.size + 1) (by simp) rfl (by decide)
  have HIF := Lib.hid (files_two (F := F) hsl (hltF _ (by omega)) HBY.out (fun g hg => (hfr g hg).1) hs hs2 hl)
  have HIG := Lib.hid (files_two (F := G) hsl (hltG _ (by omega)) HBY.out (fun g hg => (hfr g hg).2) hs hs2 hl)
  clear h k0 k1 hvb hl hfr hs hs2 hltF hltG hsl
  go_enter Tryd.func20, Tryd.ntmps20
  go_wp2_with (first
    | (go_at_call 27; refine (mload_any HB.out.mir HIF.out).mono ?_; rintro e w1 ⟨rfl, hd, hk1⟩; have hr1 := Lib.hid (HB.out.ref1 hk1); have HIG1 := Lib.hid (HIG.out.other HIF.out hk1); have HD := Lib.hid hd; have HK2 := Lib.hid hk1; clear hd hk1)
    | (go_at_call 38; refine (rload_any hr1.out HIG1.out).mono ?_; rintro e w2 ⟨rfl, G', hr2, hk2, hG'⟩; have hfin := Lib.hid (HB.out.step HK1.out HD.out HK2.out (fun k hk => .inl hk) hr2 hk2 hG' (by rw [load_asked]; exact HB.out.few)); clear hr2 hk2 hG'))
  go_ret
  exact hfin.out

set_option maxRecDepth 10000 in
set_option maxHeartbeats 3200000 in
theorem mdo_else {w : World} {b c : Nat} {F G : List Nat} {d : PMir} (h : MBoth w b c F G d) (s s2 : ByteArray) (n : Int) (vb : Value) (kind : Int) (h1 : ¬kind = 1) (h2 : ¬kind = 2) (h3 : ¬kind = 3) (h4 : ¬kind = 4) (h5 : ¬kind = 5) (h6 : ¬kind = 6) :
    Calls Tryd.prog 20 #[.pointer (some ⟨b, 0, none⟩), .pointer (some ⟨c, 0, none⟩), .agg #[.int .i64 kind, .string s, .string s2, .int .i64 n, vb]] w (MDoPost w b c F G) := by
  have k0 : Kept [] w (w.alloc (.cells #[.int .i64 kind, .string s, .string s2, .int .i64 n, vb] 45)) := (Kept.refl [] w).alloc _
  have HB := Lib.hid (h.kept0 k0)
  have HK0 := Lib.hid k0
  have e1 : (kind == 1) = false := by simpa using h1
  have e2 : (kind == 2) = false := by simpa using h2
  have e3 : (kind == 3) = false := by simpa using h3
  have e4 : (kind == 4) = false := by simpa using h4
  have e5 : (kind == 5) = false := by simpa using h5
  have e6 : (kind == 6) = false := by simpa using h6
  clear h k0 h1 h2 h3 h4 h5 h6
  go_enter Tryd.func20, Tryd.ntmps20
  go_wp2_with fail
  go_ret
  exact ⟨F, G, d, rfl, HB.out, HK0.out.mono (by simp), fun k hk => .inl hk, fun k hk => .inl hk⟩

theorem le_of_wf {i : Int} (h : (Lit.int .i64 i).wf = true) : i ≤ 9223372036854775807 := by
  have e1 : IntKind.i64.max = 9223372036854775807 := by decide
  change (decide (IntKind.i64.min ≤ i) && decide (i ≤ IntKind.i64.max)) = true at h
  rw [e1, Bool.and_eq_true, decide_eq_true_eq, decide_eq_true_eq] at h
  exact h.2
theorem mdo_any {w : World} {b c : Nat} {F G : List Nat} {d : PMir} (h : MBoth w b c F G d) (o : MOp) (ho : MOpAt w o) (hb : ∀ g, vblk o.vb = some g → g ∉ F ∧ g ∉ G) :
    Calls Tryd.prog 20 #[.pointer (some ⟨b, 0, none⟩), .pointer (some ⟨c, 0, none⟩), .agg #[.int .i64 o.kind, .string o.s, .string o.s2, .int .i64 o.n, o.vb]] w (MDoPost w b c F G) := by
  obtain ⟨kind, s, s2, n, vb⟩ := o
  obtain ⟨-, h2, h3, h4, l, h5, h6⟩ := ho
  simp only at h2 h3 h4 h5 hb ⊢
  have hn := le_of_wf h2
  by_cases e1 : kind = 1
  · subst e1; exact mdo_put h s s2 h3 n vb h5 h6 hb
  by_cases e2 : kind = 2
  · subst e2; exact mdo_drop h s s2 h3 n vb
  by_cases e3 : kind = 3
  · subst e3; exact mdo_slow h s s2 n vb hn
  by_cases e4 : kind = 4
  · subst e4
    by_cases e : n = 9223372036854775807
    · subst e; exact mdo_max h s s2 vb
    · exact mdo_fetch h s s2 h3 n vb (by omega)
  by_cases e5 : kind = 5
  · subst e5; exact mdo_forget h s s2 n vb
  by_cases e6 : kind = 6
  · subst e6; exact mdo_load h s s2 h3 h4 n vb h5 h6 hb
  exact mdo_else h s s2 n vb kind e1 e2 e3 e4 e5 e6
end Go.Proofs.YtfkdoinlbdcaaaaDoor

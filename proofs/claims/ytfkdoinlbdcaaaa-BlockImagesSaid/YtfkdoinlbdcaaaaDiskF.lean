/- Crash. -/
import Derived.Test.YtfkdoinlbdcaaaaDiskE
import Derived.Test.YtfkdoinlbdcaaaaLast
namespace Go.Proofs.Ytfkdoinlbdcaaaa
open Go.RowKit
open Go.Maps (Keyed)

namespace PDisk
def crashOne (d : PDisk) (s : List (List UInt8)) (k : Int × Int) : List (List UInt8) := s.set k.1.toNat (((d.loose k.1).getD []).take k.2.toNat ++ (s.getD k.1.toNat []).drop k.2.toNat)
def crashSure (d : PDisk) (l : List (Int × Int)) : List (List UInt8) := l.foldl d.crashOne d.sure
def crash (d : PDisk) (l : List (Int × Int)) : Int × PDisk := if d.keeps l = false then (1, d) else (0, { sure := d.crashSure l, loose := fun _ => none, left := -1, bytes := d.bytes, off := false })
theorem keepsGo_all (d : PDisk) : ∀ (l : List (Int × Int)) (seen : List Int), d.keepsGo seen l = true → ∀ k, k ∈ l → d.loose k.1 ≠ none ∧ 0 ≤ k.2 ∧ k.2 ≤ 64
  | [], _, _, k, hk => by simp at hk
  | x :: r, seen, h, k, hk => by
    unfold keepsGo at h
    split at h
    · cases h
    · rename_i hn
      rcases List.mem_cons.1 hk with e | e
      · subst e
        refine ⟨fun e => hn (.inl e), ?_, ?_⟩
        · rcases Int.lt_or_le k.2 0 with g | g
          · exact absurd (.inr (.inr (.inl g))) hn
          · exact g
        · rcases Int.lt_or_le 64 k.2 with g | g
          · exact absurd (.inr (.inr (.inr g))) hn
          · exact g
      · exact keepsGo_all d r _ h k e
theorem crashOne_len (d : PDisk) (s : List (List UInt8)) (k : Int × Int) : (d.crashOne s k).length = s.length := by simp [crashOne]
theorem crashSure_len (d : PDisk) (l : List (Int × Int)) : (d.crashSure l).length = d.sure.length := by
  unfold crashSure
  have : ∀ (l : List (Int × Int)) (s : List (List UInt8)), (l.foldl d.crashOne s).length = s.length := by
    intro l
    induction l with
    | nil => intro s; rfl
    | cons k r ih => intro s; rw [List.foldl_cons, ih, crashOne_len]
  exact this l d.sure
theorem crashSure_succ (d : PDisk) (l : List (Int × Int)) (k : Nat) (h : k < l.length) : d.crashSure (l.take (k + 1)) = d.crashOne (d.crashSure (l.take k)) l[k] := by
  unfold crashSure
  rw [List.take_succ_eq_append_getElem h, List.foldl_append]
  rfl
theorem crashSure_64 {d : PDisk} (h : d.Ok) (l : List (Int × Int)) (hk : ∀ k, k ∈ l → d.loose k.1 ≠ none ∧ 0 ≤ k.2 ∧ k.2 ≤ 64) : ∀ x, x ∈ d.crashSure l → x.length = 64 := by
  unfold crashSure
  have : ∀ (l : List (Int × Int)) (s : List (List UInt8)), s.length = d.sure.length → (∀ x, x ∈ s → x.length = 64) → (∀ k, k ∈ l → d.loose k.1 ≠ none ∧ 0 ≤ k.2 ∧ k.2 ≤ 64) → ∀ x, x ∈ l.foldl d.crashOne s → x.length = 64 := by
    intro l
    induction l with
    | nil => intro s _ hs _ x hx; exact hs x hx
    | cons k r ih =>
      intro s hsl hs hk x hx
      rw [List.foldl_cons] at hx
      refine ih _ (by rw [crashOne_len, hsl]) ?_ (fun k' hk' => hk k' (List.mem_cons_of_mem _ hk')) x hx
      intro y hy
      rcases List.mem_or_eq_of_mem_set hy with e | e
      · exact hs y e
      · subst e
        obtain ⟨h1, h2, h3⟩ := hk k (List.mem_cons_self ..)
        obtain ⟨h4, h5⟩ := h.dom _ h1
        cases hl : d.loose k.1 with
        | none => exact absurd hl h1
        | some bl =>
          have e1 := h.l64 _ _ hl
          have e2 : k.1.toNat < s.length := by omega
          have e3 : (s.getD k.1.toNat []).length = 64 := by
            rw [List.getD_eq_getElem?_getD, List.getElem?_eq_getElem e2]
            exact hs _ (List.getElem_mem _)
          simp only [Option.getD_some, List.length_append, List.length_take, List.length_drop]
          omega
  exact this l d.sure rfl h.s64 hk
end PDisk

/-- The disk behind a crash. -/
theorem DiskAt.crashed {w w' : World} {b sb scap mb mb' cnt : Nat} {svals svals' : List Value} {M : Lit → Option Value} {d : PDisk} (h : DiskAt w b sb scap mb cnt svals M d) (l : List (Int × Int)) (hk : ∀ k, k ∈ l → d.loose k.1 ≠ none ∧ 0 ≤ k.2 ∧ k.2 ≤ 64)
    (hhead : w'.heap[b]? = some (.cells #[.slice (some ⟨sb, 0, none⟩) d.sure.length scap, .map (some mb'), .int .i64 (-1), .int .i64 d.bytes, .bool false] 66 (0, 0)))
    (hrow : w'.ownsRow 0 30 1 (.slice (some ⟨sb, 0, none⟩) d.sure.length scap) d.sure.length svals') (hmap : MapAt Try.prog w' 3 mb' 0 (fun _ => none))
    (hs : All2 (Data w') svals' (d.crashSure l)) : DiskAt w' b sb scap mb' 0 svals' (fun _ => none) { sure := d.crashSure l, loose := fun _ => none, left := -1, bytes := d.bytes, off := false } where
  ok := ⟨by rw [PDisk.crashSure_len]; exact h.ok.pos, by rw [PDisk.crashSure_len]; exact h.ok.le, h.ok.b0, h.ok.b1, by show (-1 : Int) ≤ -1; decide, by show (-1 : Int) ≤ 9223372036854775807; decide, fun x hx => absurd rfl hx, PDisk.crashSure_64 h.ok l hk, fun x l hx => by cases hx⟩
  head := by rw [PDisk.crashSure_len]; exact hhead
  row := by rw [PDisk.crashSure_len]; exact hrow
  map := hmap
  cnt := by omega
  sure := hs
  loose := fun x v hx => by cases hx
  gone := fun _ _ => rfl

set_option maxRecDepth 10000 in
set_option maxHeartbeats 1600000 in
theorem crash_no {w : World} {b : Nat} {F : List Nat} {d : PDisk} (h : DiskRep w b F d) (l : List (Int × Int)) {v : Value} (hv : Slc w 2 v l.length (keptCells l)) (hw : ∀ k, k ∈ l → (Lit.int .i64 k.1).wf = true) (hl : l.length ≤ lim) (hno : d.keeps l = false) :
    Calls Try.prog 14 #[.pointer (some ⟨b, 0, none⟩), v] w fun e w' => e = .returned (.int .i64 1) ∧ Kept [] w w' := by
  have hkp := Lib.hid (keeps_any h l hv hw hl)
  rw [hno] at hkp
  clear hv hw hl hno h
  go_enter Try.func14, Try.ntmps14
  go_wp2_with (go_at_call 36; refine hkp.out.mono ?_; rintro e w1 ⟨rfl, hk⟩)
  go_ret
  exact ⟨rfl, hk⟩

set_option maxRecDepth 10000 in
set_option maxHeartbeats 1600000 in
theorem crash_yes {w : World} {b : Nat} {F : List Nat} {d : PDisk} (h : DiskRep w b F d) (l : List (Int × Int)) {v : Value} (hv : Slc w 2 v l.length (keptCells l)) (hw : ∀ k, k ∈ l → (Lit.int .i64 k.1).wf = true) (hl : l.length ≤ lim) (hyes : d.keeps l = true)
    (hF : ∀ g, vblk v = some g → g ∉ F) :
    Calls Try.prog 14 #[.pointer (some ⟨b, 0, none⟩), v] w fun e w' => ∃ F', e = .returned (.int .i64 0) ∧ DiskRep w' b F' (d.crash l).2 ∧ Kept F w w' ∧ (∀ k, k ∈ F' → k ∈ F ∨ w.heap.size ≤ k) := by
  have hall := PDisk.keepsGo_all d l [] hyes
  have hkp := Lib.hid (keeps_any h l hv hw hl)
  rw [hyes] at hkp
  have ec : (d.crash l).2 = { sure := d.crashSure l, loose := fun _ => none, left := -1, bytes := d.bytes, off := false } := by
    unfold PDisk.crash
    rw [if_neg (by rw [hyes]; simp)]
  rw [ec]
  clear ec hyes
  obtain ⟨sb, scap, mb, cnt, svals, M, rfl, h⟩ := h
  obtain ⟨va, vc, rfl, hvc, hvm⟩ := hv.form
  have hmm := @run_makeMap Try.prog
  have hl2 : (l.length : Int) ≤ 140737488351232 := by simp only [lim] at hl; omega
  have H := Lib.hid h
  have Hv := Lib.hid hv
  have Hall := Lib.hid hall
  clear h hv hl hw hvc hvm hall
  go_enter Try.func14, Try.ntmps14
  go_wp2_with (go_at_call 36; refine hkp.out.mono ?_; rintro e w1 ⟨rfl, hk1⟩)
  have hd1 := H.out.kept hk1 (by simp) (by simp) (by simp) (by simp)
  have Hd1 := Lib.hid hd1
  go_loopw [17] (fun i wr => ∃ (k : Nat) (svals' : List Value), i = .int .i64 k ∧ k ≤ l.length ∧ wr.ownsRow 0 30 1 (.slice (some ⟨sb, 0, none⟩) d.sure.length scap) d.sure.length svals' ∧ All2 (Data wr) svals' (d.crashSure (l.take k)) ∧ Kept [sb] w1 wr) (fun i _ => l.length - (intOf i).toNat)
  case atStart => exact ⟨0, svals, rfl, Nat.zero_le _, hd1.row, by simpa [PDisk.crashSure] using hd1.sure, Kept.refl _ _⟩
  case round =>
    obtain ⟨k, svals', rfl, hk, hown, hdat, hkr⟩ := hrel
    have k0 := hkr.cell (p := ⟨b, 0, none⟩) Hd1.out.c0 (by simpa using Hd1.out.dist.1)
    have k1 := hkr.cell (p := ⟨b, 1, none⟩) Hd1.out.c1 (by simpa using Hd1.out.dist.1)
    by_cases hlt : k < l.length
    · have hvv : Slc wr 2 (.slice va l.length vc) l.length (keptCells l) := (Hv.out.kept0 hk1).kept hkr (by intro g hg; have := hF g hg; simp at this; simp; exact this.2.1)
      rcases hvv.2 with ⟨_, h0⟩ | ⟨h0, _⟩ | ⟨g, o, cap, hsv, _, _, hrow⟩
      · omega
      · omega
      simp only [Value.slice.injEq] at hsv
      obtain ⟨rfl, _, rfl⟩ := hsv
      obtain ⟨g1, g2⟩ := keptCells_get l k hlt
      have q1 := hrow.cells _ _ g1
      have q2 := hrow.cells _ _ g2
      have e2 : o + k * 2 = o + 2 * k := by omega
      have q1' : wr.cell? ⟨g, o + k * 2, none⟩ = some (.int .i64 l[k].1) := by rw [e2]; exact q1
      have q2' : wr.cell? ⟨g, o + k * 2 + 1, none⟩ = some (.int .i64 l[k].2) := by rw [e2]; exact q2
      obtain ⟨hno, hy0, hy1⟩ := Hall.out l[k] (List.getElem_mem _)
      have hsucc := PDisk.crashSure_succ d l k hlt
      clear q1 q2 e2 g1 g2 hvv
      revert q1' q2' hno hy0 hy1 hsucc
      generalize hkk : l[k] = kk
      obtain ⟨x, y⟩ := kk
      intro q1' q2' hno hy0 hy1 hsucc
      have Hkk := Lib.hid hkk
      clear hkk
      simp only at q1' q2' hno hy0 hy1
      obtain ⟨x0, x1⟩ := Hd1.out.ok.dom x hno
      obtain ⟨xn, rfl⟩ := Int.eq_ofNat_of_zero_le x0
      obtain ⟨yn, rfl⟩ := Int.eq_ofNat_of_zero_le hy0
      have Hsucc := Lib.hid hsucc
      clear hsucc
      go_wp2
      have hxs : xn < d.sure.length := by omega
      have hsl : svals'.length = d.sure.length := by have := hown.1; simpa using this
      have hxv : xn < svals'.length := by omega
      have hxc : xn < (d.crashSure (l.take k)).length := by rw [PDisk.crashSure_len]; exact hxs
      have hsd := hdat.2 xn svals'[xn] (d.crashSure (l.take k))[xn] (by simp [hxv]) (by simp [hxc])
      have hcell := hown.cellAt xn (by omega)
      rw [List.getElem?_eq_getElem hxv] at hcell
      have hfr := hown.frozenAt xn
      have h64 : (d.crashSure (l.take k))[xn].length = 64 := PDisk.crashSure_64 Hd1.out.ok (l.take k) (fun q hq => Hall.out q (List.mem_of_mem_take hq)) _ (List.getElem_mem _)
      have hone : d.crashOne (d.crashSure (l.take k)) ((xn : Int), (yn : Int)) = (d.crashSure (l.take k)).set xn (((d.loose xn).getD []).take yn ++ (d.crashSure (l.take k))[xn].drop yn) := by
        simp only [PDisk.crashOne, Int.toNat_natCast]
        rw [List.getD_eq_getElem?_getD, List.getElem?_eq_getElem hxc]
        rfl
      cases hbl : d.loose xn with
      | none => exact absurd hbl hno
      | some bl =>
      rw [hbl] at hone
      have hbl64 := Hd1.out.ok.l64 _ _ hbl
      cases hM : M (.int .i64 xn) with
      | none => have := Hd1.out.gone _ hM; rw [hbl] at this; cases this
      | some lv =>
      obtain ⟨bl', hbl', hld⟩ := Hd1.out.loose _ lv hM
      rw [hbl] at hbl'
      cases hbl'
      have hKind : ∀ j, j ∈ [sb] → kind w1 j ≠ 5 + 2 := by intro j hj; simp at hj; subst hj; rw [Hd1.out.ks]; decide
      have hld2 := hld.kept hkr hKind
      have hmapr := Hd1.out.map.kept hkr (by simpa using Hd1.out.dist.2.2.symm)
      have hne1 : sb ≠ b := Hd1.out.dist.1.symm
      have hne2 : sb ≠ wr.heap.size := Nat.ne_of_lt (hown.lt _ rfl).2
      have hka := (Kept.refl [] wr).alloc (.cells #[.int .i64 xn, .int .i64 yn] 39)
      have a0 : (wr.alloc (.cells #[.int .i64 xn, .int .i64 yn] 39)).cell? ⟨wr.heap.size, 0, none⟩ = some (.int .i64 xn) := by simp
      have a1 : (wr.alloc (.cells #[.int .i64 xn, .int .i64 yn] 39)).cell? ⟨wr.heap.size, 1, none⟩ = some (.int .i64 yn) := by simp
      revert hka a0 a1
      generalize (wr.alloc (.cells #[.int .i64 xn, .int .i64 yn] 39)) = W1
      intro hka a0 a1
      have c0 := hka.cell k0 (by simp)
      have c1 := hka.cell k1 (by simp)
      have hownW := row_kept hown hka (by simp)
      have hcell := hka.cell hcell (by simp)
      have hfr : W1.frozen? ⟨sb, xn, none⟩ = false := hownW.frozenAt xn
      have hdatW := hdat.mono (fun x y _ (r : Data wr x y) => r.kept hka (by simp))
      have hsdW := (hsd.kept hka (by simp))
      have hldW := (hld2.kept hka (by simp))
      have hlk := ((hmapr.kept0 hka).kept0 (Kept.refl [] W1).drew).lookup keyInt Try.underlying64 (zeroBytes _) (Maps.keyOf_int_mk Try.underlying3 (wf64 (i := xn) (by omega) (by have := Hd1.out.ok.le; omega)))
      rw [hM] at hlk
      have hlk := hlk.2
      simp only [Option.getD_some] at hlk
      have hlkA : ∀ W2, Kept [] W1 W2 → (Instr.lookup 64 (.map (some mb)) (.int .i64 xn) false).run Try.prog W2 = .ok lv W2 := by
        intro W2 kk
        have h1 := (((hmapr.kept0 hka).kept0 kk).lookup keyInt Try.underlying64 (zeroBytes _) (Maps.keyOf_int_mk Try.underlying3 (wf64 (i := xn) (by omega) (by have := Hd1.out.ok.le; omega)))).2
        rw [hM] at h1
        exact h1
      have HlkA := Lib.hid hlkA
      clear hlkA
      revert hcell hsdW
      generalize svals'[xn] = sv
      intro hcell hsdW
      revert h64 hsdW hone
      generalize (d.crashSure (l.take k))[xn] = old
      intro h64 hone hsdW
      have Hone := Lib.hid hone
      obtain ⟨a2, cc2, hr2, hb2, hbo2⟩ := Bytes.upto tyBytes hldW.1 yn (by omega)
      obtain ⟨a3, cc3, hr3, hb3, hbo3⟩ := Bytes.from tyBytes hsdW.1 yn (by omega)
      have Hb2 := Lib.hid hb2
      have Hb3 := Lib.hid hb3
      have HbL := Lib.hid hbl64
      have HoL := Lib.hid h64
      have HdatW := Lib.hid hdatW
      have HownW := Lib.hid hownW
      have HdW := Lib.hid hdat
      have Hmr := Lib.hid hmapr
      clear hb2 hb3 hbl64 h64 hdatW hownW hdat hmapr hsdW hldW hld2 hld hsd hM hbl hone hown hKind k0 k1 hrow hbo2 hbo3 q1' q2'
      refine wp_region_last (fun w' => w'.cell? ⟨b, 0, none⟩ = some (.slice (some ⟨sb, 0, none⟩) d.sure.length scap) ∧ w'.cell? ⟨b, 1, none⟩ = some (.map (some mb)) ∧ w'.cell? ⟨wr.heap.size, 0, none⟩ = some (.int .i64 xn) ∧ w'.cell? ⟨wr.heap.size, 1, none⟩ = some (.int .i64 yn) ∧
        w'.cell? ⟨sb, xn, none⟩ = some sv ∧ (Instr.lookup 64 (.map (some mb)) (.int .i64 xn) false).run Try.prog w' = .ok lv w') 30 (by kernel_rfl) ?_
      change wpAnyT _ _ _ _ _ _ _ _ _ W1.drew
      have hSS : (fun w' : World => w'.cell? ⟨b, 0, none⟩ = some (.slice (some ⟨sb, 0, none⟩) d.sure.length scap) ∧ w'.cell? ⟨b, 1, none⟩ = some (.map (some mb)) ∧ w'.cell? ⟨wr.heap.size, 0, none⟩ = some (.int .i64 xn) ∧ w'.cell? ⟨wr.heap.size, 1, none⟩ = some (.int .i64 yn) ∧
        w'.cell? ⟨sb, xn, none⟩ = some sv ∧ (Instr.lookup 64 (.map (some mb)) (.int .i64 xn) false).run Try.prog w' = .ok lv w') W1.drew := ⟨c0, c1, a0, a1, hcell, hlk⟩
      refine wpAnyT_take (i := 0) (v := ?_) rfl (by kernel_rfl) (by kernel_rfl) (by kernel_rfl) (by kernel_rfl) (fun _ _ _ h => h) (Or.inl ⟨by rfl, fun w hSw => ?_⟩) hSS ?_
      rotate_left
      · obtain ⟨s0, s1, s2, s3, s4, s5⟩ := hSw; go_simp; try with_reducible rfl
      try simp only [Act.put, List.setIfInBounds_toArray, List.set_cons_zero, List.set_cons_succ]
      refine wpAnyT_take (i := 1) (v := ?_) rfl (by kernel_rfl) (by kernel_rfl) (by kernel_rfl) (by kernel_rfl) (fun _ _ _ h => h) (Or.inl ⟨by rfl, fun w hSw => ?_⟩) hSS ?_
      rotate_left
      · obtain ⟨s0, s1, s2, s3, s4, s5⟩ := hSw; go_simp; try with_reducible rfl
      try simp only [Act.put, List.setIfInBounds_toArray, List.set_cons_zero, List.set_cons_succ]
      refine wpAnyT_take (i := 2) (v := ?_) rfl (by kernel_rfl) (by kernel_rfl) (by kernel_rfl) (by kernel_rfl) (fun _ _ _ h => h) (Or.inl ⟨by rfl, fun w hSw => ?_⟩) hSS ?_
      rotate_left
      · obtain ⟨s0, s1, s2, s3, s4, s5⟩ := hSw; go_simp; try with_reducible rfl
      try simp only [Act.put, List.setIfInBounds_toArray, List.set_cons_zero, List.set_cons_succ]
      refine wpAnyT_take (i := 3) (v := ?_) rfl (by kernel_rfl) (by kernel_rfl) (by kernel_rfl) (by kernel_rfl) (fun _ _ _ h => h) (Or.inl ⟨by rfl, fun w hSw => ?_⟩) hSS ?_
      rotate_left
      · obtain ⟨s0, s1, s2, s3, s4, s5⟩ := hSw; go_simp; try with_reducible rfl
      try simp only [Act.put, List.setIfInBounds_toArray, List.set_cons_zero, List.set_cons_succ]
      refine wpAnyT_take (i := 4) (v := ?_) rfl (by kernel_rfl) (by kernel_rfl) (by kernel_rfl) (by kernel_rfl) (fun _ _ _ h => h) (Or.inl ⟨by rfl, fun w hSw => ?_⟩) hSS ?_
      rotate_left
      · obtain ⟨s0, s1, s2, s3, s4, s5⟩ := hSw; go_simp; try with_reducible rfl
      try simp only [Act.put, List.setIfInBounds_toArray, List.set_cons_zero, List.set_cons_succ]
      refine wpAnyT_take (i := 5) (v := ?_) rfl (by kernel_rfl) (by kernel_rfl) (by kernel_rfl) (by kernel_rfl) (fun _ _ _ h => h) (Or.inl ⟨by rfl, fun w hSw => ?_⟩) hSS ?_
      rotate_left
      · obtain ⟨s0, s1, s2, s3, s4, s5⟩ := hSw; go_simp; try with_reducible rfl
      try simp only [Act.put, List.setIfInBounds_toArray, List.set_cons_zero, List.set_cons_succ]
      refine wpAnyT_take (i := 6) (v := ?_) rfl (by kernel_rfl) (by kernel_rfl) (by kernel_rfl) (by kernel_rfl) (fun _ _ _ h => h) (Or.inl ⟨by rfl, fun w hSw => ?_⟩) hSS ?_
      rotate_left
      · obtain ⟨s0, s1, s2, s3, s4, s5⟩ := hSw; go_simp; try with_reducible rfl
      try simp only [Act.put, List.setIfInBounds_toArray, List.set_cons_zero, List.set_cons_succ]
      refine wpAnyT_take (i := 7) (v := ?_) rfl (by kernel_rfl) (by kernel_rfl) (by kernel_rfl) (by kernel_rfl) (fun _ _ _ h => h) (Or.inl ⟨by rfl, fun w hSw => ?_⟩) hSS ?_
      rotate_left
      · obtain ⟨s0, s1, s2, s3, s4, s5⟩ := hSw; go_simp; try with_reducible rfl
      try simp only [Act.put, List.setIfInBounds_toArray, List.set_cons_zero, List.set_cons_succ]
      refine wpAnyT_take (i := 8) (v := ?_) rfl (by kernel_rfl) (by kernel_rfl) (by kernel_rfl) (by kernel_rfl) (fun _ _ _ h => h) (Or.inl ⟨by rfl, fun w hSw => ?_⟩) hSS ?_
      rotate_left
      · obtain ⟨s0, s1, s2, s3, s4, s5⟩ := hSw; go_simp; try with_reducible rfl
      try simp only [Act.put, List.setIfInBounds_toArray, List.set_cons_zero, List.set_cons_succ]
      refine wpAnyT_take (i := 9) (v := ?_) rfl (by kernel_rfl) (by kernel_rfl) (by kernel_rfl) (by kernel_rfl) (fun _ _ _ h => h) (Or.inl ⟨by rfl, fun w hSw => ?_⟩) hSS ?_
      rotate_left
      · obtain ⟨s0, s1, s2, s3, s4, s5⟩ := hSw; go_simp; try with_reducible rfl
      try simp only [Act.put, List.setIfInBounds_toArray, List.set_cons_zero, List.set_cons_succ]
      refine wpAnyT_take (i := 10) (v := ?_) rfl (by kernel_rfl) (by kernel_rfl) (by kernel_rfl) (by kernel_rfl) (fun _ _ _ h => h) (Or.inl ⟨by rfl, fun w hSw => ?_⟩) hSS ?_
      rotate_left
      · obtain ⟨s0, s1, s2, s3, s4, s5⟩ := hSw; go_simp; try with_reducible rfl
      try simp only [Act.put, List.setIfInBounds_toArray, List.set_cons_zero, List.set_cons_succ]
      refine wpAnyT_take (i := 11) (v := ?_) rfl (by kernel_rfl) (by kernel_rfl) (by kernel_rfl) (by kernel_rfl) (fun _ _ _ h => h) (Or.inl ⟨by rfl, fun w hSw => ?_⟩) hSS ?_
      rotate_left
      · obtain ⟨s0, s1, s2, s3, s4, s5⟩ := hSw; go_simp; try with_reducible rfl
      try simp only [Act.put, List.setIfInBounds_toArray, List.set_cons_zero, List.set_cons_succ]
      refine wpAnyT_take (i := 12) (v := ?_) rfl (by kernel_rfl) (by kernel_rfl) (by kernel_rfl) (by kernel_rfl) (fun _ _ _ h => h) (Or.inl ⟨by rfl, fun w hSw => ?_⟩) hSS ?_
      rotate_left
      · obtain ⟨s0, s1, s2, s3, s4, s5⟩ := hSw; go_simp; try with_reducible rfl
      try simp only [Act.put, List.setIfInBounds_toArray, List.set_cons_zero, List.set_cons_succ]
      refine wpAnyT_take (i := 13) (v := ?_) rfl (by kernel_rfl) (by kernel_rfl) (by kernel_rfl) (by kernel_rfl) (fun _ _ _ h => h) (Or.inl ⟨by rfl, fun w hSw => ?_⟩) hSS ?_
      rotate_left
      · obtain ⟨s0, s1, s2, s3, s4, s5⟩ := hSw; go_simp; try with_reducible rfl
      try simp only [Act.put, List.setIfInBounds_toArray, List.set_cons_zero, List.set_cons_succ]
      refine wpAnyT_take (i := 14) (v := ?_) rfl (by kernel_rfl) (by kernel_rfl) (by kernel_rfl) (by kernel_rfl) (fun _ _ _ h => h) (Or.inl ⟨by rfl, fun w hSw => ?_⟩) hSS ?_
      rotate_left
      · obtain ⟨s0, s1, s2, s3, s4, s5⟩ := hSw; go_simp; try with_reducible rfl
      try simp only [Act.put, List.setIfInBounds_toArray, List.set_cons_zero, List.set_cons_succ]
      refine wpAnyT_take (i := 15) (v := ?_) rfl (by kernel_rfl) (by kernel_rfl) (by kernel_rfl) (by kernel_rfl) (fun _ _ _ h => h) (Or.inl ⟨by rfl, fun w hSw => ?_⟩) hSS ?_
      rotate_left
      · obtain ⟨s0, s1, s2, s3, s4, s5⟩ := hSw; go_simp; try with_reducible rfl
      try simp only [Act.put, List.setIfInBounds_toArray, List.set_cons_zero, List.set_cons_succ]
      refine wpAnyT_take (i := 16) (v := ?_) rfl (by kernel_rfl) (by kernel_rfl) (by kernel_rfl) (by kernel_rfl) (fun _ _ _ h => h) (Or.inl ⟨by rfl, fun w hSw => ?_⟩) hSS ?_
      rotate_left
      · obtain ⟨s0, s1, s2, s3, s4, s5⟩ := hSw; go_simp; try with_reducible rfl
      try simp only [Act.put, List.setIfInBounds_toArray, List.set_cons_zero, List.set_cons_succ]
      refine wpAnyT_take (i := 17) (v := ?_) rfl (by kernel_rfl) (by kernel_rfl) (by kernel_rfl) (by kernel_rfl) (fun _ _ _ h => h) (Or.inl ⟨by rfl, fun w hSw => ?_⟩) hSS ?_
      rotate_left
      · obtain ⟨s0, s1, s2, s3, s4, s5⟩ := hSw; go_simp; try with_reducible rfl
      try simp only [Act.put, List.setIfInBounds_toArray, List.set_cons_zero, List.set_cons_succ]
      refine wpAnyT_take (i := 18) (v := ?_) rfl (by kernel_rfl) (by kernel_rfl) (by kernel_rfl) (by kernel_rfl) (fun _ _ _ h => h) (Or.inl ⟨by rfl, fun w hSw => ?_⟩) hSS ?_
      rotate_left
      · obtain ⟨s0, s1, s2, s3, s4, s5⟩ := hSw; go_simp; try with_reducible rfl
      try simp only [Act.put, List.setIfInBounds_toArray, List.set_cons_zero, List.set_cons_succ]
      refine wpAnyT_take (i := 19) (v := ?_) rfl (by kernel_rfl) (by kernel_rfl) (by kernel_rfl) (by kernel_rfl) (fun _ _ _ h => h) (Or.inl ⟨by rfl, fun w hSw => ?_⟩) hSS ?_
      rotate_left
      · obtain ⟨s0, s1, s2, s3, s4, s5⟩ := hSw; go_simp; try with_reducible rfl
      try simp only [Act.put, List.setIfInBounds_toArray, List.set_cons_zero, List.set_cons_succ]
      refine wpAnyT_take (i := 20) (v := ?_) rfl (by kernel_rfl) (by kernel_rfl) (by kernel_rfl) (by kernel_rfl) (fun _ _ _ h => h) (Or.inl ⟨by rfl, fun w hSw => ?_⟩) hSS ?_
      rotate_left
      · obtain ⟨s0, s1, s2, s3, s4, s5⟩ := hSw; go_simp; try with_reducible rfl
      try simp only [Act.put, List.setIfInBounds_toArray, List.set_cons_zero, List.set_cons_succ]
      refine wpAnyT_take (i := 21) (v := ?_) rfl (by kernel_rfl) (by kernel_rfl) (by kernel_rfl) (by kernel_rfl) (fun _ _ _ h => h) (Or.inl ⟨by rfl, fun w hSw => ?_⟩) hSS ?_
      rotate_left
      · obtain ⟨s0, s1, s2, s3, s4, s5⟩ := hSw; go_simp; try with_reducible rfl
      try simp only [Act.put, List.setIfInBounds_toArray, List.set_cons_zero, List.set_cons_succ]
      refine wpAnyT_take (i := 22) (v := ?_) rfl (by kernel_rfl) (by kernel_rfl) (by kernel_rfl) (by kernel_rfl) (fun _ _ _ h => h) (Or.inl ⟨by rfl, fun w hSw => ?_⟩) hSS ?_
      rotate_left
      · obtain ⟨s0, s1, s2, s3, s4, s5⟩ := hSw; go_simp; try with_reducible rfl
      try simp only [Act.put, List.setIfInBounds_toArray, List.set_cons_zero, List.set_cons_succ]
      refine wpAnyT_take (i := 23) (v := ?_) rfl (by kernel_rfl) (by kernel_rfl) (by kernel_rfl) (by kernel_rfl) (fun _ _ _ h => h) (Or.inl ⟨by rfl, fun w hSw => ?_⟩) hSS ?_
      rotate_left
      · obtain ⟨s0, s1, s2, s3, s4, s5⟩ := hSw; go_simp; try with_reducible rfl
      try simp only [Act.put, List.setIfInBounds_toArray, List.set_cons_zero, List.set_cons_succ]
      refine wpAnyT_take (i := 24) (v := ?_) rfl (by kernel_rfl) (by kernel_rfl) (by kernel_rfl) (by kernel_rfl) (fun _ _ _ h => h) (Or.inl ⟨by rfl, fun w hSw => ?_⟩) hSS ?_
      rotate_left
      · obtain ⟨s0, s1, s2, s3, s4, s5⟩ := hSw; go_simp; try with_reducible rfl
      try simp only [Act.put, List.setIfInBounds_toArray, List.set_cons_zero, List.set_cons_succ]
      refine wpAnyT_take (i := 25) (v := ?_) rfl (by kernel_rfl) (by kernel_rfl) (by kernel_rfl) (by kernel_rfl) (fun _ _ _ h => h) (Or.inl ⟨by rfl, fun w hSw => ?_⟩) hSS ?_
      rotate_left
      · obtain ⟨s0, s1, s2, s3, s4, s5⟩ := hSw; go_simp; try with_reducible rfl
      try simp only [Act.put, List.setIfInBounds_toArray, List.set_cons_zero, List.set_cons_succ]
      refine wpAnyT_take (i := 26) (v := ?_) rfl (by kernel_rfl) (by kernel_rfl) (by kernel_rfl) (by kernel_rfl) (fun _ _ _ h => h) (Or.inl ⟨by rfl, fun w hSw => ?_⟩) hSS ?_
      rotate_left
      · obtain ⟨s0, s1, s2, s3, s4, s5⟩ := hSw; go_simp; try with_reducible rfl
      try simp only [Act.put, List.setIfInBounds_toArray, List.set_cons_zero, List.set_cons_succ]
      have hSA : ∀ W2, Kept [] W1 W2 → (fun w' : World => w'.cell? ⟨b, 0, none⟩ = some (.slice (some ⟨sb, 0, none⟩) d.sure.length scap) ∧ w'.cell? ⟨b, 1, none⟩ = some (.map (some mb)) ∧ w'.cell? ⟨wr.heap.size, 0, none⟩ = some (.int .i64 xn) ∧ w'.cell? ⟨wr.heap.size, 1, none⟩ = some (.int .i64 yn) ∧
        w'.cell? ⟨sb, xn, none⟩ = some sv ∧ (Instr.lookup 64 (.map (some mb)) (.int .i64 xn) false).run Try.prog w' = .ok lv w') W2 := fun W2 kk => ⟨kk.cell c0 (by simp), kk.cell c1 (by simp), kk.cell a0 (by simp), kk.cell a1 (by simp), kk.cell hcell (by simp), HlkA.out W2 kk⟩
      have HSA := Lib.hid hSA
      clear hSA hSS
      refine wpAnyT_one (i := 27) rfl (by kernel_rfl) rfl (fun K hK => ?_)
      go_simp
      refine hK _ _ (.inr (HSA.out _ ((Kept.refl _ W1).drew.alloc _))) ?_
      clear hK K
      refine wpAnyT_one (i := 28) rfl (by kernel_rfl) rfl (fun K hK => ?_)
      go_simp
      refine Calls.mono (concat2 _ _ (.slice a2 yn cc2) (.slice a3 (old.length - yn) cc3) (bl.take yn) (old.drop yn) _ (row_new _ _ _).drew (Hb2.out.kept0 ((Kept.refl _ W1).drew.alloc _)) (Hb3.out.kept0 ((Kept.refl _ W1).drew.alloc _)) (by have q1 := HbL.out; have q2 := HoL.out; simp only [List.length_take, List.length_drop, lim]; omega)) ?_
      rintro e w2 ⟨v', rfl, hn, hk2⟩
      have kk2 : Kept [] W1 w2 := ((Kept.refl _ W1).drew.alloc _).then hk2
      obtain ⟨a4, n4, cc4, rfl⟩ : ∃ a n c, v' = .slice a n c := by
        obtain ⟨a, c, e, -, -⟩ := hn.1.form
        exact ⟨a, _, c, e⟩
      have hc2 := kk2.cell hcell (by simp)
      have hf2 : w2.frozen? ⟨sb, xn, none⟩ = false := (row_kept HownW.out kk2 (by simp)).frozenAt xn
      have hSS := HSA.out w2 kk2
      have Hn := Lib.hid hn
      clear hn hr2 hr3
      refine hK _ _ (.inr hSS) ?_
      clear hK K
      try simp only [Act.put, List.setIfInBounds_toArray, List.set_cons_zero, List.set_cons_succ]
      refine wpAnyT_take (i := 29) (v := ?_) rfl (by kernel_rfl) (by kernel_rfl) (by kernel_rfl) (by kernel_rfl) (fun _ _ _ h => h) (Or.inl ⟨by rfl, fun w hSw => ?_⟩) hSS ?_
      rotate_left
      · obtain ⟨s0, s1, s2, s3, s4, s5⟩ := hSw; go_simp; try with_reducible rfl
      try simp only [Act.put, List.setIfInBounds_toArray, List.set_cons_zero, List.set_cons_succ]
      refine wpAnyT_one (i := 30) rfl (by kernel_rfl) rfl (fun K hK => ?_)
      go_simp
      refine hK _ _ (.inl rfl) ?_
      clear hK K hSS
      refine wpAnyT_done (by kernel_rfl) ?_ _
      go_wp2
      go_roundw
      case rel =>
        have ks : Kept [sb] w2 (w2.setCell ⟨sb, xn, none⟩ (.slice a4 n4 cc4)) := (Kept.refl [sb] w2).setCell (by simp) _
        have how2 := row_kept HownW.out kk2 (by simp)
        have hkS : ∀ j, j ∈ [sb] → kind w2 j ≠ 5 + 2 := by intro j hj; simp at hj; subst hj; rw [row_kind how2 rfl]; decide
        refine ⟨k + 1, svals'.set xn (.slice a4 n4 cc4), by go_num, by omega, (how2.stored xn _).1, ?_, (hkr.trans (hka.then kk2) (by simp)).trans' ks⟩
        rw [Hsucc.out, Hone.out]
        refine All2.set ?_ xn ?_
        · exact HdatW.out.mono fun p q _ (r : Data W1 p q) => (r.kept kk2 (by simp)).kept ks hkS
        · exact (Data.of_new Hn.out).kept ks hkS
      case measure => simp [intOf]; omega
    · obtain rfl : k = l.length := by omega
      have hh := hkr.heap Hd1.out.head (by simpa using Hd1.out.dist.1)
      have q1 := cell_head (o := 1) hh rfl
      have q2 := cell_head (o := 2) hh rfl
      have q4 := cell_head (o := 4) hh rfl
      have g1 := free_head (o := 1) hh
      have g2 := free_head (o := 2) hh
      have g4 := free_head (o := 4) hh
      have Hh := Lib.hid hh
      have Hown := Lib.hid hown
      have Hdat := Lib.hid hdat
      have hblt := lt_of_block hh
      clear hh hown hdat k0 k1
      go_wp2
      go_ret
      have k3 : Kept [b] wr (((wr.setCell ⟨b, 1, none⟩ (.map (some wr.heap.size))).setCell ⟨b, 2, none⟩ (.int .i64 (-1))).setCell ⟨b, 4, none⟩ (.bool false)) := (((Kept.refl [b] wr).setCell (by simp) _).setCell (by simp) _).setCell (by simp) _
      have hb3 : (((wr.setCell ⟨b, 1, none⟩ (.map (some wr.heap.size))).setCell ⟨b, 2, none⟩ (.int .i64 (-1))).setCell ⟨b, 4, none⟩ (.bool false)).heap[b]? = some (.cells #[.slice (some ⟨sb, 0, none⟩) d.sure.length scap, .map (some wr.heap.size), .int .i64 (-1), .int .i64 d.bytes, .bool false] 66 (0, 0)) := by
        rw [setCell_heap (setCell_heap (setCell_heap Hh.out _) _)]
        simp
      have hs3 : (((wr.setCell ⟨b, 1, none⟩ (.map (some wr.heap.size))).setCell ⟨b, 2, none⟩ (.int .i64 (-1))).setCell ⟨b, 4, none⟩ (.bool false)).heap.size = wr.heap.size := by simp
      revert k3 hb3 hs3
      generalize (((wr.setCell ⟨b, 1, none⟩ (.map (some wr.heap.size))).setCell ⟨b, 2, none⟩ (.int .i64 (-1))).setCell ⟨b, 4, none⟩ (.bool false)) = W3
      intro k3 hb3 hs3
      have kf : Kept [b] wr (W3.alloc (.map #[] 0)) := k3.alloc _
      have hmf := mapAt_made Try.prog W3 3
      rw [hs3] at hmf
      have hbk : ∀ j, j ∈ [b] → kind wr j ≠ 5 + 2 := by intro j hj; simp at hj; subst hj; rw [kind_cells Hh.out]; decide
      have hfin := Hd1.out.crashed l Hall.out (((Kept.refl [] W3).alloc (.map #[] 0)).heap hb3 (by simp)) (row_kept Hown.out kf (by intro g hg; simp [Value.ownBlock] at hg; subst hg; simpa using Hd1.out.dist.1.symm)) hmf
        (by have := Hdat.out; rw [List.take_length] at this; exact this.mono fun p q _ (r : Data wr p q) => r.kept kf hbk)
      refine ⟨[b, sb, wr.heap.size], rfl, ⟨sb, scap, wr.heap.size, 0, svals', _, rfl, hfin⟩, ?_, ?_⟩
      · exact ((hk1.mono (by simp)).trans' (hkr.mono (by simp))).trans' (kf.mono (by simp))
      · intro j hj
        simp at hj
        have e1 := hk1.size
        have e2 := hkr.size
        rcases hj with rfl | rfl | rfl
        · left; simp
        · left; simp
        · right; omega
end Go.Proofs.Ytfkdoinlbdcaaaa

/- The document's disk: Crash. -/
import Derived.Test.YtfkdoinlbdcaaaaRefG
namespace Go.Proofs.Ytfkdoinlbdcaaaa
open Go.RowKit

namespace PDisk
def crashTo (d : PDisk) (l : List (Int × Int)) (k : Nat) : PDisk := { d with sure := d.crashSure (l.take k) }
theorem crashTo_len (d : PDisk) (l : List (Int × Int)) (k : Nat) : (d.crashTo l k).sure.length = d.sure.length := by simp [crashTo, crashSure_len]
theorem crashTo_zero (d : PDisk) (l : List (Int × Int)) : d.crashTo l 0 = d := by simp [crashTo, crashSure]
def unlo (d : PDisk) (k : Nat) : PDisk := { d with loose := fun x => if 0 ≤ x ∧ x < k then none else d.loose x }
theorem unlo_zero (d : PDisk) : d.unlo 0 = d := by
  refine eq_of rfl ?_ rfl rfl rfl
  funext x
  simp only [unlo]
  rw [if_neg (by omega)]
theorem unlo_succ (d : PDisk) (k : Nat) : d.unlo (k + 1) = (d.unlo k).clr k := by
  refine eq_of rfl ?_ rfl rfl rfl
  funext x
  simp only [unlo, clr]
  by_cases e : x = k
  · subst e
    rw [if_pos (by omega), if_pos rfl]
  · rw [if_neg e]
    by_cases e' : 0 ≤ x ∧ x < k
    · rw [if_pos (by omega), if_pos e']
    · rw [if_neg (by omega), if_neg e']
theorem unlo_all {d : PDisk} (h : d.Ok) (x : Int) : (d.unlo d.sure.length).loose x = none := by
  simp only [unlo]
  by_cases e : 0 ≤ x ∧ x < d.sure.length
  · rw [if_pos e]
  · rw [if_neg e]
    cases hl : d.loose x with
    | none => rfl
    | some l => exact absurd (h.dom x (by rw [hl]; simp)) e
end PDisk

set_option maxRecDepth 10000 in
set_option maxHeartbeats 3200000 in
theorem refCrash_any {w : World} {b : Nat} {F : List Nat} {d : PDisk} (h : RefRep w b F d) (l : List (Int × Int)) {v : Value} (hv : Slc w 2 v l.length (keptCells l)) (hl : l.length ≤ lim) (hF : ∀ g, vblk v = some g → g ∉ F) :
    Calls Try.prog 41 #[.pointer (some ⟨b, 0, none⟩), v] w fun e w' => e = .returned (.int .i64 (d.crash l).1) ∧ RefRep w' b F (d.crash l).2 ∧ Kept F w w' := by
  have hkp := refKeeps_any h l hv hl
  have H0 := Lib.hid h
  obtain ⟨sb, nb, lb, scap, ncap, lcap, svals, nvals, lvals, rfl, h⟩ := h
  obtain ⟨va, vc, rfl, hvc, hvm⟩ := hv.form
  have hl2 : (l.length : Int) ≤ 140737488351232 := by simp only [lim] at hl; omega
  have H := Lib.hid h
  have Hv := Lib.hid hv
  have HF := Lib.hid hF
  unfold PDisk.crash
  clear hv hl hvc hvm hF
  cases hk : d.keeps l
  · rw [hk] at hkp
    rw [if_pos rfl]
    have HP := Lib.hid hkp
    clear hkp hk h
    go_enter Try.func41, Try.ntmps41
    go_wp2_with (go_at_call 65; refine HP.out.mono ?_; rintro e w' ⟨rfl, hk0⟩)
    go_ret
    exact ⟨rfl, H0.out.kept0 hk0, hk0.mono (by simp)⟩
  · rw [hk] at hkp
    rw [if_neg (by simp)]
    have HT := Lib.hid ((keeps_iff d l).1 hk)
    have HP := Lib.hid hkp
    have hdist := Lib.hid h.dist
    have hn := h.ok.le
    clear hkp hk h
    go_enter Try.func41, Try.ntmps41
    go_wp2_with (go_at_call 65; refine HP.out.mono ?_; rintro e w1 ⟨rfl, hk1⟩; have HK1 := Lib.hid hk1; clear hk1)
    go_loopw [5] (fun i wr => ∃ (k : Nat) (sv : List Value), i = .int .i64 k ∧ k ≤ l.length ∧ RefAt wr b sb nb lb scap ncap lcap sv nvals lvals (d.crashTo l k) ∧ Kept [sb] w wr) (fun i _ => l.length - (intOf i).toNat)
    case atStart => exact ⟨0, _, rfl, Nat.zero_le _, by rw [PDisk.crashTo_zero]; exact H.out.kept HK1.out (by simp) (by simp) (by simp) (by simp) (by simp), HK1.out.mono (by simp)⟩
    case round =>
      obtain ⟨k, sv, rfl, hk, hR, hkr⟩ := hrel
      by_cases hlt : k < l.length
      · have hltI : (k : Int) < l.length := by omega
        have hvr : Slc _ 2 (.slice va l.length vc) l.length (keptCells l) := Hv.out.kept hkr (by intro g hg hx; simp at hx; subst hx; exact HF.out _ hg (by simp))
        obtain ⟨g, o, rfl, q0, q1⟩ := kepts_at hvr (Kept.refl [] _) k hlt
        have hstep := PDisk.crashSure_succ d l k hlt
        obtain ⟨⟨g0, g1, g2⟩, -⟩ := HT.out k hlt hlt
        revert q0 q1 hstep g0 g1 g2
        generalize l[k] = pr
        obtain ⟨x, y⟩ := pr
        intro q0 q1 hstep g0 g1 g2
        simp only at q0 q1 g0 g1 g2
        obtain ⟨lx, hlx⟩ := Option.ne_none_iff_exists'.1 g0
        obtain ⟨x0, x1⟩ := H.out.ok.dom x g0
        obtain ⟨xn, rfl⟩ := Int.eq_ofNat_of_zero_le x0
        obtain ⟨yn, rfl⟩ := Int.eq_ofNat_of_zero_le g1
        have hxn : xn < d.sure.length := by omega
        have hxt : xn < (d.crashTo l k).sure.length := by rw [PDisk.crashTo_len]; exact hxn
        have hyn : yn ≤ 64 := by omega
        obtain ⟨nval, hnv, hdv⟩ := hR.new xn hxt lx hlx
        have hlx64 : lx.length = 64 := H.out.ok.l64 _ _ hlx
        have hsl : xn < sv.length := by have := hR.rows.1; rw [PDisk.crashTo_len] at this; omega
        have hds := hR.sure.2 xn _ _ (List.getElem?_eq_getElem hsl) (List.getElem?_eq_getElem hxt)
        have hs64 : ((d.crashTo l k).sure[xn]).length = 64 := hR.ok.s64 _ (List.getElem_mem _)
        have hnext : d.crashTo l (k + 1) = (d.crashTo l k).setSure xn (lx.take yn ++ ((d.crashTo l k).sure[xn]).drop yn) := by
          refine PDisk.eq_of ?_ rfl rfl rfl rfl
          show d.crashSure (l.take (k + 1)) = _
          rw [hstep]
          show (d.crashSure (l.take k)).set xn _ = (d.crashSure (l.take k)).set xn _
          rw [hlx]
          have hxt' : xn < (d.crashSure (l.take k)).length := hxt
          simp [List.getD_eq_getElem?_getD, hxt', PDisk.crashTo]
        have qn := hR.rown.cellAt xn (by omega)
        rw [hnv] at qn
        have qs := hR.rows.cellAt xn (by omega)
        rw [List.getElem?_eq_getElem hsl] at qs
        have fs := hR.rows.frozenAt xn
        have c0 := hR.c0
        have c1 := hR.c1
        rw [PDisk.crashTo_len] at c0 c1
        have hxI : (xn : Int) < d.sure.length := by omega
        have HR := Lib.hid hR
        have HKR := Lib.hid hkr
        have HNX := Lib.hid hnext
        revert hds qs hdv qn
        have HS64 := Lib.hid hs64
        have HL64 := Lib.hid hlx64
        clear hR hkr hnext hstep hs64 hlx64 hvr g0 g1 g2 x0 x1 hlx
        revert HNX HS64
        generalize (d.crashTo l k).sure[xn] = ls
        generalize sv[xn] = sval
        intro HNX HS64 hdv hds qn qs
        obtain ⟨na, nc, rfl, -, -⟩ := hdv.1.form
        obtain ⟨sa, sc, rfl, -, -⟩ := hds.1.form
        have HDS := Lib.hid hds
        have HDV := Lib.hid hdv
        clear hds hdv hnv
        go_wp2_with fail
        have HV2 := Lib.hid (HDV.out.1.kept0 (Kept.refl [] wr).drew)
        have HS2 := Lib.hid (HDS.out.1.kept0 (Kept.refl [] wr).drew)
        have hSS : (fun w' : World => Kept [] wr w') wr.drew := (Kept.refl [] wr).drew
        refine wp_region_last' (n := 27) (fun w' : World => Kept [] wr w') 26 (by kernel_rfl) (by kernel_rfl) ?_
        change wpAnyT _ _ _ _ _ _ _ _ _ wr.drew
        refine wpAnyT_start ?_
        intro O R hO hR
        have hQp : ∀ c a (d : Nat) v w, R (.panic c) (a.put (some d) v) w → R (.panic c) a w := by subst hR; exact fun _ _ _ _ _ h => h
        refine wpAnyT_take' (i := 0) (v := ?_) hO rfl rfl (by kernel_rfl) (by kernel_rfl) (by kernel_rfl) (by kernel_rfl) hQp (Or.inl ⟨by kernel_rfl, fun w hSw => ?_⟩) hSS ?_
        rotate_left
        · have s0 := Kept.cell hSw c0 (by simp); have s1 := Kept.cell hSw c1 (by simp); have s2 := Kept.cell hSw qn (by simp); have s3 := Kept.cell hSw qs (by simp); have s4 := Kept.cell hSw q1 (by simp); go_simp; try with_reducible rfl
        try simp only [Act.put, List.setIfInBounds_toArray, List.set_cons_zero, List.set_cons_succ]
        refine wpAnyT_take' (i := 1) (v := ?_) hO rfl rfl (by kernel_rfl) (by kernel_rfl) (by kernel_rfl) (by kernel_rfl) hQp (Or.inl ⟨by kernel_rfl, fun w hSw => ?_⟩) hSS ?_
        rotate_left
        · have s0 := Kept.cell hSw c0 (by simp); have s1 := Kept.cell hSw c1 (by simp); have s2 := Kept.cell hSw qn (by simp); have s3 := Kept.cell hSw qs (by simp); have s4 := Kept.cell hSw q1 (by simp); go_simp; try with_reducible rfl
        try simp only [Act.put, List.setIfInBounds_toArray, List.set_cons_zero, List.set_cons_succ]
        refine wpAnyT_take' (i := 2) (v := ?_) hO rfl rfl (by kernel_rfl) (by kernel_rfl) (by kernel_rfl) (by kernel_rfl) hQp (Or.inl ⟨by kernel_rfl, fun w hSw => ?_⟩) hSS ?_
        rotate_left
        · have s0 := Kept.cell hSw c0 (by simp); have s1 := Kept.cell hSw c1 (by simp); have s2 := Kept.cell hSw qn (by simp); have s3 := Kept.cell hSw qs (by simp); have s4 := Kept.cell hSw q1 (by simp); go_simp; try with_reducible rfl
        try simp only [Act.put, List.setIfInBounds_toArray, List.set_cons_zero, List.set_cons_succ]
        refine wpAnyT_take' (i := 3) (v := ?_) hO rfl rfl (by kernel_rfl) (by kernel_rfl) (by kernel_rfl) (by kernel_rfl) hQp (Or.inl ⟨by kernel_rfl, fun w hSw => ?_⟩) hSS ?_
        rotate_left
        · have s0 := Kept.cell hSw c0 (by simp); have s1 := Kept.cell hSw c1 (by simp); have s2 := Kept.cell hSw qn (by simp); have s3 := Kept.cell hSw qs (by simp); have s4 := Kept.cell hSw q1 (by simp); go_simp; try with_reducible rfl
        try simp only [Act.put, List.setIfInBounds_toArray, List.set_cons_zero, List.set_cons_succ]
        refine wpAnyT_take' (i := 4) (v := ?_) hO rfl rfl (by kernel_rfl) (by kernel_rfl) (by kernel_rfl) (by kernel_rfl) hQp (Or.inl ⟨by kernel_rfl, fun w hSw => ?_⟩) hSS ?_
        rotate_left
        · have s0 := Kept.cell hSw c0 (by simp); have s1 := Kept.cell hSw c1 (by simp); have s2 := Kept.cell hSw qn (by simp); have s3 := Kept.cell hSw qs (by simp); have s4 := Kept.cell hSw q1 (by simp); go_simp; try with_reducible rfl
        try simp only [Act.put, List.setIfInBounds_toArray, List.set_cons_zero, List.set_cons_succ]
        refine wpAnyT_take' (i := 5) (v := ?_) hO rfl rfl (by kernel_rfl) (by kernel_rfl) (by kernel_rfl) (by kernel_rfl) hQp (Or.inl ⟨by kernel_rfl, fun w hSw => ?_⟩) hSS ?_
        rotate_left
        · have s0 := Kept.cell hSw c0 (by simp); have s1 := Kept.cell hSw c1 (by simp); have s2 := Kept.cell hSw qn (by simp); have s3 := Kept.cell hSw qs (by simp); have s4 := Kept.cell hSw q1 (by simp); go_simp; try with_reducible rfl
        try simp only [Act.put, List.setIfInBounds_toArray, List.set_cons_zero, List.set_cons_succ]
        refine wpAnyT_take' (i := 6) (v := ?_) hO rfl rfl (by kernel_rfl) (by kernel_rfl) (by kernel_rfl) (by kernel_rfl) hQp (Or.inl ⟨by kernel_rfl, fun w hSw => ?_⟩) hSS ?_
        rotate_left
        · have s0 := Kept.cell hSw c0 (by simp); have s1 := Kept.cell hSw c1 (by simp); have s2 := Kept.cell hSw qn (by simp); have s3 := Kept.cell hSw qs (by simp); have s4 := Kept.cell hSw q1 (by simp); go_simp; try with_reducible rfl
        try simp only [Act.put, List.setIfInBounds_toArray, List.set_cons_zero, List.set_cons_succ]
        refine wpAnyT_take' (i := 7) (v := ?_) hO rfl rfl (by kernel_rfl) (by kernel_rfl) (by kernel_rfl) (by kernel_rfl) hQp (Or.inl ⟨by kernel_rfl, fun w hSw => ?_⟩) hSS ?_
        rotate_left
        · have s0 := Kept.cell hSw c0 (by simp); have s1 := Kept.cell hSw c1 (by simp); have s2 := Kept.cell hSw qn (by simp); have s3 := Kept.cell hSw qs (by simp); have s4 := Kept.cell hSw q1 (by simp); go_simp; try with_reducible rfl
        try simp only [Act.put, List.setIfInBounds_toArray, List.set_cons_zero, List.set_cons_succ]
        refine wpAnyT_take' (i := 8) (v := ?_) hO rfl rfl (by kernel_rfl) (by kernel_rfl) (by kernel_rfl) (by kernel_rfl) hQp (Or.inl ⟨by kernel_rfl, fun w hSw => ?_⟩) hSS ?_
        rotate_left
        · have s0 := Kept.cell hSw c0 (by simp); have s1 := Kept.cell hSw c1 (by simp); have s2 := Kept.cell hSw qn (by simp); have s3 := Kept.cell hSw qs (by simp); have s4 := Kept.cell hSw q1 (by simp); go_simp; try with_reducible rfl
        try simp only [Act.put, List.setIfInBounds_toArray, List.set_cons_zero, List.set_cons_succ]
        refine wpAnyT_take' (i := 9) (v := ?_) hO rfl rfl (by kernel_rfl) (by kernel_rfl) (by kernel_rfl) (by kernel_rfl) hQp (Or.inl ⟨by kernel_rfl, fun w hSw => ?_⟩) hSS ?_
        rotate_left
        · have s0 := Kept.cell hSw c0 (by simp); have s1 := Kept.cell hSw c1 (by simp); have s2 := Kept.cell hSw qn (by simp); have s3 := Kept.cell hSw qs (by simp); have s4 := Kept.cell hSw q1 (by simp); go_simp; try with_reducible rfl
        try simp only [Act.put, List.setIfInBounds_toArray, List.set_cons_zero, List.set_cons_succ]
        refine wpAnyT_take' (i := 10) (v := ?_) hO rfl rfl (by kernel_rfl) (by kernel_rfl) (by kernel_rfl) (by kernel_rfl) hQp (Or.inl ⟨by kernel_rfl, fun w hSw => ?_⟩) hSS ?_
        rotate_left
        · have s0 := Kept.cell hSw c0 (by simp); have s1 := Kept.cell hSw c1 (by simp); have s2 := Kept.cell hSw qn (by simp); have s3 := Kept.cell hSw qs (by simp); have s4 := Kept.cell hSw q1 (by simp); go_simp; try with_reducible rfl
        try simp only [Act.put, List.setIfInBounds_toArray, List.set_cons_zero, List.set_cons_succ]
        refine wpAnyT_take' (i := 11) (v := ?_) hO rfl rfl (by kernel_rfl) (by kernel_rfl) (by kernel_rfl) (by kernel_rfl) hQp (Or.inl ⟨by kernel_rfl, fun w hSw => ?_⟩) hSS ?_
        rotate_left
        · have s0 := Kept.cell hSw c0 (by simp); have s1 := Kept.cell hSw c1 (by simp); have s2 := Kept.cell hSw qn (by simp); have s3 := Kept.cell hSw qs (by simp); have s4 := Kept.cell hSw q1 (by simp); go_simp; try with_reducible rfl
        try simp only [Act.put, List.setIfInBounds_toArray, List.set_cons_zero, List.set_cons_succ]
        refine wpAnyT_take' (i := 12) (v := ?_) hO rfl rfl (by kernel_rfl) (by kernel_rfl) (by kernel_rfl) (by kernel_rfl) hQp (Or.inl ⟨by kernel_rfl, fun w hSw => ?_⟩) hSS ?_
        rotate_left
        · have s0 := Kept.cell hSw c0 (by simp); have s1 := Kept.cell hSw c1 (by simp); have s2 := Kept.cell hSw qn (by simp); have s3 := Kept.cell hSw qs (by simp); have s4 := Kept.cell hSw q1 (by simp); go_simp; try with_reducible rfl
        try simp only [Act.put, List.setIfInBounds_toArray, List.set_cons_zero, List.set_cons_succ]
        refine wpAnyT_take' (i := 13) (v := ?_) hO rfl rfl (by kernel_rfl) (by kernel_rfl) (by kernel_rfl) (by kernel_rfl) hQp (Or.inl ⟨by kernel_rfl, fun w hSw => ?_⟩) hSS ?_
        rotate_left
        · have s0 := Kept.cell hSw c0 (by simp); have s1 := Kept.cell hSw c1 (by simp); have s2 := Kept.cell hSw qn (by simp); have s3 := Kept.cell hSw qs (by simp); have s4 := Kept.cell hSw q1 (by simp); go_simp; try with_reducible rfl
        try simp only [Act.put, List.setIfInBounds_toArray, List.set_cons_zero, List.set_cons_succ]
        refine wpAnyT_take' (i := 14) (v := ?_) hO rfl rfl (by kernel_rfl) (by kernel_rfl) (by kernel_rfl) (by kernel_rfl) hQp (Or.inl ⟨by kernel_rfl, fun w hSw => ?_⟩) hSS ?_
        rotate_left
        · have s0 := Kept.cell hSw c0 (by simp); have s1 := Kept.cell hSw c1 (by simp); have s2 := Kept.cell hSw qn (by simp); have s3 := Kept.cell hSw qs (by simp); have s4 := Kept.cell hSw q1 (by simp); go_simp; try with_reducible rfl
        try simp only [Act.put, List.setIfInBounds_toArray, List.set_cons_zero, List.set_cons_succ]
        refine wpAnyT_take' (i := 15) (v := ?_) hO rfl rfl (by kernel_rfl) (by kernel_rfl) (by kernel_rfl) (by kernel_rfl) hQp (Or.inl ⟨by kernel_rfl, fun w hSw => ?_⟩) hSS ?_
        rotate_left
        · have s0 := Kept.cell hSw c0 (by simp); have s1 := Kept.cell hSw c1 (by simp); have s2 := Kept.cell hSw qn (by simp); have s3 := Kept.cell hSw qs (by simp); have s4 := Kept.cell hSw q1 (by simp); go_simp; try with_reducible rfl
        try simp only [Act.put, List.setIfInBounds_toArray, List.set_cons_zero, List.set_cons_succ]
        refine wpAnyT_take' (i := 16) (v := ?_) hO rfl rfl (by kernel_rfl) (by kernel_rfl) (by kernel_rfl) (by kernel_rfl) hQp (Or.inl ⟨by kernel_rfl, fun w hSw => ?_⟩) hSS ?_
        rotate_left
        · have s0 := Kept.cell hSw c0 (by simp); have s1 := Kept.cell hSw c1 (by simp); have s2 := Kept.cell hSw qn (by simp); have s3 := Kept.cell hSw qs (by simp); have s4 := Kept.cell hSw q1 (by simp); go_simp; try with_reducible rfl
        try simp only [Act.put, List.setIfInBounds_toArray, List.set_cons_zero, List.set_cons_succ]
        refine wpAnyT_take' (i := 17) (v := ?_) hO rfl rfl (by kernel_rfl) (by kernel_rfl) (by kernel_rfl) (by kernel_rfl) hQp (Or.inl ⟨by kernel_rfl, fun w hSw => ?_⟩) hSS ?_
        rotate_left
        · have s0 := Kept.cell hSw c0 (by simp); have s1 := Kept.cell hSw c1 (by simp); have s2 := Kept.cell hSw qn (by simp); have s3 := Kept.cell hSw qs (by simp); have s4 := Kept.cell hSw q1 (by simp); go_simp; try with_reducible rfl
        try simp only [Act.put, List.setIfInBounds_toArray, List.set_cons_zero, List.set_cons_succ]
        refine wpAnyT_take' (i := 18) (v := ?_) hO rfl rfl (by kernel_rfl) (by kernel_rfl) (by kernel_rfl) (by kernel_rfl) hQp (Or.inl ⟨by kernel_rfl, fun w hSw => ?_⟩) hSS ?_
        rotate_left
        · have s0 := Kept.cell hSw c0 (by simp); have s1 := Kept.cell hSw c1 (by simp); have s2 := Kept.cell hSw qn (by simp); have s3 := Kept.cell hSw qs (by simp); have s4 := Kept.cell hSw q1 (by simp); go_simp; try with_reducible rfl
        try simp only [Act.put, List.setIfInBounds_toArray, List.set_cons_zero, List.set_cons_succ]
        refine wpAnyT_take' (i := 19) (v := ?_) hO rfl rfl (by kernel_rfl) (by kernel_rfl) (by kernel_rfl) (by kernel_rfl) hQp (Or.inl ⟨by kernel_rfl, fun w hSw => ?_⟩) hSS ?_
        rotate_left
        · have s0 := Kept.cell hSw c0 (by simp); have s1 := Kept.cell hSw c1 (by simp); have s2 := Kept.cell hSw qn (by simp); have s3 := Kept.cell hSw qs (by simp); have s4 := Kept.cell hSw q1 (by simp); go_simp; try with_reducible rfl
        try simp only [Act.put, List.setIfInBounds_toArray, List.set_cons_zero, List.set_cons_succ]
        refine wpAnyT_take' (i := 20) (v := ?_) hO rfl rfl (by kernel_rfl) (by kernel_rfl) (by kernel_rfl) (by kernel_rfl) hQp (Or.inl ⟨by kernel_rfl, fun w hSw => ?_⟩) hSS ?_
        rotate_left
        · have s0 := Kept.cell hSw c0 (by simp); have s1 := Kept.cell hSw c1 (by simp); have s2 := Kept.cell hSw qn (by simp); have s3 := Kept.cell hSw qs (by simp); have s4 := Kept.cell hSw q1 (by simp); go_simp; try with_reducible rfl
        try simp only [Act.put, List.setIfInBounds_toArray, List.set_cons_zero, List.set_cons_succ]
        refine wpAnyT_take' (i := 21) (v := ?_) hO rfl rfl (by kernel_rfl) (by kernel_rfl) (by kernel_rfl) (by kernel_rfl) hQp (Or.inl ⟨by kernel_rfl, fun w hSw => ?_⟩) hSS ?_
        rotate_left
        · have s0 := Kept.cell hSw c0 (by simp); have s1 := Kept.cell hSw c1 (by simp); have s2 := Kept.cell hSw qn (by simp); have s3 := Kept.cell hSw qs (by simp); have s4 := Kept.cell hSw q1 (by simp); go_simp; try with_reducible rfl
        try simp only [Act.put, List.setIfInBounds_toArray, List.set_cons_zero, List.set_cons_succ]
        refine wpAnyT_take' (i := 22) (v := ?_) hO rfl rfl (by kernel_rfl) (by kernel_rfl) (by kernel_rfl) (by kernel_rfl) hQp (Or.inl ⟨by kernel_rfl, fun w hSw => ?_⟩) hSS ?_
        rotate_left
        · have s0 := Kept.cell hSw c0 (by simp); have s1 := Kept.cell hSw c1 (by simp); have s2 := Kept.cell hSw qn (by simp); have s3 := Kept.cell hSw qs (by simp); have s4 := Kept.cell hSw q1 (by simp); go_simp; try with_reducible rfl
        try simp only [Act.put, List.setIfInBounds_toArray, List.set_cons_zero, List.set_cons_succ]
        refine wpAnyT_take' (i := 23) (v := ?_) hO rfl rfl (by kernel_rfl) (by kernel_rfl) (by kernel_rfl) (by kernel_rfl) hQp (Or.inl ⟨by kernel_rfl, fun w hSw => ?_⟩) hSS ?_
        rotate_left
        · have s0 := Kept.cell hSw c0 (by simp); have s1 := Kept.cell hSw c1 (by simp); have s2 := Kept.cell hSw qn (by simp); have s3 := Kept.cell hSw qs (by simp); have s4 := Kept.cell hSw q1 (by simp); go_simp; try with_reducible rfl
        try simp only [Act.put, List.setIfInBounds_toArray, List.set_cons_zero, List.set_cons_succ]
        refine wpAnyT_one' (i := 24) hO rfl (by kernel_rfl) (by kernel_rfl) (fun K hK => ?_)
        go_simp
        refine Calls.mono (join_any _ _ _ _ yn _ HV2.out HS2.out (by rw [HL64.out]; exact hyn) (by rw [HS64.out]; exact hyn) (by rw [HL64.out, HS64.out]; omega)) ?_
        rintro e w2 ⟨v2, rfl, hv2, hk2⟩
        have hlen : (lx.take yn ++ ls.drop yn).length = 64 := by rw [List.length_append, List.length_take, List.length_drop, HL64.out, HS64.out]; omega
        obtain ⟨a2, d2, rfl, -, -⟩ := hv2.1.form
        rw [hlen] at hv2 ⊢
        have k12 : Kept [] wr w2 := (Kept.refl [] wr).drew.trans' hk2
        have hR2 := HR.out.kept k12 (by simp) (by simp) (by simp) (by simp) (by simp)
        have qs2 := k12.cell qs (by simp)
        have fs2 := hR2.rows.frozenAt xn
        have HR3 := Lib.hid (hR2.setSure xn (Data.of_new hv2) hlen)
        rw [← HNX.out] at HR3
        have HK3 := Lib.hid ((HKR.out.then k12).setCell (p := ⟨sb, xn, none⟩) (.inl (by simp)) (.slice a2 64 d2))
        clear hSS
        have hSS : (fun w' : World => Kept [] wr w') w2 := k12
        clear hR2 hv2 hk2 k12 hlen
        refine hK _ _ (.inr hSS) ?_
        clear hK K
        try simp only [Act.put, List.setIfInBounds_toArray, List.set_cons_zero, List.set_cons_succ]
        refine wpAnyT_take' (i := 25) (v := ?_) hO rfl rfl (by kernel_rfl) (by kernel_rfl) (by kernel_rfl) (by kernel_rfl) hQp (Or.inl ⟨by kernel_rfl, fun w hSw => ?_⟩) hSS ?_
        rotate_left
        · have s0 := Kept.cell hSw c0 (by simp); go_simp; try with_reducible rfl
        try simp only [Act.put, List.setIfInBounds_toArray, List.set_cons_zero, List.set_cons_succ]
        refine wpAnyT_one' (i := 26) hO rfl (by kernel_rfl) (by kernel_rfl) (fun K hK => ?_)
        go_simp
        refine hK _ _ (.inl rfl) ?_
        clear hK K
        try simp only [Act.put, List.setIfInBounds_toArray, List.set_cons_zero, List.set_cons_succ]
        refine wpAnyT_done' hO (by kernel_rfl) ?_ _
        subst hR
        try clear hQp hO O
        go_wp2_with fail
        go_roundw
        case rel => exact ⟨k + 1, _, by go_num, by omega, HR3.out, HK3.out⟩
        case measure => simp [intOf]; omega
      · obtain rfl : k = l.length := by omega
        have HR1 := Lib.hid hR
        have HK1' := Lib.hid hkr
        clear hR hkr HK1
        have hlc : (d.crashTo l l.length).sure.length = d.sure.length := PDisk.crashTo_len _ _ _
        go_wp2_with fail
        revert HR1 HK1'
        clear HT
        generalize hdc : d.crashTo l l.length = dc
        intro HR1 HK1'
        go_loopw [7] (fun i wc => ∃ (k : Nat) (nv lv : List Value), i = .int .i64 k ∧ k ≤ d.sure.length ∧ RefAt wc b sb nb lb scap ncap lcap sv nv lv (dc.unlo k) ∧ Kept [b, sb, nb, lb] w wc) (fun i _ => d.sure.length - (intOf i).toNat)
        case atStart => exact ⟨0, _, _, rfl, Nat.zero_le _, by rw [PDisk.unlo_zero]; exact HR1.out, HK1'.out.mono (by simp)⟩
        case round =>
          obtain ⟨k, nv, lv, rfl, hk, hR, hkr⟩ := hrel
          rw [hdc] at hlc
          have eL : (dc.unlo k).sure.length = d.sure.length := hlc
          have c0 := hR.c0
          rw [eL] at c0
          by_cases hlt2 : k < d.sure.length
          · have hkI : (k : Int) < d.sure.length := by omega
            have c1 := hR.c1
            have c2 := hR.c2
            rw [eL] at c1 c2
            have hkn : k < nv.length := by have := hR.rown.1; rw [eL] at this; omega
            have hkl : k < lv.length := by have := hR.rowl.1; rw [eL] at this; omega
            have q1 := hR.rown.cellAt k (by rw [eL]; omega)
            rw [List.getElem?_eq_getElem hkn] at q1
            have f1 := hR.rown.frozenAt k
            have HR := Lib.hid (hR.kept (Kept.refl [] wr).drew (by simp) (by simp) (by simp) (by simp) (by simp))
            have HK := Lib.hid (hkr.then (Kept.refl [] wr).drew)
            clear hR hkr hdc HR1 HK1'
            go_wp2_with fail
            have hSS : (fun w' : World => w'.cell? ⟨b, 1, none⟩ = some (.slice (some ⟨nb, 0, none⟩) d.sure.length ncap) ∧ w'.cell? ⟨b, 2, none⟩ = some (.slice (some ⟨lb, 0, none⟩) d.sure.length lcap)) wr.drew := ⟨c1, c2⟩
            refine wp_region_last' (n := 14) (fun w' : World => w'.cell? ⟨b, 1, none⟩ = some (.slice (some ⟨nb, 0, none⟩) d.sure.length ncap) ∧ w'.cell? ⟨b, 2, none⟩ = some (.slice (some ⟨lb, 0, none⟩) d.sure.length lcap)) 13 (by kernel_rfl) (by kernel_rfl) ?_
            change wpAnyT _ _ _ _ _ _ _ _ _ wr.drew
            have q1' : wr.drew.cell? ⟨nb, k, none⟩ = some nv[k] := q1
            have f1' : wr.drew.frozen? ⟨nb, k, none⟩ = false := f1
            clear q1 f1 c0 c1 c2
            revert HR HK hSS q1' f1'
            generalize wr.drew = W1
            intro HR HK hSS q1 f1
            refine wpAnyT_start ?_
            intro O R hO hR
            have hQp : ∀ c a (d : Nat) v w, R (.panic c) (a.put (some d) v) w → R (.panic c) a w := by subst hR; exact fun _ _ _ _ _ h => h
            refine wpAnyT_take' (i := 0) (v := ?_) hO rfl rfl (by kernel_rfl) (by kernel_rfl) (by kernel_rfl) (by kernel_rfl) hQp (Or.inl ⟨by kernel_rfl, fun w hSw => ?_⟩) hSS ?_
            rotate_left
            · obtain ⟨s1, s2⟩ := hSw; go_simp; try with_reducible rfl
            try simp only [Act.put, List.setIfInBounds_toArray, List.set_cons_zero, List.set_cons_succ]
            refine wpAnyT_take' (i := 1) (v := ?_) hO rfl rfl (by kernel_rfl) (by kernel_rfl) (by kernel_rfl) (by kernel_rfl) hQp (Or.inl ⟨by kernel_rfl, fun w hSw => ?_⟩) hSS ?_
            rotate_left
            · obtain ⟨s1, s2⟩ := hSw; go_simp; try with_reducible rfl
            try simp only [Act.put, List.setIfInBounds_toArray, List.set_cons_zero, List.set_cons_succ]
            refine wpAnyT_take' (i := 2) (v := ?_) hO rfl rfl (by kernel_rfl) (by kernel_rfl) (by kernel_rfl) (by kernel_rfl) hQp (Or.inl ⟨by kernel_rfl, fun w hSw => ?_⟩) hSS ?_
            rotate_left
            · obtain ⟨s1, s2⟩ := hSw; go_simp; try with_reducible rfl
            try simp only [Act.put, List.setIfInBounds_toArray, List.set_cons_zero, List.set_cons_succ]
            refine wpAnyT_take' (i := 3) (v := ?_) hO rfl rfl (by kernel_rfl) (by kernel_rfl) (by kernel_rfl) (by kernel_rfl) hQp (Or.inl ⟨by kernel_rfl, fun w hSw => ?_⟩) hSS ?_
            rotate_left
            · obtain ⟨s1, s2⟩ := hSw; go_simp; try with_reducible rfl
            try simp only [Act.put, List.setIfInBounds_toArray, List.set_cons_zero, List.set_cons_succ]
            refine wpAnyT_take' (i := 4) (v := ?_) hO rfl rfl (by kernel_rfl) (by kernel_rfl) (by kernel_rfl) (by kernel_rfl) hQp (Or.inl ⟨by kernel_rfl, fun w hSw => ?_⟩) hSS ?_
            rotate_left
            · obtain ⟨s1, s2⟩ := hSw; go_simp; try with_reducible rfl
            try simp only [Act.put, List.setIfInBounds_toArray, List.set_cons_zero, List.set_cons_succ]
            refine wpAnyT_take' (i := 5) (v := ?_) hO rfl rfl (by kernel_rfl) (by kernel_rfl) (by kernel_rfl) (by kernel_rfl) hQp (Or.inl ⟨by kernel_rfl, fun w hSw => ?_⟩) hSS ?_
            rotate_left
            · obtain ⟨s1, s2⟩ := hSw; go_simp; try with_reducible rfl
            try simp only [Act.put, List.setIfInBounds_toArray, List.set_cons_zero, List.set_cons_succ]
            refine wpAnyT_take' (i := 6) (v := ?_) hO rfl rfl (by kernel_rfl) (by kernel_rfl) (by kernel_rfl) (by kernel_rfl) hQp (Or.inl ⟨by kernel_rfl, fun w hSw => ?_⟩) hSS ?_
            rotate_left
            · obtain ⟨s1, s2⟩ := hSw; go_simp; try with_reducible rfl
            try simp only [Act.put, List.setIfInBounds_toArray, List.set_cons_zero, List.set_cons_succ]
            refine wpAnyT_take' (i := 7) (v := ?_) hO rfl rfl (by kernel_rfl) (by kernel_rfl) (by kernel_rfl) (by kernel_rfl) hQp (Or.inl ⟨by kernel_rfl, fun w hSw => ?_⟩) hSS ?_
            rotate_left
            · obtain ⟨s1, s2⟩ := hSw; go_simp; try with_reducible rfl
            try simp only [Act.put, List.setIfInBounds_toArray, List.set_cons_zero, List.set_cons_succ]
            refine wpAnyT_take' (i := 8) (v := ?_) hO rfl rfl (by kernel_rfl) (by kernel_rfl) (by kernel_rfl) (by kernel_rfl) hQp (Or.inl ⟨by kernel_rfl, fun w hSw => ?_⟩) hSS ?_
            rotate_left
            · obtain ⟨s1, s2⟩ := hSw; go_simp; try with_reducible rfl
            try simp only [Act.put, List.setIfInBounds_toArray, List.set_cons_zero, List.set_cons_succ]
            refine wpAnyT_take' (i := 9) (v := ?_) hO rfl rfl (by kernel_rfl) (by kernel_rfl) (by kernel_rfl) (by kernel_rfl) hQp (Or.inl ⟨by kernel_rfl, fun w hSw => ?_⟩) hSS ?_
            rotate_left
            · obtain ⟨s1, s2⟩ := hSw; go_simp; try with_reducible rfl
            try simp only [Act.put, List.setIfInBounds_toArray, List.set_cons_zero, List.set_cons_succ]
            refine wpAnyT_take' (i := 10) (v := ?_) hO rfl rfl (by kernel_rfl) (by kernel_rfl) (by kernel_rfl) (by kernel_rfl) hQp (Or.inl ⟨by kernel_rfl, fun w hSw => ?_⟩) hSS ?_
            rotate_left
            · obtain ⟨s1, s2⟩ := hSw; go_simp; try with_reducible rfl
            try simp only [Act.put, List.setIfInBounds_toArray, List.set_cons_zero, List.set_cons_succ]
            have k12 : Kept [nb] W1 (W1.setCell ⟨nb, k, none⟩ (.slice none 0 0)) := (Kept.refl [nb] W1).setCell (.inl (by simp)) _
            have HR4 := HR.out.clr k
            rw [← PDisk.unlo_succ] at HR4
            have HK4 := Lib.hid ((HK.out.setCell (p := ⟨nb, k, none⟩) (.inl (by simp)) (.slice none 0 0)).setCell (p := ⟨lb, k, none⟩) (.inl (by simp)) (.bool false))
            have hrow := row_kept HR.out.rowl k12 (by intro g hg; simp [Value.ownBlock] at hg; subst hg; simpa using hdist.out.2.2.2.2.2.symm)
            have q2 := hrow.cellAt k (by rw [eL]; omega)
            rw [List.getElem?_eq_getElem hkl] at q2
            have f2 := hrow.frozenAt k
            have HR5 := Lib.hid HR4
            obtain ⟨s1, s2⟩ := hSS
            have hSS : (fun w' : World => w'.cell? ⟨b, 1, none⟩ = some (.slice (some ⟨nb, 0, none⟩) d.sure.length ncap) ∧ w'.cell? ⟨b, 2, none⟩ = some (.slice (some ⟨lb, 0, none⟩) d.sure.length lcap)) (W1.setCell ⟨nb, k, none⟩ (.slice none 0 0)) := ⟨k12.cell s1 (by simp [hdist.out.2.1]), k12.cell s2 (by simp [hdist.out.2.1])⟩
            clear s1 s2 k12 hrow HR4
            refine wpAnyT_one' (i := 11) hO rfl (by kernel_rfl) (by kernel_rfl) (fun K hK => ?_)
            go_simp
            refine hK _ _ (.inr hSS) ?_
            clear hK K
            try simp only [Act.put, List.setIfInBounds_toArray, List.set_cons_zero, List.set_cons_succ]
            clear q1 f1
            revert HK4 q2 f2 HR5 hSS
            generalize W1.setCell ⟨nb, k, none⟩ (.slice none 0 0) = W2
            intro HK4 q2 f2 HR5 hSS
            refine wpAnyT_take' (i := 12) (v := ?_) hO rfl rfl (by kernel_rfl) (by kernel_rfl) (by kernel_rfl) (by kernel_rfl) hQp (Or.inl ⟨by kernel_rfl, fun w hSw => ?_⟩) hSS ?_
            rotate_left
            · obtain ⟨s1, s2⟩ := hSw; go_simp; try with_reducible rfl
            try simp only [Act.put, List.setIfInBounds_toArray, List.set_cons_zero, List.set_cons_succ]
            refine wpAnyT_one' (i := 13) hO rfl (by kernel_rfl) (by kernel_rfl) (fun K hK => ?_)
            go_simp
            refine hK _ _ (.inl rfl) ?_
            clear hK K
            try simp only [Act.put, List.setIfInBounds_toArray, List.set_cons_zero, List.set_cons_succ]
            refine wpAnyT_done' hO (by kernel_rfl) ?_ _
            subst hR
            try clear hQp hO O
            go_wp2_with fail
            go_roundw
            case rel => exact ⟨k + 1, _, _, by go_num, by omega, HR5.out, HK4.out⟩
            case measure => simp [intOf]; omega
          · obtain rfl : k = d.sure.length := by omega
            have q3 := hR.c3
            have q5 := hR.c5
            have f3 := hR.free 3
            have f5 := hR.free 5
            have HR := Lib.hid hR
            have HK := Lib.hid hkr
            have HDC := Lib.hid hdc
            clear hR hkr hdc
            go_wp2_with fail
            go_ret
            have k : Kept [b] wr ((wr.setCell ⟨b, 3, none⟩ (.int .i64 (-1))).setCell ⟨b, 5, none⟩ (.bool false)) := ((Kept.refl [b] wr).setCell (by simp) _).setCell (by simp) _
            have hfin : ({ (dc.unlo d.sure.length) with left := -1, bytes := (dc.unlo d.sure.length).bytes, off := false } : PDisk) = { sure := d.crashSure l, loose := fun _ => none, left := -1, bytes := d.bytes, off := false } := by
              refine PDisk.eq_of ?_ ?_ rfl ?_ rfl
              · show dc.sure = _
                rw [← HDC.out]
                simp [PDisk.crashTo]
              · funext x
                have := PDisk.unlo_all HR1.out.ok x
                rw [hlc] at this
                exact this
              · show dc.bytes = d.bytes
                rw [← HDC.out]
                rfl
            have hend := HR.out.setLeft (left := -1) (bytes := (dc.unlo d.sure.length).bytes) (off := false) k (by rw [setCell_heap (setCell_heap HR.out.head _)]; simp) HR.out.ok.b0 HR.out.ok.b1 (by omega) (by omega)
            rw [hfin] at hend
            exact ⟨rfl, ⟨sb, nb, lb, scap, ncap, lcap, _, _, _, rfl, hend⟩, HK.out.trans' (k.mono (by simp))⟩
end Go.Proofs.Ytfkdoinlbdcaaaa

/- MirrorDoes: for every row of calls. -/
import Derived.Test.YtfkdoinlbdcaaaaDoorMDoB
namespace Go.Proofs.YtfkdoinlbdcaaaaDoor
open Go.RowKit

theorem cells_of {size : Nat} (hpos : 0 < size) {α : Type} (f : α → List Value) (hf : ∀ x, (f x).length = size) : ∀ (n : Nat) (xs : List Value), xs.length = n * size → (∀ i, i < n → ∃ y, (xs.drop (i * size)).take size = f y) →
    ∃ l : List α, l.length = n ∧ xs = l.flatMap f ∧ ∀ i (hi : i < l.length), (xs.drop (i * size)).take size = f l[i]
  | 0, xs, hl, _ => ⟨[], rfl, by simpa using hl, fun i hi => by simp at hi⟩
  | n + 1, xs, hl, h => by
    obtain ⟨y, hy⟩ := h 0 (by omega)
    rw [Nat.zero_mul, List.drop_zero] at hy
    have hl' : (xs.drop size).length = n * size := by rw [List.length_drop, hl, Nat.add_mul, Nat.one_mul]; omega
    obtain ⟨l, h1, h2, h3⟩ := cells_of hpos f hf n (xs.drop size) hl' (fun i hi => by
      obtain ⟨z, hz⟩ := h (i + 1) (by omega)
      rw [Nat.add_mul, Nat.one_mul, Nat.add_comm, ← List.drop_drop] at hz
      exact ⟨z, hz⟩)
    have e : xs = f y ++ l.flatMap f := by rw [← h2, ← hy]; exact (List.take_append_drop size xs).symm
    refine ⟨y :: l, by simp [h1], by rw [List.flatMap_cons]; exact e, fun i hi => ?_⟩
    cases i with
    | zero => rw [Nat.zero_mul, List.drop_zero]; exact hy
    | succ i =>
      have := h3 i (by simpa using hi)
      rw [List.drop_drop] at this
      rw [Nat.add_mul, Nat.one_mul, Nat.add_comm]
      exact this

def MOps (w : World) (v : Value) (os : List MOp) : Prop := Slc w 5 v os.length (os.flatMap mopCells) ∧ os.length ≤ maxLen ∧ ∀ o, o ∈ os → MOpAt w o
section
variable {H : Type} {enc : TypeId × Value → H} {w : World} {held : Bool}
theorem trod_mops {fuel : Nat} {v : Value} {x : DataW H × List MemPlace} (h : DataW.trod enc Tryd.prog w 0 (fun _ => true) held fuel 41 [v] = some x) : ∃ os, MOps w v os := by
  obtain ⟨n, xs, h1, h2, h3⟩ := trod_slc (size := 5) Tryd.underlying41 (by kernel_rfl) (by decide) h
  obtain ⟨l, e1, e2, e3⟩ := cells_of (size := 5) (by decide) mopCells (fun _ => rfl) n xs h1.1 (fun i hi => by
    obtain ⟨m, y, hy⟩ := h3 i hi
    obtain ⟨o, ho, _⟩ := trod_mop hy
    exact ⟨o, ho⟩)
  subst e1
  refine ⟨l, by rw [e2] at h1; exact h1, h2, fun o ho => ?_⟩
  obtain ⟨i, hi, rfl⟩ := List.getElem_of_mem ho
  obtain ⟨m, y, hy⟩ := h3 i hi
  rw [e3 i hi] at hy
  obtain ⟨o', ho', hat⟩ := trod_mop hy
  have : l[i] = o' := by
    cases hli : l[i]
    rw [hli] at ho'
    cases o'
    simp [mopCells] at ho'
    obtain ⟨rfl, rfl, rfl, rfl, rfl⟩ := ho'
    rfl
  rw [this]
  exact hat
end
theorem mops_get (os : List MOp) (k : Nat) (h : k < os.length) (j : Nat) (hj : j < 5) : (os.flatMap mopCells)[k * 5 + j]? = (mopCells os[k])[j]? := by
  induction os generalizing k with
  | nil => simp at h
  | cons o os ih =>
    rw [List.flatMap_cons]
    cases k with
    | zero =>
      rw [Nat.zero_mul, Nat.zero_add, List.getElem?_append_left (by simpa [mopCells] using hj)]
      rfl
    | succ k =>
      have e : (k + 1) * 5 + j = 5 + (k * 5 + j) := by omega
      rw [e, List.getElem?_append_right (by simp [mopCells])]
      have e2 : 5 + (k * 5 + j) - (mopCells o).length = k * 5 + j := by simp [mopCells]
      rw [e2]
      simpa using ih k (by simpa using h)
theorem MOps.at {w w' : World} {a : Option Addr} {c n : Nat} {os : List MOp} (h : MOps w (.slice a n c) os) (hk : Kept [] w w') (k : Nat) (hlt : k < os.length) :
    ∃ g o, a = some ⟨g, o, none⟩ ∧ w'.cell? ⟨g, o + k * 5, none⟩ = some (.int .i64 os[k].kind) ∧ w'.cell? ⟨g, o + k * 5 + 1, none⟩ = some (.string os[k].s) ∧ w'.cell? ⟨g, o + k * 5 + 2, none⟩ = some (.string os[k].s2) ∧
      w'.cell? ⟨g, o + k * 5 + 3, none⟩ = some (.int .i64 os[k].n) ∧ w'.cell? ⟨g, o + k * 5 + 4, none⟩ = some os[k].vb ∧ g < w.heap.size ∧ MOpAt w os[k] ∧ MOpAt w' os[k] := by
  have hlt0 := fun g (hg : vblk (.slice a n c) = some g) => h.1.lt hg
  have h1 := h.1.kept0 hk
  rcases h1.2 with ⟨_, h0⟩ | ⟨h0, _⟩ | ⟨g, o, cap, hsv, _, _, hrow⟩
  · omega
  · omega
  simp only [Value.slice.injEq] at hsv
  obtain ⟨rfl, rfl, rfl⟩ := hsv
  have hat := h.2.2 _ (List.getElem_mem hlt)
  have hat' : MOpAt w' os[k] := by
    obtain ⟨w1, w2, w3, w4, l, hl, hll⟩ := hat
    exact ⟨w1, w2, w3, w4, l, hl.kept0 hk, hll⟩
  refine ⟨g, o, rfl, ?_, ?_, ?_, ?_, ?_, hlt0 g (vblk_mk (by omega)), hat, hat'⟩
  · have := hrow.cells (k * 5 + 0) (.int .i64 os[k].kind) (by rw [mops_get os k hlt 0 (by decide)]; rfl)
    simpa using this
  all_goals rw [Nat.add_assoc]
  · exact hrow.cells (k * 5 + 1) _ (by rw [mops_get os k hlt 1 (by decide)]; rfl)
  · exact hrow.cells (k * 5 + 2) _ (by rw [mops_get os k hlt 2 (by decide)]; rfl)
  · exact hrow.cells (k * 5 + 3) _ (by rw [mops_get os k hlt 3 (by decide)]; rfl)
  · exact hrow.cells (k * 5 + 4) _ (by rw [mops_get os k hlt 4 (by decide)]; rfl)

/-- Both mirrors, made since w. -/
def Here (w wr : World) (b c : Nat) : Prop := ∃ F G d, MBoth wr b c F G d ∧ Kept [] w wr ∧ (∀ x, x ∈ F → w.heap.size ≤ x) ∧ ∀ x, x ∈ G → w.heap.size ≤ x
theorem Here.then {w wr w' : World} {b c : Nat} (h : Here w wr b c) (k : Kept [] wr w') : Here w w' b c := by
  obtain ⟨F, G, d, h1, h2, h3, h4⟩ := h
  exact ⟨F, G, d, h1.kept0 k, h2.then k, h3, h4⟩
theorem Here.did {w wr w' : World} {b c : Nat} {F G : List Nat} {e : Ending} (k : Kept [] w wr) (hF : ∀ x, x ∈ F → w.heap.size ≤ x) (hG : ∀ x, x ∈ G → w.heap.size ≤ x) (h : MDoPost wr b c F G e w') : e = .returned (.bool true) ∧ Here w w' b c := by
  obtain ⟨F', G', d', e1, h2, h3, h4, h5⟩ := h
  refine ⟨e1, F', G', d', h2, k.trans h3 (fun i hi => .inr (by rcases List.mem_append.1 hi with g | g; exact hF i g; exact hG i g)), ?_, ?_⟩
  · intro x hx
    rcases h4 x hx with g | g
    · exact hF x g
    · exact Nat.le_trans k.size g
  · intro x hx
    rcases h5 x hx with g | g
    · exact hG x g
    · exact Nat.le_trans k.size g

set_option maxRecDepth 10000 in
set_option maxHeartbeats 6400000 in
theorem mdoes_any (a : Option Addr) (c0 : Nat) (os : List MOp) (w : World) (hO : MOps w (.slice a os.length c0) os) :
    Calls Tryd.prog 5 #[.slice a os.length c0] w fun e w' => e = .returned (.bool true) ∧ Kept [] w w' := by
  have hos := hO.2.1
  have hos2 : (os.length : Int) ≤ 9223372036854775807 := by simp only [maxLen] at hos; omega
  have HO := Lib.hid hO
  clear hO hos
  go_enter Tryd.func5, Tryd.ntmps5
  go_wp2_with (first
    | (go_at_call 8; refine Calls.mono (newMir_any w) ?_; rintro e w1 ⟨b, F, rfl, hd, hk1, hF⟩; have HD := Lib.hid hd; have HK1 := Lib.hid hk1; have HF := Lib.hid hF; clear hd hk1 hF)
    | (go_at_call 19; refine Calls.mono (newRMir_any w1) ?_; rintro e w2 ⟨c, G, rfl, hr, hk2, hG⟩; have HB : Hid (Here w w2 b c) := Lib.hid ⟨F, G, _, ⟨HD.out.kept0 hk2, hr, fun x hx hg => absurd (HD.out.lt x hx) (Nat.not_lt.2 (hG x hg)), by decide⟩, HK1.out.then hk2, HF.out, fun x hx => Nat.le_trans HK1.out.size (hG x hx)⟩; clear hr hk2 hG)
    | (go_at_call 7; refine (lives_any _).mono ?_; rintro e w3 ⟨rfl, hk⟩; have HB3 := Lib.hid (HB.out.then hk); clear hk))
  clear HD HB HK1 HF
  go_loopw [5] (fun i wr => ∃ (k : Nat), i = .int .i64 k ∧ k ≤ os.length ∧ Here w wr b c) (fun i _ => os.length - (intOf i).toNat)
  case atStart => exact ⟨0, rfl, Nat.zero_le _, HB3.out⟩
  case round =>
    clear HB3
    obtain ⟨k, rfl, hk, hB⟩ := hrel
    have HB := Lib.hid hB
    clear hB
    by_cases hlt : k < os.length ∧ k < 40
    · obtain ⟨hlt, h40⟩ := hlt
      obtain ⟨F, G, d, hBB, hkr, hF, hG⟩ := HB.out
      obtain ⟨g, o, rfl, q0, q1, q2, q3, q4, hg, hat0, hat⟩ := HO.out.at hkr k hlt
      have hb : Hid (∀ g, vblk os[k].vb = some g → g ∉ F ∧ g ∉ G) := by
        obtain ⟨-, -, -, -, l, hl, _⟩ := hat0
        exact Lib.hid (fun g hg => ⟨fun hx => by have := hl.lt hg; have := hF g hx; omega, fun hx => by have := hl.lt hg; have := hG g hx; omega⟩)
      have HgF : Hid (g ∉ F ++ G) := Lib.hid (fun hx => by rcases List.mem_append.1 hx with e | e; have := hF g e; omega; have := hG g e; omega)
      have HAT := Lib.hid hat
      have HBB := Lib.hid hBB
      have HKR := Lib.hid hkr
      have HF := Lib.hid hF
      have HG := Lib.hid hG
      obtain ⟨-, -, hs1, hs2, l, hl1, hl2⟩ := hat
      obtain ⟨ba, bc, hle, -, -⟩ := hl1.form
      clear hat0 hBB hkr hF hG hg hl1 HB
      revert q0 q1 q2 q3 q4 hb hle HAT hs1 hs2
      generalize os[k] = ov
      obtain ⟨kd, s, s2, nn, vb⟩ := ov
      intro q0 q1 q2 q3 q4 hb HAT hs1 hs2 hle
      simp only at q0 q1 q2 q3 q4 hle hs1 hs2
      subst hle
      have h40' : (k : Int) < 40 := by omega
      have hlt' : (k : Int) < os.length := by omega
      have z1 : (s.size : Int) ≤ 9223372036854775807 := by simp only [maxLen] at hs1; omega
      have z2 : (s2.size : Int) ≤ 9223372036854775807 := by simp only [maxLen] at hs2; omega
      have z3 : (l.length : Int) ≤ 9223372036854775807 := by simp only [maxLen] at hl2; omega
      clear hs1 hs2 hl2 hlt h40
      by_cases hbig : (3000 : Int) < l.length ∨ (¬(3000 : Int) < l.length ∧ (1000 : Int) < s.size) ∨ (¬(3000 : Int) < l.length ∧ ¬(1000 : Int) < s.size ∧ (1000 : Int) < s2.size)
      · have HH : Hid (Here w wr b c) := Lib.hid ⟨F, G, d, HBB.out, HKR.out, HF.out, HG.out⟩
        rcases hbig with h1 | ⟨h1, h2⟩ | ⟨h1, h2, h3⟩
        all_goals
          go_wp2_with fail
          case roundEnd => exact ⟨⟨k + 1, by go_num, by omega, HH.out⟩, by simp [intOf]; omega⟩
      · have h1 : ¬(3000 : Int) < l.length := by omega
        have h2 : ¬(1000 : Int) < s.size := by omega
        have h3 : ¬(1000 : Int) < s2.size := by omega
        clear hbig
        go_wp2_with fail
        have hSS : (fun w' : World => w'.cell? ⟨g, o + k * 5, none⟩ = some (.int .i64 kd) ∧ w'.cell? ⟨g, o + k * 5 + 1, none⟩ = some (.string s) ∧ w'.cell? ⟨g, o + k * 5 + 2, none⟩ = some (.string s2) ∧ w'.cell? ⟨g, o + k * 5 + 3, none⟩ = some (.int .i64 nn) ∧ w'.cell? ⟨g, o + k * 5 + 4, none⟩ = some (.slice ba l.length bc)) wr.drew := ⟨q0, q1, q2, q3, q4⟩
        refine wp_region_last' (n := 18) (fun w' : World => w'.cell? ⟨g, o + k * 5, none⟩ = some (.int .i64 kd) ∧ w'.cell? ⟨g, o + k * 5 + 1, none⟩ = some (.string s) ∧ w'.cell? ⟨g, o + k * 5 + 2, none⟩ = some (.string s2) ∧ w'.cell? ⟨g, o + k * 5 + 3, none⟩ = some (.int .i64 nn) ∧ w'.cell? ⟨g, o + k * 5 + 4, none⟩ = some (.slice ba l.length bc)) 18 (by kernel_rfl) (by kernel_rfl) ?_
        change wpAnyT _ _ _ _ _ _ _ _ _ wr.drew
        have k0 := (Kept.refl [] wr).drew
        have HBB2 := Lib.hid (HBB.out.kept0 k0)
        have HKR2 := Lib.hid (HKR.out.then k0)
        have HAT2 : Hid (MOpAt wr.drew ⟨kd, s, s2, nn, .slice ba l.length bc⟩) := Lib.hid (by
          obtain ⟨w1, w2, w3, w4, l', hl, hll⟩ := HAT.out
          exact ⟨w1, w2, w3, w4, l', hl.kept0 k0, hll⟩)
        clear q0 q1 q2 q3 q4 HBB HKR HAT k0
        revert hSS HBB2 HKR2 HAT2
        generalize wr.drew = W
        intro hSS HBB2 HKR2 HAT2
        refine wpAnyT_start ?_
        intro O R hO hR
        have hQp : ∀ c a (d : Nat) v w, R (.panic c) (a.put (some d) v) w → R (.panic c) a w := by subst hR; exact fun _ _ _ _ _ h => h
        refine wpAnyT_take' (i := 0) (v := ?_) hO rfl rfl (by kernel_rfl) (by kernel_rfl) (by kernel_rfl) (by kernel_rfl) hQp (Or.inl ⟨by kernel_rfl, fun w hSw => ?_⟩) hSS ?_
        rotate_left
        · obtain ⟨s0, s1, s2, s3, s4⟩ := hSw; go_simp; try with_reducible rfl
        try simp only [Act.put, List.setIfInBounds_toArray, List.set_cons_zero, List.set_cons_succ]
        refine wpAnyT_take' (i := 1) (v := ?_) hO rfl rfl (by kernel_rfl) (by kernel_rfl) (by kernel_rfl) (by kernel_rfl) hQp (Or.inl ⟨by kernel_rfl, fun w hSw => ?_⟩) hSS ?_
        rotate_left
        · obtain ⟨s0, s1, s2, s3, s4⟩ := hSw; go_simp; try with_reducible rfl
        try simp only [Act.put, List.setIfInBounds_toArray, List.set_cons_zero, List.set_cons_succ]
        refine wpAnyT_take' (i := 2) (v := ?_) hO rfl rfl (by kernel_rfl) (by kernel_rfl) (by kernel_rfl) (by kernel_rfl) hQp (Or.inl ⟨by kernel_rfl, fun w hSw => ?_⟩) hSS ?_
        rotate_left
        · obtain ⟨s0, s1, s2, s3, s4⟩ := hSw; go_simp; try with_reducible rfl
        try simp only [Act.put, List.setIfInBounds_toArray, List.set_cons_zero, List.set_cons_succ]
        refine wpAnyT_take' (i := 3) (v := ?_) hO rfl rfl (by kernel_rfl) (by kernel_rfl) (by kernel_rfl) (by kernel_rfl) hQp (Or.inl ⟨by kernel_rfl, fun w hSw => ?_⟩) hSS ?_
        rotate_left
        · obtain ⟨s0, s1, s2, s3, s4⟩ := hSw; go_simp; try with_reducible rfl
        try simp only [Act.put, List.setIfInBounds_toArray, List.set_cons_zero, List.set_cons_succ]
        refine wpAnyT_take' (i := 4) (v := ?_) hO rfl rfl (by kernel_rfl) (by kernel_rfl) (by kernel_rfl) (by kernel_rfl) hQp (Or.inl ⟨by kernel_rfl, fun w hSw => ?_⟩) hSS ?_
        rotate_left
        · obtain ⟨s0, s1, s2, s3, s4⟩ := hSw; go_simp; try with_reducible rfl
        try simp only [Act.put, List.setIfInBounds_toArray, List.set_cons_zero, List.set_cons_succ]
        refine wpAnyT_take' (i := 5) (v := ?_) hO rfl rfl (by kernel_rfl) (by kernel_rfl) (by kernel_rfl) (by kernel_rfl) hQp (Or.inl ⟨by kernel_rfl, fun w hSw => ?_⟩) hSS ?_
        rotate_left
        · obtain ⟨s0, s1, s2, s3, s4⟩ := hSw; go_simp; try with_reducible rfl
        try simp only [Act.put, List.setIfInBounds_toArray, List.set_cons_zero, List.set_cons_succ]
        refine wpAnyT_one' (i := 6) hO rfl (by kernel_rfl) (by kernel_rfl) (fun K hK => ?_)
        go_simp
        refine Calls.mono (mdo_any HBB2.out ⟨kd, s, s2, nn, .slice ba l.length bc⟩ HAT2.out hb.out) ?_
        intro e w1 hpost
        obtain ⟨rfl, hH⟩ := Here.did HKR2.out HF.out HG.out hpost
        obtain ⟨_, _, _, -, -, hk1, -, -⟩ := hpost
        have hS1 : (fun w' : World => w'.cell? ⟨g, o + k * 5, none⟩ = some (.int .i64 kd) ∧ w'.cell? ⟨g, o + k * 5 + 1, none⟩ = some (.string s) ∧ w'.cell? ⟨g, o + k * 5 + 2, none⟩ = some (.string s2) ∧ w'.cell? ⟨g, o + k * 5 + 3, none⟩ = some (.int .i64 nn) ∧ w'.cell? ⟨g, o + k * 5 + 4, none⟩ = some (.slice ba l.length bc)) w1 := ⟨hk1.cell hSS.1 HgF.out, hk1.cell hSS.2.1 HgF.out, hk1.cell hSS.2.2.1 HgF.out, hk1.cell hSS.2.2.2.1 HgF.out, hk1.cell hSS.2.2.2.2 HgF.out⟩
        have HH := Lib.hid hH
        obtain ⟨F', G', d', hb', hk', -, -⟩ := hH
        obtain ⟨la, lc, aa, ac, rs, rows, fs, hGe, hat⟩ := hb'.ref
        have HAS := Lib.hid (asked_any hb'.mir)
        have HT := Lib.hid hat.row.slc
        have hc1 := hat.c1
        have hfew := Lib.hid hb'.few
        clear hSS hk1 hat hGe hb' hk' HBB2 HKR2 HAT2 HF HG hb
        have hSS := hS1
        clear hS1
        refine hK _ _ (.inr hSS) ?_
        clear hK K
        try simp only [Act.put, List.setIfInBounds_toArray, List.set_cons_zero, List.set_cons_succ]
        refine wpAnyT_take' (i := 7) (v := ?_) hO rfl rfl (by kernel_rfl) (by kernel_rfl) (by kernel_rfl) (by kernel_rfl) hQp (Or.inl ⟨by kernel_rfl, fun w hSw => ?_⟩) hSS ?_
        rotate_left
        · obtain ⟨s0, s1, s2, s3, s4⟩ := hSw; go_simp; try with_reducible rfl
        try simp only [Act.put, List.setIfInBounds_toArray, List.set_cons_zero, List.set_cons_succ]
        refine wpAnyT_take' (i := 8) (v := ?_) hO rfl rfl (by kernel_rfl) (by kernel_rfl) (by kernel_rfl) (by kernel_rfl) hQp (Or.inl ⟨by kernel_rfl, fun w hSw => ?_⟩) hSS ?_
        rotate_left
        · obtain ⟨s0, s1, s2, s3, s4⟩ := hSw; go_simp; try with_reducible rfl
        try simp only [Act.put, List.setIfInBounds_toArray, List.set_cons_zero, List.set_cons_succ]
        refine wpAnyT_take' (i := 9) (v := ?_) hO rfl rfl (by kernel_rfl) (by kernel_rfl) (by kernel_rfl) (by kernel_rfl) hQp (Or.inl ⟨by kernel_rfl, fun w hSw => ?_⟩) hSS ?_
        rotate_left
        · obtain ⟨s0, s1, s2, s3, s4⟩ := hSw; go_simp; try with_reducible rfl
        try simp only [Act.put, List.setIfInBounds_toArray, List.set_cons_zero, List.set_cons_succ]
        refine wpAnyT_take' (i := 11) (v := ?_) hO rfl rfl (by kernel_rfl) (by kernel_rfl) (by kernel_rfl) (by kernel_rfl) hQp (Or.inl ⟨by kernel_rfl, fun w hSw => ?_⟩) hSS ?_
        rotate_left
        · obtain ⟨s0, s1, s2, s3, s4⟩ := hSw; go_simp; try with_reducible rfl
        try simp only [Act.put, List.setIfInBounds_toArray, List.set_cons_zero, List.set_cons_succ]
        refine wpAnyT_take' (i := 12) (v := ?_) hO rfl rfl (by kernel_rfl) (by kernel_rfl) (by kernel_rfl) (by kernel_rfl) hQp (Or.inl ⟨by kernel_rfl, fun w hSw => ?_⟩) hSS ?_
        rotate_left
        · obtain ⟨s0, s1, s2, s3, s4⟩ := hSw; go_simp; try with_reducible rfl
        try simp only [Act.put, List.setIfInBounds_toArray, List.set_cons_zero, List.set_cons_succ]
        refine wpAnyT_take' (i := 13) (v := ?_) hO rfl rfl (by kernel_rfl) (by kernel_rfl) (by kernel_rfl) (by kernel_rfl) hQp (Or.inl ⟨by kernel_rfl, fun w hSw => ?_⟩) hSS ?_
        rotate_left
        · obtain ⟨s0, s1, s2, s3, s4⟩ := hSw; go_simp; try with_reducible rfl
        try simp only [Act.put, List.setIfInBounds_toArray, List.set_cons_zero, List.set_cons_succ]
        refine wpAnyT_two' (i := 10) (j := 14) hO rfl rfl (by kernel_rfl) (by kernel_rfl) (by kernel_rfl) (fun K hK => ?_) (fun K hK => ?_)
        · go_simp
          refine Calls.mono HAS.out ?_
          rintro e w2 ⟨v2, rfl, hv2, -, hk2⟩
          have HV2 := Lib.hid hv2
          have HT2 := Lib.hid (HT.out.kept0 hk2)
          have HH2 := Lib.hid (HH.out.then hk2)
          have hc2 : w2.cell? ⟨c, 1, none⟩ = some (.slice aa d'.asked.length ac) := hk2.cell hc1 (by simp)
          have hS2 : (fun w' : World => w'.cell? ⟨g, o + k * 5, none⟩ = some (.int .i64 kd) ∧ w'.cell? ⟨g, o + k * 5 + 1, none⟩ = some (.string s) ∧ w'.cell? ⟨g, o + k * 5 + 2, none⟩ = some (.string s2) ∧ w'.cell? ⟨g, o + k * 5 + 3, none⟩ = some (.int .i64 nn) ∧ w'.cell? ⟨g, o + k * 5 + 4, none⟩ = some (.slice ba l.length bc)) w2 := ⟨hk2.cell hSS.1 (by simp), hk2.cell hSS.2.1 (by simp), hk2.cell hSS.2.2.1 (by simp), hk2.cell hSS.2.2.2.1 (by simp), hk2.cell hSS.2.2.2.2 (by simp)⟩
          clear hSS hc1 hv2 hk2 HT HH HAS
          have hSS := hS2
          clear hS2
          refine hK _ _ (.inr hSS) ?_
          clear hK K
          try simp only [Act.put, List.setIfInBounds_toArray, List.set_cons_zero, List.set_cons_succ]
          refine wpAnyT_one' (i := 14) hO rfl (by kernel_rfl) (by kernel_rfl) (fun K hK => ?_)
          go_simp
          refine hK _ _ (.inr hSS) ?_
          clear hK K
          try simp only [Act.put, List.setIfInBounds_toArray, List.set_cons_zero, List.set_cons_succ]
          refine wpAnyT_one' (i := 15) hO rfl (by kernel_rfl) (by kernel_rfl) (fun K hK => ?_)
          go_simp
          refine Calls.mono (dsame_any _ _ d'.asked _ HV2.out HT2.out (by have := hfew.out; omega)) ?_
          rintro e w3 ⟨rfl, hk2⟩
          have HH3 := Lib.hid (HH2.out.then hk2)
          have hS3 : (fun w' : World => w'.cell? ⟨g, o + k * 5, none⟩ = some (.int .i64 kd) ∧ w'.cell? ⟨g, o + k * 5 + 1, none⟩ = some (.string s) ∧ w'.cell? ⟨g, o + k * 5 + 2, none⟩ = some (.string s2) ∧ w'.cell? ⟨g, o + k * 5 + 3, none⟩ = some (.int .i64 nn) ∧ w'.cell? ⟨g, o + k * 5 + 4, none⟩ = some (.slice ba l.length bc)) w3 := ⟨hk2.cell hSS.1 (by simp), hk2.cell hSS.2.1 (by simp), hk2.cell hSS.2.2.1 (by simp), hk2.cell hSS.2.2.2.1 (by simp), hk2.cell hSS.2.2.2.2 (by simp)⟩
          clear hSS hk2 HV2 HT2 HH2
          have hSS := hS3
          clear hS3
          refine hK _ _ (.inr hSS) ?_
          clear hK K
          try simp only [Act.put, List.setIfInBounds_toArray, List.set_cons_zero, List.set_cons_succ]
          refine wpAnyT_take' (i := 16) (v := ?_) hO rfl rfl (by kernel_rfl) (by kernel_rfl) (by kernel_rfl) (by kernel_rfl) hQp (Or.inl ⟨by kernel_rfl, fun w hSw => ?_⟩) hSS ?_
          rotate_left
          · obtain ⟨s0, s1, s2, s3, s4⟩ := hSw; go_simp; try with_reducible rfl
          try simp only [Act.put, List.setIfInBounds_toArray, List.set_cons_zero, List.set_cons_succ]
          refine wpAnyT_take' (i := 17) (v := ?_) hO rfl rfl (by kernel_rfl) (by kernel_rfl) (by kernel_rfl) (by kernel_rfl) hQp (Or.inl ⟨by kernel_rfl, fun w hSw => ?_⟩) hSS ?_
          rotate_left
          · obtain ⟨s0, s1, s2, s3, s4⟩ := hSw; go_simp; try with_reducible rfl
          try simp only [Act.put, List.setIfInBounds_toArray, List.set_cons_zero, List.set_cons_succ]
          refine wpAnyT_done' hO (by kernel_rfl) ?_ _
          subst hR
          go_wp2_with fail
          case roundEnd => exact ⟨⟨k + 1, by go_num, by omega, HH3.out⟩, by simp [intOf]; omega⟩
        · go_simp
          refine hK _ _ (.inr hSS) ?_
          clear hK K
          try simp only [Act.put, List.setIfInBounds_toArray, List.set_cons_zero, List.set_cons_succ]
          refine wpAnyT_one' (i := 10) hO rfl (by kernel_rfl) (by kernel_rfl) (fun K hK => ?_)
          go_simp
          refine Calls.mono HAS.out ?_
          rintro e w2 ⟨v2, rfl, hv2, -, hk2⟩
          have HV2 := Lib.hid hv2
          have HT2 := Lib.hid (HT.out.kept0 hk2)
          have HH2 := Lib.hid (HH.out.then hk2)
          have hS2 : (fun w' : World => w'.cell? ⟨g, o + k * 5, none⟩ = some (.int .i64 kd) ∧ w'.cell? ⟨g, o + k * 5 + 1, none⟩ = some (.string s) ∧ w'.cell? ⟨g, o + k * 5 + 2, none⟩ = some (.string s2) ∧ w'.cell? ⟨g, o + k * 5 + 3, none⟩ = some (.int .i64 nn) ∧ w'.cell? ⟨g, o + k * 5 + 4, none⟩ = some (.slice ba l.length bc)) w2 := ⟨hk2.cell hSS.1 (by simp), hk2.cell hSS.2.1 (by simp), hk2.cell hSS.2.2.1 (by simp), hk2.cell hSS.2.2.2.1 (by simp), hk2.cell hSS.2.2.2.2 (by simp)⟩
          clear hSS hc1 hv2 hk2 HT HH HAS
          have hSS := hS2
          clear hS2
          refine hK _ _ (.inr hSS) ?_
          clear hK K
          try simp only [Act.put, List.setIfInBounds_toArray, List.set_cons_zero, List.set_cons_succ]
          refine wpAnyT_one' (i := 15) hO rfl (by kernel_rfl) (by kernel_rfl) (fun K hK => ?_)
          go_simp
          refine Calls.mono (dsame_any _ _ d'.asked _ HV2.out HT2.out (by have := hfew.out; omega)) ?_
          rintro e w3 ⟨rfl, hk2⟩
          have HH3 := Lib.hid (HH2.out.then hk2)
          have hS3 : (fun w' : World => w'.cell? ⟨g, o + k * 5, none⟩ = some (.int .i64 kd) ∧ w'.cell? ⟨g, o + k * 5 + 1, none⟩ = some (.string s) ∧ w'.cell? ⟨g, o + k * 5 + 2, none⟩ = some (.string s2) ∧ w'.cell? ⟨g, o + k * 5 + 3, none⟩ = some (.int .i64 nn) ∧ w'.cell? ⟨g, o + k * 5 + 4, none⟩ = some (.slice ba l.length bc)) w3 := ⟨hk2.cell hSS.1 (by simp), hk2.cell hSS.2.1 (by simp), hk2.cell hSS.2.2.1 (by simp), hk2.cell hSS.2.2.2.1 (by simp), hk2.cell hSS.2.2.2.2 (by simp)⟩
          clear hSS hk2 HV2 HT2 HH2
          have hSS := hS3
          clear hS3
          refine hK _ _ (.inr hSS) ?_
          clear hK K
          try simp only [Act.put, List.setIfInBounds_toArray, List.set_cons_zero, List.set_cons_succ]
          refine wpAnyT_take' (i := 16) (v := ?_) hO rfl rfl (by kernel_rfl) (by kernel_rfl) (by kernel_rfl) (by kernel_rfl) hQp (Or.inl ⟨by kernel_rfl, fun w hSw => ?_⟩) hSS ?_
          rotate_left
          · obtain ⟨s0, s1, s2, s3, s4⟩ := hSw; go_simp; try with_reducible rfl
          try simp only [Act.put, List.setIfInBounds_toArray, List.set_cons_zero, List.set_cons_succ]
          refine wpAnyT_take' (i := 17) (v := ?_) hO rfl rfl (by kernel_rfl) (by kernel_rfl) (by kernel_rfl) (by kernel_rfl) hQp (Or.inl ⟨by kernel_rfl, fun w hSw => ?_⟩) hSS ?_
          rotate_left
          · obtain ⟨s0, s1, s2, s3, s4⟩ := hSw; go_simp; try with_reducible rfl
          try simp only [Act.put, List.setIfInBounds_toArray, List.set_cons_zero, List.set_cons_succ]
          refine wpAnyT_done' hO (by kernel_rfl) ?_ _
          subst hR
          go_wp2_with fail
          case roundEnd => exact ⟨⟨k + 1, by go_num, by omega, HH3.out⟩, by simp [intOf]; omega⟩
    · have hcase : k = os.length ∨ (k < os.length ∧ 40 ≤ k) := by omega
      clear hlt
      have hx : (k = os.length ∧ ¬(k : Int) < os.length) ∨ ((k : Int) < os.length ∧ ¬(k : Int) < 40) := by omega
      clear hcase
      obtain ⟨F, G, d, hBB, hkr, hF, hG⟩ := HB.out
      obtain ⟨la, lc, aa, ac, rs, rows, fs, hGe, hat⟩ := hBB.ref
      have c00 := hat.c0
      have HAT := Lib.hid hat
      have HBB := Lib.hid hBB
      have HKR := Lib.hid hkr
      clear hat hBB hkr hF hG hGe HB
      rcases hx with ⟨rfl, hy⟩ | ⟨hy, hz⟩
      all_goals
        go_wp2_with fail
        have hSS : (fun w' : World => w'.cell? ⟨c, 0, none⟩ = some (.slice la rows.length lc)) wr.drew := c00
        refine wp_region_last' (n := 8) (fun w' : World => w'.cell? ⟨c, 0, none⟩ = some (.slice la rows.length lc)) 7 (by kernel_rfl) (by kernel_rfl) ?_
        change wpAnyT _ _ _ _ _ _ _ _ _ wr.drew
        have k0 := (Kept.refl [] wr).drew
        have HM := Lib.hid (HBB.out.mir.kept0 k0)
        have HR := Lib.hid (HAT.out.kept0 k0)
        have HK := Lib.hid (HKR.out.then k0)
        clear c00 HAT HBB HKR k0
        revert hSS HM HR HK
        generalize wr.drew = W
        intro hSS HM HR HK
        refine wpAnyT_start ?_
        intro O R hO hR
        have hQp : ∀ c a (d : Nat) v w, R (.panic c) (a.put (some d) v) w → R (.panic c) a w := by subst hR; exact fun _ _ _ _ _ h => h
        refine wpAnyT_take' (i := 0) (v := ?_) hO rfl rfl (by kernel_rfl) (by kernel_rfl) (by kernel_rfl) (by kernel_rfl) hQp (Or.inl ⟨by kernel_rfl, fun w hSw => ?_⟩) hSS ?_
        rotate_left
        · have s0 := hSw; go_simp; try with_reducible rfl
        try simp only [Act.put, List.setIfInBounds_toArray, List.set_cons_zero, List.set_cons_succ]
        refine wpAnyT_take' (i := 2) (v := ?_) hO rfl rfl (by kernel_rfl) (by kernel_rfl) (by kernel_rfl) (by kernel_rfl) hQp (Or.inl ⟨by kernel_rfl, fun w hSw => ?_⟩) hSS ?_
        rotate_left
        · have s0 := hSw; go_simp; try with_reducible rfl
        try simp only [Act.put, List.setIfInBounds_toArray, List.set_cons_zero, List.set_cons_succ]
        refine wpAnyT_take' (i := 3) (v := ?_) hO rfl rfl (by kernel_rfl) (by kernel_rfl) (by kernel_rfl) (by kernel_rfl) hQp (Or.inl ⟨by kernel_rfl, fun w hSw => ?_⟩) hSS ?_
        rotate_left
        · have s0 := hSw; go_simp; try with_reducible rfl
        try simp only [Act.put, List.setIfInBounds_toArray, List.set_cons_zero, List.set_cons_succ]
        refine wpAnyT_take' (i := 4) (v := ?_) hO rfl rfl (by kernel_rfl) (by kernel_rfl) (by kernel_rfl) (by kernel_rfl) hQp (Or.inl ⟨by kernel_rfl, fun w hSw => ?_⟩) hSS ?_
        rotate_left
        · have s0 := hSw; go_simp; try with_reducible rfl
        try simp only [Act.put, List.setIfInBounds_toArray, List.set_cons_zero, List.set_cons_succ]
        refine wpAnyT_take' (i := 5) (v := ?_) hO rfl rfl (by kernel_rfl) (by kernel_rfl) (by kernel_rfl) (by kernel_rfl) hQp (Or.inl ⟨by kernel_rfl, fun w hSw => ?_⟩) hSS ?_
        rotate_left
        · have s0 := hSw; go_simp; try with_reducible rfl
        try simp only [Act.put, List.setIfInBounds_toArray, List.set_cons_zero, List.set_cons_succ]
        refine wpAnyT_one' (i := 1) hO rfl (by kernel_rfl) (by kernel_rfl) (fun K hK => ?_)
        go_simp
        refine Calls.mono (files_any HM.out HR.out.agree) ?_
        rintro e w1 ⟨v1, rows1, rfl, hv1, hall1, hk1⟩
        have HV1 := Lib.hid hv1
        have HALL1 := Lib.hid hall1
        have HR1 := Lib.hid (HR.out.kept0 hk1)
        have HK1 := Lib.hid (HK.out.then hk1)
        have hS1 : (fun w' : World => w'.cell? ⟨c, 0, none⟩ = some (.slice la rows.length lc)) w1 := hk1.cell hSS (by simp)
        clear hSS hv1 hall1 hk1
        have hSS := hS1
        clear hS1
        refine hK _ _ (.inr hSS) ?_
        clear hK K
        try simp only [Act.put, List.setIfInBounds_toArray, List.set_cons_zero, List.set_cons_succ]
        refine wpAnyT_one' (i := 6) hO rfl (by kernel_rfl) (by kernel_rfl) (fun K hK => ?_)
        go_simp
        refine Calls.mono (fsame_any _ _ rows1 rows fs _ HV1.out HR1.out.files HALL1.out (HR1.out.bodies.mono fun _ _ _ e => ⟨e.1, e.2.1⟩) (Nat.le_trans HR1.out.cnt (by decide))) ?_
        rintro e w2 ⟨rfl, hk2⟩
        have HK2 := Lib.hid (HK1.out.then hk2)
        have hS1 : (fun w' : World => w'.cell? ⟨c, 0, none⟩ = some (.slice la rows.length lc)) w2 := hk2.cell hSS (by simp)
        clear hSS hk2
        have hSS := hS1
        clear hS1
        refine hK _ _ (.inr hSS) ?_
        clear hK K
        try simp only [Act.put, List.setIfInBounds_toArray, List.set_cons_zero, List.set_cons_succ]
        refine wpAnyT_one' (i := 7) hO rfl (by kernel_rfl) (by kernel_rfl) (fun K hK => ?_)
        go_simp
        refine hK _ _ (.inl rfl) ?_
        clear hK K
        try simp only [Act.put, List.setIfInBounds_toArray, List.set_cons_zero, List.set_cons_succ]
        refine wpAnyT_done' hO (by kernel_rfl) ?_ _
        subst hR
        go_wp2_with fail
        go_ret
        exact ⟨rfl, HK2.out⟩
end Go.Proofs.YtfkdoinlbdcaaaaDoor

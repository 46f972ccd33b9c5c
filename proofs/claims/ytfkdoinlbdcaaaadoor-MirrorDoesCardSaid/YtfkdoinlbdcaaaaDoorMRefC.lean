/- The document's Put on files in a slice. -/
import Derived.Test.YtfkdoinlbdcaaaaDoorMRefB
namespace Go.Proofs.YtfkdoinlbdcaaaaDoor
open Go.RowKit
section
variable {P : Program} {ops : Array Oper} {Q : Exit → Act → World → Prop} {md : Region.Mode} {S : World → Prop} {L : Nat}
/-- Two may come up. -/
theorem wpAnyT_two' {O : Array Oper} {i j : Nat} {oi oj : Oper} {fuel : Nat} {listed : Array Bool} {a : Act} {w : World} (hO : O = ops) (hi : ops[i]? = some oi) (hj : ops[j]? = some oj) (hr : Region.ready md ops listed = [i, j])
    (hwi : Region.wanted oi (yielded ops a.tmps) = true) (hwj : Region.wanted oj (yielded ops a.tmps) = true)
    (h1 : ∀ K : Act → World → Prop, (∀ a' w', (i = L ∨ S w') → wpAnyT P md O Q S L fuel (listed.setIfInBounds i true) a' w' → K a' w') → oi.wp P a w K Q)
    (h2 : ∀ K : Act → World → Prop, (∀ a' w', (j = L ∨ S w') → wpAnyT P md O Q S L fuel (listed.setIfInBounds j true) a' w' → K a' w') → oj.wp P a w K Q) : wpAnyT P md O Q S L (fuel + 1) listed a w := by
  subst hO
  refine ⟨fun h0 => (by rw [hr] at h0; cases h0), ?_⟩
  rw [hr]
  intro m hm
  simp only [List.mem_cons, List.not_mem_nil, or_false] at hm
  rcases hm with rfl | rfl
  · unfold wpOp
    rw [hi]
    simp only
    rw [if_pos hwi]
    exact .inl (h1 _ fun a' w' e1 e2 => ⟨e1, e2⟩)
  · unfold wpOp
    rw [hj]
    simp only
    rw [if_pos hwj]
    exact .inl (h2 _ fun a' w' e1 e2 => ⟨e1, e2⟩)
end

/-- A slice's head and its tail, as slice expressions. -/
theorem slc_upto {P : Program} {t e size bytes : Nat} {z : Value} (T : SliceTy P t e size bytes z) {w : World} {v : Value} {n : Nat} {xs : List Value} (h : Slc w size v n xs) (k : Nat) (hk : k ≤ n) :
    ∃ a c, (∀ W, (Instr.slice t v none (some (.int .i64 k)) none).run P W = .ok (.slice a k c) W) ∧ Slc w size (.slice a k c) k (xs.take (k * size)) ∧ (∀ g, vblk (.slice a k c) = some g → vblk v = some g) := by
  obtain ⟨v', -, -, h3, h4, h5⟩ := h.cut T 0 k (Nat.zero_le _) hk
  obtain ⟨a, c, rfl, -, -⟩ := h4.form
  exact ⟨a, c, h3 rfl, by simpa using h4, h5⟩
theorem slc_from {P : Program} {t e size bytes : Nat} {z : Value} (T : SliceTy P t e size bytes z) {w : World} {v : Value} {n : Nat} {xs : List Value} (h : Slc w size v n xs) (k : Nat) (hk : k ≤ n) :
    ∃ a c, (∀ W, (Instr.slice t v (some (.int .i64 k)) none none).run P W = .ok (.slice a (n - k) c) W) ∧ Slc w size (.slice a (n - k) c) (n - k) (xs.drop (k * size)) ∧ (∀ g, vblk (.slice a (n - k) c) = some g → vblk v = some g) := by
  obtain ⟨v', -, h3, -, h4, h5⟩ := h.cut T k n hk (Nat.le_refl _)
  obtain ⟨a, c, rfl, -, -⟩ := h4.form
  refine ⟨a, c, h3 rfl, ?_, h5⟩
  have e2 : List.take ((n - k) * size) (List.drop (k * size) xs) = List.drop (k * size) xs := List.take_of_length_le (by rw [List.length_drop, h.1, Nat.sub_mul]; exact Nat.le_refl _)
  rw [e2] at h4
  exact h4

/-- append onto a row of nothing. -/
theorem oper_append0 {P : Program} {t e size bytes : Nat} {z : Value} (T : SliceTy P t e size bytes z) {w : World} {base : Nat} {v : Value} (hown : w.ownsRow base e size v 0 [])
    {vx : Value} {m : Nat} {news : List Value} (hsrc : Slc w size vx m news) (h1 : ∀ u ∈ news, u.oneCell' = true) (h63 : m ≤ maxLen) (hbytes : m * bytes ≤ 140737488355328) (hbase : base ≤ w.heap.size)
    {o : Oper} {a : Act} {K : Act → World → Prop} {Q : Exit → Act → World → Prop} (s x : Operand)
    (ho : o.op = .call { callee := .builtin .append, args := #[s, x], argTypes := #[t, t] }) (hs : a.eval s = v) (hx : a.eval x = vx)
    (h : ∀ b c w', w'.ownsRow base e size (.slice b m c) m news → Kept v.ownBlock.toList w w' → ((Value.slice b m c).ownBlock = v.ownBlock ∨ (Value.slice b m c).ownBlock = some w.heap.size) → K (a.put o.dst (.slice b m c)) w') :
    Oper.wp P o a w K Q := by
  refine oper_append T hown hsrc h1 (by omega) (by rw [Nat.zero_add]; exact hbytes) hbase s x ho hs hx ?_
  rw [Nat.zero_add, List.nil_append]
  exact h

def less (x y : ByteArray) : Bool := Op.bytesLess x.toList y.toList
def PutTo {α : Type} (s : ByteArray) (b : α) (l l' : List (ByteArray × α)) : Prop :=
  (∃ (i : Nat) (hi : i < l.length), l[i].1 = s ∧ l' = l.take i ++ (s, b) :: l.drop (i + 1)) ∨
  ((∀ (j : Nat) (hj : j < l.length), l[j].1 ≠ s) ∧ ∃ i, i ≤ l.length ∧ (∀ (j : Nat) (hj : j < l.length), j < i → less l[j].1 s = true) ∧ (∀ hi : i < l.length, less l[i].1 s = false) ∧ l' = l.take i ++ (s, b) :: l.drop i)

set_option maxRecDepth 10000 in
set_option maxHeartbeats 3200000 in
theorem refPut2_any {w : World} {v : Value} {l : List Row2} (h : Slc w 2 v l.length (fileCells l)) (hs : Sl l) (s : ByteArray) (bb : Option Addr) (bn bc : Nat) (hl : l.length ≤ 100000) :
    Calls Tryd.prog 44 #[v, .string s, .slice bb bn bc] w fun e w' => ∃ v' l', e = .returned v' ∧ PutTo s (.slice bb bn bc) l l' ∧ w'.ownsRow w.heap.size 58 2 v' l'.length (fileCells l') ∧ Kept [] w w' := by
  obtain ⟨a, c, rfl, -, -⟩ := h.form
  have H := Lib.hid h
  have HS := Lib.hid hs
  have hlI : (l.length : Int) ≤ 100000 := by omega
  have HL := Lib.hid hl
  clear h hs hl
  go_enter Tryd.func44, Tryd.ntmps44
  go_wp2
  go_loop [8] (fun i => ∃ k : Nat, i = .int .i64 k ∧ k ≤ l.length ∧ ∀ (j : Nat) (hj : j < l.length), j < k → l[j].1 ≠ s) (fun i => l.length - (intOf i).toNat)
  case atStart => exact ⟨0, rfl, Nat.zero_le _, fun j _ h => absurd h (Nat.not_lt_zero j)⟩
  case round =>
    obtain ⟨k, rfl, hk, hno⟩ := hrel
    have HNO := Lib.hid hno
    clear hno
    have k0 : Kept [] w (w.alloc (.cells #[.string s, .slice bb bn bc] 58)) := (Kept.refl [] w).alloc _
    have p0 : (w.alloc (.cells #[.string s, .slice bb bn bc] 58)).cell? ⟨w.heap.size, 0, none⟩ = some (.string s) := cell_head (heap_alloc_new w _) rfl
    have p1 : (w.alloc (.cells #[.string s, .slice bb bn bc] 58)).cell? ⟨w.heap.size, 1, none⟩ = some (.slice bb bn bc) := cell_head (heap_alloc_new w _) rfl
    have HP := Lib.hid (And.intro p0 p1)
    have HK0 := Lib.hid k0
    clear p0 p1 k0
    by_cases hlt : k < l.length
    · have hltI : (k : Int) < l.length := by omega
      obtain ⟨g, o, rfl, q0, q1⟩ := files_at H.out HK0.out k hlt
      have HX : Hid (l[k].1 ≠ s → ∀ (j : Nat) (hj : j < l.length), j < k + 1 → l[j].1 ≠ s) := Lib.hid (by
        intro hx j hj hjk
        by_cases e : j = k
        · subst e; exact hx
        · exact HNO.out j hj (by omega))
      have HY : Hid (l[k].1 = s → PutTo s (.slice bb bn bc) l (l.take k ++ (s, .slice bb bn bc) :: l.drop (k + 1))) := Lib.hid (fun e => .inl ⟨k, hlt, e, rfl⟩)
      have hb := str_beq l[k].1 s
      revert q0 q1 HX HY hb
      generalize l[k] = r
      obtain ⟨nm, bd⟩ := r
      intro q0 q1 HX HY hb
      simp only at q0 q1 HX HY hb
      by_cases he : nm = s
      · rw [decide_eq_true he] at hb
        have HE := Lib.hid (HY.out he)
        obtain ⟨a1, c1, hr1, hs1, hg1⟩ := slc_upto tyFiles H.out k hk
        obtain ⟨a2, c2, hr2, hs2, hg2⟩ := slc_from tyFiles H.out (k + 1) hlt
        rw [fileCells_take] at hs1
        rw [fileCells_drop] at hs2
        have H1 := Lib.hid hs1
        have H2 := Lib.hid hs2
        have hr2' : ∀ W, (Instr.slice 48 (.slice (some ⟨g, o, none⟩) l.length c) (some (.int .i64 ((k : Int) + 1))) none none).run Tryd.prog W = .ok (.slice a2 (l.length - (k + 1)) c2) W := fun W => hr2 W
        clear hr2
        have hsum : IntKind.i64.wrap ((k : Int) + 1) = (k : Int) + 1 := by rw [IntKind.wrap_i64]; omega
        clear he HX HY hs1 hs2 hg1 hg2
        go_wp2_with fail
        clear q0 q1 hb HNO
        have hSS : (fun w' : World => w'.cell? ⟨w.heap.size, 0, none⟩ = some (.string s) ∧ w'.cell? ⟨w.heap.size, 1, none⟩ = some (.slice bb bn bc)) (w.alloc (.cells #[.string s, .slice bb bn bc] 58)).drew := HP.out
        refine wp_region_last' (n := 14) (fun w' : World => w'.cell? ⟨w.heap.size, 0, none⟩ = some (.string s) ∧ w'.cell? ⟨w.heap.size, 1, none⟩ = some (.slice bb bn bc)) 14 (by kernel_rfl) (by kernel_rfl) ?_
        change wpAnyT _ _ _ _ _ _ _ _ _ (w.alloc (.cells #[.string s, .slice bb bn bc] 58)).drew
        have HK1 := Lib.hid HK0.out.drew
        have hB : w.heap.size < (w.alloc (.cells #[.string s, .slice bb bn bc] 58)).drew.heap.size := by simp [World.drew]
        clear HP HK0
        revert hSS HK1 hB
        generalize (w.alloc (.cells #[.string s, .slice bb bn bc] 58)).drew = W
        intro hSS HK1 hB
        have H1W := Lib.hid (H1.out.kept0 HK1.out)
        have H2W := Lib.hid (H2.out.kept0 HK1.out)
        have hSl1 : Hid (Sl (l.take k)) := Lib.hid (fun r hr => HS.out r (List.mem_of_mem_take hr))
        have hSl2 : Hid (Sl (l.drop (k + 1))) := Lib.hid (fun r hr => HS.out r (List.mem_of_mem_drop hr))
        have hll := HL.out
        refine wpAnyT_start ?_
        intro O R hO hR
        have hQp : ∀ c a (d : Nat) v w, R (.panic c) (a.put (some d) v) w → R (.panic c) a w := by subst hR; exact fun _ _ _ _ _ h => h
        refine wpAnyT_take' (i := 1) (v := ?_) hO rfl rfl (by kernel_rfl) (by kernel_rfl) (by kernel_rfl) (by kernel_rfl) hQp (Or.inl ⟨by kernel_rfl, fun w hSw => ?_⟩) hSS ?_
        rotate_left
        · obtain ⟨s0, s1⟩ := hSw; go_simp; try with_reducible rfl
        try simp only [Act.put, List.setIfInBounds_toArray, List.set_cons_zero, List.set_cons_succ]
        refine wpAnyT_take' (i := 2) (v := ?_) hO rfl rfl (by kernel_rfl) (by kernel_rfl) (by kernel_rfl) (by kernel_rfl) hQp (Or.inl ⟨by kernel_rfl, fun w hSw => ?_⟩) hSS ?_
        rotate_left
        · obtain ⟨s0, s1⟩ := hSw; go_simp; try with_reducible rfl
        try simp only [Act.put, List.setIfInBounds_toArray, List.set_cons_zero, List.set_cons_succ]
        refine wpAnyT_take' (i := 3) (v := ?_) hO rfl rfl (by kernel_rfl) (by kernel_rfl) (by kernel_rfl) (by kernel_rfl) hQp (Or.inl ⟨by kernel_rfl, fun w hSw => ?_⟩) hSS ?_
        rotate_left
        · obtain ⟨s0, s1⟩ := hSw; go_simp; try with_reducible rfl
        try simp only [Act.put, List.setIfInBounds_toArray, List.set_cons_zero, List.set_cons_succ]
        refine wpAnyT_take' (i := 5) (v := ?_) hO rfl rfl (by kernel_rfl) (by kernel_rfl) (by kernel_rfl) (by kernel_rfl) hQp (Or.inl ⟨by kernel_rfl, fun w hSw => ?_⟩) hSS ?_
        rotate_left
        · obtain ⟨s0, s1⟩ := hSw; go_simp; try with_reducible rfl
        try simp only [Act.put, List.setIfInBounds_toArray, List.set_cons_zero, List.set_cons_succ]
        refine wpAnyT_take' (i := 8) (v := ?_) hO rfl rfl (by kernel_rfl) (by kernel_rfl) (by kernel_rfl) (by kernel_rfl) hQp (Or.inl ⟨by kernel_rfl, fun w hSw => ?_⟩) hSS ?_
        rotate_left
        · obtain ⟨s0, s1⟩ := hSw; go_simp; try with_reducible rfl
        try simp only [Act.put, List.setIfInBounds_toArray, List.set_cons_zero, List.set_cons_succ]
        refine wpAnyT_take' (i := 9) (v := ?_) hO rfl rfl (by kernel_rfl) (by kernel_rfl) (by kernel_rfl) (by kernel_rfl) hQp (Or.inl ⟨by kernel_rfl, fun w hSw => ?_⟩) hSS ?_
        rotate_left
        · obtain ⟨s0, s1⟩ := hSw; go_simp; try with_reducible rfl
        try simp only [Act.put, List.setIfInBounds_toArray, List.set_cons_zero, List.set_cons_succ]
        refine wpAnyT_take' (i := 10) (v := ?_) hO rfl rfl (by kernel_rfl) (by kernel_rfl) (by kernel_rfl) (by kernel_rfl) hQp (Or.inl ⟨by kernel_rfl, fun w hSw => ?_⟩) hSS ?_
        rotate_left
        · obtain ⟨s0, s1⟩ := hSw; go_simp; try with_reducible rfl
        try simp only [Act.put, List.setIfInBounds_toArray, List.set_cons_zero, List.set_cons_succ]
        refine wpAnyT_take' (i := 11) (v := ?_) hO rfl rfl (by kernel_rfl) (by kernel_rfl) (by kernel_rfl) (by kernel_rfl) hQp (Or.inl ⟨by kernel_rfl, fun w hSw => ?_⟩) hSS ?_
        rotate_left
        · obtain ⟨s0, s1⟩ := hSw; go_simp; try with_reducible rfl
        try simp only [Act.put, List.setIfInBounds_toArray, List.set_cons_zero, List.set_cons_succ]
        refine wpAnyT_two' (i := 0) (j := 6) hO rfl rfl (by kernel_rfl) (by kernel_rfl) (by kernel_rfl) (fun K hK => ?_) (fun K hK => ?_)
        · go_simp
          have kA : Kept [] W (W.alloc (.cells #[] 58)) := (Kept.refl [] W).alloc _
          have hown0 := World.ownsRow_made (base := w.heap.size + 1) (size := 2) (e := 58) W #[] 0 hB (by decide) rfl
          have hSA : (fun w' : World => w'.cell? ⟨w.heap.size, 0, none⟩ = some (.string s) ∧ w'.cell? ⟨w.heap.size, 1, none⟩ = some (.slice bb bn bc)) (W.alloc (.cells #[] 58)) := ⟨kA.cell hSS.1 (by simp), kA.cell hSS.2 (by simp)⟩
          refine hK _ _ (.inr hSA) ?_
          clear hK K
          try simp only [Act.put, List.setIfInBounds_toArray, List.set_cons_zero, List.set_cons_succ]
          refine wpAnyT_two' (i := 4) (j := 6) hO rfl rfl (by kernel_rfl) (by kernel_rfl) (by kernel_rfl) (fun K hK => ?_) (fun K hK => ?_)
          · refine oper_append0 tyFiles hown0 (H1W.out.kept0 kA) (fileCells_one hSl1.out) (by simp only [maxLen]; omega) (by omega) (by simp; omega) (.tmp 26) (.tmp 29) rfl rfl rfl ?_
            intro b1 d1 w1 hown1 hk1 hg1
            have k1 : Kept [] W w1 := kA.trans hk1 (fun i hi => .inr (by simp [Value.ownBlock] at hi; omega))
            have hS1 : (fun w' : World => w'.cell? ⟨w.heap.size, 0, none⟩ = some (.string s) ∧ w'.cell? ⟨w.heap.size, 1, none⟩ = some (.slice bb bn bc)) w1 := ⟨k1.cell hSS.1 (by simp), k1.cell hSS.2 (by simp)⟩
            refine hK _ _ (.inr hS1) ?_
            clear hK K
            try simp only [Act.put, List.setIfInBounds_toArray, List.set_cons_zero, List.set_cons_succ]
            clear hown0 hk1 hg1 hSA kA
            refine wpAnyT_one' (i := 6) hO rfl (by kernel_rfl) (by kernel_rfl) (fun K hK => ?_)
            go_simp
            have kB : Kept [] w1 (w1.alloc (.cells #[.string s, .slice bb bn bc] 58)) := (Kept.refl [] w1).alloc _
            have hone := Lib.hid (slc_new w1 [.string s, .slice bb bn bc] 2 1 58 w1.heap.size rfl rfl (by decide))
            have hown2 := Lib.hid (row_kept hown1 kB (by simp))
            have k2 := Lib.hid (k1.then kB)
            have hS2 : (fun w' : World => w'.cell? ⟨w.heap.size, 0, none⟩ = some (.string s) ∧ w'.cell? ⟨w.heap.size, 1, none⟩ = some (.slice bb bn bc)) (w1.alloc (.cells #[.string s, .slice bb bn bc] 58)) := ⟨k2.out.cell hSS.1 (by simp), k2.out.cell hSS.2 (by simp)⟩
            refine hK _ _ (.inr hS2) ?_
            clear hK K
            try simp only [Act.put, List.setIfInBounds_toArray, List.set_cons_zero, List.set_cons_succ]
            clear hSS hS1 k1 hown1 kB
            have hSS := hS2
            clear hS2
            revert hSS k2 hown2 hone
            generalize w1.heap.size = G
            generalize w1.alloc (.cells #[.string s, .slice bb bn bc] 58) = w2
            intro hone hown2 k2 hSS
            clear w1
            refine wpAnyT_one' (i := 7) hO rfl (by kernel_rfl) (by kernel_rfl) (fun K hK => ?_)
            have hsz2 := k2.out.size
            refine oper_append tyFiles hown2.out hone.out (by simp [Value.oneCell']) (by simp only [maxLen]; omega) (by omega) (by omega) (.tmp 30) (.tmp 32) rfl rfl rfl ?_
            intro b3 d3 w3 hown3 hk3 hg3
            have hlt2 := hown2.out.lt
            have k3 : Kept [] w w3 := (HK1.out.then k2.out).trans hk3 (fun i hi => .inr (by simp only [Option.mem_toList] at hi; exact Nat.le_of_succ_le (hlt2 i hi).1))
            have hS3 : (fun w' : World => w'.cell? ⟨w.heap.size, 0, none⟩ = some (.string s) ∧ w'.cell? ⟨w.heap.size, 1, none⟩ = some (.slice bb bn bc)) w3 := by
              have hx : w.heap.size ∉ (Value.slice b1 k d1).ownBlock.toList := fun hx => by have := (hlt2 _ (Option.mem_toList.1 hx)).1; omega
              exact ⟨hk3.cell hSS.1 hx, hk3.cell hSS.2 hx⟩
            refine hK _ _ (.inr hS3) ?_
            clear hK K
            try simp only [Act.put, List.setIfInBounds_toArray, List.set_cons_zero, List.set_cons_succ]
            clear hSS
            have hSS := hS3
            clear hS3
            refine wpAnyT_one' (i := 12) hO rfl (by kernel_rfl) (by kernel_rfl) (fun K hK => ?_)
            have hsz3 : w.heap.size + 1 ≤ w3.heap.size := by have := k2.out.size; have := hk3.size; omega
            refine oper_append tyFiles hown3 (H2.out.kept0 k3) (fileCells_one hSl2.out) (by simp only [maxLen]; omega) (by omega) hsz3 (.tmp 33) (.tmp 37) rfl rfl rfl ?_
            intro b4 d4 w4 hown4 hk4 hg4
            have hlt3 := hown3.lt
            have k4 : Kept [] w w4 := k3.trans hk4 (fun i hi => .inr (by simp only [Option.mem_toList] at hi; exact Nat.le_of_succ_le (hlt3 i hi).1))
            have hS4 : (fun w' : World => w'.cell? ⟨w.heap.size, 0, none⟩ = some (.string s) ∧ w'.cell? ⟨w.heap.size, 1, none⟩ = some (.slice bb bn bc)) w4 := by
              have hx : w.heap.size ∉ (Value.slice b3 (k + 1) d3).ownBlock.toList := fun hx => by have := (hlt3 _ (Option.mem_toList.1 hx)).1; omega
              exact ⟨hk4.cell hSS.1 hx, hk4.cell hSS.2 hx⟩
            refine hK _ _ (.inr hS4) ?_
            clear hK K
            try simp only [Act.put, List.setIfInBounds_toArray, List.set_cons_zero, List.set_cons_succ]
            clear hSS
            have hSS := hS4
            clear hS4
            refine wpAnyT_take' (i := 13) (v := ?_) hO rfl rfl (by kernel_rfl) (by kernel_rfl) (by kernel_rfl) (by kernel_rfl) hQp (Or.inl ⟨by kernel_rfl, fun w hSw => ?_⟩) hSS ?_
            rotate_left
            · obtain ⟨s0, s1⟩ := hSw; go_simp; try with_reducible rfl
            try simp only [Act.put, List.setIfInBounds_toArray, List.set_cons_zero, List.set_cons_succ]
            refine wpAnyT_done' hO (by kernel_rfl) ?_ _
            subst hR
            go_wp2_with fail
            go_ret
            refine ⟨_, rfl, _, HE.out, ?_, k4⟩
            have e1 : (l.take k ++ (s, .slice bb bn bc) :: l.drop (k + 1)).length = k + 1 + (l.length - (k + 1)) := by simp; omega
            rw [e1, fileCells_app, fileCells_cons]
            have h4 := row_base hown4 (base' := w.heap.size) (fun g hg => by have := (hown4.lt g hg).1; omega)
            simpa using h4
          · go_simp
            have kB : Kept [] W ((W.alloc (.cells #[] 58)).alloc (.cells #[.string s, .slice bb bn bc] 58)) := kA.alloc _
            have hone0 := slc_new (W.alloc (.cells #[] 58)) [.string s, .slice bb bn bc] 2 1 58 (W.heap.size + 1) (by simp) rfl (by decide)
            have hown1 := row_kept hown0 ((Kept.refl [] (W.alloc (.cells #[] 58))).alloc (.cells #[.string s, .slice bb bn bc] 58)) (by simp)
            have hS1 : (fun w' : World => w'.cell? ⟨w.heap.size, 0, none⟩ = some (.string s) ∧ w'.cell? ⟨w.heap.size, 1, none⟩ = some (.slice bb bn bc)) ((W.alloc (.cells #[] 58)).alloc (.cells #[.string s, .slice bb bn bc] 58)) := ⟨kB.cell hSS.1 (by simp), kB.cell hSS.2 (by simp)⟩
            refine hK _ _ (.inr hS1) ?_
            clear hK K
            try simp only [Act.put, List.setIfInBounds_toArray, List.set_cons_zero, List.set_cons_succ]
            refine wpAnyT_one' (i := 4) hO rfl (by kernel_rfl) (by kernel_rfl) (fun K hK => ?_)
            refine oper_append0 tyFiles hown1 (H1W.out.kept0 kB) (fileCells_one hSl1.out) (by simp only [maxLen]; omega) (by omega) (by simp; omega) (.tmp 26) (.tmp 29) rfl rfl rfl ?_
            intro b1 d1 w2 hown2' hk2 hg2
            have k2 := Lib.hid (kB.trans hk2 (fun i hi => .inr (by simp [Value.ownBlock] at hi; omega)))
            have hone := Lib.hid (hone0.kept hk2 (by intro g hg hx; simp [Value.ownBlock] at hx; simp [vblk] at hg; omega))
            have hown2 := Lib.hid hown2'
            have hS2 : (fun w' : World => w'.cell? ⟨w.heap.size, 0, none⟩ = some (.string s) ∧ w'.cell? ⟨w.heap.size, 1, none⟩ = some (.slice bb bn bc)) w2 := ⟨k2.out.cell hSS.1 (by simp), k2.out.cell hSS.2 (by simp)⟩
            refine hK _ _ (.inr hS2) ?_
            clear hK K
            try simp only [Act.put, List.setIfInBounds_toArray, List.set_cons_zero, List.set_cons_succ]
            clear hSS hS1 hown1 kB hone0 hk2 hg2 hown2'
            have hSS := hS2
            clear hS2
            refine wpAnyT_one' (i := 7) hO rfl (by kernel_rfl) (by kernel_rfl) (fun K hK => ?_)
            have hsz2 := k2.out.size
            refine oper_append tyFiles hown2.out hone.out (by simp [Value.oneCell']) (by simp only [maxLen]; omega) (by omega) (by omega) (.tmp 30) (.tmp 32) rfl rfl rfl ?_
            intro b3 d3 w3 hown3 hk3 hg3
            have hlt2 := hown2.out.lt
            have k3 : Kept [] w w3 := (HK1.out.then k2.out).trans hk3 (fun i hi => .inr (by simp only [Option.mem_toList] at hi; exact Nat.le_of_succ_le (hlt2 i hi).1))
            have hS3 : (fun w' : World => w'.cell? ⟨w.heap.size, 0, none⟩ = some (.string s) ∧ w'.cell? ⟨w.heap.size, 1, none⟩ = some (.slice bb bn bc)) w3 := by
              have hx : w.heap.size ∉ (Value.slice b1 k d1).ownBlock.toList := fun hx => by have := (hlt2 _ (Option.mem_toList.1 hx)).1; omega
              exact ⟨hk3.cell hSS.1 hx, hk3.cell hSS.2 hx⟩
            refine hK _ _ (.inr hS3) ?_
            clear hK K
            try simp only [Act.put, List.setIfInBounds_toArray, List.set_cons_zero, List.set_cons_succ]
            clear hSS
            have hSS := hS3
            clear hS3
            refine wpAnyT_one' (i := 12) hO rfl (by kernel_rfl) (by kernel_rfl) (fun K hK => ?_)
            have hsz3 : w.heap.size + 1 ≤ w3.heap.size := by have := k2.out.size; have := hk3.size; omega
            refine oper_append tyFiles hown3 (H2.out.kept0 k3) (fileCells_one hSl2.out) (by simp only [maxLen]; omega) (by omega) hsz3 (.tmp 33) (.tmp 37) rfl rfl rfl ?_
            intro b4 d4 w4 hown4 hk4 hg4
            have hlt3 := hown3.lt
            have k4 : Kept [] w w4 := k3.trans hk4 (fun i hi => .inr (by simp only [Option.mem_toList] at hi; exact Nat.le_of_succ_le (hlt3 i hi).1))
            have hS4 : (fun w' : World => w'.cell? ⟨w.heap.size, 0, none⟩ = some (.string s) ∧ w'.cell? ⟨w.heap.size, 1, none⟩ = some (.slice bb bn bc)) w4 := by
              have hx : w.heap.size ∉ (Value.slice b3 (k + 1) d3).ownBlock.toList := fun hx => by have := (hlt3 _ (Option.mem_toList.1 hx)).1; omega
              exact ⟨hk4.cell hSS.1 hx, hk4.cell hSS.2 hx⟩
            refine hK _ _ (.inr hS4) ?_
            clear hK K
            try simp only [Act.put, List.setIfInBounds_toArray, List.set_cons_zero, List.set_cons_succ]
            clear hSS
            have hSS := hS4
            clear hS4
            refine wpAnyT_take' (i := 13) (v := ?_) hO rfl rfl (by kernel_rfl) (by kernel_rfl) (by kernel_rfl) (by kernel_rfl) hQp (Or.inl ⟨by kernel_rfl, fun w hSw => ?_⟩) hSS ?_
            rotate_left
            · obtain ⟨s0, s1⟩ := hSw; go_simp; try with_reducible rfl
            try simp only [Act.put, List.setIfInBounds_toArray, List.set_cons_zero, List.set_cons_succ]
            refine wpAnyT_done' hO (by kernel_rfl) ?_ _
            subst hR
            go_wp2_with fail
            go_ret
            refine ⟨_, rfl, _, HE.out, ?_, k4⟩
            have e1 : (l.take k ++ (s, .slice bb bn bc) :: l.drop (k + 1)).length = k + 1 + (l.length - (k + 1)) := by simp; omega
            rw [e1, fileCells_app, fileCells_cons]
            have h4 := row_base hown4 (base' := w.heap.size) (fun g hg => by have := (hown4.lt g hg).1; omega)
            simpa using h4
        · go_simp
          have kA : Kept [] W (W.alloc (.cells #[.string s, .slice bb bn bc] 58)) := (Kept.refl [] W).alloc _
          have hone00 := slc_new W [.string s, .slice bb bn bc] 2 1 58 W.heap.size rfl rfl (by decide)
          have hSA : (fun w' : World => w'.cell? ⟨w.heap.size, 0, none⟩ = some (.string s) ∧ w'.cell? ⟨w.heap.size, 1, none⟩ = some (.slice bb bn bc)) (W.alloc (.cells #[.string s, .slice bb bn bc] 58)) := ⟨kA.cell hSS.1 (by simp), kA.cell hSS.2 (by simp)⟩
          refine hK _ _ (.inr hSA) ?_
          clear hK K
          try simp only [Act.put, List.setIfInBounds_toArray, List.set_cons_zero, List.set_cons_succ]
          refine wpAnyT_one' (i := 0) hO rfl (by kernel_rfl) (by kernel_rfl) (fun K hK => ?_)
          go_simp
          have kB : Kept [] W ((W.alloc (.cells #[.string s, .slice bb bn bc] 58)).alloc (.cells #[] 58)) := kA.alloc _
          have hown1 := World.ownsRow_made (base := w.heap.size + 1) (size := 2) (e := 58) (W.alloc (.cells #[.string s, .slice bb bn bc] 58)) #[] 0 (by simp; omega) (by decide) rfl
          have hone0 := hone00.kept0 ((Kept.refl [] (W.alloc (.cells #[.string s, .slice bb bn bc] 58))).alloc (.cells #[] 58))
          rw [heap_size_alloc'] at hown1
          have hS1 : (fun w' : World => w'.cell? ⟨w.heap.size, 0, none⟩ = some (.string s) ∧ w'.cell? ⟨w.heap.size, 1, none⟩ = some (.slice bb bn bc)) ((W.alloc (.cells #[.string s, .slice bb bn bc] 58)).alloc (.cells #[] 58)) := ⟨kB.cell hSS.1 (by simp), kB.cell hSS.2 (by simp)⟩
          refine hK _ _ (.inr hS1) ?_
          clear hK K
          try simp only [Act.put, List.setIfInBounds_toArray, List.set_cons_zero, List.set_cons_succ]
          refine wpAnyT_one' (i := 4) hO rfl (by kernel_rfl) (by kernel_rfl) (fun K hK => ?_)
          refine oper_append0 tyFiles hown1 (H1W.out.kept0 kB) (fileCells_one hSl1.out) (by simp only [maxLen]; omega) (by omega) (by simp; omega) (.tmp 26) (.tmp 29) rfl rfl rfl ?_
          intro b1 d1 w2 hown2' hk2 hg2
          have k2 := Lib.hid (kB.trans hk2 (fun i hi => .inr (by simp [Value.ownBlock] at hi; omega)))
          have hone := Lib.hid (hone0.kept hk2 (by intro g hg hx; simp [Value.ownBlock] at hx; simp [vblk] at hg; omega))
          have hown2 := Lib.hid hown2'
          have hS2 : (fun w' : World => w'.cell? ⟨w.heap.size, 0, none⟩ = some (.string s) ∧ w'.cell? ⟨w.heap.size, 1, none⟩ = some (.slice bb bn bc)) w2 := ⟨k2.out.cell hSS.1 (by simp), k2.out.cell hSS.2 (by simp)⟩
          refine hK _ _ (.inr hS2) ?_
          clear hK K
          try simp only [Act.put, List.setIfInBounds_toArray, List.set_cons_zero, List.set_cons_succ]
          clear hSS hS1 hown1 kB hone0 hk2 hg2 hown2'
          have hSS := hS2
          clear hS2
          refine wpAnyT_one' (i := 7) hO rfl (by kernel_rfl) (by kernel_rfl) (fun K hK => ?_)
          have hsz2 := k2.out.size
          refine oper_append tyFiles hown2.out hone.out (by simp [Value.oneCell']) (by simp only [maxLen]; omega) (by omega) (by omega) (.tmp 30) (.tmp 32) rfl rfl rfl ?_
          intro b3 d3 w3 hown3 hk3 hg3
          have hlt2 := hown2.out.lt
          have k3 : Kept [] w w3 := (HK1.out.then k2.out).trans hk3 (fun i hi => .inr (by simp only [Option.mem_toList] at hi; exact Nat.le_of_succ_le (hlt2 i hi).1))
          have hS3 : (fun w' : World => w'.cell? ⟨w.heap.size, 0, none⟩ = some (.string s) ∧ w'.cell? ⟨w.heap.size, 1, none⟩ = some (.slice bb bn bc)) w3 := by
            have hx : w.heap.size ∉ (Value.slice b1 k d1).ownBlock.toList := fun hx => by have := (hlt2 _ (Option.mem_toList.1 hx)).1; omega
            exact ⟨hk3.cell hSS.1 hx, hk3.cell hSS.2 hx⟩
          refine hK _ _ (.inr hS3) ?_
          clear hK K
          try simp only [Act.put, List.setIfInBounds_toArray, List.set_cons_zero, List.set_cons_succ]
          clear hSS
          have hSS := hS3
          clear hS3
          refine wpAnyT_one' (i := 12) hO rfl (by kernel_rfl) (by kernel_rfl) (fun K hK => ?_)
          have hsz3 : w.heap.size + 1 ≤ w3.heap.size := by have := k2.out.size; have := hk3.size; omega
          refine oper_append tyFiles hown3 (H2.out.kept0 k3) (fileCells_one hSl2.out) (by simp only [maxLen]; omega) (by omega) hsz3 (.tmp 33) (.tmp 37) rfl rfl rfl ?_
          intro b4 d4 w4 hown4 hk4 hg4
          have hlt3 := hown3.lt
          have k4 : Kept [] w w4 := k3.trans hk4 (fun i hi => .inr (by simp only [Option.mem_toList] at hi; exact Nat.le_of_succ_le (hlt3 i hi).1))
          have hS4 : (fun w' : World => w'.cell? ⟨w.heap.size, 0, none⟩ = some (.string s) ∧ w'.cell? ⟨w.heap.size, 1, none⟩ = some (.slice bb bn bc)) w4 := by
            have hx : w.heap.size ∉ (Value.slice b3 (k + 1) d3).ownBlock.toList := fun hx => by have := (hlt3 _ (Option.mem_toList.1 hx)).1; omega
            exact ⟨hk4.cell hSS.1 hx, hk4.cell hSS.2 hx⟩
          refine hK _ _ (.inr hS4) ?_
          clear hK K
          try simp only [Act.put, List.setIfInBounds_toArray, List.set_cons_zero, List.set_cons_succ]
          clear hSS
          have hSS := hS4
          clear hS4
          refine wpAnyT_take' (i := 13) (v := ?_) hO rfl rfl (by kernel_rfl) (by kernel_rfl) (by kernel_rfl) (by kernel_rfl) hQp (Or.inl ⟨by kernel_rfl, fun w hSw => ?_⟩) hSS ?_
          rotate_left
          · obtain ⟨s0, s1⟩ := hSw; go_simp; try with_reducible rfl
          try simp only [Act.put, List.setIfInBounds_toArray, List.set_cons_zero, List.set_cons_succ]
          refine wpAnyT_done' hO (by kernel_rfl) ?_ _
          subst hR
          go_wp2_with fail
          go_ret
          refine ⟨_, rfl, _, HE.out, ?_, k4⟩
          have e1 : (l.take k ++ (s, .slice bb bn bc) :: l.drop (k + 1)).length = k + 1 + (l.length - (k + 1)) := by simp; omega
          rw [e1, fileCells_app, fileCells_cons]
          have h4 := row_base hown4 (base' := w.heap.size) (fun g hg => by have := (hown4.lt g hg).1; omega)
          simpa using h4
      · rw [decide_eq_false he] at hb
        have HE := Lib.hid (HX.out he)
        clear he HX HY
        go_wp2_with fail
        go_round
        case rel => exact ⟨k + 1, by go_num, by omega, HE.out⟩
        case measure => simp [intOf]; omega
    · obtain rfl : k = l.length := by omega
      go_wp2_with fail
      go_loop [9] (fun i => ∃ k : Nat, i = .int .i64 k ∧ k ≤ l.length ∧ ∀ (j : Nat) (hj : j < l.length), j < k → less l[j].1 s = true) (fun i => l.length - (intOf i).toNat)
      case atStart => exact ⟨0, rfl, Nat.zero_le _, fun j _ h => absurd h (Nat.not_lt_zero j)⟩
      case round =>
        obtain ⟨k, rfl, hk, hup⟩ := hrel
        have HUP := Lib.hid hup
        clear hup
        have hPT : Hid ((∀ hi : k < l.length, less l[k].1 s = false) → PutTo s (.slice bb bn bc) l (l.take k ++ (s, .slice bb bn bc) :: l.drop k)) := Lib.hid (fun h => .inr ⟨fun j hj => HNO.out j hj hj, k, hk, HUP.out, h, rfl⟩)
        by_cases hlt : k < l.length
        · have hltI : (k : Int) < l.length := by omega
          obtain ⟨g, o, rfl, q0, q1⟩ := files_at H.out HK0.out k hlt
          have HX : Hid (less l[k].1 s = true → ∀ (j : Nat) (hj : j < l.length), j < k + 1 → less l[j].1 s = true) := Lib.hid (by
            intro hx j hj hjk
            by_cases e : j = k
            · subst e; exact hx
            · exact HUP.out j hj (by omega))
          have hPT2 : Hid (less l[k].1 s = false → PutTo s (.slice bb bn bc) l (l.take k ++ (s, .slice bb bn bc) :: l.drop k)) := Lib.hid (fun h => hPT.out (fun _ => h))
          clear hPT
          revert q0 q1 HX hPT2
          generalize l[k] = r
          obtain ⟨nm, bd⟩ := r
          intro q0 q1 HX hPT2
          simp only at q0 q1 HX hPT2
          cases hb : less nm s
          · have HE := Lib.hid (hPT2.out hb)
            unfold less at hb
            obtain ⟨a1, c1, hr1, hs1, hg1⟩ := slc_upto tyFiles H.out k hk
            obtain ⟨a2, c2, hr2, hs2, hg2⟩ := slc_from tyFiles H.out k hk
            rw [fileCells_take] at hs1
            rw [fileCells_drop] at hs2
            have H1 := Lib.hid hs1
            have H2 := Lib.hid hs2
            go_wp2_with fail
            clear hb HX hPT2 hs1 hs2 hg1 hg2 q0 q1 HNO HUP
            have hSS : (fun w' : World => w'.cell? ⟨w.heap.size, 0, none⟩ = some (.string s) ∧ w'.cell? ⟨w.heap.size, 1, none⟩ = some (.slice bb bn bc)) (w.alloc (.cells #[.string s, .slice bb bn bc] 58)).drew := HP.out
            refine wp_region_last' (n := 13) (fun w' : World => w'.cell? ⟨w.heap.size, 0, none⟩ = some (.string s) ∧ w'.cell? ⟨w.heap.size, 1, none⟩ = some (.slice bb bn bc)) 13 (by kernel_rfl) (by kernel_rfl) ?_
            change wpAnyT _ _ _ _ _ _ _ _ _ (w.alloc (.cells #[.string s, .slice bb bn bc] 58)).drew
            have HK1 := Lib.hid HK0.out.drew
            have hB : w.heap.size < (w.alloc (.cells #[.string s, .slice bb bn bc] 58)).drew.heap.size := by simp [World.drew]
            clear HP HK0
            revert hSS HK1 hB
            generalize (w.alloc (.cells #[.string s, .slice bb bn bc] 58)).drew = W
            intro hSS HK1 hB
            have H1W := Lib.hid (H1.out.kept0 HK1.out)
            have H2W := Lib.hid (H2.out.kept0 HK1.out)
            have hSl1 : Hid (Sl (l.take k)) := Lib.hid (fun r hr => HS.out r (List.mem_of_mem_take hr))
            have hSl2 : Hid (Sl (l.drop k)) := Lib.hid (fun r hr => HS.out r (List.mem_of_mem_drop hr))
            have hll := HL.out
            refine wpAnyT_start ?_
            intro O R hO hR
            have hQp : ∀ c a (d : Nat) v w, R (.panic c) (a.put (some d) v) w → R (.panic c) a w := by subst hR; exact fun _ _ _ _ _ h => h
            refine wpAnyT_take' (i := 1) (v := ?_) hO rfl rfl (by kernel_rfl) (by kernel_rfl) (by kernel_rfl) (by kernel_rfl) hQp (Or.inl ⟨by kernel_rfl, fun w hSw => ?_⟩) hSS ?_
            rotate_left
            · obtain ⟨s0, s1⟩ := hSw; go_simp; try with_reducible rfl
            try simp only [Act.put, List.setIfInBounds_toArray, List.set_cons_zero, List.set_cons_succ]
            refine wpAnyT_take' (i := 2) (v := ?_) hO rfl rfl (by kernel_rfl) (by kernel_rfl) (by kernel_rfl) (by kernel_rfl) hQp (Or.inl ⟨by kernel_rfl, fun w hSw => ?_⟩) hSS ?_
            rotate_left
            · obtain ⟨s0, s1⟩ := hSw; go_simp; try with_reducible rfl
            try simp only [Act.put, List.setIfInBounds_toArray, List.set_cons_zero, List.set_cons_succ]
            refine wpAnyT_take' (i := 3) (v := ?_) hO rfl rfl (by kernel_rfl) (by kernel_rfl) (by kernel_rfl) (by kernel_rfl) hQp (Or.inl ⟨by kernel_rfl, fun w hSw => ?_⟩) hSS ?_
            rotate_left
            · obtain ⟨s0, s1⟩ := hSw; go_simp; try with_reducible rfl
            try simp only [Act.put, List.setIfInBounds_toArray, List.set_cons_zero, List.set_cons_succ]
            refine wpAnyT_take' (i := 5) (v := ?_) hO rfl rfl (by kernel_rfl) (by kernel_rfl) (by kernel_rfl) (by kernel_rfl) hQp (Or.inl ⟨by kernel_rfl, fun w hSw => ?_⟩) hSS ?_
            rotate_left
            · obtain ⟨s0, s1⟩ := hSw; go_simp; try with_reducible rfl
            try simp only [Act.put, List.setIfInBounds_toArray, List.set_cons_zero, List.set_cons_succ]
            refine wpAnyT_take' (i := 8) (v := ?_) hO rfl rfl (by kernel_rfl) (by kernel_rfl) (by kernel_rfl) (by kernel_rfl) hQp (Or.inl ⟨by kernel_rfl, fun w hSw => ?_⟩) hSS ?_
            rotate_left
            · obtain ⟨s0, s1⟩ := hSw; go_simp; try with_reducible rfl
            try simp only [Act.put, List.setIfInBounds_toArray, List.set_cons_zero, List.set_cons_succ]
            refine wpAnyT_take' (i := 9) (v := ?_) hO rfl rfl (by kernel_rfl) (by kernel_rfl) (by kernel_rfl) (by kernel_rfl) hQp (Or.inl ⟨by kernel_rfl, fun w hSw => ?_⟩) hSS ?_
            rotate_left
            · obtain ⟨s0, s1⟩ := hSw; go_simp; try with_reducible rfl
            try simp only [Act.put, List.setIfInBounds_toArray, List.set_cons_zero, List.set_cons_succ]
            refine wpAnyT_take' (i := 10) (v := ?_) hO rfl rfl (by kernel_rfl) (by kernel_rfl) (by kernel_rfl) (by kernel_rfl) hQp (Or.inl ⟨by kernel_rfl, fun w hSw => ?_⟩) hSS ?_
            rotate_left
            · obtain ⟨s0, s1⟩ := hSw; go_simp; try with_reducible rfl
            try simp only [Act.put, List.setIfInBounds_toArray, List.set_cons_zero, List.set_cons_succ]
            refine wpAnyT_two' (i := 0) (j := 6) hO rfl rfl (by kernel_rfl) (by kernel_rfl) (by kernel_rfl) (fun K hK => ?_) (fun K hK => ?_)
            · go_simp
              have kA : Kept [] W (W.alloc (.cells #[] 58)) := (Kept.refl [] W).alloc _
              have hown0 := World.ownsRow_made (base := w.heap.size + 1) (size := 2) (e := 58) W #[] 0 hB (by decide) rfl
              have hSA : (fun w' : World => w'.cell? ⟨w.heap.size, 0, none⟩ = some (.string s) ∧ w'.cell? ⟨w.heap.size, 1, none⟩ = some (.slice bb bn bc)) (W.alloc (.cells #[] 58)) := ⟨kA.cell hSS.1 (by simp), kA.cell hSS.2 (by simp)⟩
              refine hK _ _ (.inr hSA) ?_
              clear hK K
              try simp only [Act.put, List.setIfInBounds_toArray, List.set_cons_zero, List.set_cons_succ]
              refine wpAnyT_two' (i := 4) (j := 6) hO rfl rfl (by kernel_rfl) (by kernel_rfl) (by kernel_rfl) (fun K hK => ?_) (fun K hK => ?_)
              · refine oper_append0 tyFiles hown0 (H1W.out.kept0 kA) (fileCells_one hSl1.out) (by simp only [maxLen]; omega) (by omega) (by simp; omega) (.tmp 54) (.tmp 57) rfl rfl rfl ?_
                intro b1 d1 w1 hown1 hk1 hg1
                have k1 : Kept [] W w1 := kA.trans hk1 (fun i hi => .inr (by simp [Value.ownBlock] at hi; omega))
                have hS1 : (fun w' : World => w'.cell? ⟨w.heap.size, 0, none⟩ = some (.string s) ∧ w'.cell? ⟨w.heap.size, 1, none⟩ = some (.slice bb bn bc)) w1 := ⟨k1.cell hSS.1 (by simp), k1.cell hSS.2 (by simp)⟩
                refine hK _ _ (.inr hS1) ?_
                clear hK K
                try simp only [Act.put, List.setIfInBounds_toArray, List.set_cons_zero, List.set_cons_succ]
                clear hown0 hk1 hg1 hSA kA
                refine wpAnyT_one' (i := 6) hO rfl (by kernel_rfl) (by kernel_rfl) (fun K hK => ?_)
                go_simp
                have kB : Kept [] w1 (w1.alloc (.cells #[.string s, .slice bb bn bc] 58)) := (Kept.refl [] w1).alloc _
                have hone := Lib.hid (slc_new w1 [.string s, .slice bb bn bc] 2 1 58 w1.heap.size rfl rfl (by decide))
                have hown2 := Lib.hid (row_kept hown1 kB (by simp))
                have k2 := Lib.hid (k1.then kB)
                have hS2 : (fun w' : World => w'.cell? ⟨w.heap.size, 0, none⟩ = some (.string s) ∧ w'.cell? ⟨w.heap.size, 1, none⟩ = some (.slice bb bn bc)) (w1.alloc (.cells #[.string s, .slice bb bn bc] 58)) := ⟨k2.out.cell hSS.1 (by simp), k2.out.cell hSS.2 (by simp)⟩
                refine hK _ _ (.inr hS2) ?_
                clear hK K
                try simp only [Act.put, List.setIfInBounds_toArray, List.set_cons_zero, List.set_cons_succ]
                clear hSS hS1 k1 hown1 kB
                have hSS := hS2
                clear hS2
                revert hSS k2 hown2 hone
                generalize w1.heap.size = G
                generalize w1.alloc (.cells #[.string s, .slice bb bn bc] 58) = w2
                intro hone hown2 k2 hSS
                clear w1
                refine wpAnyT_one' (i := 7) hO rfl (by kernel_rfl) (by kernel_rfl) (fun K hK => ?_)
                have hsz2 := k2.out.size
                refine oper_append tyFiles hown2.out hone.out (by simp [Value.oneCell']) (by simp only [maxLen]; omega) (by omega) (by omega) (.tmp 58) (.tmp 60) rfl rfl rfl ?_
                intro b3 d3 w3 hown3 hk3 hg3
                have hlt2 := hown2.out.lt
                have k3 : Kept [] w w3 := (HK1.out.then k2.out).trans hk3 (fun i hi => .inr (by simp only [Option.mem_toList] at hi; exact Nat.le_of_succ_le (hlt2 i hi).1))
                have hS3 : (fun w' : World => w'.cell? ⟨w.heap.size, 0, none⟩ = some (.string s) ∧ w'.cell? ⟨w.heap.size, 1, none⟩ = some (.slice bb bn bc)) w3 := by
                  have hx : w.heap.size ∉ (Value.slice b1 k d1).ownBlock.toList := fun hx => by have := (hlt2 _ (Option.mem_toList.1 hx)).1; omega
                  exact ⟨hk3.cell hSS.1 hx, hk3.cell hSS.2 hx⟩
                refine hK _ _ (.inr hS3) ?_
                clear hK K
                try simp only [Act.put, List.setIfInBounds_toArray, List.set_cons_zero, List.set_cons_succ]
                clear hSS
                have hSS := hS3
                clear hS3
                refine wpAnyT_one' (i := 11) hO rfl (by kernel_rfl) (by kernel_rfl) (fun K hK => ?_)
                have hsz3 : w.heap.size + 1 ≤ w3.heap.size := by have := k2.out.size; have := hk3.size; omega
                refine oper_append tyFiles hown3 (H2.out.kept0 k3) (fileCells_one hSl2.out) (by simp only [maxLen]; omega) (by omega) hsz3 (.tmp 61) (.tmp 64) rfl rfl rfl ?_
                intro b4 d4 w4 hown4 hk4 hg4
                have hlt3 := hown3.lt
                have k4 : Kept [] w w4 := k3.trans hk4 (fun i hi => .inr (by simp only [Option.mem_toList] at hi; exact Nat.le_of_succ_le (hlt3 i hi).1))
                have hS4 : (fun w' : World => w'.cell? ⟨w.heap.size, 0, none⟩ = some (.string s) ∧ w'.cell? ⟨w.heap.size, 1, none⟩ = some (.slice bb bn bc)) w4 := by
                  have hx : w.heap.size ∉ (Value.slice b3 (k + 1) d3).ownBlock.toList := fun hx => by have := (hlt3 _ (Option.mem_toList.1 hx)).1; omega
                  exact ⟨hk4.cell hSS.1 hx, hk4.cell hSS.2 hx⟩
                refine hK _ _ (.inr hS4) ?_
                clear hK K
                try simp only [Act.put, List.setIfInBounds_toArray, List.set_cons_zero, List.set_cons_succ]
                clear hSS
                have hSS := hS4
                clear hS4
                refine wpAnyT_take' (i := 12) (v := ?_) hO rfl rfl (by kernel_rfl) (by kernel_rfl) (by kernel_rfl) (by kernel_rfl) hQp (Or.inl ⟨by kernel_rfl, fun w hSw => ?_⟩) hSS ?_
                rotate_left
                · obtain ⟨s0, s1⟩ := hSw; go_simp; try with_reducible rfl
                try simp only [Act.put, List.setIfInBounds_toArray, List.set_cons_zero, List.set_cons_succ]
                refine wpAnyT_done' hO (by kernel_rfl) ?_ _
                subst hR
                go_wp2_with fail
                go_ret
                refine ⟨_, rfl, _, HE.out, ?_, k4⟩
                have e1 : (l.take k ++ (s, .slice bb bn bc) :: l.drop k).length = k + 1 + (l.length - k) := by simp; omega
                rw [e1, fileCells_app, fileCells_cons]
                have h4 := row_base hown4 (base' := w.heap.size) (fun g hg => by have := (hown4.lt g hg).1; omega)
                simpa using h4
              · go_simp
                have kB : Kept [] W ((W.alloc (.cells #[] 58)).alloc (.cells #[.string s, .slice bb bn bc] 58)) := kA.alloc _
                have hone0 := slc_new (W.alloc (.cells #[] 58)) [.string s, .slice bb bn bc] 2 1 58 (W.heap.size + 1) (by simp) rfl (by decide)
                have hown1 := row_kept hown0 ((Kept.refl [] (W.alloc (.cells #[] 58))).alloc (.cells #[.string s, .slice bb bn bc] 58)) (by simp)
                have hS1 : (fun w' : World => w'.cell? ⟨w.heap.size, 0, none⟩ = some (.string s) ∧ w'.cell? ⟨w.heap.size, 1, none⟩ = some (.slice bb bn bc)) ((W.alloc (.cells #[] 58)).alloc (.cells #[.string s, .slice bb bn bc] 58)) := ⟨kB.cell hSS.1 (by simp), kB.cell hSS.2 (by simp)⟩
                refine hK _ _ (.inr hS1) ?_
                clear hK K
                try simp only [Act.put, List.setIfInBounds_toArray, List.set_cons_zero, List.set_cons_succ]
                refine wpAnyT_one' (i := 4) hO rfl (by kernel_rfl) (by kernel_rfl) (fun K hK => ?_)
                refine oper_append0 tyFiles hown1 (H1W.out.kept0 kB) (fileCells_one hSl1.out) (by simp only [maxLen]; omega) (by omega) (by simp; omega) (.tmp 54) (.tmp 57) rfl rfl rfl ?_
                intro b1 d1 w2 hown2' hk2 hg2
                have k2 := Lib.hid (kB.trans hk2 (fun i hi => .inr (by simp [Value.ownBlock] at hi; omega)))
                have hone := Lib.hid (hone0.kept hk2 (by intro g hg hx; simp [Value.ownBlock] at hx; simp [vblk] at hg; omega))
                have hown2 := Lib.hid hown2'
                have hS2 : (fun w' : World => w'.cell? ⟨w.heap.size, 0, none⟩ = some (.string s) ∧ w'.cell? ⟨w.heap.size, 1, none⟩ = some (.slice bb bn bc)) w2 := ⟨k2.out.cell hSS.1 (by simp), k2.out.cell hSS.2 (by simp)⟩
                refine hK _ _ (.inr hS2) ?_
                clear hK K
                try simp only [Act.put, List.setIfInBounds_toArray, List.set_cons_zero, List.set_cons_succ]
                clear hSS hS1 hown1 kB hone0 hk2 hg2 hown2'
                have hSS := hS2
                clear hS2
                refine wpAnyT_one' (i := 7) hO rfl (by kernel_rfl) (by kernel_rfl) (fun K hK => ?_)
                have hsz2 := k2.out.size
                refine oper_append tyFiles hown2.out hone.out (by simp [Value.oneCell']) (by simp only [maxLen]; omega) (by omega) (by omega) (.tmp 58) (.tmp 60) rfl rfl rfl ?_
                intro b3 d3 w3 hown3 hk3 hg3
                have hlt2 := hown2.out.lt
                have k3 : Kept [] w w3 := (HK1.out.then k2.out).trans hk3 (fun i hi => .inr (by simp only [Option.mem_toList] at hi; exact Nat.le_of_succ_le (hlt2 i hi).1))
                have hS3 : (fun w' : World => w'.cell? ⟨w.heap.size, 0, none⟩ = some (.string s) ∧ w'.cell? ⟨w.heap.size, 1, none⟩ = some (.slice bb bn bc)) w3 := by
                  have hx : w.heap.size ∉ (Value.slice b1 k d1).ownBlock.toList := fun hx => by have := (hlt2 _ (Option.mem_toList.1 hx)).1; omega
                  exact ⟨hk3.cell hSS.1 hx, hk3.cell hSS.2 hx⟩
                refine hK _ _ (.inr hS3) ?_
                clear hK K
                try simp only [Act.put, List.setIfInBounds_toArray, List.set_cons_zero, List.set_cons_succ]
                clear hSS
                have hSS := hS3
                clear hS3
                refine wpAnyT_one' (i := 11) hO rfl (by kernel_rfl) (by kernel_rfl) (fun K hK => ?_)
                have hsz3 : w.heap.size + 1 ≤ w3.heap.size := by have := k2.out.size; have := hk3.size; omega
                refine oper_append tyFiles hown3 (H2.out.kept0 k3) (fileCells_one hSl2.out) (by simp only [maxLen]; omega) (by omega) hsz3 (.tmp 61) (.tmp 64) rfl rfl rfl ?_
                intro b4 d4 w4 hown4 hk4 hg4
                have hlt3 := hown3.lt
                have k4 : Kept [] w w4 := k3.trans hk4 (fun i hi => .inr (by simp only [Option.mem_toList] at hi; exact Nat.le_of_succ_le (hlt3 i hi).1))
                have hS4 : (fun w' : World => w'.cell? ⟨w.heap.size, 0, none⟩ = some (.string s) ∧ w'.cell? ⟨w.heap.size, 1, none⟩ = some (.slice bb bn bc)) w4 := by
                  have hx : w.heap.size ∉ (Value.slice b3 (k + 1) d3).ownBlock.toList := fun hx => by have := (hlt3 _ (Option.mem_toList.1 hx)).1; omega
                  exact ⟨hk4.cell hSS.1 hx, hk4.cell hSS.2 hx⟩
                refine hK _ _ (.inr hS4) ?_
                clear hK K
                try simp only [Act.put, List.setIfInBounds_toArray, List.set_cons_zero, List.set_cons_succ]
                clear hSS
                have hSS := hS4
                clear hS4
                refine wpAnyT_take' (i := 12) (v := ?_) hO rfl rfl (by kernel_rfl) (by kernel_rfl) (by kernel_rfl) (by kernel_rfl) hQp (Or.inl ⟨by kernel_rfl, fun w hSw => ?_⟩) hSS ?_
                rotate_left
                · obtain ⟨s0, s1⟩ := hSw; go_simp; try with_reducible rfl
                try simp only [Act.put, List.setIfInBounds_toArray, List.set_cons_zero, List.set_cons_succ]
                refine wpAnyT_done' hO (by kernel_rfl) ?_ _
                subst hR
                go_wp2_with fail
                go_ret
                refine ⟨_, rfl, _, HE.out, ?_, k4⟩
                have e1 : (l.take k ++ (s, .slice bb bn bc) :: l.drop k).length = k + 1 + (l.length - k) := by simp; omega
                rw [e1, fileCells_app, fileCells_cons]
                have h4 := row_base hown4 (base' := w.heap.size) (fun g hg => by have := (hown4.lt g hg).1; omega)
                simpa using h4
            · go_simp
              have kA : Kept [] W (W.alloc (.cells #[.string s, .slice bb bn bc] 58)) := (Kept.refl [] W).alloc _
              have hone00 := slc_new W [.string s, .slice bb bn bc] 2 1 58 W.heap.size rfl rfl (by decide)
              have hSA : (fun w' : World => w'.cell? ⟨w.heap.size, 0, none⟩ = some (.string s) ∧ w'.cell? ⟨w.heap.size, 1, none⟩ = some (.slice bb bn bc)) (W.alloc (.cells #[.string s, .slice bb bn bc] 58)) := ⟨kA.cell hSS.1 (by simp), kA.cell hSS.2 (by simp)⟩
              refine hK _ _ (.inr hSA) ?_
              clear hK K
              try simp only [Act.put, List.setIfInBounds_toArray, List.set_cons_zero, List.set_cons_succ]
              refine wpAnyT_one' (i := 0) hO rfl (by kernel_rfl) (by kernel_rfl) (fun K hK => ?_)
              go_simp
              have kB : Kept [] W ((W.alloc (.cells #[.string s, .slice bb bn bc] 58)).alloc (.cells #[] 58)) := kA.alloc _
              have hown1 := World.ownsRow_made (base := w.heap.size + 1) (size := 2) (e := 58) (W.alloc (.cells #[.string s, .slice bb bn bc] 58)) #[] 0 (by simp; omega) (by decide) rfl
              have hone0 := hone00.kept0 ((Kept.refl [] (W.alloc (.cells #[.string s, .slice bb bn bc] 58))).alloc (.cells #[] 58))
              rw [heap_size_alloc'] at hown1
              have hS1 : (fun w' : World => w'.cell? ⟨w.heap.size, 0, none⟩ = some (.string s) ∧ w'.cell? ⟨w.heap.size, 1, none⟩ = some (.slice bb bn bc)) ((W.alloc (.cells #[.string s, .slice bb bn bc] 58)).alloc (.cells #[] 58)) := ⟨kB.cell hSS.1 (by simp), kB.cell hSS.2 (by simp)⟩
              refine hK _ _ (.inr hS1) ?_
              clear hK K
              try simp only [Act.put, List.setIfInBounds_toArray, List.set_cons_zero, List.set_cons_succ]
              refine wpAnyT_one' (i := 4) hO rfl (by kernel_rfl) (by kernel_rfl) (fun K hK => ?_)
              refine oper_append0 tyFiles hown1 (H1W.out.kept0 kB) (fileCells_one hSl1.out) (by simp only [maxLen]; omega) (by omega) (by simp; omega) (.tmp 54) (.tmp 57) rfl rfl rfl ?_
              intro b1 d1 w2 hown2' hk2 hg2
              have k2 := Lib.hid (kB.trans hk2 (fun i hi => .inr (by simp [Value.ownBlock] at hi; omega)))
              have hone := Lib.hid (hone0.kept hk2 (by intro g hg hx; simp [Value.ownBlock] at hx; simp [vblk] at hg; omega))
              have hown2 := Lib.hid hown2'
              have hS2 : (fun w' : World => w'.cell? ⟨w.heap.size, 0, none⟩ = some (.string s) ∧ w'.cell? ⟨w.heap.size, 1, none⟩ = some (.slice bb bn bc)) w2 := ⟨k2.out.cell hSS.1 (by simp), k2.out.cell hSS.2 (by simp)⟩
              refine hK _ _ (.inr hS2) ?_
              clear hK K
              try simp only [Act.put, List.setIfInBounds_toArray, List.set_cons_zero, List.set_cons_succ]
              clear hSS hS1 hown1 kB hone0 hk2 hg2 hown2'
              have hSS := hS2
              clear hS2
              refine wpAnyT_one' (i := 7) hO rfl (by kernel_rfl) (by kernel_rfl) (fun K hK => ?_)
              have hsz2 := k2.out.size
              refine oper_append tyFiles hown2.out hone.out (by simp [Value.oneCell']) (by simp only [maxLen]; omega) (by omega) (by omega) (.tmp 58) (.tmp 60) rfl rfl rfl ?_
              intro b3 d3 w3 hown3 hk3 hg3
              have hlt2 := hown2.out.lt
              have k3 : Kept [] w w3 := (HK1.out.then k2.out).trans hk3 (fun i hi => .inr (by simp only [Option.mem_toList] at hi; exact Nat.le_of_succ_le (hlt2 i hi).1))
              have hS3 : (fun w' : World => w'.cell? ⟨w.heap.size, 0, none⟩ = some (.string s) ∧ w'.cell? ⟨w.heap.size, 1, none⟩ = some (.slice bb bn bc)) w3 := by
                have hx : w.heap.size ∉ (Value.slice b1 k d1).ownBlock.toList := fun hx => by have := (hlt2 _ (Option.mem_toList.1 hx)).1; omega
                exact ⟨hk3.cell hSS.1 hx, hk3.cell hSS.2 hx⟩
              refine hK _ _ (.inr hS3) ?_
              clear hK K
              try simp only [Act.put, List.setIfInBounds_toArray, List.set_cons_zero, List.set_cons_succ]
              clear hSS
              have hSS := hS3
              clear hS3
              refine wpAnyT_one' (i := 11) hO rfl (by kernel_rfl) (by kernel_rfl) (fun K hK => ?_)
              have hsz3 : w.heap.size + 1 ≤ w3.heap.size := by have := k2.out.size; have := hk3.size; omega
              refine oper_append tyFiles hown3 (H2.out.kept0 k3) (fileCells_one hSl2.out) (by simp only [maxLen]; omega) (by omega) hsz3 (.tmp 61) (.tmp 64) rfl rfl rfl ?_
              intro b4 d4 w4 hown4 hk4 hg4
              have hlt3 := hown3.lt
              have k4 : Kept [] w w4 := k3.trans hk4 (fun i hi => .inr (by simp only [Option.mem_toList] at hi; exact Nat.le_of_succ_le (hlt3 i hi).1))
              have hS4 : (fun w' : World => w'.cell? ⟨w.heap.size, 0, none⟩ = some (.string s) ∧ w'.cell? ⟨w.heap.size, 1, none⟩ = some (.slice bb bn bc)) w4 := by
                have hx : w.heap.size ∉ (Value.slice b3 (k + 1) d3).ownBlock.toList := fun hx => by have := (hlt3 _ (Option.mem_toList.1 hx)).1; omega
                exact ⟨hk4.cell hSS.1 hx, hk4.cell hSS.2 hx⟩
              refine hK _ _ (.inr hS4) ?_
              clear hK K
              try simp only [Act.put, List.setIfInBounds_toArray, List.set_cons_zero, List.set_cons_succ]
              clear hSS
              have hSS := hS4
              clear hS4
              refine wpAnyT_take' (i := 12) (v := ?_) hO rfl rfl (by kernel_rfl) (by kernel_rfl) (by kernel_rfl) (by kernel_rfl) hQp (Or.inl ⟨by kernel_rfl, fun w hSw => ?_⟩) hSS ?_
              rotate_left
              · obtain ⟨s0, s1⟩ := hSw; go_simp; try with_reducible rfl
              try simp only [Act.put, List.setIfInBounds_toArray, List.set_cons_zero, List.set_cons_succ]
              refine wpAnyT_done' hO (by kernel_rfl) ?_ _
              subst hR
              go_wp2_with fail
              go_ret
              refine ⟨_, rfl, _, HE.out, ?_, k4⟩
              have e1 : (l.take k ++ (s, .slice bb bn bc) :: l.drop k).length = k + 1 + (l.length - k) := by simp; omega
              rw [e1, fileCells_app, fileCells_cons]
              have h4 := row_base hown4 (base' := w.heap.size) (fun g hg => by have := (hown4.lt g hg).1; omega)
              simpa using h4
          · have HE := Lib.hid (HX.out hb)
            unfold less at hb
            clear HX hPT2
            go_wp2_with fail
            go_round
            case rel => exact ⟨k + 1, by go_num, by omega, HE.out⟩
            case measure => simp [intOf]; omega
        · obtain rfl : k = l.length := by omega
          have HE := Lib.hid (hPT.out (fun h => absurd h (Nat.lt_irrefl _)))
          obtain ⟨a1, c1, hr1, hs1, hg1⟩ := slc_upto tyFiles H.out l.length hk
          obtain ⟨a2, c2, hr2, hs2, hg2⟩ := slc_from tyFiles H.out l.length hk
          rw [fileCells_take] at hs1
          rw [fileCells_drop] at hs2
          have H1 := Lib.hid hs1
          have H2 := Lib.hid hs2
          clear hPT hs1 hs2 hg1 hg2 HNO HUP
          obtain ⟨k, hkk⟩ : ∃ k, k = l.length := ⟨_, rfl⟩
          have hkl : k ≤ l.length := by omega
          have hr1' : ∀ W, (Instr.slice 48 (.slice a l.length c) none (some (.int .i64 (l.length : Int))) none).run Tryd.prog W = .ok (.slice a1 k c1) W := by rw [hkk]; exact hr1
          have hr2' : ∀ W, (Instr.slice 48 (.slice a l.length c) (some (.int .i64 (l.length : Int))) none none).run Tryd.prog W = .ok (.slice a2 (l.length - k) c2) W := by rw [hkk]; exact hr2
          clear hr1 hr2
          have HE' : Hid (PutTo s (.slice bb bn bc) l (l.take k ++ (s, .slice bb bn bc) :: l.drop k)) := by rw [hkk]; exact HE
          have H1' : Hid (Slc w 2 (.slice a1 k c1) k (fileCells (l.take k))) := by rw [hkk]; exact H1
          have H2' : Hid (Slc w 2 (.slice a2 (l.length - k) c2) (l.length - k) (fileCells (l.drop k))) := by rw [hkk]; exact H2
          clear H1 H2 HE hkk
          have H1 := H1'
          have H2 := H2'
          have HE := HE'
          clear H1' H2' HE'
          go_wp2_with fail
          have hSS : (fun w' : World => w'.cell? ⟨w.heap.size, 0, none⟩ = some (.string s) ∧ w'.cell? ⟨w.heap.size, 1, none⟩ = some (.slice bb bn bc)) (w.alloc (.cells #[.string s, .slice bb bn bc] 58)).drew := HP.out
          refine wp_region_last' (n := 13) (fun w' : World => w'.cell? ⟨w.heap.size, 0, none⟩ = some (.string s) ∧ w'.cell? ⟨w.heap.size, 1, none⟩ = some (.slice bb bn bc)) 13 (by kernel_rfl) (by kernel_rfl) ?_
          change wpAnyT _ _ _ _ _ _ _ _ _ (w.alloc (.cells #[.string s, .slice bb bn bc] 58)).drew
          have HK1 := Lib.hid HK0.out.drew
          have hB : w.heap.size < (w.alloc (.cells #[.string s, .slice bb bn bc] 58)).drew.heap.size := by simp [World.drew]
          clear HP HK0
          revert hSS HK1 hB
          generalize (w.alloc (.cells #[.string s, .slice bb bn bc] 58)).drew = W
          intro hSS HK1 hB
          have H1W := Lib.hid (H1.out.kept0 HK1.out)
          have H2W := Lib.hid (H2.out.kept0 HK1.out)
          have hSl1 : Hid (Sl (l.take k)) := Lib.hid (fun r hr => HS.out r (List.mem_of_mem_take hr))
          have hSl2 : Hid (Sl (l.drop k)) := Lib.hid (fun r hr => HS.out r (List.mem_of_mem_drop hr))
          have hll := HL.out
          refine wpAnyT_start ?_
          intro O R hO hR
          have hQp : ∀ c a (d : Nat) v w, R (.panic c) (a.put (some d) v) w → R (.panic c) a w := by subst hR; exact fun _ _ _ _ _ h => h
          refine wpAnyT_take' (i := 1) (v := ?_) hO rfl rfl (by kernel_rfl) (by kernel_rfl) (by kernel_rfl) (by kernel_rfl) hQp (Or.inl ⟨by kernel_rfl, fun w hSw => ?_⟩) hSS ?_
          rotate_left
          · obtain ⟨s0, s1⟩ := hSw; go_simp; try with_reducible rfl
          try simp only [Act.put, List.setIfInBounds_toArray, List.set_cons_zero, List.set_cons_succ]
          refine wpAnyT_take' (i := 2) (v := ?_) hO rfl rfl (by kernel_rfl) (by kernel_rfl) (by kernel_rfl) (by kernel_rfl) hQp (Or.inl ⟨by kernel_rfl, fun w hSw => ?_⟩) hSS ?_
          rotate_left
          · obtain ⟨s0, s1⟩ := hSw; go_simp; try with_reducible rfl
          try simp only [Act.put, List.setIfInBounds_toArray, List.set_cons_zero, List.set_cons_succ]
          refine wpAnyT_take' (i := 3) (v := ?_) hO rfl rfl (by kernel_rfl) (by kernel_rfl) (by kernel_rfl) (by kernel_rfl) hQp (Or.inl ⟨by kernel_rfl, fun w hSw => ?_⟩) hSS ?_
          rotate_left
          · obtain ⟨s0, s1⟩ := hSw; go_simp; try with_reducible rfl
          try simp only [Act.put, List.setIfInBounds_toArray, List.set_cons_zero, List.set_cons_succ]
          refine wpAnyT_take' (i := 5) (v := ?_) hO rfl rfl (by kernel_rfl) (by kernel_rfl) (by kernel_rfl) (by kernel_rfl) hQp (Or.inl ⟨by kernel_rfl, fun w hSw => ?_⟩) hSS ?_
          rotate_left
          · obtain ⟨s0, s1⟩ := hSw; go_simp; try with_reducible rfl
          try simp only [Act.put, List.setIfInBounds_toArray, List.set_cons_zero, List.set_cons_succ]
          refine wpAnyT_take' (i := 8) (v := ?_) hO rfl rfl (by kernel_rfl) (by kernel_rfl) (by kernel_rfl) (by kernel_rfl) hQp (Or.inl ⟨by kernel_rfl, fun w hSw => ?_⟩) hSS ?_
          rotate_left
          · obtain ⟨s0, s1⟩ := hSw; go_simp; try with_reducible rfl
          try simp only [Act.put, List.setIfInBounds_toArray, List.set_cons_zero, List.set_cons_succ]
          refine wpAnyT_take' (i := 9) (v := ?_) hO rfl rfl (by kernel_rfl) (by kernel_rfl) (by kernel_rfl) (by kernel_rfl) hQp (Or.inl ⟨by kernel_rfl, fun w hSw => ?_⟩) hSS ?_
          rotate_left
          · obtain ⟨s0, s1⟩ := hSw; go_simp; try with_reducible rfl
          try simp only [Act.put, List.setIfInBounds_toArray, List.set_cons_zero, List.set_cons_succ]
          refine wpAnyT_take' (i := 10) (v := ?_) hO rfl rfl (by kernel_rfl) (by kernel_rfl) (by kernel_rfl) (by kernel_rfl) hQp (Or.inl ⟨by kernel_rfl, fun w hSw => ?_⟩) hSS ?_
          rotate_left
          · obtain ⟨s0, s1⟩ := hSw; go_simp; try with_reducible rfl
          try simp only [Act.put, List.setIfInBounds_toArray, List.set_cons_zero, List.set_cons_succ]
          refine wpAnyT_two' (i := 0) (j := 6) hO rfl rfl (by kernel_rfl) (by kernel_rfl) (by kernel_rfl) (fun K hK => ?_) (fun K hK => ?_)
          · go_simp
            have kA : Kept [] W (W.alloc (.cells #[] 58)) := (Kept.refl [] W).alloc _
            have hown0 := World.ownsRow_made (base := w.heap.size + 1) (size := 2) (e := 58) W #[] 0 hB (by decide) rfl
            have hSA : (fun w' : World => w'.cell? ⟨w.heap.size, 0, none⟩ = some (.string s) ∧ w'.cell? ⟨w.heap.size, 1, none⟩ = some (.slice bb bn bc)) (W.alloc (.cells #[] 58)) := ⟨kA.cell hSS.1 (by simp), kA.cell hSS.2 (by simp)⟩
            refine hK _ _ (.inr hSA) ?_
            clear hK K
            try simp only [Act.put, List.setIfInBounds_toArray, List.set_cons_zero, List.set_cons_succ]
            refine wpAnyT_two' (i := 4) (j := 6) hO rfl rfl (by kernel_rfl) (by kernel_rfl) (by kernel_rfl) (fun K hK => ?_) (fun K hK => ?_)
            · refine oper_append0 tyFiles hown0 (H1W.out.kept0 kA) (fileCells_one hSl1.out) (by simp only [maxLen]; omega) (by omega) (by simp; omega) (.tmp 54) (.tmp 57) rfl rfl rfl ?_
              intro b1 d1 w1 hown1 hk1 hg1
              have k1 : Kept [] W w1 := kA.trans hk1 (fun i hi => .inr (by simp [Value.ownBlock] at hi; omega))
              have hS1 : (fun w' : World => w'.cell? ⟨w.heap.size, 0, none⟩ = some (.string s) ∧ w'.cell? ⟨w.heap.size, 1, none⟩ = some (.slice bb bn bc)) w1 := ⟨k1.cell hSS.1 (by simp), k1.cell hSS.2 (by simp)⟩
              refine hK _ _ (.inr hS1) ?_
              clear hK K
              try simp only [Act.put, List.setIfInBounds_toArray, List.set_cons_zero, List.set_cons_succ]
              clear hown0 hk1 hg1 hSA kA
              refine wpAnyT_one' (i := 6) hO rfl (by kernel_rfl) (by kernel_rfl) (fun K hK => ?_)
              go_simp
              have kB : Kept [] w1 (w1.alloc (.cells #[.string s, .slice bb bn bc] 58)) := (Kept.refl [] w1).alloc _
              have hone := Lib.hid (slc_new w1 [.string s, .slice bb bn bc] 2 1 58 w1.heap.size rfl rfl (by decide))
              have hown2 := Lib.hid (row_kept hown1 kB (by simp))
              have k2 := Lib.hid (k1.then kB)
              have hS2 : (fun w' : World => w'.cell? ⟨w.heap.size, 0, none⟩ = some (.string s) ∧ w'.cell? ⟨w.heap.size, 1, none⟩ = some (.slice bb bn bc)) (w1.alloc (.cells #[.string s, .slice bb bn bc] 58)) := ⟨k2.out.cell hSS.1 (by simp), k2.out.cell hSS.2 (by simp)⟩
              refine hK _ _ (.inr hS2) ?_
              clear hK K
              try simp only [Act.put, List.setIfInBounds_toArray, List.set_cons_zero, List.set_cons_succ]
              clear hSS hS1 k1 hown1 kB
              have hSS := hS2
              clear hS2
              revert hSS k2 hown2 hone
              generalize w1.heap.size = G
              generalize w1.alloc (.cells #[.string s, .slice bb bn bc] 58) = w2
              intro hone hown2 k2 hSS
              clear w1
              refine wpAnyT_one' (i := 7) hO rfl (by kernel_rfl) (by kernel_rfl) (fun K hK => ?_)
              have hsz2 := k2.out.size
              refine oper_append tyFiles hown2.out hone.out (by simp [Value.oneCell']) (by simp only [maxLen]; omega) (by omega) (by omega) (.tmp 58) (.tmp 60) rfl rfl rfl ?_
              intro b3 d3 w3 hown3 hk3 hg3
              have hlt2 := hown2.out.lt
              have k3 : Kept [] w w3 := (HK1.out.then k2.out).trans hk3 (fun i hi => .inr (by simp only [Option.mem_toList] at hi; exact Nat.le_of_succ_le (hlt2 i hi).1))
              have hS3 : (fun w' : World => w'.cell? ⟨w.heap.size, 0, none⟩ = some (.string s) ∧ w'.cell? ⟨w.heap.size, 1, none⟩ = some (.slice bb bn bc)) w3 := by
                have hx : w.heap.size ∉ (Value.slice b1 k d1).ownBlock.toList := fun hx => by have := (hlt2 _ (Option.mem_toList.1 hx)).1; omega
                exact ⟨hk3.cell hSS.1 hx, hk3.cell hSS.2 hx⟩
              refine hK _ _ (.inr hS3) ?_
              clear hK K
              try simp only [Act.put, List.setIfInBounds_toArray, List.set_cons_zero, List.set_cons_succ]
              clear hSS
              have hSS := hS3
              clear hS3
              refine wpAnyT_one' (i := 11) hO rfl (by kernel_rfl) (by kernel_rfl) (fun K hK => ?_)
              have hsz3 : w.heap.size + 1 ≤ w3.heap.size := by have := k2.out.size; have := hk3.size; omega
              refine oper_append tyFiles hown3 (H2.out.kept0 k3) (fileCells_one hSl2.out) (by simp only [maxLen]; omega) (by omega) hsz3 (.tmp 61) (.tmp 64) rfl rfl rfl ?_
              intro b4 d4 w4 hown4 hk4 hg4
              have hlt3 := hown3.lt
              have k4 : Kept [] w w4 := k3.trans hk4 (fun i hi => .inr (by simp only [Option.mem_toList] at hi; exact Nat.le_of_succ_le (hlt3 i hi).1))
              have hS4 : (fun w' : World => w'.cell? ⟨w.heap.size, 0, none⟩ = some (.string s) ∧ w'.cell? ⟨w.heap.size, 1, none⟩ = some (.slice bb bn bc)) w4 := by
                have hx : w.heap.size ∉ (Value.slice b3 (k + 1) d3).ownBlock.toList := fun hx => by have := (hlt3 _ (Option.mem_toList.1 hx)).1; omega
                exact ⟨hk4.cell hSS.1 hx, hk4.cell hSS.2 hx⟩
              refine hK _ _ (.inr hS4) ?_
              clear hK K
              try simp only [Act.put, List.setIfInBounds_toArray, List.set_cons_zero, List.set_cons_succ]
              clear hSS
              have hSS := hS4
              clear hS4
              refine wpAnyT_take' (i := 12) (v := ?_) hO rfl rfl (by kernel_rfl) (by kernel_rfl) (by kernel_rfl) (by kernel_rfl) hQp (Or.inl ⟨by kernel_rfl, fun w hSw => ?_⟩) hSS ?_
              rotate_left
              · obtain ⟨s0, s1⟩ := hSw; go_simp; try with_reducible rfl
              try simp only [Act.put, List.setIfInBounds_toArray, List.set_cons_zero, List.set_cons_succ]
              refine wpAnyT_done' hO (by kernel_rfl) ?_ _
              subst hR
              go_wp2_with fail
              go_ret
              refine ⟨_, rfl, _, HE.out, ?_, k4⟩
              have e1 : (l.take k ++ (s, .slice bb bn bc) :: l.drop k).length = k + 1 + (l.length - k) := by simp; omega
              rw [e1, fileCells_app, fileCells_cons]
              have h4 := row_base hown4 (base' := w.heap.size) (fun g hg => by have := (hown4.lt g hg).1; omega)
              simpa using h4
            · go_simp
              have kB : Kept [] W ((W.alloc (.cells #[] 58)).alloc (.cells #[.string s, .slice bb bn bc] 58)) := kA.alloc _
              have hone0 := slc_new (W.alloc (.cells #[] 58)) [.string s, .slice bb bn bc] 2 1 58 (W.heap.size + 1) (by simp) rfl (by decide)
              have hown1 := row_kept hown0 ((Kept.refl [] (W.alloc (.cells #[] 58))).alloc (.cells #[.string s, .slice bb bn bc] 58)) (by simp)
              have hS1 : (fun w' : World => w'.cell? ⟨w.heap.size, 0, none⟩ = some (.string s) ∧ w'.cell? ⟨w.heap.size, 1, none⟩ = some (.slice bb bn bc)) ((W.alloc (.cells #[] 58)).alloc (.cells #[.string s, .slice bb bn bc] 58)) := ⟨kB.cell hSS.1 (by simp), kB.cell hSS.2 (by simp)⟩
              refine hK _ _ (.inr hS1) ?_
              clear hK K
              try simp only [Act.put, List.setIfInBounds_toArray, List.set_cons_zero, List.set_cons_succ]
              refine wpAnyT_one' (i := 4) hO rfl (by kernel_rfl) (by kernel_rfl) (fun K hK => ?_)
              refine oper_append0 tyFiles hown1 (H1W.out.kept0 kB) (fileCells_one hSl1.out) (by simp only [maxLen]; omega) (by omega) (by simp; omega) (.tmp 54) (.tmp 57) rfl rfl rfl ?_
              intro b1 d1 w2 hown2' hk2 hg2
              have k2 := Lib.hid (kB.trans hk2 (fun i hi => .inr (by simp [Value.ownBlock] at hi; omega)))
              have hone := Lib.hid (hone0.kept hk2 (by intro g hg hx; simp [Value.ownBlock] at hx; simp [vblk] at hg; omega))
              have hown2 := Lib.hid hown2'
              have hS2 : (fun w' : World => w'.cell? ⟨w.heap.size, 0, none⟩ = some (.string s) ∧ w'.cell? ⟨w.heap.size, 1, none⟩ = some (.slice bb bn bc)) w2 := ⟨k2.out.cell hSS.1 (by simp), k2.out.cell hSS.2 (by simp)⟩
              refine hK _ _ (.inr hS2) ?_
              clear hK K
              try simp only [Act.put, List.setIfInBounds_toArray, List.set_cons_zero, List.set_cons_succ]
              clear hSS hS1 hown1 kB hone0 hk2 hg2 hown2'
              have hSS := hS2
              clear hS2
              refine wpAnyT_one' (i := 7) hO rfl (by kernel_rfl) (by kernel_rfl) (fun K hK => ?_)
              have hsz2 := k2.out.size
              refine oper_append tyFiles hown2.out hone.out (by simp [Value.oneCell']) (by simp only [maxLen]; omega) (by omega) (by omega) (.tmp 58) (.tmp 60) rfl rfl rfl ?_
              intro b3 d3 w3 hown3 hk3 hg3
              have hlt2 := hown2.out.lt
              have k3 : Kept [] w w3 := (HK1.out.then k2.out).trans hk3 (fun i hi => .inr (by simp only [Option.mem_toList] at hi; exact Nat.le_of_succ_le (hlt2 i hi).1))
              have hS3 : (fun w' : World => w'.cell? ⟨w.heap.size, 0, none⟩ = some (.string s) ∧ w'.cell? ⟨w.heap.size, 1, none⟩ = some (.slice bb bn bc)) w3 := by
                have hx : w.heap.size ∉ (Value.slice b1 k d1).ownBlock.toList := fun hx => by have := (hlt2 _ (Option.mem_toList.1 hx)).1; omega
                exact ⟨hk3.cell hSS.1 hx, hk3.cell hSS.2 hx⟩
              refine hK _ _ (.inr hS3) ?_
              clear hK K
              try simp only [Act.put, List.setIfInBounds_toArray, List.set_cons_zero, List.set_cons_succ]
              clear hSS
              have hSS := hS3
              clear hS3
              refine wpAnyT_one' (i := 11) hO rfl (by kernel_rfl) (by kernel_rfl) (fun K hK => ?_)
              have hsz3 : w.heap.size + 1 ≤ w3.heap.size := by have := k2.out.size; have := hk3.size; omega
              refine oper_append tyFiles hown3 (H2.out.kept0 k3) (fileCells_one hSl2.out) (by simp only [maxLen]; omega) (by omega) hsz3 (.tmp 61) (.tmp 64) rfl rfl rfl ?_
              intro b4 d4 w4 hown4 hk4 hg4
              have hlt3 := hown3.lt
              have k4 : Kept [] w w4 := k3.trans hk4 (fun i hi => .inr (by simp only [Option.mem_toList] at hi; exact Nat.le_of_succ_le (hlt3 i hi).1))
              have hS4 : (fun w' : World => w'.cell? ⟨w.heap.size, 0, none⟩ = some (.string s) ∧ w'.cell? ⟨w.heap.size, 1, none⟩ = some (.slice bb bn bc)) w4 := by
                have hx : w.heap.size ∉ (Value.slice b3 (k + 1) d3).ownBlock.toList := fun hx => by have := (hlt3 _ (Option.mem_toList.1 hx)).1; omega
                exact ⟨hk4.cell hSS.1 hx, hk4.cell hSS.2 hx⟩
              refine hK _ _ (.inr hS4) ?_
              clear hK K
              try simp only [Act.put, List.setIfInBounds_toArray, List.set_cons_zero, List.set_cons_succ]
              clear hSS
              have hSS := hS4
              clear hS4
              refine wpAnyT_take' (i := 12) (v := ?_) hO rfl rfl (by kernel_rfl) (by kernel_rfl) (by kernel_rfl) (by kernel_rfl) hQp (Or.inl ⟨by kernel_rfl, fun w hSw => ?_⟩) hSS ?_
              rotate_left
              · obtain ⟨s0, s1⟩ := hSw; go_simp; try with_reducible rfl
              try simp only [Act.put, List.setIfInBounds_toArray, List.set_cons_zero, List.set_cons_succ]
              refine wpAnyT_done' hO (by kernel_rfl) ?_ _
              subst hR
              go_wp2_with fail
              go_ret
              refine ⟨_, rfl, _, HE.out, ?_, k4⟩
              have e1 : (l.take k ++ (s, .slice bb bn bc) :: l.drop k).length = k + 1 + (l.length - k) := by simp; omega
              rw [e1, fileCells_app, fileCells_cons]
              have h4 := row_base hown4 (base' := w.heap.size) (fun g hg => by have := (hown4.lt g hg).1; omega)
              simpa using h4
          · go_simp
            have kA : Kept [] W (W.alloc (.cells #[.string s, .slice bb bn bc] 58)) := (Kept.refl [] W).alloc _
            have hone00 := slc_new W [.string s, .slice bb bn bc] 2 1 58 W.heap.size rfl rfl (by decide)
            have hSA : (fun w' : World => w'.cell? ⟨w.heap.size, 0, none⟩ = some (.string s) ∧ w'.cell? ⟨w.heap.size, 1, none⟩ = some (.slice bb bn bc)) (W.alloc (.cells #[.string s, .slice bb bn bc] 58)) := ⟨kA.cell hSS.1 (by simp), kA.cell hSS.2 (by simp)⟩
            refine hK _ _ (.inr hSA) ?_
            clear hK K
            try simp only [Act.put, List.setIfInBounds_toArray, List.set_cons_zero, List.set_cons_succ]
            refine wpAnyT_one' (i := 0) hO rfl (by kernel_rfl) (by kernel_rfl) (fun K hK => ?_)
            go_simp
            have kB : Kept [] W ((W.alloc (.cells #[.string s, .slice bb bn bc] 58)).alloc (.cells #[] 58)) := kA.alloc _
            have hown1 := World.ownsRow_made (base := w.heap.size + 1) (size := 2) (e := 58) (W.alloc (.cells #[.string s, .slice bb bn bc] 58)) #[] 0 (by simp; omega) (by decide) rfl
            have hone0 := hone00.kept0 ((Kept.refl [] (W.alloc (.cells #[.string s, .slice bb bn bc] 58))).alloc (.cells #[] 58))
            rw [heap_size_alloc'] at hown1
            have hS1 : (fun w' : World => w'.cell? ⟨w.heap.size, 0, none⟩ = some (.string s) ∧ w'.cell? ⟨w.heap.size, 1, none⟩ = some (.slice bb bn bc)) ((W.alloc (.cells #[.string s, .slice bb bn bc] 58)).alloc (.cells #[] 58)) := ⟨kB.cell hSS.1 (by simp), kB.cell hSS.2 (by simp)⟩
            refine hK _ _ (.inr hS1) ?_
            clear hK K
            try simp only [Act.put, List.setIfInBounds_toArray, List.set_cons_zero, List.set_cons_succ]
            refine wpAnyT_one' (i := 4) hO rfl (by kernel_rfl) (by kernel_rfl) (fun K hK => ?_)
            refine oper_append0 tyFiles hown1 (H1W.out.kept0 kB) (fileCells_one hSl1.out) (by simp only [maxLen]; omega) (by omega) (by simp; omega) (.tmp 54) (.tmp 57) rfl rfl rfl ?_
            intro b1 d1 w2 hown2' hk2 hg2
            have k2 := Lib.hid (kB.trans hk2 (fun i hi => .inr (by simp [Value.ownBlock] at hi; omega)))
            have hone := Lib.hid (hone0.kept hk2 (by intro g hg hx; simp [Value.ownBlock] at hx; simp [vblk] at hg; omega))
            have hown2 := Lib.hid hown2'
            have hS2 : (fun w' : World => w'.cell? ⟨w.heap.size, 0, none⟩ = some (.string s) ∧ w'.cell? ⟨w.heap.size, 1, none⟩ = some (.slice bb bn bc)) w2 := ⟨k2.out.cell hSS.1 (by simp), k2.out.cell hSS.2 (by simp)⟩
            refine hK _ _ (.inr hS2) ?_
            clear hK K
            try simp only [Act.put, List.setIfInBounds_toArray, List.set_cons_zero, List.set_cons_succ]
            clear hSS hS1 hown1 kB hone0 hk2 hg2 hown2'
            have hSS := hS2
            clear hS2
            refine wpAnyT_one' (i := 7) hO rfl (by kernel_rfl) (by kernel_rfl) (fun K hK => ?_)
            have hsz2 := k2.out.size
            refine oper_append tyFiles hown2.out hone.out (by simp [Value.oneCell']) (by simp only [maxLen]; omega) (by omega) (by omega) (.tmp 58) (.tmp 60) rfl rfl rfl ?_
            intro b3 d3 w3 hown3 hk3 hg3
            have hlt2 := hown2.out.lt
            have k3 : Kept [] w w3 := (HK1.out.then k2.out).trans hk3 (fun i hi => .inr (by simp only [Option.mem_toList] at hi; exact Nat.le_of_succ_le (hlt2 i hi).1))
            have hS3 : (fun w' : World => w'.cell? ⟨w.heap.size, 0, none⟩ = some (.string s) ∧ w'.cell? ⟨w.heap.size, 1, none⟩ = some (.slice bb bn bc)) w3 := by
              have hx : w.heap.size ∉ (Value.slice b1 k d1).ownBlock.toList := fun hx => by have := (hlt2 _ (Option.mem_toList.1 hx)).1; omega
              exact ⟨hk3.cell hSS.1 hx, hk3.cell hSS.2 hx⟩
            refine hK _ _ (.inr hS3) ?_
            clear hK K
            try simp only [Act.put, List.setIfInBounds_toArray, List.set_cons_zero, List.set_cons_succ]
            clear hSS
            have hSS := hS3
            clear hS3
            refine wpAnyT_one' (i := 11) hO rfl (by kernel_rfl) (by kernel_rfl) (fun K hK => ?_)
            have hsz3 : w.heap.size + 1 ≤ w3.heap.size := by have := k2.out.size; have := hk3.size; omega
            refine oper_append tyFiles hown3 (H2.out.kept0 k3) (fileCells_one hSl2.out) (by simp only [maxLen]; omega) (by omega) hsz3 (.tmp 61) (.tmp 64) rfl rfl rfl ?_
            intro b4 d4 w4 hown4 hk4 hg4
            have hlt3 := hown3.lt
            have k4 : Kept [] w w4 := k3.trans hk4 (fun i hi => .inr (by simp only [Option.mem_toList] at hi; exact Nat.le_of_succ_le (hlt3 i hi).1))
            have hS4 : (fun w' : World => w'.cell? ⟨w.heap.size, 0, none⟩ = some (.string s) ∧ w'.cell? ⟨w.heap.size, 1, none⟩ = some (.slice bb bn bc)) w4 := by
              have hx : w.heap.size ∉ (Value.slice b3 (k + 1) d3).ownBlock.toList := fun hx => by have := (hlt3 _ (Option.mem_toList.1 hx)).1; omega
              exact ⟨hk4.cell hSS.1 hx, hk4.cell hSS.2 hx⟩
            refine hK _ _ (.inr hS4) ?_
            clear hK K
            try simp only [Act.put, List.setIfInBounds_toArray, List.set_cons_zero, List.set_cons_succ]
            clear hSS
            have hSS := hS4
            clear hS4
            refine wpAnyT_take' (i := 12) (v := ?_) hO rfl rfl (by kernel_rfl) (by kernel_rfl) (by kernel_rfl) (by kernel_rfl) hQp (Or.inl ⟨by kernel_rfl, fun w hSw => ?_⟩) hSS ?_
            rotate_left
            · obtain ⟨s0, s1⟩ := hSw; go_simp; try with_reducible rfl
            try simp only [Act.put, List.setIfInBounds_toArray, List.set_cons_zero, List.set_cons_succ]
            refine wpAnyT_done' hO (by kernel_rfl) ?_ _
            subst hR
            go_wp2_with fail
            go_ret
            refine ⟨_, rfl, _, HE.out, ?_, k4⟩
            have e1 : (l.take k ++ (s, .slice bb bn bc) :: l.drop k).length = k + 1 + (l.length - k) := by simp; omega
            rw [e1, fileCells_app, fileCells_cons]
            have h4 := row_base hown4 (base' := w.heap.size) (fun g hg => by have := (hown4.lt g hg).1; omega)
            simpa using h4
end Go.Proofs.YtfkdoinlbdcaaaaDoor

/- An append at one operation of a region; the document's join. -/
import Derived.Test.YtfkdoinlbdcaaaaRefC
import Derived.Test.YtfkdoinlbdcaaaaLast
namespace Go.Proofs.Ytfkdoinlbdcaaaa
open Go.RowKit
theorem oper_append {P : Program} {t e size bytes : Nat} {z : Value} (T : SliceTy P t e size bytes z) {w : World} {base : Nat} {v : Value} {n : Nat} {xs : List Value} (hown : w.ownsRow base e size v n xs)
    {vx : Value} {m : Nat} {news : List Value} (hsrc : Slc w size vx m news) (h1 : ∀ u ∈ news, u.oneCell' = true) (h63 : n + m ≤ maxLen) (hbytes : (n + m) * bytes ≤ 140737488355328) (hbase : base ≤ w.heap.size)
    {o : Oper} {a : Act} {K : Act → World → Prop} {Q : Exit → Act → World → Prop} (s x : Operand)
    (ho : o.op = .call { callee := .builtin .append, args := #[s, x], argTypes := #[t, t] }) (hs : a.eval s = v) (hx : a.eval x = vx)
    (h : ∀ b c w', w'.ownsRow base e size (.slice b (n + m) c) (n + m) (xs ++ news) → Kept v.ownBlock.toList w w' → ((Value.slice b (n + m) c).ownBlock = v.ownBlock ∨ (Value.slice b (n + m) c).ownBlock = some w.heap.size) → K (a.put o.dst (.slice b (n + m) c)) w') :
    Oper.wp P o a w K Q := by
  obtain ⟨v', w', hr, h2, h3, h4, h5⟩ := run_append_slc T w o.type base v n xs hown vx m news hsrc h1 h63 hbytes hbase
  obtain ⟨b, c, rfl, -, -⟩ := (Slc.of_row h2).form
  unfold Oper.wp execOp
  simp only [ho, resolve, invoke, builtin, Sem.run_bind, Sem.run_pure, Result.andThen_ok, List.map_toArray, List.map_cons, List.map_nil, hs, hx, hr]
  exact h b c w' h2 h3 h5

set_option maxRecDepth 10000 in
set_option maxHeartbeats 1600000 in
theorem join_any (va vb : Value) (a b : List UInt8) (n : Nat) (w : World) (ha : Bytes w va a) (hb : Bytes w vb b) (h1 : n ≤ a.length) (h2 : n ≤ b.length) (h3 : a.length + b.length ≤ 1000) :
    Calls Try.prog 64 #[va, .int .i64 n, vb] w fun e w' => ∃ v, e = .returned v ∧ NewBytes w w' v (a.take n ++ b.drop n) ∧ Kept [] w w' := by
  obtain ⟨a1, c1, hr1, hb1, -⟩ := Bytes.upto tyBytes ha n h1
  obtain ⟨a2, c2, hr2, hb2, -⟩ := Bytes.from tyBytes hb n h2
  have H1 := Lib.hid hb1
  have H2 := Lib.hid hb2
  have hl : Hid ((a.take n).length = n ∧ (b.drop n).length = b.length - n) := Lib.hid ⟨by rw [List.length_take]; omega, by rw [List.length_drop]⟩
  clear ha hb hb1 hb2
  go_enter Try.func64, Try.ntmps64
  go_wp2_with fail
  have hSS : (fun _ : World => True) w.drew := trivial
  refine wp_region_last' (n := 10) (fun _ : World => True) 10 (by kernel_rfl) (by kernel_rfl) ?_
  change wpAnyT _ _ _ _ _ _ _ _ _ w.drew
  refine wpAnyT_start ?_
  intro O R hO hR
  have hQp : ∀ c a (d : Nat) v w, R (.panic c) (a.put (some d) v) w → R (.panic c) a w := by subst hR; exact fun _ _ _ _ _ h => h
  refine wpAnyT_take' (i := 1) (v := ?_) hO rfl rfl (by kernel_rfl) (by kernel_rfl) (by kernel_rfl) (by kernel_rfl) hQp (Or.inl ⟨by kernel_rfl, fun w hSw => ?_⟩) hSS ?_
  rotate_left
  · go_simp; try with_reducible rfl
  try simp only [Act.put, List.setIfInBounds_toArray, List.set_cons_zero, List.set_cons_succ]
  refine wpAnyT_take' (i := 2) (v := ?_) hO rfl rfl (by kernel_rfl) (by kernel_rfl) (by kernel_rfl) (by kernel_rfl) hQp (Or.inl ⟨by kernel_rfl, fun w hSw => ?_⟩) hSS ?_
  rotate_left
  · go_simp; try with_reducible rfl
  try simp only [Act.put, List.setIfInBounds_toArray, List.set_cons_zero, List.set_cons_succ]
  refine wpAnyT_take' (i := 3) (v := ?_) hO rfl rfl (by kernel_rfl) (by kernel_rfl) (by kernel_rfl) (by kernel_rfl) hQp (Or.inl ⟨by kernel_rfl, fun w hSw => ?_⟩) hSS ?_
  rotate_left
  · go_simp; try with_reducible rfl
  try simp only [Act.put, List.setIfInBounds_toArray, List.set_cons_zero, List.set_cons_succ]
  refine wpAnyT_take' (i := 5) (v := ?_) hO rfl rfl (by kernel_rfl) (by kernel_rfl) (by kernel_rfl) (by kernel_rfl) hQp (Or.inl ⟨by kernel_rfl, fun w hSw => ?_⟩) hSS ?_
  rotate_left
  · go_simp; try with_reducible rfl
  try simp only [Act.put, List.setIfInBounds_toArray, List.set_cons_zero, List.set_cons_succ]
  refine wpAnyT_take' (i := 6) (v := ?_) hO rfl rfl (by kernel_rfl) (by kernel_rfl) (by kernel_rfl) (by kernel_rfl) hQp (Or.inl ⟨by kernel_rfl, fun w hSw => ?_⟩) hSS ?_
  rotate_left
  · go_simp; try with_reducible rfl
  try simp only [Act.put, List.setIfInBounds_toArray, List.set_cons_zero, List.set_cons_succ]
  refine wpAnyT_take' (i := 7) (v := ?_) hO rfl rfl (by kernel_rfl) (by kernel_rfl) (by kernel_rfl) (by kernel_rfl) hQp (Or.inl ⟨by kernel_rfl, fun w hSw => ?_⟩) hSS ?_
  rotate_left
  · go_simp; try with_reducible rfl
  try simp only [Act.put, List.setIfInBounds_toArray, List.set_cons_zero, List.set_cons_succ]
  refine wpAnyT_one' (i := 0) hO rfl (by kernel_rfl) (by kernel_rfl) (fun K hK => ?_)
  go_simp
  have hown0 : (w.alloc (.cells #[] 5)).drew.ownsRow w.heap.size 5 1 (.slice (some ⟨w.heap.size, 0, none⟩) 0 0) 0 [] := row_kept (World.ownsRow_made (base := w.heap.size) (size := 1) (e := 5) w #[] 0 (Nat.le_refl _) (by decide) rfl) (Kept.refl [] _).drew (by simp)
  have k0 : Kept [] w (w.alloc (.cells #[] 5)).drew := ((Kept.refl [] w).alloc _).drew
  refine hK _ _ (.inr trivial) ?_
  clear hK K
  try simp only [Act.put, List.setIfInBounds_toArray, List.set_cons_zero, List.set_cons_succ]
  clear hSS
  have hSS : (fun _ : World => True) w := trivial
  refine wpAnyT_one' (i := 4) hO rfl (by kernel_rfl) (by kernel_rfl) (fun K hK => ?_)
  have hs1 := H1.out.kept0 k0
  rw [hl.out.1] at hs1
  refine oper_append tyBytes hown0 hs1 (bvs_one _) (by simp only [maxLen]; omega) (by omega) (by simp) (.tmp 7) (.tmp 10) rfl rfl rfl ?_
  intro b1 d1 w1 hown1 hk1 hv1
  have H2' : Hid (Bytes w1 (.slice a2 (b.length - n) c2) (b.drop n)) := Lib.hid ((H2.out.kept0 k0).kept hk1 (fun g hg hx => by have := H2.out.lt hg; simp [Value.ownBlock] at hx; omega))
  have k1 : Kept [] w w1 := k0.trans hk1 (fun i hi => .inr (by simp [Value.ownBlock] at hi; omega))
  refine hK _ _ (.inr trivial) ?_
  clear hK K
  try simp only [Act.put, List.setIfInBounds_toArray, List.set_cons_zero, List.set_cons_succ]
  clear hSS
  have hSS : (fun _ : World => True) w := trivial
  refine wpAnyT_one' (i := 8) hO rfl (by kernel_rfl) (by kernel_rfl) (fun K hK => ?_)
  have hs2 := H2'.out
  unfold Bytes at hs2
  rw [hl.out.2] at hs2
  have hsz := k1.size
  refine oper_append tyBytes hown1 hs2 (bvs_one _) (by simp only [maxLen]; omega) (by omega) hsz (.tmp 11) (.tmp 14) rfl rfl rfl ?_
  intro b2 d2 w2 hown2 hk2 hv2
  refine hK _ _ (.inr trivial) ?_
  clear hK K
  try simp only [Act.put, List.setIfInBounds_toArray, List.set_cons_zero, List.set_cons_succ]
  clear hSS
  have hSS : (fun _ : World => True) w := trivial
  refine wpAnyT_take' (i := 9) (v := ?_) hO rfl rfl (by kernel_rfl) (by kernel_rfl) (by kernel_rfl) (by kernel_rfl) hQp (Or.inl ⟨by kernel_rfl, fun w hSw => ?_⟩) hSS ?_
  rotate_left
  · go_simp; try with_reducible rfl
  try simp only [Act.put, List.setIfInBounds_toArray, List.set_cons_zero, List.set_cons_succ]
  refine wpAnyT_done' hO (by kernel_rfl) ?_ _
  subst hR
  try clear hQp hO O
  go_wp2_with fail
  go_ret
  have hlt := hown1.lt
  have hsum : n + (b.length - n) = b.length := by omega
  refine ⟨_, rfl, newBytes_of_row (n := b.length) (by rw [List.map_append]; simpa [hsum] using hown2), k1.trans hk2 (fun i hi => .inr ?_)⟩
  simp only [Option.mem_toList] at hi
  exact (hlt i hi).1
end Go.Proofs.Ytfkdoinlbdcaaaa

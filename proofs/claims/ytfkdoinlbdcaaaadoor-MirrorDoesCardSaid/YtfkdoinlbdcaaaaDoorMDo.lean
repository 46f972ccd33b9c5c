/- One call of both mirrors. -/
import Derived.Test.YtfkdoinlbdcaaaaDoorMSame
import Derived.Test.YtfkdoinlbdcaaaaDoorMArgs
namespace Go.Proofs.YtfkdoinlbdcaaaaDoor
open Go.RowKit

structure MBoth (w : World) (b c : Nat) (F G : List Nat) (d : PMir) : Prop where
  mir : MirRep w b F d
  ref : RMirRep w c G d
  apart : ∀ k, k ∈ F → k ∉ G
  few : d.asked.length ≤ 256
theorem MBoth.kept0 {w w' : World} {b c : Nat} {F G : List Nat} {d : PMir} (h : MBoth w b c F G d) (k : Kept [] w w') : MBoth w' b c F G d := ⟨h.mir.kept0 k, h.ref.kept0 k, h.apart, h.few⟩
theorem MBoth.ref1 {w w1 : World} {b c : Nat} {F G : List Nat} {d : PMir} (h : MBoth w b c F G d) (k1 : Kept F w w1) : RMirRep w1 c G d := h.ref.kept k1 (fun x hx => ⟨h.apart x hx, h.mir.kinds x hx⟩)
def MDoPost (w : World) (b c : Nat) (F G : List Nat) (e : Ending) (w' : World) : Prop :=
  ∃ F' G' d', e = .returned (.bool true) ∧ MBoth w' b c F' G' d' ∧ Kept (F ++ G) w w' ∧ (∀ k, k ∈ F' → k ∈ F ∨ w.heap.size ≤ k) ∧ (∀ k, k ∈ G' → k ∈ G ∨ w.heap.size ≤ k)
theorem MBoth.step {u w w1 w2 : World} {b c : Nat} {F G : List Nat} {d d' : PMir} (h : MBoth w b c F G d) (k0 : Kept [] u w) {F' : List Nat} (r1 : MirRep w1 b F' d') (k1 : Kept F w w1) (f1 : ∀ k, k ∈ F' → k ∈ F ∨ w.heap.size ≤ k)
    {G' : List Nat} (r2 : RMirRep w2 c G' d') (k2 : Kept G w1 w2) (f2 : ∀ k, k ∈ G' → k ∈ G ∨ w1.heap.size ≤ k) (hf : d'.asked.length ≤ 256) : MDoPost u b c F G (.returned (.bool true)) w2 := by
  have hr := h.ref1 k1
  have hap : ∀ k, k ∈ F' → k ∉ G := fun k hk hg => by
    rcases f1 k hk with e | e
    · exact h.apart k e hg
    · have := h.ref.lt k hg; omega
  refine ⟨F', G', d', rfl, ⟨r1.kept k2 (fun x hx => ⟨fun hk => hap x hk hx, hr.kinds x hx⟩), r2, ?_, hf⟩, ?_, ?_, ?_⟩
  · intro k hk hg
    rcases f2 k hg with e | e
    · exact hap k hk e
    · have := r1.lt k hk; omega
  · exact (k0.mono (by simp)).trans' ((k1.mono (by intro x hx; simp [hx])).trans' (k2.mono (by intro x hx; simp [hx])))
  · intro k hk
    rcases f1 k hk with e | e
    · exact .inl e
    · exact .inr (Nat.le_trans k0.size e)
  · intro k hk
    rcases f2 k hk with e | e
    · exact .inl e
    · exact .inr (Nat.le_trans k0.size (Nat.le_trans k1.size e))
theorem MDoPost.later {u w w' : World} {b c : Nat} {F G : List Nat} {e : Ending} (h : MDoPost w b c F G e w') (k : Kept [] u w) : MDoPost u b c F G e w' := by
  obtain ⟨F', G', d', h1, h2, h3, h4, h5⟩ := h
  refine ⟨F', G', d', h1, h2, (k.mono (by simp)).trans' h3, fun x hx => (h4 x hx).imp id (Nat.le_trans k.size), fun x hx => (h5 x hx).imp id (Nat.le_trans k.size)⟩
theorem MDoPost.then {w w1 w' : World} {b c : Nat} {F G : List Nat} {e : Ending} (h : MDoPost w b c F G e w1) (k : Kept [] w1 w') : MDoPost w b c F G e w' := by
  obtain ⟨F', G', d', h1, h2, h3, h4, h5⟩ := h
  exact ⟨F', G', d', h1, h2.kept0 k, h3.then k, h4, h5⟩

/-- The call's cells. -/
def OpS (B : Nat) (s s2 : ByteArray) (n : Int) (vb : Value) (w : World) : Prop :=
  w.cell? ⟨B, 1, none⟩ = some (.string s) ∧ w.cell? ⟨B, 2, none⟩ = some (.string s2) ∧ w.cell? ⟨B, 3, none⟩ = some (.int .i64 n) ∧ w.cell? ⟨B, 4, none⟩ = some vb
theorem OpS.kept {B : Nat} {s s2 : ByteArray} {n : Int} {vb : Value} {X : List Nat} {w w' : World} (h : OpS B s s2 n vb w) (k : Kept X w w') (hB : B ∉ X) : OpS B s s2 n vb w' := ⟨k.cell h.1 hB, k.cell h.2.1 hB, k.cell h.2.2.1 hB, k.cell h.2.2.2 hB⟩
theorem opS_new (w : World) (kind : Int) (s s2 : ByteArray) (n : Int) (vb : Value) (t : Nat) : OpS w.heap.size s s2 n vb (w.alloc (.cells #[.int .i64 kind, .string s, .string s2, .int .i64 n, vb] t)) := by
  have hb := heap_alloc_new w (.cells #[.int .i64 kind, .string s, .string s2, .int .i64 n, vb] t)
  exact ⟨cell_head hb rfl, cell_head hb rfl, cell_head hb rfl, cell_head hb rfl⟩
theorem put_asked (d : PMir) (s : ByteArray) (l : List UInt8) : (d.put s l).2.asked = d.asked := by
  unfold PMir.put
  split
  · rfl
  · split
    · rfl
    · split <;> rfl
theorem drop_asked (d : PMir) (s : ByteArray) : (d.drop s).2.asked = d.asked := by
  unfold PMir.drop
  split <;> rfl
theorem load_asked : ∀ (fs : List PF) (d : PMir), (d.load fs).2.asked = d.asked
  | [], _ => rfl
  | f :: fs, d => by
    unfold PMir.load
    split
    · rw [load_asked fs, put_asked]
    · exact put_asked _ _ _
theorem fetch_asked (d : PMir) (s : ByteArray) (n : Int) (h : d.asked.length ≤ 256) : (d.fetch s n).2.asked.length ≤ 256 := by
  unfold PMir.fetch
  split
  · exact note_few _ _ _ h
  · split <;> exact note_few _ _ _ h
theorem fetch_fits (d : PMir) (s : ByteArray) (n : Int) : ¬(d.fetch s n).1.2 = 0 ∨ ((d.fetch s n).1.2 = 0 ∧ (((d.fetch s n).1.1.length : Int) ≤ n ∨ (¬((d.fetch s n).1.1.length : Int) ≤ n ∧ (d.fetch s n).1.1.length = 0))) := by
  unfold PMir.fetch
  split
  · exact .inl (by simp)
  · split
    · exact .inl (by simp)
    · rename_i h
      refine .inr ⟨rfl, ?_⟩
      simp only
      omega

set_option maxRecDepth 10000 in
set_option maxHeartbeats 3200000 in
theorem mdo_put {w : World} {b c : Nat} {F G : List Nat} {d : PMir} (h : MBoth w b c F G d) (s s2 : ByteArray) (hs : s.size ≤ maxLen) (n : Int) (vb : Value) {l : List UInt8} (hvb : Bytes w vb l) (hl : l.length ≤ maxLen) (hfr : ∀ g, vblk vb = some g → g ∉ F ∧ g ∉ G) :
    Calls Tryd.prog 20 #[.pointer (some ⟨b, 0, none⟩), .pointer (some ⟨c, 0, none⟩), .agg #[.int .i64 1, .string s, .string s2, .int .i64 n, vb]] w (MDoPost w b c F G) := by
  have H := Lib.hid h
  have hbytes : Hid (Bytes w vb l) := Lib.hid hvb
  have hfar : Hid (∀ g, vblk vb = some g → g ∉ F ∧ g ∉ G) := Lib.hid hfr
  have hsz : Hid (s.size ≤ maxLen ∧ l.length ≤ maxLen) := Lib.hid ⟨hs, hl⟩
  clear hvb hfr h hs hl
  go_enter Tryd.func20, Tryd.ntmps20
  go_wp2_with fail
  have k0 : Kept [] w (w.alloc (.cells #[.int .i64 1, .string s, .string s2, .int .i64 n, vb] 45)).drew := ((Kept.refl [] w).alloc _).drew
  have hSS : OpS w.heap.size s s2 n vb (w.alloc (.cells #[.int .i64 1, .string s, .string s2, .int .i64 n, vb] 45)).drew := (opS_new w 1 s s2 n vb _).kept (Kept.refl [] _).drew (by simp)
  refine wp_region_last' (n := 14) (OpS w.heap.size s s2 n vb) 13 (by kernel_rfl) (by kernel_rfl) ?_
  change wpAnyT _ _ _ _ _ _ _ _ _ (w.alloc (.cells #[.int .i64 1, .string s, .string s2, .int .i64 n, vb] 45)).drew
  revert k0 hSS
  generalize (w.alloc (.cells #[.int .i64 1, .string s, .string s2, .int .i64 n, vb] 45)).drew = W
  intro k0 hSS
  have hltF : w.heap.size ∉ F := fun hx => absurd (H.out.mir.lt _ hx) (Nat.lt_irrefl _)
  have hltG : w.heap.size ∉ G := fun hx => absurd (H.out.ref.lt _ hx) (Nat.lt_irrefl _)
  have HB := Lib.hid (H.out.kept0 k0)
  have HK0 := Lib.hid k0
  have HFn := Lib.hid hltF
  have HGn := Lib.hid hltG
  clear hltF hltG k0
  refine wpAnyT_start ?_
  intro O R hO hR
  have hQp : ∀ c a (d : Nat) v w, R (.panic c) (a.put (some d) v) w → R (.panic c) a w := by subst hR; exact fun _ _ _ _ _ h => h
  refine wpAnyT_take' (i := 0) (v := ?_) hO rfl rfl (by kernel_rfl) (by kernel_rfl) (by kernel_rfl) (by kernel_rfl) hQp (Or.inl ⟨by kernel_rfl, fun w hSw => ?_⟩) hSS ?_
  rotate_left
  · obtain ⟨s1, s2, s3, s4⟩ := hSw; go_simp; try with_reducible rfl
  try simp only [Act.put, List.setIfInBounds_toArray, List.set_cons_zero, List.set_cons_succ]
  refine wpAnyT_take' (i := 1) (v := ?_) hO rfl rfl (by kernel_rfl) (by kernel_rfl) (by kernel_rfl) (by kernel_rfl) hQp (Or.inl ⟨by kernel_rfl, fun w hSw => ?_⟩) hSS ?_
  rotate_left
  · obtain ⟨s1, s2, s3, s4⟩ := hSw; go_simp; try with_reducible rfl
  try simp only [Act.put, List.setIfInBounds_toArray, List.set_cons_zero, List.set_cons_succ]
  refine wpAnyT_take' (i := 2) (v := ?_) hO rfl rfl (by kernel_rfl) (by kernel_rfl) (by kernel_rfl) (by kernel_rfl) hQp (Or.inl ⟨by kernel_rfl, fun w hSw => ?_⟩) hSS ?_
  rotate_left
  · obtain ⟨s1, s2, s3, s4⟩ := hSw; go_simp; try with_reducible rfl
  try simp only [Act.put, List.setIfInBounds_toArray, List.set_cons_zero, List.set_cons_succ]
  refine wpAnyT_take' (i := 3) (v := ?_) hO rfl rfl (by kernel_rfl) (by kernel_rfl) (by kernel_rfl) (by kernel_rfl) hQp (Or.inl ⟨by kernel_rfl, fun w hSw => ?_⟩) hSS ?_
  rotate_left
  · obtain ⟨s1, s2, s3, s4⟩ := hSw; go_simp; try with_reducible rfl
  try simp only [Act.put, List.setIfInBounds_toArray, List.set_cons_zero, List.set_cons_succ]
  refine wpAnyT_take' (i := 4) (v := ?_) hO rfl rfl (by kernel_rfl) (by kernel_rfl) (by kernel_rfl) (by kernel_rfl) hQp (Or.inl ⟨by kernel_rfl, fun w hSw => ?_⟩) hSS ?_
  rotate_left
  · obtain ⟨s1, s2, s3, s4⟩ := hSw; go_simp; try with_reducible rfl
  try simp only [Act.put, List.setIfInBounds_toArray, List.set_cons_zero, List.set_cons_succ]
  refine wpAnyT_take' (i := 6) (v := ?_) hO rfl rfl (by kernel_rfl) (by kernel_rfl) (by kernel_rfl) (by kernel_rfl) hQp (Or.inl ⟨by kernel_rfl, fun w hSw => ?_⟩) hSS ?_
  rotate_left
  · obtain ⟨s1, s2, s3, s4⟩ := hSw; go_simp; try with_reducible rfl
  try simp only [Act.put, List.setIfInBounds_toArray, List.set_cons_zero, List.set_cons_succ]
  refine wpAnyT_take' (i := 7) (v := ?_) hO rfl rfl (by kernel_rfl) (by kernel_rfl) (by kernel_rfl) (by kernel_rfl) hQp (Or.inl ⟨by kernel_rfl, fun w hSw => ?_⟩) hSS ?_
  rotate_left
  · obtain ⟨s1, s2, s3, s4⟩ := hSw; go_simp; try with_reducible rfl
  try simp only [Act.put, List.setIfInBounds_toArray, List.set_cons_zero, List.set_cons_succ]
  refine wpAnyT_take' (i := 8) (v := ?_) hO rfl rfl (by kernel_rfl) (by kernel_rfl) (by kernel_rfl) (by kernel_rfl) hQp (Or.inl ⟨by kernel_rfl, fun w hSw => ?_⟩) hSS ?_
  rotate_left
  · obtain ⟨s1, s2, s3, s4⟩ := hSw; go_simp; try with_reducible rfl
  try simp only [Act.put, List.setIfInBounds_toArray, List.set_cons_zero, List.set_cons_succ]
  refine wpAnyT_take' (i := 9) (v := ?_) hO rfl rfl (by kernel_rfl) (by kernel_rfl) (by kernel_rfl) (by kernel_rfl) hQp (Or.inl ⟨by kernel_rfl, fun w hSw => ?_⟩) hSS ?_
  rotate_left
  · obtain ⟨s1, s2, s3, s4⟩ := hSw; go_simp; try with_reducible rfl
  try simp only [Act.put, List.setIfInBounds_toArray, List.set_cons_zero, List.set_cons_succ]
  refine wpAnyT_take' (i := 10) (v := ?_) hO rfl rfl (by kernel_rfl) (by kernel_rfl) (by kernel_rfl) (by kernel_rfl) hQp (Or.inl ⟨by kernel_rfl, fun w hSw => ?_⟩) hSS ?_
  rotate_left
  · obtain ⟨s1, s2, s3, s4⟩ := hSw; go_simp; try with_reducible rfl
  try simp only [Act.put, List.setIfInBounds_toArray, List.set_cons_zero, List.set_cons_succ]
  refine wpAnyT_one' (i := 5) hO rfl (by kernel_rfl) (by kernel_rfl) (fun K hK => ?_)
  go_simp
  have hvW := hbytes.out.kept0 HK0.out
  refine Calls.mono (put_any HB.out.mir s hsz.out.1 hvW hsz.out.2) ?_
  rintro e w1 ⟨rfl, hd, hk1⟩
  have hS1 := hSS.kept hk1 HFn.out
  have hr1 := Lib.hid (HB.out.ref1 hk1)
  have hv1 := Lib.hid (hvW.kept hk1 (fun g hg => (hfar.out g hg).1))
  have HD := Lib.hid hd
  have HK1 := Lib.hid hk1
  clear hSS hvW hd hk1
  have hSS := hS1
  clear hS1
  refine hK _ _ (.inr hSS) ?_
  clear hK K
  try simp only [Act.put, List.setIfInBounds_toArray, List.set_cons_zero, List.set_cons_succ]
  refine wpAnyT_one' (i := 11) hO rfl (by kernel_rfl) (by kernel_rfl) (fun K hK => ?_)
  go_simp
  refine Calls.mono (rput_any hr1.out s hsz.out.1 hv1.out hsz.out.2) ?_
  rintro e w2 ⟨rfl, G', hr2, hk2, hG'⟩
  have hS2 := hSS.kept hk2 HGn.out
  have hfin := Lib.hid (HB.out.step HK0.out HD.out HK1.out (fun k hk => .inl hk) hr2 hk2 hG' (by rw [put_asked]; exact HB.out.few))
  clear hSS hr2 hk2 hG' hr1 hv1 HD HK1
  have hSS := hS2
  clear hS2
  generalize (d.put s l).1 = r
  refine hK _ _ (.inr hSS) ?_
  clear hK K
  try simp only [Act.put, List.setIfInBounds_toArray, List.set_cons_zero, List.set_cons_succ]
  refine wpAnyT_take' (i := 12) (v := ?_) hO rfl rfl (by kernel_rfl) (by kernel_rfl) (by kernel_rfl) (by kernel_rfl) hQp (Or.inl ⟨by kernel_rfl, fun w hSw => ?_⟩) hSS ?_
  rotate_left
  · obtain ⟨s1, s2, s3, s4⟩ := hSw; go_simp; try with_reducible rfl
  try simp only [Act.put, List.setIfInBounds_toArray, List.set_cons_zero, List.set_cons_succ]
  refine wpAnyT_one' (i := 13) hO rfl (by kernel_rfl) (by kernel_rfl) (fun K hK => ?_)
  go_simp
  refine hK _ _ (.inl rfl) ?_
  clear hK K
  try simp only [Act.put, List.setIfInBounds_toArray, List.set_cons_zero, List.set_cons_succ]
  refine wpAnyT_done' hO (by kernel_rfl) ?_ _
  subst hR
  go_wp2_with fail
  go_ret
  exact hfin.out

set_option maxRecDepth 10000 in
set_option maxHeartbeats 3200000 in
theorem mdo_drop {w : World} {b c : Nat} {F G : List Nat} {d : PMir} (h : MBoth w b c F G d) (s s2 : ByteArray) (hs : s.size ≤ maxLen) (n : Int) (vb : Value) :
    Calls Tryd.prog 20 #[.pointer (some ⟨b, 0, none⟩), .pointer (some ⟨c, 0, none⟩), .agg #[.int .i64 2, .string s, .string s2, .int .i64 n, vb]] w (MDoPost w b c F G) := by
  have H := Lib.hid h
  have hsz : Hid (s.size ≤ maxLen) := Lib.hid hs
  clear h hs
  go_enter Tryd.func20, Tryd.ntmps20
  go_wp2_with fail
  have k0 : Kept [] w (w.alloc (.cells #[.int .i64 2, .string s, .string s2, .int .i64 n, vb] 45)).drew := ((Kept.refl [] w).alloc _).drew
  have hSS : OpS w.heap.size s s2 n vb (w.alloc (.cells #[.int .i64 2, .string s, .string s2, .int .i64 n, vb] 45)).drew := (opS_new w 2 s s2 n vb _).kept (Kept.refl [] _).drew (by simp)
  refine wp_region_last' (n := 10) (OpS w.heap.size s s2 n vb) 9 (by kernel_rfl) (by kernel_rfl) ?_
  change wpAnyT _ _ _ _ _ _ _ _ _ (w.alloc (.cells #[.int .i64 2, .string s, .string s2, .int .i64 n, vb] 45)).drew
  revert k0 hSS
  generalize (w.alloc (.cells #[.int .i64 2, .string s, .string s2, .int .i64 n, vb] 45)).drew = W
  intro k0 hSS
  have hltF : w.heap.size ∉ F := fun hx => absurd (H.out.mir.lt _ hx) (Nat.lt_irrefl _)
  have hltG : w.heap.size ∉ G := fun hx => absurd (H.out.ref.lt _ hx) (Nat.lt_irrefl _)
  have HB := Lib.hid (H.out.kept0 k0)
  have HK0 := Lib.hid k0
  have HFn := Lib.hid hltF
  have HGn := Lib.hid hltG
  clear hltF hltG k0
  refine wpAnyT_start ?_
  intro O R hO hR
  have hQp : ∀ c a (d : Nat) v w, R (.panic c) (a.put (some d) v) w → R (.panic c) a w := by subst hR; exact fun _ _ _ _ _ h => h
  refine wpAnyT_take' (i := 0) (v := ?_) hO rfl rfl (by kernel_rfl) (by kernel_rfl) (by kernel_rfl) (by kernel_rfl) hQp (Or.inl ⟨by kernel_rfl, fun w hSw => ?_⟩) hSS ?_
  rotate_left
  · obtain ⟨s1, s2, s3, s4⟩ := hSw; go_simp; try with_reducible rfl
  try simp only [Act.put, List.setIfInBounds_toArray, List.set_cons_zero, List.set_cons_succ]
  refine wpAnyT_take' (i := 1) (v := ?_) hO rfl rfl (by kernel_rfl) (by kernel_rfl) (by kernel_rfl) (by kernel_rfl) hQp (Or.inl ⟨by kernel_rfl, fun w hSw => ?_⟩) hSS ?_
  rotate_left
  · obtain ⟨s1, s2, s3, s4⟩ := hSw; go_simp; try with_reducible rfl
  try simp only [Act.put, List.setIfInBounds_toArray, List.set_cons_zero, List.set_cons_succ]
  refine wpAnyT_take' (i := 2) (v := ?_) hO rfl rfl (by kernel_rfl) (by kernel_rfl) (by kernel_rfl) (by kernel_rfl) hQp (Or.inl ⟨by kernel_rfl, fun w hSw => ?_⟩) hSS ?_
  rotate_left
  · obtain ⟨s1, s2, s3, s4⟩ := hSw; go_simp; try with_reducible rfl
  try simp only [Act.put, List.setIfInBounds_toArray, List.set_cons_zero, List.set_cons_succ]
  refine wpAnyT_take' (i := 4) (v := ?_) hO rfl rfl (by kernel_rfl) (by kernel_rfl) (by kernel_rfl) (by kernel_rfl) hQp (Or.inl ⟨by kernel_rfl, fun w hSw => ?_⟩) hSS ?_
  rotate_left
  · obtain ⟨s1, s2, s3, s4⟩ := hSw; go_simp; try with_reducible rfl
  try simp only [Act.put, List.setIfInBounds_toArray, List.set_cons_zero, List.set_cons_succ]
  refine wpAnyT_take' (i := 5) (v := ?_) hO rfl rfl (by kernel_rfl) (by kernel_rfl) (by kernel_rfl) (by kernel_rfl) hQp (Or.inl ⟨by kernel_rfl, fun w hSw => ?_⟩) hSS ?_
  rotate_left
  · obtain ⟨s1, s2, s3, s4⟩ := hSw; go_simp; try with_reducible rfl
  try simp only [Act.put, List.setIfInBounds_toArray, List.set_cons_zero, List.set_cons_succ]
  refine wpAnyT_take' (i := 6) (v := ?_) hO rfl rfl (by kernel_rfl) (by kernel_rfl) (by kernel_rfl) (by kernel_rfl) hQp (Or.inl ⟨by kernel_rfl, fun w hSw => ?_⟩) hSS ?_
  rotate_left
  · obtain ⟨s1, s2, s3, s4⟩ := hSw; go_simp; try with_reducible rfl
  try simp only [Act.put, List.setIfInBounds_toArray, List.set_cons_zero, List.set_cons_succ]
  refine wpAnyT_one' (i := 3) hO rfl (by kernel_rfl) (by kernel_rfl) (fun K hK => ?_)
  go_simp
  refine Calls.mono (drop_any HB.out.mir s hsz.out) ?_
  rintro e w1 ⟨rfl, hd, hk1⟩
  have hS1 := hSS.kept hk1 HFn.out
  have hr1 := Lib.hid (HB.out.ref1 hk1)
  have HD := Lib.hid hd
  have HK1 := Lib.hid hk1
  clear hSS hd hk1
  have hSS := hS1
  clear hS1
  refine hK _ _ (.inr hSS) ?_
  clear hK K
  try simp only [Act.put, List.setIfInBounds_toArray, List.set_cons_zero, List.set_cons_succ]
  refine wpAnyT_one' (i := 7) hO rfl (by kernel_rfl) (by kernel_rfl) (fun K hK => ?_)
  go_simp
  refine Calls.mono (rdrop_any hr1.out s) ?_
  rintro e w2 ⟨rfl, G', hr2, hk2, hG'⟩
  have hS2 := hSS.kept hk2 HGn.out
  have hfin := Lib.hid (HB.out.step HK0.out HD.out HK1.out (fun k hk => .inl hk) hr2 hk2 hG' (by rw [drop_asked]; exact HB.out.few))
  clear hSS hr2 hk2 hG' hr1 HD HK1
  have hSS := hS2
  clear hS2
  generalize (d.drop s).1 = r
  refine hK _ _ (.inr hSS) ?_
  clear hK K
  try simp only [Act.put, List.setIfInBounds_toArray, List.set_cons_zero, List.set_cons_succ]
  refine wpAnyT_take' (i := 8) (v := ?_) hO rfl rfl (by kernel_rfl) (by kernel_rfl) (by kernel_rfl) (by kernel_rfl) hQp (Or.inl ⟨by kernel_rfl, fun w hSw => ?_⟩) hSS ?_
  rotate_left
  · obtain ⟨s1, s2, s3, s4⟩ := hSw; go_simp; try with_reducible rfl
  try simp only [Act.put, List.setIfInBounds_toArray, List.set_cons_zero, List.set_cons_succ]
  refine wpAnyT_one' (i := 9) hO rfl (by kernel_rfl) (by kernel_rfl) (fun K hK => ?_)
  go_simp
  refine hK _ _ (.inl rfl) ?_
  clear hK K
  try simp only [Act.put, List.setIfInBounds_toArray, List.set_cons_zero, List.set_cons_succ]
  refine wpAnyT_done' hO (by kernel_rfl) ?_ _
  subst hR
  go_wp2_with fail
  go_ret
  exact hfin.out
end Go.Proofs.YtfkdoinlbdcaaaaDoor

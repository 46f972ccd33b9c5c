/- One call of both disks: they answer alike. -/
import Derived.Test.YtfkdoinlbdcaaaaRefH
import Derived.Test.YtfkdoinlbdcaaaaRefJ
import Derived.Test.YtfkdoinlbdcaaaaCalm
import Derived.Test.YtfkdoinlbdcaaaaLives
namespace Go.Proofs.Ytfkdoinlbdcaaaa
open Go.RowKit

theorem PDisk.write_len (d : PDisk) (i : Int) (l : List UInt8) : (d.write i l).2.sure.length = d.sure.length := by
  unfold PDisk.write
  split
  · rfl
  · split
    · rfl
    · split <;> simp [PDisk.upd, PDisk.goes_sure]
theorem PDisk.sync_len (d : PDisk) : d.sync.2.sure.length = d.sure.length := by
  unfold PDisk.sync
  split
  · rfl
  · split <;> simp [PDisk.goes_sure, PDisk.synced]
theorem PDisk.stop_len (d : PDisk) (n k : Int) : (d.stop n k).2.sure.length = d.sure.length := by
  unfold PDisk.stop
  split
  · rfl
  · split <;> rfl
theorem PDisk.crash_len (d : PDisk) (l : List (Int × Int)) : (d.crash l).2.sure.length = d.sure.length := by
  unfold PDisk.crash
  split
  · rfl
  · simp [PDisk.crashSure_len]

/-- Both disks hold the same, apart from one another. -/
structure Both (w : World) (b c : Nat) (F G : List Nat) (d : PDisk) : Prop where
  disk : DiskRep w b F d
  ref : RefRep w c G d
  apart : ∀ k, k ∈ F → k ∉ G
theorem Both.kept0 {w w' : World} {b c : Nat} {F G : List Nat} {d : PDisk} (h : Both w b c F G d) (k : Kept [] w w') : Both w' b c F G d := ⟨h.disk.kept k (by simp), h.ref.kept0 k, h.apart⟩

theorem crash_both {w : World} {b : Nat} {F : List Nat} {d : PDisk} (h : DiskRep w b F d) (l : List (Int × Int)) {v : Value} (hv : Slc w 2 v l.length (keptCells l)) (hw : ∀ k, k ∈ l → (Lit.int .i64 k.1).wf = true) (hl : l.length ≤ lim) (hF : ∀ g, vblk v = some g → g ∉ F) :
    Calls Try.prog 14 #[.pointer (some ⟨b, 0, none⟩), v] w fun e w' => ∃ F', e = .returned (.int .i64 (d.crash l).1) ∧ DiskRep w' b F' (d.crash l).2 ∧ Kept F w w' ∧ (∀ k, k ∈ F' → k ∈ F ∨ w.heap.size ≤ k) := by
  cases hk : d.keeps l
  · refine (crash_no h l hv hw hl hk).mono ?_
    rintro e w' ⟨rfl, k⟩
    have e1 : d.crash l = (1, d) := by unfold PDisk.crash; rw [if_pos hk]
    rw [e1]
    exact ⟨F, rfl, h.kept k (by simp), k.mono (by simp), fun k hk => .inl hk⟩
  · refine (crash_yes h l hv hw hl hk hF).mono ?_
    rintro e w' ⟨F', rfl, h2, h3, h4⟩
    have e1 : (d.crash l).1 = 0 := by unfold PDisk.crash; rw [if_neg (by rw [hk]; simp)]
    exact ⟨F', by rw [e1], h2, h3, h4⟩

def DoPost (w : World) (c : Nat) (F G : List Nat) (d : PDisk) (e : Ending) (w' : World) : Prop :=
  ∃ b' F' d', e = .returned (.tuple #[.pointer (some ⟨b', 0, none⟩), .bool true]) ∧ Both w' b' c F' G d' ∧ d'.sure.length = d.sure.length ∧ Kept (F ++ G) w w' ∧ (∀ k, k ∈ F' → k ∈ F ∨ w.heap.size ≤ k)


set_option maxRecDepth 10000 in
set_option maxHeartbeats 3200000 in
theorem do_write {w : World} {b c : Nat} {F G : List Nat} {d : PDisk} (h : Both w b c F G d) (n k : Int) (vb vl : Value) {l : List UInt8} (hvb : Bytes w vb l) (hfr : ∀ g, vblk vb = some g → g ∉ F ∧ g ∉ G) :
    Calls Try.prog 17 #[.pointer (some ⟨b, 0, none⟩), .pointer (some ⟨c, 0, none⟩), .agg #[.int .i64 1, .int .i64 n, .int .i64 k, vb, vl]] w (DoPost w c F G d) := by
  have H := Lib.hid h
  have hbytes : Hid (Bytes w vb l) := Lib.hid hvb
  have hfar : Hid (∀ g, vblk vb = some g → g ∉ F ∧ g ∉ G) := Lib.hid hfr
  clear hvb hfr
  clear h
  go_enter Try.func17, Try.ntmps17
  go_wp2_with fail
  have k0 : Kept [] w (w.alloc (.cells #[.int .i64 1, .int .i64 n, .int .i64 k, vb, vl] 32)).drew := ((Kept.refl [] w).alloc _).drew
  have hSS : (fun w' : World => w'.cell? ⟨w.heap.size, 1, none⟩ = some (.int .i64 n) ∧ w'.cell? ⟨w.heap.size, 2, none⟩ = some (.int .i64 k) ∧ w'.cell? ⟨w.heap.size, 3, none⟩ = some vb ∧ w'.cell? ⟨w.heap.size, 4, none⟩ = some vl) (w.alloc (.cells #[.int .i64 1, .int .i64 n, .int .i64 k, vb, vl] 32)).drew := by
    have hb := heap_alloc_new w (.cells #[.int .i64 1, .int .i64 n, .int .i64 k, vb, vl] 32)
    exact ⟨cell_head hb rfl, cell_head hb rfl, cell_head hb rfl, cell_head hb rfl⟩
  refine wp_region_last' (n := 16) (fun w' : World => w'.cell? ⟨w.heap.size, 1, none⟩ = some (.int .i64 n) ∧ w'.cell? ⟨w.heap.size, 2, none⟩ = some (.int .i64 k) ∧ w'.cell? ⟨w.heap.size, 3, none⟩ = some vb ∧ w'.cell? ⟨w.heap.size, 4, none⟩ = some vl) 16 (by kernel_rfl) (by kernel_rfl) ?_
  change wpAnyT _ _ _ _ _ _ _ _ _ (w.alloc (.cells #[.int .i64 1, .int .i64 n, .int .i64 k, vb, vl] 32)).drew
  revert k0 hSS
  generalize (w.alloc (.cells #[.int .i64 1, .int .i64 n, .int .i64 k, vb, vl] 32)).drew = W
  intro k0 hSS
  have hltF : w.heap.size ∉ F := fun hx => absurd (H.out.disk.lt _ hx) (Nat.lt_irrefl _)
  have hltG : w.heap.size ∉ G := fun hx => absurd (H.out.ref.lt _ hx) (Nat.lt_irrefl _)
  have HB := Lib.hid (H.out.kept0 k0)
  have HK0 := Lib.hid k0
  have HFn := Lib.hid hltF
  have HGn := Lib.hid hltG
  clear hltF hltG
  refine wpAnyT_start ?_
  intro O R hO hR
  have hQp : ∀ c a (d : Nat) v w, R (.panic c) (a.put (some d) v) w → R (.panic c) a w := by subst hR; exact fun _ _ _ _ _ h => h
  refine wpAnyT_take' (i := 0) (v := ?_) hO rfl rfl (by kernel_rfl) (by kernel_rfl) (by kernel_rfl) (by kernel_rfl) hQp (Or.inl ⟨by kernel_rfl, fun w hSw => ?_⟩) hSS ?_
  rotate_left
  · obtain ⟨s1, s2, s3, s4⟩ := hSw; go_simp; try with_reducible rfl
  try simp only [Act.put, List.setIfInBounds_toArray, List.set_cons_zero, List.set_cons_succ]
  refine wpAnyT_take' (i := 1) (v := ?_) hO rfl rfl (by kernel_rfl) (by kernel_rfl) (by kernel_rfl) (by kernel_rfl) hQp (Or.inl ⟨by kernel_rfl, fun w hSw => ?_⟩) hSS ?_
  rotate_left
  · obtain ⟨s1, s2, s3, s4⟩ := hSw; go_simp; try with_reducible rfl
  try simp only [Act.put, List.setIfInBounds_toArray, List.set_cons_zero, List.set_cons_succ]
  refine wpAnyT_take' (i := 2) (v := ?_) hO rfl rfl (by kernel_rfl) (by kernel_rfl) (by kernel_rfl) (by kernel_rfl) hQp (Or.inl ⟨by kernel_rfl, fun w hSw => ?_⟩) hSS ?_
  rotate_left
  · obtain ⟨s1, s2, s3, s4⟩ := hSw; go_simp; try with_reducible rfl
  try simp only [Act.put, List.setIfInBounds_toArray, List.set_cons_zero, List.set_cons_succ]
  refine wpAnyT_take' (i := 3) (v := ?_) hO rfl rfl (by kernel_rfl) (by kernel_rfl) (by kernel_rfl) (by kernel_rfl) hQp (Or.inl ⟨by kernel_rfl, fun w hSw => ?_⟩) hSS ?_
  rotate_left
  · obtain ⟨s1, s2, s3, s4⟩ := hSw; go_simp; try with_reducible rfl
  try simp only [Act.put, List.setIfInBounds_toArray, List.set_cons_zero, List.set_cons_succ]
  refine wpAnyT_take' (i := 4) (v := ?_) hO rfl rfl (by kernel_rfl) (by kernel_rfl) (by kernel_rfl) (by kernel_rfl) hQp (Or.inl ⟨by kernel_rfl, fun w hSw => ?_⟩) hSS ?_
  rotate_left
  · obtain ⟨s1, s2, s3, s4⟩ := hSw; go_simp; try with_reducible rfl
  try simp only [Act.put, List.setIfInBounds_toArray, List.set_cons_zero, List.set_cons_succ]
  refine wpAnyT_take' (i := 5) (v := ?_) hO rfl rfl (by kernel_rfl) (by kernel_rfl) (by kernel_rfl) (by kernel_rfl) hQp (Or.inl ⟨by kernel_rfl, fun w hSw => ?_⟩) hSS ?_
  rotate_left
  · obtain ⟨s1, s2, s3, s4⟩ := hSw; go_simp; try with_reducible rfl
  try simp only [Act.put, List.setIfInBounds_toArray, List.set_cons_zero, List.set_cons_succ]
  refine wpAnyT_take' (i := 7) (v := ?_) hO rfl rfl (by kernel_rfl) (by kernel_rfl) (by kernel_rfl) (by kernel_rfl) hQp (Or.inl ⟨by kernel_rfl, fun w hSw => ?_⟩) hSS ?_
  rotate_left
  · obtain ⟨s1, s2, s3, s4⟩ := hSw; go_simp; try with_reducible rfl
  try simp only [Act.put, List.setIfInBounds_toArray, List.set_cons_zero, List.set_cons_succ]
  refine wpAnyT_take' (i := 8) (v := ?_) hO rfl rfl (by kernel_rfl) (by kernel_rfl) (by kernel_rfl) (by kernel_rfl) hQp (Or.inl ⟨by kernel_rfl, fun w hSw => ?_⟩) hSS ?_
  rotate_left
  · obtain ⟨s1, s2, s3, s4⟩ := hSw; go_simp; try with_reducible rfl
  try simp only [Act.put, List.setIfInBounds_toArray, List.set_cons_zero, List.set_cons_succ]
  refine wpAnyT_take' (i := 9) (v := ?_) hO rfl rfl (by kernel_rfl) (by kernel_rfl) (by kernel_rfl) (by kernel_rfl) hQp (Or.inl ⟨by kernel_rfl, fun w hSw => ?_⟩) hSS ?_
  rotate_left
  · obtain ⟨s1, s2, s3, s4⟩ := hSw; go_simp; try with_reducible rfl
  try simp only [Act.put, List.setIfInBounds_toArray, List.set_cons_zero, List.set_cons_succ]
  refine wpAnyT_take' (i := 10) (v := ?_) hO rfl rfl (by kernel_rfl) (by kernel_rfl) (by kernel_rfl) (by kernel_rfl) hQp (Or.inl ⟨by kernel_rfl, fun w hSw => ?_⟩) hSS ?_
  rotate_left
  · obtain ⟨s1, s2, s3, s4⟩ := hSw; go_simp; try with_reducible rfl
  try simp only [Act.put, List.setIfInBounds_toArray, List.set_cons_zero, List.set_cons_succ]
  refine wpAnyT_take' (i := 11) (v := ?_) hO rfl rfl (by kernel_rfl) (by kernel_rfl) (by kernel_rfl) (by kernel_rfl) hQp (Or.inl ⟨by kernel_rfl, fun w hSw => ?_⟩) hSS ?_
  rotate_left
  · obtain ⟨s1, s2, s3, s4⟩ := hSw; go_simp; try with_reducible rfl
  try simp only [Act.put, List.setIfInBounds_toArray, List.set_cons_zero, List.set_cons_succ]
  refine wpAnyT_one' (i := 6) hO rfl (by kernel_rfl) (by kernel_rfl) (fun K hK => ?_)
  go_simp
  have hvW := hbytes.out.kept0 HK0.out
  refine Calls.mono (write_any HB.out.disk n hvW (fun g hg => (hfar.out g hg).1)) ?_
  rintro e w1 ⟨rfl, hd, hk1⟩
  have hS1 : (fun w' : World => w'.cell? ⟨w.heap.size, 1, none⟩ = some (.int .i64 n) ∧ w'.cell? ⟨w.heap.size, 2, none⟩ = some (.int .i64 k) ∧ w'.cell? ⟨w.heap.size, 3, none⟩ = some vb ∧ w'.cell? ⟨w.heap.size, 4, none⟩ = some vl) w1 := ⟨hk1.cell hSS.1 HFn.out, hk1.cell hSS.2.1 HFn.out, hk1.cell hSS.2.2.1 HFn.out, hk1.cell hSS.2.2.2 HFn.out⟩
  have hr1 := HB.out.ref.kept hk1 (fun x hx => ⟨fun hg => HB.out.apart x hx hg, HB.out.disk.kinds x hx⟩)
  have hv1 := hvW.kept hk1 (fun g hg => (hfar.out g hg).1)
  clear hSS
  have hSS := hS1
  clear hS1
  refine hK _ _ (.inr hSS) ?_
  clear hK K
  try simp only [Act.put, List.setIfInBounds_toArray, List.set_cons_zero, List.set_cons_succ]
  refine wpAnyT_one' (i := 12) hO rfl (by kernel_rfl) (by kernel_rfl) (fun K hK => ?_)
  go_simp
  refine Calls.mono (refWrite_any hr1 n hv1 (fun g hg => (hfar.out g hg).2)) ?_
  rintro e w2 ⟨rfl, hr2, hk2⟩
  have hap := HB.out.apart
  have hS2 : (fun w' : World => w'.cell? ⟨w.heap.size, 1, none⟩ = some (.int .i64 n) ∧ w'.cell? ⟨w.heap.size, 2, none⟩ = some (.int .i64 k) ∧ w'.cell? ⟨w.heap.size, 3, none⟩ = some vb ∧ w'.cell? ⟨w.heap.size, 4, none⟩ = some vl) w2 := ⟨hk2.cell hSS.1 HGn.out, hk2.cell hSS.2.1 HGn.out, hk2.cell hSS.2.2.1 HGn.out, hk2.cell hSS.2.2.2 HGn.out⟩
  have hd2 := hd.kept hk2 (fun x hx => ⟨fun hf => hap x hf hx, hr1.kinds x hx⟩)
  have HBB : Hid (Both w2 b c F G (d.write n l).2) := Lib.hid ⟨hd2, hr2, hap⟩
  have HKK : Hid (Kept (F ++ G) w w2) := Lib.hid (((HK0.out.mono (by simp)).trans' (hk1.mono (by intro x hx; simp [hx]))).trans' (hk2.mono (by intro x hx; simp [hx])))
  clear hd hd2 hr2 hk1 hk2 hr1 hv1 hvW hap
  generalize (d.write n l).1 = r
  clear hSS
  have hSS := hS2
  clear hS2
  refine hK _ _ (.inr hSS) ?_
  clear hK K
  try simp only [Act.put, List.setIfInBounds_toArray, List.set_cons_zero, List.set_cons_succ]
  refine wpAnyT_take' (i := 13) (v := ?_) hO rfl rfl (by kernel_rfl) (by kernel_rfl) (by kernel_rfl) (by kernel_rfl) hQp (Or.inl ⟨by kernel_rfl, fun w hSw => ?_⟩) hSS ?_
  rotate_left
  · obtain ⟨s1, s2, s3, s4⟩ := hSw; go_simp; try with_reducible rfl
  try simp only [Act.put, List.setIfInBounds_toArray, List.set_cons_zero, List.set_cons_succ]
  refine wpAnyT_take' (i := 14) (v := ?_) hO rfl rfl (by kernel_rfl) (by kernel_rfl) (by kernel_rfl) (by kernel_rfl) hQp (Or.inl ⟨by kernel_rfl, fun w hSw => ?_⟩) hSS ?_
  rotate_left
  · obtain ⟨s1, s2, s3, s4⟩ := hSw; go_simp; try with_reducible rfl
  try simp only [Act.put, List.setIfInBounds_toArray, List.set_cons_zero, List.set_cons_succ]
  refine wpAnyT_take' (i := 15) (v := ?_) hO rfl rfl (by kernel_rfl) (by kernel_rfl) (by kernel_rfl) (by kernel_rfl) hQp (Or.inl ⟨by kernel_rfl, fun w hSw => ?_⟩) hSS ?_
  rotate_left
  · obtain ⟨s1, s2, s3, s4⟩ := hSw; go_simp; try with_reducible rfl
  try simp only [Act.put, List.setIfInBounds_toArray, List.set_cons_zero, List.set_cons_succ]
  refine wpAnyT_done' hO (by kernel_rfl) ?_ _
  subst hR
  try clear hQp hO O
  go_wp2_with fail
  go_ret2
  exact ⟨b, F, _, rfl, HBB.out, PDisk.write_len _ _ _, HKK.out, fun k hk => .inl hk⟩

set_option maxRecDepth 10000 in
set_option maxHeartbeats 3200000 in
theorem do_stop {w : World} {b c : Nat} {F G : List Nat} {d : PDisk} (h : Both w b c F G d) (n k : Int) (vb vl : Value) (hn : n ≤ 9223372036854775807) :
    Calls Try.prog 17 #[.pointer (some ⟨b, 0, none⟩), .pointer (some ⟨c, 0, none⟩), .agg #[.int .i64 5, .int .i64 n, .int .i64 k, vb, vl]] w (DoPost w c F G d) := by
  have H := Lib.hid h
  have hnn : Hid (n ≤ 9223372036854775807) := Lib.hid hn
  clear hn
  clear h
  go_enter Try.func17, Try.ntmps17
  go_wp2_with fail
  have k0 : Kept [] w (w.alloc (.cells #[.int .i64 5, .int .i64 n, .int .i64 k, vb, vl] 32)).drew := ((Kept.refl [] w).alloc _).drew
  have hSS : (fun w' : World => w'.cell? ⟨w.heap.size, 1, none⟩ = some (.int .i64 n) ∧ w'.cell? ⟨w.heap.size, 2, none⟩ = some (.int .i64 k) ∧ w'.cell? ⟨w.heap.size, 3, none⟩ = some vb ∧ w'.cell? ⟨w.heap.size, 4, none⟩ = some vl) (w.alloc (.cells #[.int .i64 5, .int .i64 n, .int .i64 k, vb, vl] 32)).drew := by
    have hb := heap_alloc_new w (.cells #[.int .i64 5, .int .i64 n, .int .i64 k, vb, vl] 32)
    exact ⟨cell_head hb rfl, cell_head hb rfl, cell_head hb rfl, cell_head hb rfl⟩
  refine wp_region_last' (n := 16) (fun w' : World => w'.cell? ⟨w.heap.size, 1, none⟩ = some (.int .i64 n) ∧ w'.cell? ⟨w.heap.size, 2, none⟩ = some (.int .i64 k) ∧ w'.cell? ⟨w.heap.size, 3, none⟩ = some vb ∧ w'.cell? ⟨w.heap.size, 4, none⟩ = some vl) 16 (by kernel_rfl) (by kernel_rfl) ?_
  change wpAnyT _ _ _ _ _ _ _ _ _ (w.alloc (.cells #[.int .i64 5, .int .i64 n, .int .i64 k, vb, vl] 32)).drew
  revert k0 hSS
  generalize (w.alloc (.cells #[.int .i64 5, .int .i64 n, .int .i64 k, vb, vl] 32)).drew = W
  intro k0 hSS
  have hltF : w.heap.size ∉ F := fun hx => absurd (H.out.disk.lt _ hx) (Nat.lt_irrefl _)
  have hltG : w.heap.size ∉ G := fun hx => absurd (H.out.ref.lt _ hx) (Nat.lt_irrefl _)
  have HB := Lib.hid (H.out.kept0 k0)
  have HK0 := Lib.hid k0
  have HFn := Lib.hid hltF
  have HGn := Lib.hid hltG
  clear hltF hltG
  refine wpAnyT_start ?_
  intro O R hO hR
  have hQp : ∀ c a (d : Nat) v w, R (.panic c) (a.put (some d) v) w → R (.panic c) a w := by subst hR; exact fun _ _ _ _ _ h => h
  refine wpAnyT_take' (i := 0) (v := ?_) hO rfl rfl (by kernel_rfl) (by kernel_rfl) (by kernel_rfl) (by kernel_rfl) hQp (Or.inl ⟨by kernel_rfl, fun w hSw => ?_⟩) hSS ?_
  rotate_left
  · obtain ⟨s1, s2, s3, s4⟩ := hSw; go_simp; try with_reducible rfl
  try simp only [Act.put, List.setIfInBounds_toArray, List.set_cons_zero, List.set_cons_succ]
  refine wpAnyT_take' (i := 1) (v := ?_) hO rfl rfl (by kernel_rfl) (by kernel_rfl) (by kernel_rfl) (by kernel_rfl) hQp (Or.inl ⟨by kernel_rfl, fun w hSw => ?_⟩) hSS ?_
  rotate_left
  · obtain ⟨s1, s2, s3, s4⟩ := hSw; go_simp; try with_reducible rfl
  try simp only [Act.put, List.setIfInBounds_toArray, List.set_cons_zero, List.set_cons_succ]
  refine wpAnyT_take' (i := 2) (v := ?_) hO rfl rfl (by kernel_rfl) (by kernel_rfl) (by kernel_rfl) (by kernel_rfl) hQp (Or.inl ⟨by kernel_rfl, fun w hSw => ?_⟩) hSS ?_
  rotate_left
  · obtain ⟨s1, s2, s3, s4⟩ := hSw; go_simp; try with_reducible rfl
  try simp only [Act.put, List.setIfInBounds_toArray, List.set_cons_zero, List.set_cons_succ]
  refine wpAnyT_take' (i := 3) (v := ?_) hO rfl rfl (by kernel_rfl) (by kernel_rfl) (by kernel_rfl) (by kernel_rfl) hQp (Or.inl ⟨by kernel_rfl, fun w hSw => ?_⟩) hSS ?_
  rotate_left
  · obtain ⟨s1, s2, s3, s4⟩ := hSw; go_simp; try with_reducible rfl
  try simp only [Act.put, List.setIfInBounds_toArray, List.set_cons_zero, List.set_cons_succ]
  refine wpAnyT_take' (i := 4) (v := ?_) hO rfl rfl (by kernel_rfl) (by kernel_rfl) (by kernel_rfl) (by kernel_rfl) hQp (Or.inl ⟨by kernel_rfl, fun w hSw => ?_⟩) hSS ?_
  rotate_left
  · obtain ⟨s1, s2, s3, s4⟩ := hSw; go_simp; try with_reducible rfl
  try simp only [Act.put, List.setIfInBounds_toArray, List.set_cons_zero, List.set_cons_succ]
  refine wpAnyT_take' (i := 5) (v := ?_) hO rfl rfl (by kernel_rfl) (by kernel_rfl) (by kernel_rfl) (by kernel_rfl) hQp (Or.inl ⟨by kernel_rfl, fun w hSw => ?_⟩) hSS ?_
  rotate_left
  · obtain ⟨s1, s2, s3, s4⟩ := hSw; go_simp; try with_reducible rfl
  try simp only [Act.put, List.setIfInBounds_toArray, List.set_cons_zero, List.set_cons_succ]
  refine wpAnyT_take' (i := 7) (v := ?_) hO rfl rfl (by kernel_rfl) (by kernel_rfl) (by kernel_rfl) (by kernel_rfl) hQp (Or.inl ⟨by kernel_rfl, fun w hSw => ?_⟩) hSS ?_
  rotate_left
  · obtain ⟨s1, s2, s3, s4⟩ := hSw; go_simp; try with_reducible rfl
  try simp only [Act.put, List.setIfInBounds_toArray, List.set_cons_zero, List.set_cons_succ]
  refine wpAnyT_take' (i := 8) (v := ?_) hO rfl rfl (by kernel_rfl) (by kernel_rfl) (by kernel_rfl) (by kernel_rfl) hQp (Or.inl ⟨by kernel_rfl, fun w hSw => ?_⟩) hSS ?_
  rotate_left
  · obtain ⟨s1, s2, s3, s4⟩ := hSw; go_simp; try with_reducible rfl
  try simp only [Act.put, List.setIfInBounds_toArray, List.set_cons_zero, List.set_cons_succ]
  refine wpAnyT_take' (i := 9) (v := ?_) hO rfl rfl (by kernel_rfl) (by kernel_rfl) (by kernel_rfl) (by kernel_rfl) hQp (Or.inl ⟨by kernel_rfl, fun w hSw => ?_⟩) hSS ?_
  rotate_left
  · obtain ⟨s1, s2, s3, s4⟩ := hSw; go_simp; try with_reducible rfl
  try simp only [Act.put, List.setIfInBounds_toArray, List.set_cons_zero, List.set_cons_succ]
  refine wpAnyT_take' (i := 10) (v := ?_) hO rfl rfl (by kernel_rfl) (by kernel_rfl) (by kernel_rfl) (by kernel_rfl) hQp (Or.inl ⟨by kernel_rfl, fun w hSw => ?_⟩) hSS ?_
  rotate_left
  · obtain ⟨s1, s2, s3, s4⟩ := hSw; go_simp; try with_reducible rfl
  try simp only [Act.put, List.setIfInBounds_toArray, List.set_cons_zero, List.set_cons_succ]
  refine wpAnyT_take' (i := 11) (v := ?_) hO rfl rfl (by kernel_rfl) (by kernel_rfl) (by kernel_rfl) (by kernel_rfl) hQp (Or.inl ⟨by kernel_rfl, fun w hSw => ?_⟩) hSS ?_
  rotate_left
  · obtain ⟨s1, s2, s3, s4⟩ := hSw; go_simp; try with_reducible rfl
  try simp only [Act.put, List.setIfInBounds_toArray, List.set_cons_zero, List.set_cons_succ]
  refine wpAnyT_one' (i := 6) hO rfl (by kernel_rfl) (by kernel_rfl) (fun K hK => ?_)
  go_simp
  refine Calls.mono (stop_any HB.out.disk n k hnn.out) ?_
  rintro e w1 ⟨rfl, hd, hk1⟩
  have hS1 : (fun w' : World => w'.cell? ⟨w.heap.size, 1, none⟩ = some (.int .i64 n) ∧ w'.cell? ⟨w.heap.size, 2, none⟩ = some (.int .i64 k) ∧ w'.cell? ⟨w.heap.size, 3, none⟩ = some vb ∧ w'.cell? ⟨w.heap.size, 4, none⟩ = some vl) w1 := ⟨hk1.cell hSS.1 HFn.out, hk1.cell hSS.2.1 HFn.out, hk1.cell hSS.2.2.1 HFn.out, hk1.cell hSS.2.2.2 HFn.out⟩
  have hr1 := HB.out.ref.kept hk1 (fun x hx => ⟨fun hg => HB.out.apart x hx hg, HB.out.disk.kinds x hx⟩)
  clear hSS
  have hSS := hS1
  clear hS1
  refine hK _ _ (.inr hSS) ?_
  clear hK K
  try simp only [Act.put, List.setIfInBounds_toArray, List.set_cons_zero, List.set_cons_succ]
  refine wpAnyT_one' (i := 12) hO rfl (by kernel_rfl) (by kernel_rfl) (fun K hK => ?_)
  go_simp
  refine Calls.mono (refStop_any hr1 n k hnn.out) ?_
  rintro e w2 ⟨rfl, hr2, hk2⟩
  have hap := HB.out.apart
  have hS2 : (fun w' : World => w'.cell? ⟨w.heap.size, 1, none⟩ = some (.int .i64 n) ∧ w'.cell? ⟨w.heap.size, 2, none⟩ = some (.int .i64 k) ∧ w'.cell? ⟨w.heap.size, 3, none⟩ = some vb ∧ w'.cell? ⟨w.heap.size, 4, none⟩ = some vl) w2 := ⟨hk2.cell hSS.1 HGn.out, hk2.cell hSS.2.1 HGn.out, hk2.cell hSS.2.2.1 HGn.out, hk2.cell hSS.2.2.2 HGn.out⟩
  have hd2 := hd.kept hk2 (fun x hx => ⟨fun hf => hap x hf hx, hr1.kinds x hx⟩)
  have HBB : Hid (Both w2 b c F G (d.stop n k).2) := Lib.hid ⟨hd2, hr2, hap⟩
  have HKK : Hid (Kept (F ++ G) w w2) := Lib.hid (((HK0.out.mono (by simp)).trans' (hk1.mono (by intro x hx; simp [hx]))).trans' (hk2.mono (by intro x hx; simp [hx])))
  clear hd hd2 hr2 hk1 hk2 hr1 hap
  generalize (d.stop n k).1 = r
  clear hSS
  have hSS := hS2
  clear hS2
  refine hK _ _ (.inr hSS) ?_
  clear hK K
  try simp only [Act.put, List.setIfInBounds_toArray, List.set_cons_zero, List.set_cons_succ]
  refine wpAnyT_take' (i := 13) (v := ?_) hO rfl rfl (by kernel_rfl) (by kernel_rfl) (by kernel_rfl) (by kernel_rfl) hQp (Or.inl ⟨by kernel_rfl, fun w hSw => ?_⟩) hSS ?_
  rotate_left
  · obtain ⟨s1, s2, s3, s4⟩ := hSw; go_simp; try with_reducible rfl
  try simp only [Act.put, List.setIfInBounds_toArray, List.set_cons_zero, List.set_cons_succ]
  refine wpAnyT_take' (i := 14) (v := ?_) hO rfl rfl (by kernel_rfl) (by kernel_rfl) (by kernel_rfl) (by kernel_rfl) hQp (Or.inl ⟨by kernel_rfl, fun w hSw => ?_⟩) hSS ?_
  rotate_left
  · obtain ⟨s1, s2, s3, s4⟩ := hSw; go_simp; try with_reducible rfl
  try simp only [Act.put, List.setIfInBounds_toArray, List.set_cons_zero, List.set_cons_succ]
  refine wpAnyT_take' (i := 15) (v := ?_) hO rfl rfl (by kernel_rfl) (by kernel_rfl) (by kernel_rfl) (by kernel_rfl) hQp (Or.inl ⟨by kernel_rfl, fun w hSw => ?_⟩) hSS ?_
  rotate_left
  · obtain ⟨s1, s2, s3, s4⟩ := hSw; go_simp; try with_reducible rfl
  try simp only [Act.put, List.setIfInBounds_toArray, List.set_cons_zero, List.set_cons_succ]
  refine wpAnyT_done' hO (by kernel_rfl) ?_ _
  subst hR
  try clear hQp hO O
  go_wp2_with fail
  go_ret2
  exact ⟨b, F, _, rfl, HBB.out, PDisk.stop_len _ _ _, HKK.out, fun k hk => .inl hk⟩

set_option maxRecDepth 10000 in
set_option maxHeartbeats 3200000 in
theorem do_crash {w : World} {b c : Nat} {F G : List Nat} {d : PDisk} (h : Both w b c F G d) (n k : Int) (vb vl : Value) {ks : List (Int × Int)} (hvl : Slc w 2 vl ks.length (keptCells ks)) (hw : ∀ k, k ∈ ks → (Lit.int .i64 k.1).wf = true) (hl : ks.length ≤ lim) (hfr : ∀ g, vblk vl = some g → g ∉ F ∧ g ∉ G) :
    Calls Try.prog 17 #[.pointer (some ⟨b, 0, none⟩), .pointer (some ⟨c, 0, none⟩), .agg #[.int .i64 4, .int .i64 n, .int .i64 k, vb, vl]] w (DoPost w c F G d) := by
  have H := Lib.hid h
  have hbytes : Hid (Slc w 2 vl ks.length (keptCells ks)) := Lib.hid hvl
  have hfar : Hid (∀ g, vblk vl = some g → g ∉ F ∧ g ∉ G) := Lib.hid hfr
  have hww : Hid (∀ k, k ∈ ks → (Lit.int .i64 k.1).wf = true) := Lib.hid hw
  have hll : Hid (ks.length ≤ lim) := Lib.hid hl
  clear hvl hfr hw hl
  clear h
  go_enter Try.func17, Try.ntmps17
  go_wp2_with fail
  have k0 : Kept [] w (w.alloc (.cells #[.int .i64 4, .int .i64 n, .int .i64 k, vb, vl] 32)).drew := ((Kept.refl [] w).alloc _).drew
  have hSS : (fun w' : World => w'.cell? ⟨w.heap.size, 1, none⟩ = some (.int .i64 n) ∧ w'.cell? ⟨w.heap.size, 2, none⟩ = some (.int .i64 k) ∧ w'.cell? ⟨w.heap.size, 3, none⟩ = some vb ∧ w'.cell? ⟨w.heap.size, 4, none⟩ = some vl) (w.alloc (.cells #[.int .i64 4, .int .i64 n, .int .i64 k, vb, vl] 32)).drew := by
    have hb := heap_alloc_new w (.cells #[.int .i64 4, .int .i64 n, .int .i64 k, vb, vl] 32)
    exact ⟨cell_head hb rfl, cell_head hb rfl, cell_head hb rfl, cell_head hb rfl⟩
  refine wp_region_last' (n := 12) (fun w' : World => w'.cell? ⟨w.heap.size, 1, none⟩ = some (.int .i64 n) ∧ w'.cell? ⟨w.heap.size, 2, none⟩ = some (.int .i64 k) ∧ w'.cell? ⟨w.heap.size, 3, none⟩ = some vb ∧ w'.cell? ⟨w.heap.size, 4, none⟩ = some vl) 12 (by kernel_rfl) (by kernel_rfl) ?_
  change wpAnyT _ _ _ _ _ _ _ _ _ (w.alloc (.cells #[.int .i64 4, .int .i64 n, .int .i64 k, vb, vl] 32)).drew
  revert k0 hSS
  generalize (w.alloc (.cells #[.int .i64 4, .int .i64 n, .int .i64 k, vb, vl] 32)).drew = W
  intro k0 hSS
  have hltF : w.heap.size ∉ F := fun hx => absurd (H.out.disk.lt _ hx) (Nat.lt_irrefl _)
  have hltG : w.heap.size ∉ G := fun hx => absurd (H.out.ref.lt _ hx) (Nat.lt_irrefl _)
  have HB := Lib.hid (H.out.kept0 k0)
  have HK0 := Lib.hid k0
  have HFn := Lib.hid hltF
  have HGn := Lib.hid hltG
  clear hltF hltG
  refine wpAnyT_start ?_
  intro O R hO hR
  have hQp : ∀ c a (d : Nat) v w, R (.panic c) (a.put (some d) v) w → R (.panic c) a w := by subst hR; exact fun _ _ _ _ _ h => h
  refine wpAnyT_take' (i := 0) (v := ?_) hO rfl rfl (by kernel_rfl) (by kernel_rfl) (by kernel_rfl) (by kernel_rfl) hQp (Or.inl ⟨by kernel_rfl, fun w hSw => ?_⟩) hSS ?_
  rotate_left
  · obtain ⟨s1, s2, s3, s4⟩ := hSw; go_simp; try with_reducible rfl
  try simp only [Act.put, List.setIfInBounds_toArray, List.set_cons_zero, List.set_cons_succ]
  refine wpAnyT_take' (i := 1) (v := ?_) hO rfl rfl (by kernel_rfl) (by kernel_rfl) (by kernel_rfl) (by kernel_rfl) hQp (Or.inl ⟨by kernel_rfl, fun w hSw => ?_⟩) hSS ?_
  rotate_left
  · obtain ⟨s1, s2, s3, s4⟩ := hSw; go_simp; try with_reducible rfl
  try simp only [Act.put, List.setIfInBounds_toArray, List.set_cons_zero, List.set_cons_succ]
  refine wpAnyT_take' (i := 2) (v := ?_) hO rfl rfl (by kernel_rfl) (by kernel_rfl) (by kernel_rfl) (by kernel_rfl) hQp (Or.inl ⟨by kernel_rfl, fun w hSw => ?_⟩) hSS ?_
  rotate_left
  · obtain ⟨s1, s2, s3, s4⟩ := hSw; go_simp; try with_reducible rfl
  try simp only [Act.put, List.setIfInBounds_toArray, List.set_cons_zero, List.set_cons_succ]
  refine wpAnyT_take' (i := 3) (v := ?_) hO rfl rfl (by kernel_rfl) (by kernel_rfl) (by kernel_rfl) (by kernel_rfl) hQp (Or.inl ⟨by kernel_rfl, fun w hSw => ?_⟩) hSS ?_
  rotate_left
  · obtain ⟨s1, s2, s3, s4⟩ := hSw; go_simp; try with_reducible rfl
  try simp only [Act.put, List.setIfInBounds_toArray, List.set_cons_zero, List.set_cons_succ]
  refine wpAnyT_take' (i := 5) (v := ?_) hO rfl rfl (by kernel_rfl) (by kernel_rfl) (by kernel_rfl) (by kernel_rfl) hQp (Or.inl ⟨by kernel_rfl, fun w hSw => ?_⟩) hSS ?_
  rotate_left
  · obtain ⟨s1, s2, s3, s4⟩ := hSw; go_simp; try with_reducible rfl
  try simp only [Act.put, List.setIfInBounds_toArray, List.set_cons_zero, List.set_cons_succ]
  refine wpAnyT_take' (i := 6) (v := ?_) hO rfl rfl (by kernel_rfl) (by kernel_rfl) (by kernel_rfl) (by kernel_rfl) hQp (Or.inl ⟨by kernel_rfl, fun w hSw => ?_⟩) hSS ?_
  rotate_left
  · obtain ⟨s1, s2, s3, s4⟩ := hSw; go_simp; try with_reducible rfl
  try simp only [Act.put, List.setIfInBounds_toArray, List.set_cons_zero, List.set_cons_succ]
  refine wpAnyT_take' (i := 7) (v := ?_) hO rfl rfl (by kernel_rfl) (by kernel_rfl) (by kernel_rfl) (by kernel_rfl) hQp (Or.inl ⟨by kernel_rfl, fun w hSw => ?_⟩) hSS ?_
  rotate_left
  · obtain ⟨s1, s2, s3, s4⟩ := hSw; go_simp; try with_reducible rfl
  try simp only [Act.put, List.setIfInBounds_toArray, List.set_cons_zero, List.set_cons_succ]
  refine wpAnyT_one' (i := 4) hO rfl (by kernel_rfl) (by kernel_rfl) (fun K hK => ?_)
  go_simp
  have hvW := hbytes.out.kept0 HK0.out
  refine Calls.mono (crash_both HB.out.disk ks hvW hww.out hll.out (fun g hg => (hfar.out g hg).1)) ?_
  rintro e w1 ⟨F', rfl, hd, hk1, hF'⟩
  have hS1 : (fun w' : World => w'.cell? ⟨w.heap.size, 1, none⟩ = some (.int .i64 n) ∧ w'.cell? ⟨w.heap.size, 2, none⟩ = some (.int .i64 k) ∧ w'.cell? ⟨w.heap.size, 3, none⟩ = some vb ∧ w'.cell? ⟨w.heap.size, 4, none⟩ = some vl) w1 := ⟨hk1.cell hSS.1 HFn.out, hk1.cell hSS.2.1 HFn.out, hk1.cell hSS.2.2.1 HFn.out, hk1.cell hSS.2.2.2 HFn.out⟩
  have hr1 := HB.out.ref.kept hk1 (fun x hx => ⟨fun hg => HB.out.apart x hx hg, HB.out.disk.kinds x hx⟩)
  have hv1 := hvW.kept hk1 (fun g hg => (hfar.out g hg).1)
  clear hSS
  have hSS := hS1
  clear hS1
  refine hK _ _ (.inr hSS) ?_
  clear hK K
  try simp only [Act.put, List.setIfInBounds_toArray, List.set_cons_zero, List.set_cons_succ]
  refine wpAnyT_one' (i := 8) hO rfl (by kernel_rfl) (by kernel_rfl) (fun K hK => ?_)
  go_simp
  refine Calls.mono (refCrash_any hr1 ks hv1 hll.out (fun g hg => (hfar.out g hg).2)) ?_
  rintro e w2 ⟨rfl, hr2, hk2⟩
  have hap : ∀ x, x ∈ F' → x ∉ G := by
    intro x hx hg
    rcases hF' x hx with e | e
    · exact HB.out.apart x e hg
    · exact absurd (HB.out.ref.lt x hg) (Nat.not_lt.2 e)
  have hS2 : (fun w' : World => w'.cell? ⟨w.heap.size, 1, none⟩ = some (.int .i64 n) ∧ w'.cell? ⟨w.heap.size, 2, none⟩ = some (.int .i64 k) ∧ w'.cell? ⟨w.heap.size, 3, none⟩ = some vb ∧ w'.cell? ⟨w.heap.size, 4, none⟩ = some vl) w2 := ⟨hk2.cell hSS.1 HGn.out, hk2.cell hSS.2.1 HGn.out, hk2.cell hSS.2.2.1 HGn.out, hk2.cell hSS.2.2.2 HGn.out⟩
  have hd2 := hd.kept hk2 (fun x hx => ⟨fun hf => hap x hf hx, hr1.kinds x hx⟩)
  have HBB : Hid (Both w2 b c F' G (d.crash ks).2) := Lib.hid ⟨hd2, hr2, hap⟩
  have HKK : Hid (Kept (F ++ G) w w2) := Lib.hid (((HK0.out.mono (by simp)).trans' (hk1.mono (by intro x hx; simp [hx]))).trans' (hk2.mono (by intro x hx; simp [hx])))
  have HFF : Hid (∀ x, x ∈ F' → x ∈ F ∨ w.heap.size ≤ x) := Lib.hid (fun x hx => (hF' x hx).imp id (fun e => Nat.le_trans HK0.out.size e))
  clear hd hd2 hr2 hk1 hk2 hr1 hv1 hvW hap hF'
  generalize (d.crash ks).1 = r
  clear hSS
  have hSS := hS2
  clear hS2
  refine hK _ _ (.inr hSS) ?_
  clear hK K
  try simp only [Act.put, List.setIfInBounds_toArray, List.set_cons_zero, List.set_cons_succ]
  refine wpAnyT_take' (i := 9) (v := ?_) hO rfl rfl (by kernel_rfl) (by kernel_rfl) (by kernel_rfl) (by kernel_rfl) hQp (Or.inl ⟨by kernel_rfl, fun w hSw => ?_⟩) hSS ?_
  rotate_left
  · obtain ⟨s1, s2, s3, s4⟩ := hSw; go_simp; try with_reducible rfl
  try simp only [Act.put, List.setIfInBounds_toArray, List.set_cons_zero, List.set_cons_succ]
  refine wpAnyT_take' (i := 10) (v := ?_) hO rfl rfl (by kernel_rfl) (by kernel_rfl) (by kernel_rfl) (by kernel_rfl) hQp (Or.inl ⟨by kernel_rfl, fun w hSw => ?_⟩) hSS ?_
  rotate_left
  · obtain ⟨s1, s2, s3, s4⟩ := hSw; go_simp; try with_reducible rfl
  try simp only [Act.put, List.setIfInBounds_toArray, List.set_cons_zero, List.set_cons_succ]
  refine wpAnyT_take' (i := 11) (v := ?_) hO rfl rfl (by kernel_rfl) (by kernel_rfl) (by kernel_rfl) (by kernel_rfl) hQp (Or.inl ⟨by kernel_rfl, fun w hSw => ?_⟩) hSS ?_
  rotate_left
  · obtain ⟨s1, s2, s3, s4⟩ := hSw; go_simp; try with_reducible rfl
  try simp only [Act.put, List.setIfInBounds_toArray, List.set_cons_zero, List.set_cons_succ]
  refine wpAnyT_done' hO (by kernel_rfl) ?_ _
  subst hR
  try clear hQp hO O
  go_wp2_with fail
  go_ret2
  exact ⟨b, F', _, rfl, HBB.out, PDisk.crash_len _ _, HKK.out, HFF.out⟩

set_option maxRecDepth 10000 in
set_option maxHeartbeats 3200000 in
theorem do_sync {w : World} {b c : Nat} {F G : List Nat} {d : PDisk} (h : Both w b c F G d) (n k : Int) (vb vl : Value) :
    Calls Try.prog 17 #[.pointer (some ⟨b, 0, none⟩), .pointer (some ⟨c, 0, none⟩), .agg #[.int .i64 2, .int .i64 n, .int .i64 k, vb, vl]] w (DoPost w c F G d) := by
  have k0 : Kept [] w (w.alloc (.cells #[.int .i64 2, .int .i64 n, .int .i64 k, vb, vl] 32)) := (Kept.refl [] w).alloc _
  have HB := Lib.hid (h.kept0 k0)
  have HK0 := Lib.hid k0
  clear h k0
  go_enter Try.func17, Try.ntmps17
  go_wp2_with (first
    | (go_at_call 12; refine Calls.mono (sync_any HB.out.disk) ?_; rintro e w1 ⟨rfl, hd, hk1⟩; have hr1 := HB.out.ref.kept hk1 (fun x hx => ⟨fun hg => HB.out.apart x hx hg, HB.out.disk.kinds x hx⟩); have HD := Lib.hid hd; have HK1 := Lib.hid hk1; have HR1 := Lib.hid hr1; clear hd hk1 hr1)
    | (go_at_call 40; refine Calls.mono (refSync_any HR1.out) ?_; rintro e w2 ⟨rfl, hr2, hk2⟩; have hd2 := HD.out.kept hk2 (fun x hx => ⟨fun hf => HB.out.apart x hf hx, HR1.out.kinds x hx⟩); have HBB : Hid (Both w2 b c F G d.sync.2) := Lib.hid ⟨hd2, hr2, HB.out.apart⟩; have HKK : Hid (Kept (F ++ G) w w2) := Lib.hid (((HK0.out.mono (by simp)).trans' (HK1.out.mono (by intro x hx; simp [hx]))).trans' (hk2.mono (by intro x hx; simp [hx]))); clear hd2 hr2 hk2; generalize d.sync.1 = r))
  go_ret2
  exact ⟨b, F, _, rfl, HBB.out, PDisk.sync_len _, HKK.out, fun k hk => .inl hk⟩

set_option maxRecDepth 10000 in
set_option maxHeartbeats 3200000 in
theorem do_read {w : World} {b c : Nat} {F G : List Nat} {d : PDisk} (h : Both w b c F G d) (n k : Int) (vb vl : Value) :
    Calls Try.prog 17 #[.pointer (some ⟨b, 0, none⟩), .pointer (some ⟨c, 0, none⟩), .agg #[.int .i64 3, .int .i64 n, .int .i64 k, vb, vl]] w (DoPost w c F G d) := by
  have k0 : Kept [] w (w.alloc (.cells #[.int .i64 3, .int .i64 n, .int .i64 k, vb, vl] 32)) := (Kept.refl [] w).alloc _
  have hc := heap_alloc_new w (.cells #[.int .i64 3, .int .i64 n, .int .i64 k, vb, vl] 32)
  have HC := Lib.hid hc
  have HB := Lib.hid (h.kept0 k0)
  have HK0 := Lib.hid k0
  clear h k0 hc
  go_enter Try.func17, Try.ntmps17
  go_wp2_with (first
    | (go_at_call 13; refine Calls.mono (read_any HB.out.disk n) ?_; rintro e w1 ⟨v, rfl, hv, hk1⟩; have hb1 := HB.out.kept0 hk1; have p1 : w1.cell? ⟨w.heap.size, 1, none⟩ = some (.int .i64 n) := cell_head (hk1.heap HC.out (by simp)) rfl; have cv : (convert 30 9 v).run Try.prog w1 = .ok (.string (str (d.read n).1)) w1 := Bytes.toStr hv.1; have HK1 := Lib.hid (HK0.out.then hk1); have HB1 := Lib.hid hb1; clear hv hk1 hb1)
    | (go_at_call 22; refine Calls.mono (refRead_any HB1.out.ref n) ?_; rintro e w2 ⟨⟨vx, rfl, hvx⟩, rfl⟩; have cx : (convert 30 9 vx).run Try.prog w1 = .ok (.string (str (d.read n).1)) w1 := Bytes.toStr hvx.1; clear hvx; revert cv cx; generalize (d.read n).2 = r; generalize str (d.read n).1 = s; intro cv cx))
  go_ret2
  exact ⟨b, F, d, rfl, HB1.out, rfl, HK1.out.mono (by simp), fun k hk => .inl hk⟩

set_option maxRecDepth 10000 in
set_option maxHeartbeats 3200000 in
theorem do_fork {w : World} {b c : Nat} {F G : List Nat} {d : PDisk} (h : Both w b c F G d) (n k : Int) (vb vl : Value) :
    Calls Try.prog 17 #[.pointer (some ⟨b, 0, none⟩), .pointer (some ⟨c, 0, none⟩), .agg #[.int .i64 6, .int .i64 n, .int .i64 k, vb, vl]] w (DoPost w c F G d) := by
  have k0 : Kept [] w (w.alloc (.cells #[.int .i64 6, .int .i64 n, .int .i64 k, vb, vl] 32)) := (Kept.refl [] w).alloc _
  have HB := Lib.hid (h.kept0 k0)
  have HK0 := Lib.hid k0
  clear h k0
  go_enter Try.func17, Try.ntmps17
  go_wp2_with (first
    | (go_at_call 24; refine Calls.mono (fork_any HB.out.disk) ?_; rintro e w1 ⟨b', F', rfl, hd, hk1, hF'⟩; have HD1 := Lib.hid hd; have HB1 := Lib.hid (HB.out.kept0 hk1); have HK1 := Lib.hid (HK0.out.then hk1); have HF' : Hid ((∀ x, x ∈ F' → x ∉ F ∧ x ∉ G) ∧ ∀ x, x ∈ F' → w.heap.size ≤ x) := Lib.hid ⟨fun x hx => ⟨fun hf => absurd (HB.out.disk.lt x hf) (Nat.not_lt.2 (hF' x hx)), fun hf => absurd (HB.out.ref.lt x hf) (Nat.not_lt.2 (hF' x hx))⟩, fun x hx => Nat.le_trans HK0.out.size (hF' x hx)⟩; clear hd hk1 hF')
    | (go_at_call 30; refine Calls.mono (block_any _ _ (by decide)) ?_; rintro e w2 ⟨v, rfl, hv, hk2⟩; have HV := Lib.hid hv; have HD2 := Lib.hid (HD1.out.kept hk2 (by simp)); have HB2 := Lib.hid (HB1.out.kept0 hk2); have HK2 := Lib.hid (HK1.out.then hk2); have HA := Lib.hid (new_apart hv HB1.out.disk.lt); clear hv hk2)
    | (go_at_call 11; refine Calls.mono (write_any HB2.out.disk 0 HV.out.1 HA.out) ?_; rintro e w3 ⟨rfl, hd, hk3⟩; have HE3 := Lib.hid hd; have HD3 := Lib.hid (HD2.out.kept hk3 (fun x hx => ⟨fun hf => (HF'.out.1 x hf).1 hx, HB2.out.disk.kinds x hx⟩)); have HR3 := Lib.hid (HB2.out.ref.kept hk3 (fun x hx => ⟨fun hg => HB2.out.apart x hx hg, HB2.out.disk.kinds x hx⟩)); have HK3 := Lib.hid ((HK2.out.mono (Y := F) (by simp)).trans' hk3); clear hd hk3)
    | (go_at_call 12; refine Calls.mono (sync_any HE3.out) ?_; rintro e w4 ⟨rfl, hd, hk4⟩; have HD4 := Lib.hid (HD3.out.kept hk4 (fun x hx => ⟨fun hf => (HF'.out.1 x hf).1 hx, HE3.out.kinds x hx⟩)); have HR4 := Lib.hid (HR3.out.kept hk4 (fun x hx => ⟨fun hg => HB2.out.apart x hx hg, HE3.out.kinds x hx⟩)); have HK4 := Lib.hid (HK3.out.trans' hk4); clear hd hk4))
  go_ret2
  exact ⟨b', F', d, rfl, ⟨HD4.out, HR4.out, fun x hx => (HF'.out.1 x hx).2⟩, rfl, HK4.out.mono (by intro x hx; simp [hx]), fun x hx => .inr (HF'.out.2 x hx)⟩

set_option maxRecDepth 10000 in
set_option maxHeartbeats 3200000 in
theorem do_else {w : World} {b c : Nat} {F G : List Nat} {d : PDisk} (h : Both w b c F G d) (n k : Int) (vb vl : Value) (kind : Int) (h1 : ¬kind = 1) (h2 : ¬kind = 2) (h3 : ¬kind = 3) (h4 : ¬kind = 4) (h5 : ¬kind = 5) (h6 : ¬kind = 6) :
    Calls Try.prog 17 #[.pointer (some ⟨b, 0, none⟩), .pointer (some ⟨c, 0, none⟩), .agg #[.int .i64 kind, .int .i64 n, .int .i64 k, vb, vl]] w (DoPost w c F G d) := by
  have k0 : Kept [] w (w.alloc (.cells #[.int .i64 kind, .int .i64 n, .int .i64 k, vb, vl] 32)) := (Kept.refl [] w).alloc _
  have HB := Lib.hid (h.kept0 k0)
  have HK0 := Lib.hid k0
  have e1 : (kind == 1) = false := by simpa using h1
  have e2 : (kind == 2) = false := by simpa using h2
  have e3 : (kind == 3) = false := by simpa using h3
  have e4 : (kind == 4) = false := by simpa using h4
  have e5 : (kind == 5) = false := by simpa using h5
  have e6 : (kind == 6) = false := by simpa using h6
  clear h k0 h1 h2 h3 h4 h5 h6
  go_enter Try.func17, Try.ntmps17
  go_wp2_with fail
  go_ret2
  exact ⟨b, F, d, rfl, HB.out, rfl, HK0.out.mono (by simp), fun k hk => .inl hk⟩

theorem le_of_wf {i : Int} (h : (Lit.int .i64 i).wf = true) : i ≤ 9223372036854775807 := by
  have e1 : IntKind.i64.max = 9223372036854775807 := by decide
  change (decide (IntKind.i64.min ≤ i) && decide (i ≤ IntKind.i64.max)) = true at h
  rw [e1, Bool.and_eq_true, decide_eq_true_eq, decide_eq_true_eq] at h
  exact h.2
theorem do_any {w : World} {b c : Nat} {F G : List Nat} {d : PDisk} (h : Both w b c F G d) (o : OpV) (ho : OpAt w o) (hb : ∀ g, vblk o.vb = some g → g ∉ F ∧ g ∉ G) (hl : ∀ g, vblk o.vl = some g → g ∉ F ∧ g ∉ G) {a : Option Addr} {m cc : Nat} (hvl : o.vl = .slice a m cc) (hm : m ≤ lim) :
    Calls Try.prog 17 #[.pointer (some ⟨b, 0, none⟩), .pointer (some ⟨c, 0, none⟩), .agg #[.int .i64 o.kind, .int .i64 o.n, .int .i64 o.k, o.vb, o.vl]] w (DoPost w c F G d) := by
  obtain ⟨kind, n, k, vb, vl⟩ := o
  obtain ⟨-, h2, -, ⟨l, h4, -⟩, ks, h5, h6⟩ := ho
  simp only at h2 h4 h5 hb hl hvl ⊢
  have hn := le_of_wf h2
  have hkl : ks.length ≤ lim := by
    obtain ⟨a', c', e, -, -⟩ := h5.form
    rw [hvl] at e
    simp only [Value.slice.injEq] at e
    omega
  by_cases e1 : kind = 1
  · subst e1; exact do_write h n k vb vl h4 hb
  by_cases e2 : kind = 2
  · subst e2; exact do_sync h n k vb vl
  by_cases e3 : kind = 3
  · subst e3; exact do_read h n k vb vl
  by_cases e4 : kind = 4
  · subst e4; exact do_crash h n k vb vl h5 (fun k hk => (h6.1 k hk).1) hkl hl
  by_cases e5 : kind = 5
  · subst e5; exact do_stop h n k vb vl hn
  by_cases e6 : kind = 6
  · subst e6; exact do_fork h n k vb vl
  exact do_else h n k vb vl kind e1 e2 e3 e4 e5 e6
end Go.Proofs.Ytfkdoinlbdcaaaa

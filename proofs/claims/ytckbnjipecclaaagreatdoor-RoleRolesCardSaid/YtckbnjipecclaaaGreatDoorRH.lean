/- Parts of one proof, merged: XKQ XIA. -/
import Derived.Test.YtckbnjipecclaaaGreatDoorRG
import Derived.Test.YtckbnjipecclaaaGreatDoorRF
import Derived.Test.YtckbnjipecclaaaGreatDoorRD
import Derived.Shelf.SlicesQ.IndexFunc
set_option linter.all false
set_option maxHeartbeats 12800000
set_option maxRecDepth 10000
set_option linter.unusedVariables false
set_option linter.unusedSimpArgs false
set_option linter.unnecessarySimpa false
namespace Go.Proofs.YtckbnjipecclaaaGreatDoor
open Go.RowKit
structure SortL {n : Nat} (B : Nat) (W2 : World) (v : VS (V n)) (vl vm : Value) (k : Nat) (wr : World) (ls : List (List Value)) : Prop where
 row : wr.ownsRow B 28 5 vl v.l.length ls.flatten
 all : All2 (Rep n (fun g => B ≤ g ∧ vl.ownBlock ≠ some g ∧ vm.ownBlock ≠ some g) wr) ls ((v.l.take k).map (sortV n) ++ (v.l.drop k).map id)
 kept : Kept vl.ownBlock.toList W2 wr
structure SortM {n : Nat} (B : Nat) (W2 : World) (v : VS (V n)) (vl vm : Value) (k : Nat) (wr : World) (ms : List (ByteArray × List Value)) : Prop where
 row : wr.ownsRow B 78 6 vm v.m.length (pairCs ms)
 all : All2 (pairR (Rep n (fun g => B ≤ g ∧ vl.ownBlock ≠ some g ∧ vm.ownBlock ≠ some g) wr)) ms ((v.m.take k).map (fun p => (p.1, sortV n p.2)) ++ (v.m.drop k).map id)
 kept : Kept vm.ownBlock.toList W2 wr
theorem Rep.conv {n : Nat} {S : Nat → Prop} {w : World} {cs : List Value} {v : V n} (h : Rep n S w cs v) : ∃ k m s p i c q j d, cs = [.int .i64 k, .int .i64 m, .string s, .slice p i c, .slice q j d] := by
 obtain ⟨k, m, s, a, b, rfl⟩ := h.five
 obtain ⟨p, i, c, q, j, d, rfl, rfl⟩ := h.sl
 exact ⟨k, m, s, p, i, c, q, j, d, rfl⟩
theorem sortAny {w : World} {B n cap : Nat} {a : Option Addr} {ms : List PC} (hrow : w.ownsRow B 78 6 (.slice a n cap) n (ms.flatMap PC.enc)) (h63 : n ≤ 1000000) :
  Calls Tryz.prog 207 #[.slice a n cap, .func (.func 208) #[] #[]] w fun e w' =>
   e = .returned (.tuple #[]) ∧ ∃ ds : List PC, ds.Perm ms ∧ ds.Pairwise (fun x y => ltB y.key x.key = false) ∧ w'.ownsRow B 78 6 (.slice a n cap) n (ds.flatMap PC.enc) ∧ Kept (Value.slice a n cap).ownBlock.toList w w' := by
 have hl : ms.length = n := by have := hrow.1; rw [enc_length] at this; omega
 cases a with
 | none =>
  have h0 : n = 0 ∧ cap = 0 := by
   rcases hrow.2 with ⟨h, h1⟩ | ⟨g, cap', cur, hv, _⟩
   ·simp only [Value.slice.injEq] at h; exact ⟨h.2.1, h.2.2⟩
   ·simp only [Value.slice.injEq] at hv; cases hv.1
  obtain ⟨rfl, rfl⟩ := h0
  have : ms = [] := List.eq_nil_of_length_eq_zero hl
  subst this
  exact (AnyF.slices_SortFunc_none Tryz.shSort none 0 _ w).mono fun e w' ⟨h1, h2⟩ => ⟨h1, [], List.Perm.refl _, List.Pairwise.nil, by rw [h2]; exact hrow, by rw [h2]; exact Kept.refl _ _⟩
 | some ad =>
  have had : ∃ g, ad = ⟨g, 0, none⟩ := by
   rcases hrow.2 with ⟨h, h1⟩ | ⟨g, cap', cur, hv, _⟩
   ·simp only [Value.slice.injEq] at h; cases h.1
   ·simp only [Value.slice.injEq, Option.some.injEq] at hv; exact ⟨g, hv.1⟩
  obtain ⟨g, rfl⟩ := had
  exact (sortPairs_any hrow hl h63).mono fun e w' ⟨h1, ds, h2, h3, h4, h5⟩ => ⟨h1, ds, h2, h3, h4, by simpa [Value.ownBlock] using h5⟩
theorem sorted_pairs {n : Nat} {R : List Value → V n → Prop} {ds ms : List PC} {xs : List (ByteArray × V n)} (h : All2 (pairR R) (ms.map (fun x => (x.key, x.cs))) xs) (hp : ds.Perm ms) (hs : ds.Pairwise (fun x y => ltB y.key x.key = false)) (hn : (xs.map (fun p => p.1)).Nodup) :
  All2 (pairR R) (ds.map (fun x => (x.key, x.cs))) (xs.mergeSort leK) := by
 obtain ⟨ys, h1, h2⟩ := h.perm (hp.map _)
 have hkeys : ∀ i (hi : i < ds.length) (hi' : i < ys.length), ys[i].1 = ds[i].key := fun i hi hi' => by
  have := (h2.2 i _ ys[i] (List.getElem?_eq_getElem (by simpa using hi)) (List.getElem?_eq_getElem hi')).1
  simpa using this.symm
 have hlen : ds.length = ys.length := by simpa using h2.1
 have hsrt : ys.Pairwise (fun x y => leK x y = true) := by
  rw [List.pairwise_iff_getElem]
  intro i j hi hj hij
  have h3 := (List.pairwise_iff_getElem.1 hs) i j (by omega) (by omega) hij
  unfold ltB at h3
  rw [decide_eq_false_iff_not, List.not_lt] at h3
  unfold leK
  rw [decide_eq_true_iff, hkeys i (by omega) hi, hkeys j (by omega) hj]
  exact h3
 have hnd : (ys.map (fun p => p.1)).Nodup := (h1.map (fun p : ByteArray × V n => p.1)).nodup_iff.2 hn
 have he : ys = xs.mergeSort leK := sorted_unique (h1.trans (List.mergeSort_perm xs leK).symm) hsrt (List.pairwise_mergeSort leK_trans leK_total xs) hnd
 rw [← he]
 exact h2
def sorted_anyKnown (n : Nat) : Prop := ∀ (v : V n) {S : Nat → Prop} {w : World} {cs : List Value}, Rep n S w cs v → Small n v → rightV n v = true →
    Calls Tryz.prog 177 #[.agg cs.toArray] w fun e w' => (∃ cs' : List Value, e = .returned (.agg cs'.toArray) ∧ OwnRep n w.heap.size w' cs' (sortV n v)) ∧ Kept [] w w'
theorem sorted_any_step {n : Nat} (known : sorted_anyKnown n) : sorted_anyKnown (n + 1) := fun (v : VS (V n)) {S} {w} {cs} h hs hrt => by
  have Jh := qI hs
  have Ji := qI hrt
  have Jl := qI (right_nodup hrt)
  have IH := qI known
  have hlv : v.l.length ≤ 20000 := by have := hs.few; omega
  have hmv : v.m.length ≤ 20000 := by have := hs.few; omega
  obtain ⟨kd, nm, st, a, ca, ea, b, cb, eb, rfl⟩ := h.conv
  obtain ⟨W0, Gb⟩ : ∃ W0, Hid (W0 = (w.alloc (.cells #[.int .i64 kd, .int .i64 nm, .string st, .slice a ca ea, .slice b cb eb] 28)).alloc (.cells #[.int .i64 0, .int .i64 0, .string ⟨#[]⟩, .slice none 0 0, .slice none 0 0] 28)) := ⟨_, qI rfl⟩
  have Gh : Hid (W0.heap.size = w.heap.size + 2) := qI (by rw [Gb.o]; simp)
  have Ge : Hid (Kept [] w W0) := qI (by rw [Gb.o]; exact ((Kept.refl [] w).alloc _).alloc _)
  have Jm : Hid (W0.heap[w.heap.size + 1]? = some (.cells #[.int .i64 0, .int .i64 0, .string ⟨#[]⟩, .slice none 0 0, .slice none 0 0] 28 (0, 0))) := qI (by
   rw [Gb.o]; exact block_alloc (by simp))
  have CC := qI (clone_any (n + 1) v (h.kept0 Ge.o) hs)
  clear h hs hrt
  go_enter Tryz.func177, Tryz.ntmps177
  go_wp2_with fail
  rw [← Gb.o]
  refine CC.o.mono ?_
  rintro e w1 ⟨⟨cs', rfl, hown⟩, hk1⟩
  have Jn := qI hown.rep
  obtain ⟨vl, vm, lcs, mcs, rfl, hrl, hal, hrm, ham, hwk, hwn⟩ := hown
  obtain ⟨al, cl, rfl, -, -⟩ := (Slc.of_row hrl).form
  obtain ⟨am, cm, rfl, -, -⟩ := (Slc.of_row hrm).form
  have Gq := qI hrl
  have Jo := qI hal
  have Gp := qI hrm
  have Jp := qI ham
  have Jj := qI (And.intro hwk hwn)
  have Gw := qI hk1
  clear hrl hal hrm ham hwk hwn hk1 CC
  obtain ⟨W2, Gr⟩ : ∃ W2, Hid (W2 = w1.alloc (.cells #[.int .i64 v.kind, .int .i64 v.num, .string v.s, .slice al v.l.length cl, .slice am v.m.length cm] 28)) := ⟨_, qI rfl⟩
  have Gd : Hid (Kept [] w1 W2) := qI (by rw [Gr.o]; exact (Kept.refl [] w1).alloc _)
  have Gx : Hid (BoxAt W2 w1.heap.size v.kind v.num v.s (.slice al v.l.length cl) (.slice am v.m.length cm)) := qI (by rw [Gr.o]; exact box_at _ _ _ _ _ _ _)
  have Gs : Hid (W2.heap.size = w1.heap.size + 1) := qI (by rw [Gr.o]; simp)
  obtain ⟨c0, c1, c2, c3, c4⟩ := Gx.o
  rw [Gr.o] at c0 c1 c2 c3 c4
  go_wp2_with fail
  rw [← Gr.o]
  clear c0 c1 c2 c3 c4
  have Jq : Hid (SortL W0.heap.size W2 v (.slice al v.l.length cl) (.slice am v.m.length cm) 0 W2 lcs) := qI {
   row := row_kept Gq.o Gd.o (by simp)
   all := by simpa using Jo.o.mono fun _ _ _ r => r.kept0 Gd.o
   kept := Kept.refl _ _ }
  go_loopw [11] (fun i wr => ∃ (k : Nat) (ls : List (List Value)), i = .int .i64 k ∧ k ≤ v.l.length ∧ SortL W0.heap.size W2 v (.slice al v.l.length cl) (.slice am v.m.length cm) k wr ls) (fun i _ => v.l.length - (intOf i).toNat)
  case atStart => exact ⟨0, _, rfl, Nat.zero_le _, Jq.o⟩
  case round =>
   obtain ⟨k, ls, rfl, hk, hsl⟩ := hrel
   have Ga := qI hsl
   clear hsl
   by_cases hlt : k < v.l.length
   ·have hltI : (k : Int) < v.l.length := by omega
    obtain ⟨g, rfl, hgB, hgl⟩ : ∃ g, al = some ⟨g, 0, none⟩ ∧ W0.heap.size ≤ g ∧ g < w1.heap.size := by
     rcases Gq.o.2 with ⟨_, h0⟩ | ⟨g, cap, cur, hv, r1, r2, _⟩
     ·omega
     ·simp only [Value.slice.injEq] at hv
      exact ⟨g, hv.1, r1, lt_of_block r2⟩
    have hlsl : ls.length = v.l.length := by rw [Ga.o.all.1]; simp; omega
    have hk' : k < ls.length := by omega
    have hrep := Ga.o.all.2 k ls[k] v.l[k] (List.getElem?_eq_getElem hk') (mixed_get (sortV n) id v.l k hlt)
    obtain ⟨xk, xm, xs, xp, xi, xc, xq, xj, xd, ex⟩ := hrep.conv
    obtain ⟨g', o', cap', hsv, q0, q1, q2, q3, q4⟩ := (Slc.of_row Ga.o.row).at5 (fun c hc => by obtain ⟨y, _, r⟩ := Ga.o.all.mem_left hc; exact r.len) hk' ex
    simp only [Value.slice.injEq, Option.some.injEq, Addr.mk.injEq, and_true, true_and] at hsv
    obtain ⟨⟨rfl, rfl⟩, -⟩ := hsv
    rw [ex] at hrep
    have Gy := qI hrep
    have Gt : Hid (Kept [g] W2 wr) := qI (by have := Ga.o.kept; simpa [Value.ownBlock] using this)
    have hgne : g ≠ w1.heap.size := by omega
    have y3 := (Gx.o.kept Gt.o (by simpa using Ne.symm hgne)).c3
    have Gz := qI (Jh.o.kid (mem_l (List.getElem_mem hlt)))
    have Ja := qI (right_kid Ji.o (mem_l (List.getElem_mem hlt)))
    clear hrep
    rw [Nat.zero_add] at q0 q1 q2 q3 q4
    go_wp2_with fail
    refine wp_region_last' (n := 11) (fun w' : World => w'.cell? ⟨w1.heap.size, 3, none⟩ = some (.slice (some ⟨g, 0, none⟩) v.l.length cl) ∧ w'.cell? ⟨g, k * 5, none⟩ = some (.int .i64 xk) ∧ w'.cell? ⟨g, k * 5 + 1, none⟩ = some (.int .i64 xm) ∧ w'.cell? ⟨g, k * 5 + 2, none⟩ = some (.string xs) ∧ w'.cell? ⟨g, k * 5 + 3, none⟩ = some (.slice xp xi xc) ∧ w'.cell? ⟨g, k * 5 + 4, none⟩ = some (.slice xq xj xd)) 10 (by kernel_rfl) (by kernel_rfl) ?_
    change wpAnyT _ _ _ _ _ _ _ _ _ wr.drew
    have hSS : (fun w' : World => w'.cell? ⟨w1.heap.size, 3, none⟩ = some (.slice (some ⟨g, 0, none⟩) v.l.length cl) ∧ w'.cell? ⟨g, k * 5, none⟩ = some (.int .i64 xk) ∧ w'.cell? ⟨g, k * 5 + 1, none⟩ = some (.int .i64 xm) ∧ w'.cell? ⟨g, k * 5 + 2, none⟩ = some (.string xs) ∧ w'.cell? ⟨g, k * 5 + 3, none⟩ = some (.slice xp xi xc) ∧ w'.cell? ⟨g, k * 5 + 4, none⟩ = some (.slice xq xj xd)) wr.drew := ⟨y3, q0, q1, q2, q3, q4⟩
    have Gf : Hid (Kept [] wr wr.drew) := qI (Kept.refl _ _).drew
    clear y3 q0 q1 q2 q3 q4
    revert hSS Gf
    generalize wr.drew = WD
    intro hSS Gf
    refine wpAnyT_start ?_
    intro O R hO hR
    have hQp : ∀ c a (d : Nat) v w, R (.panic c) (a.put (some d) v) w → R (.panic c) a w := by subst hR; exact fun _ _ _ _ _ h => h
    refine wpAnyT_take' (i := 0) (v := ?_) hO rfl rfl (by kernel_rfl) (by kernel_rfl) (by kernel_rfl) (by kernel_rfl) hQp (Or.inl ⟨by kernel_rfl, fun w hSw => ?_⟩) hSS ?_
    rotate_left
    ·obtain ⟨s0, s1, s2, s3, s4, s5⟩ := hSw; go_simp; try with_reducible rfl
    try simp only [zA,zN,zB,zC,zD]
    refine wpAnyT_take' (i := 1) (v := ?_) hO rfl rfl (by kernel_rfl) (by kernel_rfl) (by kernel_rfl) (by kernel_rfl) hQp (Or.inl ⟨by kernel_rfl, fun w hSw => ?_⟩) hSS ?_
    rotate_left
    ·obtain ⟨s0, s1, s2, s3, s4, s5⟩ := hSw; go_simp; try with_reducible rfl
    try simp only [zA,zN,zB,zC,zD]
    refine wpAnyT_take' (i := 2) (v := ?_) hO rfl rfl (by kernel_rfl) (by kernel_rfl) (by kernel_rfl) (by kernel_rfl) hQp (Or.inl ⟨by kernel_rfl, fun w hSw => ?_⟩) hSS ?_
    rotate_left
    ·obtain ⟨s0, s1, s2, s3, s4, s5⟩ := hSw; go_simp; try with_reducible rfl
    try simp only [zA,zN,zB,zC,zD]
    refine wpAnyT_take' (i := 3) (v := ?_) hO rfl rfl (by kernel_rfl) (by kernel_rfl) (by kernel_rfl) (by kernel_rfl) hQp (Or.inl ⟨by kernel_rfl, fun w hSw => ?_⟩) hSS ?_
    rotate_left
    ·obtain ⟨s0, s1, s2, s3, s4, s5⟩ := hSw; go_simp; try with_reducible rfl
    try simp only [zA,zN,zB,zC,zD]
    refine wpAnyT_take' (i := 4) (v := ?_) hO rfl rfl (by kernel_rfl) (by kernel_rfl) (by kernel_rfl) (by kernel_rfl) hQp (Or.inl ⟨by kernel_rfl, fun w hSw => ?_⟩) hSS ?_
    rotate_left
    ·obtain ⟨s0, s1, s2, s3, s4, s5⟩ := hSw; go_simp; try with_reducible rfl
    try simp only [zA,zN,zB,zC,zD]
    refine wpAnyT_take' (i := 5) (v := ?_) hO rfl rfl (by kernel_rfl) (by kernel_rfl) (by kernel_rfl) (by kernel_rfl) hQp (Or.inl ⟨by kernel_rfl, fun w hSw => ?_⟩) hSS ?_
    rotate_left
    ·obtain ⟨s0, s1, s2, s3, s4, s5⟩ := hSw; go_simp; try with_reducible rfl
    try simp only [zA,zN,zB,zC,zD]
    refine wpAnyT_take' (i := 6) (v := ?_) hO rfl rfl (by kernel_rfl) (by kernel_rfl) (by kernel_rfl) (by kernel_rfl) hQp (Or.inl ⟨by kernel_rfl, fun w hSw => ?_⟩) hSS ?_
    rotate_left
    ·obtain ⟨s0, s1, s2, s3, s4, s5⟩ := hSw; go_simp; try with_reducible rfl
    try simp only [zA,zN,zB,zC,zD]
    refine wpAnyT_take' (i := 7) (v := ?_) hO rfl rfl (by kernel_rfl) (by kernel_rfl) (by kernel_rfl) (by kernel_rfl) hQp (Or.inl ⟨by kernel_rfl, fun w hSw => ?_⟩) hSS ?_
    rotate_left
    ·obtain ⟨s0, s1, s2, s3, s4, s5⟩ := hSw; go_simp; try with_reducible rfl
    try simp only [zA,zN,zB,zC,zD]
    refine wpAnyT_one' (i := 8) hO rfl (by kernel_rfl) (by kernel_rfl) (fun K hK => ?_)
    go_simp
    refine Calls.mono (IH.o v.l[k] (Gy.o.kept0 Gf.o) Gz.o Ja.o) ?_
    rintro e w3 ⟨⟨c3, rfl, hown3⟩, hk3⟩
    have Gc := qI hown3.rep
    have Gi := qI (Gf.o.then hk3)
    have hS3 : (fun w' : World => w'.cell? ⟨w1.heap.size, 3, none⟩ = some (.slice (some ⟨g, 0, none⟩) v.l.length cl) ∧ w'.cell? ⟨g, k * 5, none⟩ = some (.int .i64 xk) ∧ w'.cell? ⟨g, k * 5 + 1, none⟩ = some (.int .i64 xm) ∧ w'.cell? ⟨g, k * 5 + 2, none⟩ = some (.string xs) ∧ w'.cell? ⟨g, k * 5 + 3, none⟩ = some (.slice xp xi xc) ∧ w'.cell? ⟨g, k * 5 + 4, none⟩ = some (.slice xq xj xd)) w3 := ⟨hk3.cell hSS.1 (by simp), hk3.cell hSS.2.1 (by simp), hk3.cell hSS.2.2.1 (by simp), hk3.cell hSS.2.2.2.1 (by simp), hk3.cell hSS.2.2.2.2.1 (by simp), hk3.cell hSS.2.2.2.2.2 (by simp)⟩
    have Gm : Hid (wr.heap.size ≤ WD.heap.size ∧ WD.heap.size ≤ w3.heap.size) := qI ⟨Gf.o.size, hk3.size⟩
    clear hown3 hk3
    refine hK _ _ (.inr hS3) ?_
    clear hK K
    try simp only [zA,zN,zB,zC,zD]
    clear hSS
    have hSS := hS3
    clear hS3
    refine wpAnyT_one' (i := 9) hO rfl (by kernel_rfl) (by kernel_rfl) (fun K hK => ?_)
    go_simp
    refine hK _ _ (.inr hSS) ?_
    clear hK K
    try simp only [zA,zN,zB,zC,zD]
    have hlen3 : c3.length = 5 := Gc.o.len
    have hls5 : ∀ x, x ∈ ls → x.length = 5 := fun c hc => by obtain ⟨y, _, r⟩ := Ga.o.all.mem_left hc; exact r.len
    obtain ⟨hro, hth, hkg⟩ := row_stored (i := k) (g := g) (c := c3) (row_kept Ga.o.row Gi.o (by simp)) hls5 rfl hlsl hlt hlen3
    have Jb := qI hro
    have Gn := qI hkg
    clear hro hkg hls5
    refine wpAnyT_one' (i := 10) hO rfl (by kernel_rfl) (by kernel_rfl) (fun K hK => ?_)
    refine wp_store_mid 28 (.tmp 23) (.tmp 22) rfl g (k * 5) c3.toArray rfl rfl (by rw [List.size_toArray, hlen3]; exact hth) (by rw [List.size_toArray, hlen3]; kernel_rfl) (all_oneCell_toArray Gc.o.one) ?_
    refine hK _ _ (.inl rfl) ?_
    clear hK K
    try simp only [zA,zN,zB,zC,zD]
    refine wpAnyT_done' hO (by kernel_rfl) ?_ _
    subst hR
    try clear hQp hO O
    clear hth hSS hlen3
    go_wp2_with fail
    case roundEnd =>
     have hzW := Gh.o
     have hz2 := Gs.o
     have hzx := Gt.o.size
     have hzd := Gm.o
     refine ⟨⟨k + 1, ls.set k c3, by go_num, by omega, {
      row := Jb.o
      all := ?_
      kept := ?_ }⟩, by simp [intOf]; omega⟩
     ·rw [← take_set (sortV n) id v.l k hlt]
      refine All2.set (Ga.o.all.mono fun c y _ r => r.move ((Gi.o.mono (by simp)).trans' Gn.o) ?_) k (Gc.o.move Gn.o ?_)
      ·intro i hi ⟨h1, h2, h3⟩
       exact ⟨by intro hx; simp at hx; subst hx; exact h2 rfl, h1, h2, h3⟩
      ·intro i hi h1
       have hmlt := Gp.o.lt
       refine ⟨by intro hx; simp at hx; omega, by omega, ?_, ?_⟩
       ·intro hx; simp [Value.ownBlock] at hx; omega
       ·intro hx; have := (hmlt i hx).2; omega
     ·have h1 := (Ga.o.kept.then Gi.o).trans Gn.o (by intro i hi; simp at hi; subst hi; exact .inl (by simp [Value.ownBlock]))
      exact h1
   ·obtain rfl : k = v.l.length := by omega
    obtain ⟨WL, rfl⟩ : ∃ x, x = wr := ⟨_, rfl⟩
    obtain ⟨lsF, rfl⟩ : ∃ x, x = ls := ⟨_, rfl⟩
    have Gg := qI Ga.o
    have hblk : Hid (∀ i, i ∈ (Value.slice al v.l.length cl).ownBlock.toList → W0.heap.size ≤ i ∧ i < w1.heap.size ∧ kind w1 i = 28 + 2) := qI fun i hi => ⟨(Gq.o.lt i (Option.mem_toList.1 hi)).1, (Gq.o.lt i (Option.mem_toList.1 hi)).2, row_kind Gq.o (Option.mem_toList.1 hi)⟩
    have hmblk : Hid (∀ i, (Value.slice am v.m.length cm).ownBlock = some i → W0.heap.size ≤ i ∧ i < w1.heap.size ∧ kind w1 i = 78 + 2) := qI fun i hi => ⟨(Gp.o.lt i hi).1, (Gp.o.lt i hi).2, row_kind Gp.o hi⟩
    have Jc : Hid (Kept (Value.slice al v.l.length cl).ownBlock.toList w1 WL) := qI ((Gd.o.mono (by simp)).trans' Gg.o.kept)
    have Gu : Hid (W2.heap.size ≤ WL.heap.size) := qI Gg.o.kept.size
    have hb3l := Gx.o.kept Gg.o.kept (by intro hx; have := hblk.o _ hx; omega)
    have Gv := qI hb3l
    have Jd : Hid (SortM W0.heap.size WL v (.slice al v.l.length cl) (.slice am v.m.length cm) 0 WL mcs) := qI {
     row := row_kept Gp.o Jc.o (fun i hi hx => by have h1 := (hmblk.o i hi).2.2; have h2 := (hblk.o i hx).2.2; rw [h1] at h2; exact absurd h2 (by decide))
     all := by simpa using Jp.o.mono fun _ _ _ r => ⟨r.1, r.2.move Jc.o (fun i hi ⟨h1, h2, h3⟩ => ⟨fun hx => h2 (Option.mem_toList.1 hx), h1, h2, h3⟩)⟩
     kept := Kept.refl _ _ }
    obtain ⟨c0, c1, c2, c3, c4⟩ := hb3l
    clear Ga
    go_wp2_with fail
    clear c0 c1 c2 c3 c4
    go_loopw [28] (fun i wr => ∃ (k : Nat) (ms : List (ByteArray × List Value)), i = .int .i64 k ∧ k ≤ v.m.length ∧ SortM W0.heap.size WL v (.slice al v.l.length cl) (.slice am v.m.length cm) k wr ms) (fun i _ => v.m.length - (intOf i).toNat)
    case atStart => exact ⟨0, _, rfl, Nat.zero_le _, Jd.o⟩
    case round =>
     obtain ⟨k, ls, rfl, hk, hsl⟩ := hrel
     have Ga := qI hsl
     clear hsl
     by_cases hlt : k < v.m.length
     ·have hltI : (k : Int) < v.m.length := by omega
      obtain ⟨g, rfl, hgB, hgl⟩ : ∃ g, am = some ⟨g, 0, none⟩ ∧ W0.heap.size ≤ g ∧ g < w1.heap.size := by
       rcases Gp.o.2 with ⟨_, h0⟩ | ⟨g, cap, cur, hv, r1, r2, _⟩
       ·omega
       ·simp only [Value.slice.injEq] at hv
        exact ⟨g, hv.1, r1, lt_of_block r2⟩
      have hlsl : ls.length = v.m.length := by rw [Ga.o.all.1]; simp; omega
      have hk' : k < ls.length := by omega
      have hpr := Ga.o.all.2 k ls[k] v.m[k] (List.getElem?_eq_getElem hk') (mixed_get (fun p : ByteArray × V n => (p.1, sortV n p.2)) id v.m k hlt)
      obtain ⟨xk, xm, xs, xp, xi, xc, xq, xj, xd, ex⟩ := hpr.2.conv
      have h66 : ∀ c, c ∈ ls.map pairC → c.length = 6 := fun c hc => by
       obtain ⟨p, hp, rfl⟩ := List.mem_map.1 hc
       obtain ⟨y, _, r⟩ := Ga.o.all.mem_left hp
       simp [pairC, r.2.len]
      obtain ⟨g', o', cap', hsv, -, q0, q1, q2, q3, q4⟩ := (Slc.of_row Ga.o.row).at6 h66 hk' ex
      simp only [Value.slice.injEq, Option.some.injEq, Addr.mk.injEq, and_true, true_and] at hsv
      obtain ⟨⟨rfl, rfl⟩, -⟩ := hsv
      have hrep := hpr.2
      rw [ex] at hrep
      have Gy := qI hrep
      have Je := qI hpr.1
      have Gt : Hid (Kept [g] WL wr) := qI (by have := Ga.o.kept; simpa [Value.ownBlock] using this)
      have hgne : g ≠ w1.heap.size := by omega
      have y3 := (Gv.o.kept Gt.o (by simpa using Ne.symm hgne)).c4
      have Gz := qI (Jh.o.kid (mem_m (List.getElem_mem hlt)))
      have Ja := qI (right_kid Ji.o (mem_m (List.getElem_mem hlt)))
      have H66 := qI h66
      clear hrep hpr h66
      rw [Nat.zero_add] at q0 q1 q2 q3 q4
      go_wp2_with fail
      refine wp_region_last' (n := 13) (fun w' : World => w'.cell? ⟨w1.heap.size, 4, none⟩ = some (.slice (some ⟨g, 0, none⟩) v.m.length cm) ∧ w'.cell? ⟨g, k * 6 + 1, none⟩ = some (.int .i64 xk) ∧ w'.cell? ⟨g, k * 6 + 2, none⟩ = some (.int .i64 xm) ∧ w'.cell? ⟨g, k * 6 + 3, none⟩ = some (.string xs) ∧ w'.cell? ⟨g, k * 6 + 4, none⟩ = some (.slice xp xi xc) ∧ w'.cell? ⟨g, k * 6 + 5, none⟩ = some (.slice xq xj xd)) 12 (by kernel_rfl) (by kernel_rfl) ?_
      change wpAnyT _ _ _ _ _ _ _ _ _ wr.drew
      have hSS : (fun w' : World => w'.cell? ⟨w1.heap.size, 4, none⟩ = some (.slice (some ⟨g, 0, none⟩) v.m.length cm) ∧ w'.cell? ⟨g, k * 6 + 1, none⟩ = some (.int .i64 xk) ∧ w'.cell? ⟨g, k * 6 + 2, none⟩ = some (.int .i64 xm) ∧ w'.cell? ⟨g, k * 6 + 3, none⟩ = some (.string xs) ∧ w'.cell? ⟨g, k * 6 + 4, none⟩ = some (.slice xp xi xc) ∧ w'.cell? ⟨g, k * 6 + 5, none⟩ = some (.slice xq xj xd)) wr.drew := ⟨y3, q0, q1, q2, q3, q4⟩
      have Gf : Hid (Kept [] wr wr.drew) := qI (Kept.refl _ _).drew
      clear y3 q0 q1 q2 q3 q4
      revert hSS Gf
      generalize wr.drew = WD
      intro hSS Gf
      refine wpAnyT_start ?_
      intro O R hO hR
      have hQp : ∀ c a (d : Nat) v w, R (.panic c) (a.put (some d) v) w → R (.panic c) a w := by subst hR; exact fun _ _ _ _ _ h => h
      refine wpAnyT_take' (i := 0) (v := ?_) hO rfl rfl (by kernel_rfl) (by kernel_rfl) (by kernel_rfl) (by kernel_rfl) hQp (Or.inl ⟨by kernel_rfl, fun w hSw => ?_⟩) hSS ?_
      rotate_left
      ·obtain ⟨s0, s1, s2, s3, s4, s5⟩ := hSw; go_simp; try with_reducible rfl
      try simp only [zA,zN,zB,zC,zD]
      refine wpAnyT_take' (i := 1) (v := ?_) hO rfl rfl (by kernel_rfl) (by kernel_rfl) (by kernel_rfl) (by kernel_rfl) hQp (Or.inl ⟨by kernel_rfl, fun w hSw => ?_⟩) hSS ?_
      rotate_left
      ·obtain ⟨s0, s1, s2, s3, s4, s5⟩ := hSw; go_simp; try with_reducible rfl
      try simp only [zA,zN,zB,zC,zD]
      refine wpAnyT_take' (i := 2) (v := ?_) hO rfl rfl (by kernel_rfl) (by kernel_rfl) (by kernel_rfl) (by kernel_rfl) hQp (Or.inl ⟨by kernel_rfl, fun w hSw => ?_⟩) hSS ?_
      rotate_left
      ·obtain ⟨s0, s1, s2, s3, s4, s5⟩ := hSw; go_simp; try with_reducible rfl
      try simp only [zA,zN,zB,zC,zD]
      refine wpAnyT_take' (i := 3) (v := ?_) hO rfl rfl (by kernel_rfl) (by kernel_rfl) (by kernel_rfl) (by kernel_rfl) hQp (Or.inl ⟨by kernel_rfl, fun w hSw => ?_⟩) hSS ?_
      rotate_left
      ·obtain ⟨s0, s1, s2, s3, s4, s5⟩ := hSw; go_simp; try with_reducible rfl
      try simp only [zA,zN,zB,zC,zD]
      refine wpAnyT_take' (i := 4) (v := ?_) hO rfl rfl (by kernel_rfl) (by kernel_rfl) (by kernel_rfl) (by kernel_rfl) hQp (Or.inl ⟨by kernel_rfl, fun w hSw => ?_⟩) hSS ?_
      rotate_left
      ·obtain ⟨s0, s1, s2, s3, s4, s5⟩ := hSw; go_simp; try with_reducible rfl
      try simp only [zA,zN,zB,zC,zD]
      refine wpAnyT_take' (i := 5) (v := ?_) hO rfl rfl (by kernel_rfl) (by kernel_rfl) (by kernel_rfl) (by kernel_rfl) hQp (Or.inl ⟨by kernel_rfl, fun w hSw => ?_⟩) hSS ?_
      rotate_left
      ·obtain ⟨s0, s1, s2, s3, s4, s5⟩ := hSw; go_simp; try with_reducible rfl
      try simp only [zA,zN,zB,zC,zD]
      refine wpAnyT_take' (i := 6) (v := ?_) hO rfl rfl (by kernel_rfl) (by kernel_rfl) (by kernel_rfl) (by kernel_rfl) hQp (Or.inl ⟨by kernel_rfl, fun w hSw => ?_⟩) hSS ?_
      rotate_left
      ·obtain ⟨s0, s1, s2, s3, s4, s5⟩ := hSw; go_simp; try with_reducible rfl
      try simp only [zA,zN,zB,zC,zD]
      refine wpAnyT_take' (i := 7) (v := ?_) hO rfl rfl (by kernel_rfl) (by kernel_rfl) (by kernel_rfl) (by kernel_rfl) hQp (Or.inl ⟨by kernel_rfl, fun w hSw => ?_⟩) hSS ?_
      rotate_left
      ·obtain ⟨s0, s1, s2, s3, s4, s5⟩ := hSw; go_simp; try with_reducible rfl
      try simp only [zA,zN,zB,zC,zD]
      refine wpAnyT_take' (i := 8) (v := ?_) hO rfl rfl (by kernel_rfl) (by kernel_rfl) (by kernel_rfl) (by kernel_rfl) hQp (Or.inl ⟨by kernel_rfl, fun w hSw => ?_⟩) hSS ?_
      rotate_left
      ·obtain ⟨s0, s1, s2, s3, s4, s5⟩ := hSw; go_simp; try with_reducible rfl
      try simp only [zA,zN,zB,zC,zD]
      refine wpAnyT_one' (i := 9) hO rfl (by kernel_rfl) (by kernel_rfl) (fun K hK => ?_)
      go_simp
      refine Calls.mono (IH.o v.m[k].2 (Gy.o.kept0 Gf.o) Gz.o Ja.o) ?_
      rintro e w3 ⟨⟨c3, rfl, hown3⟩, hk3⟩
      have Gc := qI hown3.rep
      have Gi := qI (Gf.o.then hk3)
      have hS3 : (fun w' : World => w'.cell? ⟨w1.heap.size, 4, none⟩ = some (.slice (some ⟨g, 0, none⟩) v.m.length cm) ∧ w'.cell? ⟨g, k * 6 + 1, none⟩ = some (.int .i64 xk) ∧ w'.cell? ⟨g, k * 6 + 2, none⟩ = some (.int .i64 xm) ∧ w'.cell? ⟨g, k * 6 + 3, none⟩ = some (.string xs) ∧ w'.cell? ⟨g, k * 6 + 4, none⟩ = some (.slice xp xi xc) ∧ w'.cell? ⟨g, k * 6 + 5, none⟩ = some (.slice xq xj xd)) w3 := ⟨hk3.cell hSS.1 (by simp), hk3.cell hSS.2.1 (by simp), hk3.cell hSS.2.2.1 (by simp), hk3.cell hSS.2.2.2.1 (by simp), hk3.cell hSS.2.2.2.2.1 (by simp), hk3.cell hSS.2.2.2.2.2 (by simp)⟩
      have Gm : Hid (wr.heap.size ≤ WD.heap.size ∧ WD.heap.size ≤ w3.heap.size) := qI ⟨Gf.o.size, hk3.size⟩
      clear hown3 hk3
      refine hK _ _ (.inr hS3) ?_
      clear hK K
      try simp only [zA,zN,zB,zC,zD]
      clear hSS
      have hSS := hS3
      clear hS3
      refine wpAnyT_one' (i := 10) hO rfl (by kernel_rfl) (by kernel_rfl) (fun K hK => ?_)
      go_simp
      refine hK _ _ (.inr hSS) ?_
      clear hK K
      try simp only [zA,zN,zB,zC,zD]
      refine wpAnyT_one' (i := 11) hO rfl (by kernel_rfl) (by kernel_rfl) (fun K hK => ?_)
      go_simp
      refine hK _ _ (.inr hSS) ?_
      clear hK K
      try simp only [zA,zN,zB,zC,zD]
      have hlen3 : c3.length = 5 := Gc.o.len
      have hbnd : k * 6 + 1 + c3.length ≤ v.m.length * 6 := by rw [hlen3]; omega
      obtain ⟨⟨ys, hro, -, hys⟩, hth, hkg⟩ := row_cells (g := g) (o := k * 6 + 1) (c := c3) (row_kept Ga.o.row Gi.o (by simp)) rfl hbnd
      have hye := pair_set H66.o hk' hlen3 hys
      subst hye
      have Jb := qI hro
      have Gn := qI hkg
      clear hro hkg hys hbnd
      refine wpAnyT_one' (i := 12) hO rfl (by kernel_rfl) (by kernel_rfl) (fun K hK => ?_)
      refine wp_store_mid 28 (.tmp 42) (.tmp 40) rfl g (k * 6 + 1) c3.toArray rfl rfl (by rw [List.size_toArray]; exact hth) (by rw [List.size_toArray, hlen3]; kernel_rfl) (all_oneCell_toArray Gc.o.one) ?_
      refine hK _ _ (.inl rfl) ?_
      clear hK K
      try simp only [zA,zN,zB,zC,zD]
      refine wpAnyT_done' hO (by kernel_rfl) ?_ _
      subst hR
      try clear hQp hO O
      clear hth hSS hlen3
      go_wp2_with fail
      case roundEnd =>
       have hzW := Gh.o
       have hz2 := Gs.o
       have hzl := Gu.o
       have hzx := Gt.o.size
       have hzd := Gm.o
       refine ⟨⟨k + 1, ls.set k (ls[k].1, c3), by go_num, by omega, {
        row := Jb.o
        all := ?_
        kept := ?_ }⟩, by simp [intOf]; omega⟩
       ·rw [← take_set (fun p : ByteArray × V n => (p.1, sortV n p.2)) id v.m k hlt]
        refine All2.set (Ga.o.all.mono fun c y _ r => ⟨r.1, r.2.move ((Gi.o.mono (by simp)).trans' Gn.o) ?ga⟩) k ⟨Je.o, Gc.o.move Gn.o ?gb⟩
        case ga =>
         intro i hi ⟨h1, h2, h3⟩
         exact ⟨by intro hx; simp at hx; subst hx; exact h3 rfl, h1, h2, h3⟩
        case gb =>
         intro i hi h1
         refine ⟨by intro hx; simp at hx; omega, by omega, ?_, ?_⟩
         ·intro hx; have := hblk.o i (Option.mem_toList.2 hx); omega
         ·intro hx; simp [Value.ownBlock] at hx; omega
       ·exact (Ga.o.kept.then Gi.o).trans Gn.o (by intro i hi; simp at hi; subst hi; exact .inl (by simp [Value.ownBlock]))
     ·obtain rfl : k = v.m.length := by omega
      obtain ⟨ds0, hls, henc⟩ := pcs_of Ga.o.all
      have CS := qI (sortAny (ms := ds0) (by rw [← henc]; exact Ga.o.row) (by omega))
      have Jr := qI hls
      have hb3f := Gv.o.kept Ga.o.kept (by intro hx; have := hmblk.o _ (Option.mem_toList.1 hx); omega)
      have Jf := qI hb3f
      have c4 := hb3f.c4
      clear hls henc hb3f
      go_wp2_with fail
      refine CS.o.mono ?_
      rintro e w5 ⟨rfl, ds, hdp, hds, hrow5, hk5⟩
      have Js := qI hdp
      have Jt := qI hds
      have Ju := qI hrow5
      have Jg := qI hk5
      clear hdp hds hrow5 hk5 c4
      obtain ⟨c0, c1, c2, c3, c4⟩ := Jf.o.kept Jg.o (by intro hx; have := hmblk.o _ (Option.mem_toList.1 hx); omega)
      have Jk : Hid (Kept ((Value.slice al v.l.length cl).ownBlock.toList ++ (Value.slice am v.m.length cm).ownBlock.toList) w1 w5) := qI (((Jc.o.mono (fun i hi => List.mem_append_left _ hi)).trans' (Ga.o.kept.mono (fun i hi => List.mem_append_right _ hi))).trans' (Jg.o.mono (fun i hi => List.mem_append_right _ hi)))
      have hbr : w5.heap[w.heap.size + 1]? = some (.cells #[.int .i64 0, .int .i64 0, .string ⟨#[]⟩, .slice none 0 0, .slice none 0 0] 28 (0, 0)) := Jk.o.heap (Gw.o.heap Jm.o (by simp)) (by
       intro hx
       have hz := Gh.o
       rcases List.mem_append.1 hx with hx | hx
       ·have := hblk.o _ hx; omega
       ·have := hmblk.o _ (Option.mem_toList.1 hx); omega)
      have Gj := qI hbr
      have r0 := cell_head (o := 0) (v := .int .i64 0) hbr rfl
      have r1 := cell_head (o := 1) (v := .int .i64 0) hbr rfl
      have r2 := cell_head (o := 2) (v := .string ⟨#[]⟩) hbr rfl
      have r3 := cell_head (o := 3) (v := .slice none 0 0) hbr rfl
      have r4 := cell_head (o := 4) (v := .slice none 0 0) hbr rfl
      have s0 := free_head (o := 0) hbr
      have s1 := free_head (o := 1) hbr
      have s2 := free_head (o := 2) hbr
      have s3 := free_head (o := 3) hbr
      have s4 := free_head (o := 4) hbr
      clear hbr
      go_wp2_with fail
      have hbf := block_setCell (v := .slice am v.m.length cm) (i := 4) (block_setCell (v := .slice al v.l.length cl) (i := 3) (block_setCell (v := .string v.s) (i := 2) (block_setCell (v := .int .i64 v.num) (i := 1) (block_setCell (v := .int .i64 v.kind) (i := 0) Gj.o rfl) rfl) rfl) rfl) rfl
      have KF : Kept [w.heap.size + 1] w5 (((((w5.setCell ⟨w.heap.size + 1, 0, none⟩ (.int .i64 v.kind)).setCell ⟨w.heap.size + 1, 1, none⟩ (.int .i64 v.num)).setCell ⟨w.heap.size + 1, 2, none⟩ (.string v.s)).setCell ⟨w.heap.size + 1, 3, none⟩ (.slice al v.l.length cl)).setCell ⟨w.heap.size + 1, 4, none⟩ (.slice am v.m.length cm)) :=
       (((((Kept.refl _ _).setCell (p := ⟨w.heap.size + 1, 0, none⟩) (.inl (by simp)) _).setCell (p := ⟨w.heap.size + 1, 1, none⟩) (.inl (by simp)) _).setCell (p := ⟨w.heap.size + 1, 2, none⟩) (.inl (by simp)) _).setCell (p := ⟨w.heap.size + 1, 3, none⟩) (.inl (by simp)) _).setCell (p := ⟨w.heap.size + 1, 4, none⟩) (.inl (by simp)) _
      have x0 := cell_head (o := 0) (v := .int .i64 v.kind) hbf rfl
      have x1 := cell_head (o := 1) (v := .int .i64 v.num) hbf rfl
      have x2 := cell_head (o := 2) (v := .string v.s) hbf rfl
      have x3 := cell_head (o := 3) (v := .slice al v.l.length cl) hbf rfl
      have x4 := cell_head (o := 4) (v := .slice am v.m.length cm) hbf rfl
      clear hbf c0 c1 c2 c3 c4 r0 r1 r2 r3 r4 s0 s1 s2 s3 s4
      revert KF x0 x1 x2 x3 x4
      generalize ((((w5.setCell ⟨w.heap.size + 1, 0, none⟩ (.int .i64 v.kind)).setCell ⟨w.heap.size + 1, 1, none⟩ (.int .i64 v.num)).setCell ⟨w.heap.size + 1, 2, none⟩ (.string v.s)).setCell ⟨w.heap.size + 1, 3, none⟩ (.slice al v.l.length cl)).setCell ⟨w.heap.size + 1, 4, none⟩ (.slice am v.m.length cm) = WF
      intro KF x0 x1 x2 x3 x4
      have hz0 := Gh.o
      have hz1 := Gw.o.size
      have hz2 := Gd.o.size
      have hzL := Gu.o
      have hzr := Ga.o.kept.size
      have hsame : ∀ i, (Value.slice am v.m.length cm).ownBlock = some i → (Value.slice al v.l.length cl).ownBlock ≠ some i := fun i hi hx => by
       have h1 := (hmblk.o i hi).2.2
       have h2 := (hblk.o i (Option.mem_toList.2 hx)).2.2
       rw [h1] at h2
       exact absurd h2 (by decide)
      have hne : ∀ i, W0.heap.size ≤ i → (Value.slice am v.m.length cm).ownBlock ≠ some i → i ∉ (Value.slice am v.m.length cm).ownBlock.toList ++ [w.heap.size + 1] := fun i h1 h2 hx => by
       rcases List.mem_append.1 hx with hx | hx
       ·exact h2 (Option.mem_toList.1 hx)
       ·simp at hx; omega
      have K5F : Kept ((Value.slice am v.m.length cm).ownBlock.toList ++ [w.heap.size + 1]) wr WF := (Jg.o.mono (fun i hi => List.mem_append_left _ hi)).trans' (KF.mono (fun i hi => List.mem_append_right _ hi))
      have KLF : Kept ((Value.slice am v.m.length cm).ownBlock.toList ++ [w.heap.size + 1]) WL WF := (Ga.o.kept.mono (fun i hi => List.mem_append_left _ hi)).trans' K5F
      have hall : All2 (pairR (Rep n (fun g => W0.heap.size ≤ g ∧ (Value.slice al v.l.length cl).ownBlock ≠ some g ∧ (Value.slice am v.m.length cm).ownBlock ≠ some g) wr)) (ds0.map (fun x => (x.key, x.cs))) (v.m.map (pairMap (sortV n))) := by
       have h1 := Ga.o.all
       rw [List.take_length, List.drop_length, List.map_nil, List.append_nil, Jr.o] at h1
       exact h1
      have hsp := sorted_pairs hall Js.o Jt.o (by rw [List.map_map]; exact Jl.o)
      have hdl : (ds.map (fun x => (x.key, x.cs))).length = v.m.length := by rw [hsp.1, List.length_mergeSort, List.length_map]
      have hpe : pairCs (ds.map (fun x => (x.key, x.cs))) = ds.flatMap PC.enc := by
       unfold pairCs
       rw [List.flatMap_map]
       rfl
      have hown : OwnRep (n + 1) w.heap.size WF [.int .i64 v.kind, .int .i64 v.num, .string v.s, .slice al v.l.length cl, .slice am v.m.length cm] (sortV (n + 1) v) := by
       rw [sortV_eq]
       refine ⟨_, _, lsF, ds.map (fun x => (x.key, x.cs)), rfl, ?h1, ?h2, ?h3, ?h4, Jj.o.1, Jj.o.2⟩
       case h1 =>
        simp only [List.length_map]
        exact row_base (row_kept Gg.o.row KLF (fun i hi => hne i ((hblk.o i (Option.mem_toList.2 hi)).1) (fun hx => hsame i hx hi))) (fun i hi => by have := (hblk.o i (Option.mem_toList.2 hi)).1; omega)
       case h2 =>
        have h1 := Gg.o.all
        rw [List.take_length, List.drop_length, List.map_nil, List.append_nil] at h1
        exact h1.mono fun _ _ _ r => r.move KLF (fun i _ ⟨q1, q2, q3⟩ => ⟨hne i q1 q3, by omega, q2, q3⟩)
       case h3 =>
        simp only [List.length_mergeSort, List.length_map]
        rw [hpe]
        exact row_base (row_kept Ju.o KF (fun i hi hx => by have := (hmblk.o i hi).1; simp at hx; omega)) (fun i hi => by have := (hmblk.o i hi).1; omega)
       case h4 =>
        exact hsp.mono fun _ _ _ r => ⟨r.1, r.2.move K5F (fun i _ ⟨q1, q2, q3⟩ => ⟨hne i q1 q3, by omega, q2, q3⟩)⟩
      have hkw : Kept [] w WF := ((Ge.o.then Gw.o).trans Jk.o (fun i hi => by
       rcases List.mem_append.1 hi with hi | hi
       ·have := (hblk.o i hi).1; exact .inr (by omega)
       ·have := (hmblk.o i (Option.mem_toList.1 hi)).1; exact .inr (by omega))).trans KF (fun i hi => by simp at hi; exact .inr (by omega))
      exact bodyPost_ret (v := .agg #[.int .i64 v.kind, .int .i64 v.num, .string v.s, .slice al v.l.length cl, .slice am v.m.length cm]) (by simp [results, Tryz.results177, go_sem, x0, x1, x2, x3, x4]) rfl ⟨⟨_, rfl, hown⟩, hkw⟩
theorem sorted_any_known : ∀ (n : Nat), sorted_anyKnown n
 | 0 => fun v {_} {_} {_} h _ _ => h.elim
 | n + 1 => sorted_any_step (sorted_any_known n)
theorem sorted_any : ∀ (n : Nat) (v : V n) {S : Nat → Prop} {w : World} {cs : List Value}, Rep n S w cs v → Small n v → rightV n v = true →
  Calls Tryz.prog 177 #[.agg cs.toArray] w fun e w' => (∃ cs' : List Value, e = .returned (.agg cs'.toArray) ∧ OwnRep n w.heap.size w' cs' (sortV n v)) ∧ Kept [] w w' := fun n => sorted_any_known n
theorem idx_spec {α : Type} (p : α → Bool) (x : α) : ∀ (zs : List α) (k : Nat), (Lib.idxByFrom (fun _ y => p y) x zs k = -1 ∧ ∀ i (h : i < zs.length), p zs[i] = false) ∨ ∃ i, ∃ h : i < zs.length, Lib.idxByFrom (fun _ y => p y) x zs k = ((k + i : Nat) : Int) ∧ p zs[i] = true ∧ ∀ j (hj : j < i), p (zs[j]'(by omega)) = false
 | [], k => .inl ⟨rfl, fun i h => by cases h⟩
 | z :: zs, k => by
  unfold Lib.idxByFrom
  cases hz : p z with
  | true =>
   refine .inr ⟨0, by simp, ?_, hz, fun j hj => by omega⟩
   simp
  | false =>
   simp only [Bool.false_eq_true, if_false]
   rcases idx_spec p x zs (k + 1) with ⟨h1, h2⟩ | ⟨i, h, h1, h2, h3⟩
   ·refine .inl ⟨h1, fun i hi => ?_⟩
    cases i with
    | zero => exact hz
    | succ i => exact h2 i (by simpa using hi)
   ·refine .inr ⟨i + 1, by simpa using h, by rw [h1]; congr 1; omega, by simpa using h2, fun j hj => ?_⟩
    cases j with
    | zero => exact hz
    | succ j => simpa using h3 j (by omega)
def KeyIx {α : Type} (m : List (ByteArray × α)) (s : ByteArray) (r : Int) : Prop := (r = -1 ∧ ∀ i (h : i < m.length), m[i].1 ≠ s) ∨ ∃ i, ∃ h : i < m.length, r = (i : Int) ∧ m[i].1 = s ∧ ∀ j (hj : j < i), (m[j]'(by omega)).1 ≠ s
section
variable {w : World}
set_option maxRecDepth 100000 in
theorem indexNone (a : Option Addr) (c : Nat) (fv : Value) :
  Calls Tryz.prog 144 #[.slice a 0 c, fv] w fun e w' => e = .returned (.int .i64 (-1)) ∧ Kept [] w w' := by
 go_enter Tryz.func144, Tryz.ntmps144
 go_wp2_with fail
 go_loopw [8] (fun i wr => i = .int .i64 0 ∧ w = wr) (fun _ _ => 0)
 case atStart => exact ⟨rfl, rfl⟩
 case round =>
  obtain ⟨rfl, rfl⟩ := hrel
  go_wp2_with fail
  go_ret
  exact ⟨rfl, Kept.refl _ _⟩
set_option maxRecDepth 100000 in
theorem sameKey_any (x : PC) (s : ByteArray) (b : Nat) (h : w.cell? ⟨b, 0, none⟩ = some (.string s)) :
  Calls Tryz.prog 145 #[.agg x.enc.toArray, .pointer (some ⟨b, 0, none⟩)] w fun e w' => e = .returned (.bool (decide (x.key = s))) ∧ Kept [] w w' := by
 have hc : ∀ o : Obj, (w.alloc o).cell? ⟨b, 0, none⟩ = some (.string s) := fun o => ((Kept.refl [] w).alloc o).cell h (by simp)
 have HK : Hid (∀ o : Obj, Kept [] w (w.alloc o)) := qI (fun o => (Kept.refl [] w).alloc o)
 have he : x.enc.toArray = #[.string x.key, .int .i64 x.k, .int .i64 x.m, .string x.s, .slice x.p x.i x.c, .slice x.q x.j x.d] := rfl
 rw [he]
 clear h he
 by_cases e : x.key = s
 ·obtain ⟨f1, f2⟩ := str_eq e
  rw [decide_eq_true e]
  clear e
  go_enter Tryz.func145, Tryz.ntmps145
  go_wp2_with fail
  go_ret
  exact ⟨rfl, HK.o _⟩
 ·obtain ⟨f1, f2⟩ := str_ne e
  rw [decide_eq_false e]
  clear e
  go_enter Tryz.func145, Tryz.ntmps145
  go_wp2_with fail
  go_ret
  exact ⟨rfl, HK.o _⟩
theorem aggPair (w : World) : (isAgg (Tryz.shIndexFunc_ren.t 23)).run Tryz.prog w = .ok true w := Tryz.isAgg78 w
theorem sizePair (w : World) : (Go.sizeOf (Tryz.shIndexFunc_ren.t 23)).run Tryz.prog w = .ok 6 w := Tryz.sizeOf78 w
theorem enter_same : ∀ (args : Array Value) (w : World), (callFunc 145 args).run Tryz.prog w = .ok (.enter 145 args) w := enters_of Tryz.func145 (by kernel_rfl) rfl
section
variable {n : Nat} {S : Nat → Prop} {cs : List Value} {v : VS (V n)} {vl vm : Value} {lcs : List (List Value)} {mcs : List (ByteArray × List Value)}
theorem indexPairs (h : RepOne (Rep n S w) S w cs v vl vm lcs mcs) {b : Nat} {s : ByteArray} (hb : w.cell? ⟨b, 0, none⟩ = some (.string s)) (hl : v.m.length ≤ 1000000) :
  Calls Tryz.prog 144 #[vm, .func (.func 145) #[] #[.pointer (some ⟨b, 0, none⟩)]] w fun e w' => (∃ r, e = .returned (.int .i64 r) ∧ KeyIx v.m s r) ∧ Kept [] w w' := by
 obtain ⟨ds, e1, e2⟩ := pcs_of h.allm
 have hlen : ds.length = v.m.length := by rw [← h.allm.1, e1, List.length_map]
 have hkey : ∀ i (hi : i < v.m.length), (ds[i]'(by omega)).key = v.m[i].1 := fun i hi => by
  have h9 := (h.allm.2 i ((ds[i]'(by omega)).key, (ds[i]'(by omega)).cs) v.m[i] (by rw [e1, List.getElem?_map, List.getElem?_eq_getElem (by omega)]; rfl) (List.getElem?_eq_getElem hi)).1
  exact h9
 by_cases h0 : v.m.length = 0
 ·have hs := h.slcm
  rw [h0] at hs
  obtain ⟨a, c, rfl, -, -⟩ := hs.form
  refine (indexNone a c _).mono ?_
  rintro e w' ⟨rfl, hk⟩
  exact ⟨⟨-1, rfl, .inl ⟨rfl, fun i hi => by omega⟩⟩, hk⟩
 rcases h.slcm.2 with ⟨-, q⟩ | ⟨q, -⟩ | ⟨g, o, cap, rfl, -, hm, hr⟩
 ·omega
 ·omega
 rw [e2] at hr
 refine (AnyQ.slices_IndexFunc Tryz.shIndexFunc 6 aggPair sizePair PC.enc PC.enc_len (fun x => decide (x.key = s)) 145 #[.pointer (some ⟨b, 0, none⟩)] enter_same g o v.m.length cap ds w (fun W x hbl => ?_) (by omega) (by omega) hr.2 (fun j hj i u hu => ?_)).mono ?_
 ·have hcb : W.cell? ⟨b, 0, none⟩ = some (.string s) := (Kept.of_below hbl).cell hb (by simp)
  refine (sameKey_any x s b hcb).mono ?_
  rintro e w' ⟨rfl, hk⟩
  exact ⟨rfl, ((Kept.of_below hbl).then hk).below (Nat.le_refl _) (by simp)⟩
 ·rw [getElem!_pos ds j hj] at hu
  have hi6 : i < 6 := by
   rcases Nat.lt_or_ge i 6 with q | q
   ·exact q
   ·rw [List.getElem?_eq_none (by rw [PC.enc_len]; exact q)] at hu; cases hu
  have h2 := flat_get (size := 6) (ds.map PC.enc) j i (by intro c hc; obtain ⟨x, _, rfl⟩ := List.mem_map.1 hc; rfl) (by simpa using hj) hi6
  rw [List.getElem_map] at h2
  have h3 := hr.cells (j * 6 + i) u (by rw [show ds.flatMap PC.enc = (ds.map PC.enc).flatten by simp [List.flatMap], h2]; exact hu)
  rw [← Nat.add_assoc] at h3
  exact h3
 ·rintro e w' ⟨rfl, hbl⟩
  refine ⟨⟨_, rfl, ?_⟩, Kept.of_below hbl⟩
  rw [List.take_of_length_le (by omega)]
  unfold Lib.idxBy
  rcases idx_spec (fun x : PC => decide (x.key = s)) default ds 0 with ⟨q1, q2⟩ | ⟨i, hi, q1, q2, q3⟩
  ·rw [q1]
   refine .inl ⟨rfl, fun i hi => ?_⟩
   have := q2 i (by omega)
   rw [hkey i hi] at this
   simpa using this
  ·rw [q1]
   refine .inr ⟨i, by omega, by rw [Nat.zero_add], ?_, fun j hj => ?_⟩
   ·rw [hkey i (by omega)] at q2
    simpa using q2
   ·have := q3 j hj
    rw [hkey j (by omega)] at this
    simpa using this
end
end
def getV {α : Type} (v : VS α) (s : ByteArray) : Option α := if v.kind = 6 then (v.m.find? (fun p => decide (p.1 = s))).map (fun p => p.2) else none
theorem find_ix {α : Type} {m : List (ByteArray × α)} {s : ByteArray} {r : Int} (h : KeyIx m s r) : (r = -1 ∧ m.find? (fun p => decide (p.1 = s)) = none) ∨ ∃ i, ∃ hi : i < m.length, r = (i : Int) ∧ m.find? (fun p => decide (p.1 = s)) = some m[i] := by
 rcases h with ⟨h1, h2⟩ | ⟨i, hi, h1, h2, h3⟩
 ·refine .inl ⟨h1, List.find?_eq_none.2 fun p hp => ?_⟩
  obtain ⟨j, hj, rfl⟩ := List.getElem_of_mem hp
  simpa using h2 j hj
 ·refine .inr ⟨i, hi, h1, ?_⟩
  rw [List.find?_eq_some_iff_getElem]
  refine ⟨by simpa using h2, i, hi, rfl, fun j hj => ?_⟩
  simpa using h3 j hj
theorem box_of {w : World} {g : Nat} {k m : Int} {s : ByteArray} {a b : Value} {t : Nat} {f : Nat × Nat} (h : w.heap[g]? = some (.cells #[.int .i64 k, .int .i64 m, .string s, a, b] t f)) : BoxAt w g k m s a b := ⟨cell_head h rfl, cell_head h rfl, cell_head h rfl, cell_head h rfl, cell_head h rfl⟩
def put5 (w : World) (g : Nat) (k m : Int) (s : ByteArray) (a b : Value) : World := ((((w.setCell ⟨g, 0, none⟩ (.int .i64 k)).setCell ⟨g, 1, none⟩ (.int .i64 m)).setCell ⟨g, 2, none⟩ (.string s)).setCell ⟨g, 3, none⟩ a).setCell ⟨g, 4, none⟩ b
theorem put5_kept (w : World) (g : Nat) (k m : Int) (s : ByteArray) (a b : Value) : Kept [g] w (put5 w g k m s a b) := by
 unfold put5
 exact (((((Kept.refl [g] w).setCell (.inl (by simp)) _).setCell (.inl (by simp)) _).setCell (.inl (by simp)) _).setCell (.inl (by simp)) _).setCell (.inl (by simp)) _
theorem put5_at {w : World} {g : Nat} {c0 c1 c2 c3 c4 : Value} {t : Nat} {f : Nat × Nat} (h : w.heap[g]? = some (.cells #[c0, c1, c2, c3, c4] t f)) (k m : Int) (s : ByteArray) (a b : Value) : (put5 w g k m s a b).heap[g]? = some (.cells #[.int .i64 k, .int .i64 m, .string s, a, b] t f) := by
 unfold put5
 have h1 := block_setCell (i := 0) (v := .int .i64 k) (d := #[.int .i64 k, c1, c2, c3, c4]) h rfl
 have h2 := block_setCell (i := 1) (v := .int .i64 m) (d := #[.int .i64 k, .int .i64 m, c2, c3, c4]) h1 rfl
 have h3 := block_setCell (i := 2) (v := .string s) (d := #[.int .i64 k, .int .i64 m, .string s, c3, c4]) h2 rfl
 have h4 := block_setCell (i := 3) (v := a) (d := #[.int .i64 k, .int .i64 m, .string s, a, c4]) h3 rfl
 have h5 := block_setCell (i := 4) (v := b) (d := #[.int .i64 k, .int .i64 m, .string s, a, b]) h4 rfl
 exact h5
def zero5 : Value := .agg #[.int .i64 0, .int .i64 0, .string ⟨#[]⟩, .slice none 0 0, .slice none 0 0]
section
variable {n : Nat} {v : VS (V n)} {S : Nat → Prop} {w : World} {cs : List Value}
theorem at_any (h : Rep (n + 1) S w cs v) (hl : v.m.length ≤ 1000000) (s : ByteArray) :
  Calls Tryz.prog 108 #[.agg cs.toArray, .string s] w fun e w' => (∃ r, e = .returned (.int .i64 r) ∧ ((r = -1 ∧ getV v s = none) ∨ ∃ i, ∃ hi : i < v.m.length, r = (i : Int) ∧ getV v s = some v.m[i].2)) ∧ Kept [] w w' := by
 obtain ⟨vl, vm, lcs, mcs, h⟩ := h
 obtain ⟨pa, pc, pb, pd, rfl, rfl, rfl⟩ := h.forms
 have H := qI h
 obtain ⟨W0, Gb⟩ : ∃ W0, Hid (W0 = (w.alloc (.cells #[.int .i64 v.kind, .int .i64 v.num, .string v.s, .slice pa v.l.length pc, .slice pb v.m.length pd] 28)).alloc (.cells #[.string s] 9)) := ⟨_, qI rfl⟩
 have Ge : Hid (Kept [] w W0) := qI (by rw [Gb.o]; exact ((Kept.refl _ w).alloc _).alloc _)
 have HB : Hid (W0.heap[w.heap.size]? = some (.cells #[.int .i64 v.kind, .int .i64 v.num, .string v.s, .slice pa v.l.length pc, .slice pb v.m.length pd] 28 (0, 0))) := qI (by rw [Gb.o]; exact ((Kept.refl [] _).alloc _).heap (block_alloc rfl) (by simp))
 have HC : Hid (W0.cell? ⟨w.heap.size + 1, 0, none⟩ = some (.string s)) := qI (by rw [Gb.o]; exact cell_head (block_alloc (by simp)) rfl)
 have CI : Hid (Calls Tryz.prog 144 #[.slice pb v.m.length pd, .func (.func 145) #[] #[.pointer (some ⟨w.heap.size + 1, 0, none⟩)]] W0 fun e w' => (∃ r, e = .returned (.int .i64 r) ∧ KeyIx v.m s r) ∧ Kept [] W0 w') := qI (by
  have hr := Rep.open_ (Rep.kept0 (RepOne.close h) Ge.o)
  obtain ⟨vl', vm', lcs', mcs', h'⟩ := hr
  have e1 := h'.cells
  simp only [List.cons.injEq, and_true, true_and] at e1
  obtain ⟨rfl, rfl⟩ := e1
  exact indexPairs h' HC.o hl)
 have c0 := cell_head (o := 0) (v := .int .i64 v.kind) HB.o rfl
 have c4 := cell_head (o := 4) (v := .slice pb v.m.length pd) HB.o rfl
 clear h
 by_cases k6 : v.kind = 6
 ·have f1 := (int_eq k6).1
  have f2 := (int_eq k6).2
  have HG : Hid (getV v s = (v.m.find? (fun p => decide (p.1 = s))).map (fun p => p.2)) := qI (by unfold getV; rw [if_pos k6])
  clear k6
  go_enter Tryz.func108, Tryz.ntmps108
  go_upto_region 1 with fail
  rw [← Gb.o]
  go_wp2_with (go_at_call 144; refine CI.o.mono ?_; rintro e w2 ⟨⟨r, rfl, hr⟩, hk2⟩; have HR := qI hr; have Gd := qI hk2; clear hr hk2)
  go_ret
  refine ⟨⟨_, rfl, ?_⟩, Ge.o.then Gd.o⟩
  rw [HG.o]
  rcases find_ix HR.o with ⟨h1, h2⟩ | ⟨i, hi, h1, h2⟩
  ·exact .inl ⟨h1, by rw [h2]; rfl⟩
  ·exact .inr ⟨i, hi, h1, by rw [h2]; rfl⟩
 ·have f1 := (int_ne k6).1
  have f2 := (int_ne k6).2
  have HG : Hid (getV v s = none) := qI (by unfold getV; rw [if_neg k6])
  clear k6
  go_enter Tryz.func108, Tryz.ntmps108
  go_upto_region 1 with fail
  rw [← Gb.o]
  go_wp2_with fail
  go_ret
  exact ⟨⟨_, rfl, .inl ⟨rfl, HG.o⟩⟩, Ge.o⟩
def GetAns (n : Nat) (B : Nat) (w' : World) (e : Ending) : Option (V n) → Prop
 | none => e = .returned (.tuple #[zero5, .bool false])
 | some x => ∃ cs' : List Value, e = .returned (.tuple #[.agg cs'.toArray, .bool true]) ∧ OwnD n (fun g => B ≤ g ∧ g < w'.heap.size) w' cs' x
theorem get_any (h : Rep (n + 1) S w cs v) (hs : Small (n + 1) v) (s : ByteArray) :
  Calls Tryz.prog 76 #[.agg cs.toArray, .string s] w fun e w' => GetAns n w.heap.size w' e (getV v s) ∧ Kept [] w w' := by
 have CA0 := fun (w1 : World) (k : Kept [] w w1) => at_any (h.kept0 k) (by have := kids_few v; have := hs.1; omega) s
 obtain ⟨vl, vm, lcs, mcs, h⟩ := h
 obtain ⟨pa, pc, pb, pd, rfl, rfl, rfl⟩ := h.forms
 have H := qI h
 have HS := qI hs
 have CA := qI CA0
 obtain ⟨W0, Gb⟩ : ∃ W0, Hid (W0 = (w.alloc (.cells #[.int .i64 v.kind, .int .i64 v.num, .string v.s, .slice pa v.l.length pc, .slice pb v.m.length pd] 28)).alloc (.cells #[.int .i64 0, .int .i64 0, .string ⟨#[]⟩, .slice none 0 0, .slice none 0 0] 28)) := ⟨_, qI rfl⟩
 have Ge : Hid (Kept [] w W0) := qI (by rw [Gb.o]; exact ((Kept.refl _ w).alloc _).alloc _)
 have HB : Hid (BoxAt W0 w.heap.size v.kind v.num v.s (.slice pa v.l.length pc) (.slice pb v.m.length pd)) := qI (by rw [Gb.o]; exact (box_at _ _ _ _ _ _ _).kept0 ((Kept.refl [] _).alloc _))
 have HR : Hid (W0.heap[w.heap.size + 1]? = some (.cells #[.int .i64 0, .int .i64 0, .string ⟨#[]⟩, .slice none 0 0, .slice none 0 0] 28 (0, 0))) := qI (by rw [Gb.o]; exact block_alloc (by simp))
 clear h hs CA0
 obtain ⟨c0, c1, c2, c3, c4⟩ := HB.o
 go_enter Tryz.func76, Tryz.ntmps76
 go_upto_region 1 with fail
 rw [← Gb.o]
 go_upto_region 2 with (go_at_call 108; refine (CA.o _ Ge.o).mono ?_; rintro e w2 ⟨⟨r, rfl, hr⟩, hk2⟩; have Jv := qI hr; have Gd := qI hk2; clear hr hk2)
 clear c0 c1 c2 c3 c4
 obtain ⟨c0, c1, c2, c3, c4⟩ := HB.o.kept0 Gd.o
 have Gl := qI (Gd.o.heap HR.o (by simp))
 rcases Jv.o with ⟨rfl, hg⟩ | ⟨i, hi, rfl, hg⟩
 ·have HG := qI hg
  clear hg
  have r0 := cell_head (o := 0) (v := .int .i64 0) Gl.o rfl
  have r1 := cell_head (o := 1) (v := .int .i64 0) Gl.o rfl
  have r2 := cell_head (o := 2) (v := .string ⟨#[]⟩) Gl.o rfl
  have r3 := cell_head (o := 3) (v := .slice none 0 0) Gl.o rfl
  have r4 := cell_head (o := 4) (v := .slice none 0 0) Gl.o rfl
  have z : ∀ j, w2.frozen? ⟨w.heap.size + 1, j, none⟩ = false := fun j => free_head Gl.o
  go_wp2_with fail
  change bodyPost _ _ _ _ _ (put5 w2 (w.heap.size + 1) 0 0 ⟨#[]⟩ (.slice none 0 0) (.slice none 0 0))
  have Gk := put5_kept w2 (w.heap.size + 1) 0 0 ⟨#[]⟩ (.slice none 0 0) (.slice none 0 0)
  have Gj := put5_at Gl.o 0 0 ⟨#[]⟩ (.slice none 0 0) (.slice none 0 0)
  revert Gk Gj
  generalize put5 w2 (w.heap.size + 1) 0 0 ⟨#[]⟩ (.slice none 0 0) (.slice none 0 0) = WF
  intro Gk Gj
  obtain ⟨y0, y1, y2, y3, y4⟩ := box_of Gj
  exact bodyPost_ret (v := .tuple #[zero5, .bool false]) (by simp [results, Tryz.results76, go_sem, y0, y1, y2, y3, y4, zero5]) rfl ⟨by rw [HG.o]; rfl, ((Ge.o.then Gd.o).trans Gk (by intro i hi; simp at hi; subst hi; exact .inr (by simp)))⟩
 ·have HX := qI (H.o.at_m (Ge.o.then Gd.o) i hi)
  obtain ⟨g, o, cap, kd, nm, st, a1, b1, he, q0, q1, q2, q3, q4, q5, hr⟩ := HX.o
  simp only [Value.slice.injEq] at he
  obtain ⟨rfl, -, rfl⟩ := he
  obtain ⟨p1, i1, d1, p2, i2, d2, rfl, rfl⟩ := hr.sl
  have CC := qI (cloneD_any n v.m[i].2 hr (HS.o.kid (mem_m (List.getElem_mem hi))))
  have HG := qI hg
  have hiI : (i : Int) < v.m.length := by omega
  clear hr HX hg
  go_wp2_with (go_at_call 87; refine CC.o.mono ?_; rintro e w3 ⟨⟨cs3, rfl, ho3⟩, hk3⟩; obtain ⟨k3, m3, s3, x3, j3, c3, y3, l3, e3, rfl⟩ := ho3.rep.conv; have Jw := qI ho3; have Gi := qI hk3; have Gc := qI (hk3.heap Gl.o (by simp)); have r0 := cell_head (o := 0) (v := .int .i64 0) Gc.o rfl; have r1 := cell_head (o := 1) (v := .int .i64 0) Gc.o rfl; have r2 := cell_head (o := 2) (v := .string ⟨#[]⟩) Gc.o rfl; have r3 := cell_head (o := 3) (v := .slice none 0 0) Gc.o rfl; have r4 := cell_head (o := 4) (v := .slice none 0 0) Gc.o rfl; have z : ∀ j, w3.frozen? ⟨w.heap.size + 1, j, none⟩ = false := fun j => free_head Gc.o; clear ho3 hk3)
  change bodyPost _ _ _ _ _ (put5 w3 (w.heap.size + 1) k3 m3 s3 (.slice x3 j3 c3) (.slice y3 l3 e3))
  have Gk := put5_kept w3 (w.heap.size + 1) k3 m3 s3 (.slice x3 j3 c3) (.slice y3 l3 e3)
  have Gj := put5_at Gc.o k3 m3 s3 (.slice x3 j3 c3) (.slice y3 l3 e3)
  revert Gk Gj
  generalize put5 w3 (w.heap.size + 1) k3 m3 s3 (.slice x3 j3 c3) (.slice y3 l3 e3) = WF
  intro Gk Gj
  obtain ⟨z0, z1, z2, z3, z4⟩ := box_of Gj
  refine bodyPost_ret (v := .tuple #[.agg #[.int .i64 k3, .int .i64 m3, .string s3, .slice x3 j3 c3, .slice y3 l3 e3], .bool true]) (by simp [results, Tryz.results76, go_sem, z0, z1, z2, z3, z4]) rfl ⟨by
   rw [HG.o]
   have hsz : W0.heap.size = w.heap.size + 2 := by rw [Gb.o]; simp
   have h2 := Gd.o.size
   exact ⟨_, rfl, (Jw.o.kept Gk (by intro k hk; simp at hk; subst hk; omega)).mono (fun g ⟨h5, h6⟩ => ⟨by omega, Nat.lt_of_lt_of_le h6 Gk.size⟩)⟩, (((Ge.o.then Gd.o).then Gi.o).trans Gk (by intro i hi; simp at hi; subst hi; exact .inr (by simp)))⟩
end
end Go.Proofs.YtckbnjipecclaaaGreatDoor

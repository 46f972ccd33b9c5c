/- Parts of one proof, merged: XSo XSa XWr XWs XEn. -/
import Derived.Test.YtpbphdkjjoipnaaGreatDoorEC
import Derived.Deep.DeepCutAuto
import Derived.Deep.CutBlock
import Derived.Test.YtpbphdkjjoipnaaGreatDoorED
import Derived.Test.YtpbphdkjjoipnaaGreatDoorEF
import Derived.Laws.OwnMore
set_option linter.all false
set_option maxHeartbeats 12800000
set_option maxRecDepth 10000
set_option linter.unusedVariables false
set_option linter.unusedSimpArgs false
set_option linter.unnecessarySimpa false
namespace Go.Proofs.YtpbphdkjjoipnaaGreatDoor
open Go.RowKit
def RefSortKnown (n : Nat) : Prop := ∀ (v : V n) {S : Nat → Prop} {w : World} {cs : List Value}, Rep n S w cs v → Small n v → rightV n v = true →
    Calls Tryz.prog 19 #[.agg cs.toArray] w fun e w' => (∃ cs' : List Value, e = .returned (.agg cs'.toArray) ∧ OwnRep n w.heap.size w' cs' (sortV n v)) ∧ Kept [] w w'
theorem refSort_step {n : Nat} (IH0 : RefSortKnown n) (v : VS (V n)) {S : Nat → Prop} {w : World} {cs : List Value} (h : Rep (n + 1) S w cs v) (hs : Small (n + 1) v) (hr0 : rightV (n + 1) v = true) :
  Calls Tryz.prog 19 #[.agg cs.toArray] w fun e w' => (∃ cs' : List Value, e = .returned (.agg cs'.toArray) ∧ OwnRep (n + 1) w.heap.size w' cs' (sortV (n + 1) v)) ∧ Kept [] w w' := by
  have Jb := qI hs
  have Gv := qI hr0
  obtain ⟨vl, vm, lcs, mcs, h⟩ := h
  obtain ⟨a, c, b, e, rfl, rfl, rfl⟩ := h.forms
  have H := qI h
  have IH := @qI (RefSortKnown n) (by exact @IH0)
  clear IH0
  have hlv : v.l.length ≤ 20000 := by have := hs.few; omega
  have hmv : v.m.length ≤ 20000 := by have := hs.few; omega
  obtain ⟨W0, Gb⟩ : ∃ W0, Hid (W0 = ((w.alloc (.cells #[.int .i64 v.kind, .int .i64 v.num, .string v.s, .slice a v.l.length c, .slice b v.m.length e] 25)).alloc (.cells #[.int .i64 0, .int .i64 0, .string ⟨#[]⟩, .slice none 0 0, .slice none 0 0] 25)).alloc (.cells #[.int .i64 v.kind, .int .i64 v.num, .string v.s, .slice none 0 0, .slice none 0 0] 25)) := ⟨_, qI rfl⟩
  have Ge : Hid (W0.heap.size = w.heap.size + 3) := qI (by rw [Gb.o]; simp)
  have Gg : Hid (Kept [] w W0) := qI (by rw [Gb.o]; exact (((Kept.refl [] w).alloc _).alloc _).alloc _)
  have Mn : Hid (W0.heap[w.heap.size]? = some (.cells (valA v.kind v.num v.s (.slice a v.l.length c) (.slice b v.m.length e)) 25 (0, 0))) := qI (by
   rw [Gb.o]; exact (((Kept.refl [] _).alloc _).alloc _).heap (block_alloc rfl) (by simp))
  have Md : Hid (W0.heap[w.heap.size + 1]? = some (.cells #[.int .i64 0, .int .i64 0, .string ⟨#[]⟩, .slice none 0 0, .slice none 0 0] 25 (0, 0))) := qI (by
   rw [Gb.o]; exact ((Kept.refl [] _).alloc _).heap (block_alloc (by simp)) (by simp))
  have Mo : Hid (W0.heap[w.heap.size + 1 + 1]? = some (.cells (valA v.kind v.num v.s (.slice none 0 0) (.slice none 0 0)) 25 (0, 0))) := qI (by
   rw [Gb.o]; exact block_alloc (by simp))
  obtain ⟨c0, c1, c2, c3, c4⟩ := box_at w v.kind v.num v.s (.slice a v.l.length c) (.slice b v.m.length e) 25
  clear h hs hr0
  go_enter Tryz.func19, Tryz.ntmps19
  go_wp2_with fail
  rw [← Gb.o]
  clear c0 c1 c2 c3 c4
  go_loopw [4] (fun i wr => ∃ (k : Nat) (vl : Value) (lcs' : List (List Value)), i = .int .i64 k ∧ k ≤ v.l.length ∧ InsL W0 (w.heap.size + 1 + 1) v k wr vl lcs') (fun i _ => v.l.length - (intOf i).toNat)
  case atStart =>
   exact ⟨0, .slice none 0 0, [], rfl, Nat.zero_le _, {
    blk := Mo.o
    row := World.ownsRow_nil _ _ _ _
    all := All2.nil _
    kept := Kept.refl _ _ }⟩
  case round =>
   obtain ⟨k, vk, lk, rfl, hk, hc⟩ := hrel
   have HC := qI hc
   have Gc : Hid (Kept [] w wr) := qI (Gg.o.trans hc.kept (by intro i hi; simp at hi; subst hi; exact .inr (by omega)))
   have hba := HC.o.kept.heap Mn.o (by simp; omega)
   have b3 := cell_head (o := 3) (v := .slice a v.l.length c) hba rfl
   clear hc
   by_cases hlt : k < v.l.length
   ·have hltI : (k : Int) < v.l.length := by omega
    obtain ⟨g, o, cap, kd, nm, st, a1, b1, he, q0, q1, q2, q3, q4, hr⟩ := H.o.at_l Gc.o k hlt
    have hgw : ∀ x, a = some x → x.block < w.heap.size := fun x hx => H.o.slcl.lt (by rw [hx]; exact vblk_mk (by omega))
    simp only [Value.slice.injEq] at he
    obtain ⟨rfl, -, rfl⟩ := he
    obtain ⟨ak, ck, rfl, -, -⟩ := (Slc.of_row HC.o.row).form
    obtain ⟨p1, i1, d1, p2, i2, d2, rfl, rfl⟩ := hr.sl
    have HR := qI hr
    have Js := qI (Jb.o.kid (mem_l (List.getElem_mem hlt)))
    have Jt := qI (right_kid Gv.o (mem_l (List.getElem_mem hlt)))
    have hb3 := HC.o.blk
    have f3 := cell_head (o := 3) (v := .slice ak k ck) hb3 rfl
    have hlt3 := HC.o.row.lt
    have hb3l : w.heap.size + 1 + 1 < wr.heap.size := lt_of_block HC.o.blk
    have Ji := qI hlt3
    have Jl : Hid (g ∉ (Value.slice ak k ck).ownBlock.toList) := qI (fun hx => by have h1 := (hlt3 _ (Option.mem_toList.1 hx)).1; have h2 := hgw _ rfl; have h3 := Ge.o; simp only at h2; omega)
    have Mp : Hid (w.heap.size ∉ (Value.slice ak k ck).ownBlock.toList) := qI (fun hx => by have h1 := (hlt3 _ (Option.mem_toList.1 hx)).1; have h3 := Ge.o; omega)
    have Me : Hid (w.heap.size + 1 + 1 ∉ (Value.slice ak k ck).ownBlock.toList) := qI (fun hx => by have h1 := (hlt3 _ (Option.mem_toList.1 hx)).1; have h3 := Ge.o; omega)
    clear hr hb3 hlt3 hgw hba
    go_wp2_with fail
    refine wp_region_last' (n := 12) (fun w' : World => Kept (Value.slice ak k ck).ownBlock.toList wr w') 11 (by kernel_rfl) (by kernel_rfl) ?_
    change wpAnyT _ _ _ _ _ _ _ _ _ wr.drew
    have hSS : (fun w' : World => Kept (Value.slice ak k ck).ownBlock.toList wr w') wr.drew := (Kept.refl _ wr).drew
    have Gf : Hid (Kept [] wr wr.drew) := qI (Kept.refl [] wr).drew
    revert hSS Gf
    generalize wr.drew = W2
    intro hSS Gf
    refine wpAnyT_start ?_
    intro O R hO hR
    have hQp : ∀ c a (d : Nat) v w, R (.panic c) (a.put (some d) v) w → R (.panic c) a w := by subst hR; exact fun _ _ _ _ _ h => h
    refine wpAnyT_take' (i := 0) (v := ?_) hO rfl rfl (by kernel_rfl) (by kernel_rfl) (by kernel_rfl) (by kernel_rfl) hQp (Or.inl ⟨by kernel_rfl, fun w hSw => ?_⟩) hSS ?_
    rotate_left
    ·go_simp; try with_reducible rfl
    try simp only [zA,zN,zB,zC,zD]
    refine wpAnyT_take' (i := 1) (v := ?_) hO rfl rfl (by kernel_rfl) (by kernel_rfl) (by kernel_rfl) (by kernel_rfl) hQp (Or.inl ⟨by kernel_rfl, fun w hSw => ?_⟩) hSS ?_
    rotate_left
    ·have s := hSw.cell f3 Me.o; go_simp; try with_reducible rfl
    try simp only [zA,zN,zB,zC,zD]
    refine wpAnyT_take' (i := 2) (v := ?_) hO rfl rfl (by kernel_rfl) (by kernel_rfl) (by kernel_rfl) (by kernel_rfl) hQp (Or.inl ⟨by kernel_rfl, fun w hSw => ?_⟩) hSS ?_
    rotate_left
    ·go_simp; try with_reducible rfl
    try simp only [zA,zN,zB,zC,zD]
    refine wpAnyT_take' (i := 3) (v := ?_) hO rfl rfl (by kernel_rfl) (by kernel_rfl) (by kernel_rfl) (by kernel_rfl) hQp (Or.inl ⟨by kernel_rfl, fun w hSw => ?_⟩) hSS ?_
    rotate_left
    ·have s := hSw.cell b3 Mp.o; go_simp; try with_reducible rfl
    try simp only [zA,zN,zB,zC,zD]
    refine wpAnyT_take' (i := 4) (v := ?_) hO rfl rfl (by kernel_rfl) (by kernel_rfl) (by kernel_rfl) (by kernel_rfl) hQp (Or.inl ⟨by kernel_rfl, fun w hSw => ?_⟩) hSS ?_
    rotate_left
    ·go_simp; try with_reducible rfl
    try simp only [zA,zN,zB,zC,zD]
    refine wpAnyT_take' (i := 5) (v := ?_) hO rfl rfl (by kernel_rfl) (by kernel_rfl) (by kernel_rfl) (by kernel_rfl) hQp (Or.inl ⟨by kernel_rfl, fun w hSw => ?_⟩) hSS ?_
    rotate_left
    ·go_simp; try with_reducible rfl
    try simp only [zA,zN,zB,zC,zD]
    refine wpAnyT_take' (i := 6) (v := ?_) hO rfl rfl (by kernel_rfl) (by kernel_rfl) (by kernel_rfl) (by kernel_rfl) hQp (Or.inl ⟨by kernel_rfl, fun w hSw => ?_⟩) hSS ?_
    rotate_left
    ·have s0 := hSw.cell q0 Jl.o; have s1 := hSw.cell q1 Jl.o; have s2 := hSw.cell q2 Jl.o; have s3 := hSw.cell q3 Jl.o; have s4 := hSw.cell q4 Jl.o; go_simp; try with_reducible rfl
    try simp only [zA,zN,zB,zC,zD]
    refine wpAnyT_one' (i := 7) hO rfl (by kernel_rfl) (by kernel_rfl) (fun K hK => ?_)
    go_simp
    refine Calls.mono (IH.o v.l[k] (HR.o.kept0 Gf.o) Js.o Jt.o) ?_
    rintro e w3 ⟨⟨cs', rfl, hown⟩, hk3⟩
    have hrep := hown.rep
    obtain ⟨k3, m3, s3, l3, r3, rfl⟩ := hrep.five
    obtain ⟨p3, i3, d3, p4, i4, d4, rfl, rfl⟩ := hrep.sl
    have Gw := qI hrep
    have Gx := qI (Gf.o.trans' hk3)
    have hS3 : (fun w' : World => Kept (Value.slice ak k ck).ownBlock.toList wr w') w3 := hSS.then hk3
    have hsz3 := hk3.size
    clear hown hrep hk3
    refine hK _ _ (.inr hS3) ?_
    clear hK K
    try simp only [zA,zN,zB,zC,zD]
    clear hSS
    have hSS := hS3
    clear hS3
    refine wpAnyT_one' (i := 8) hO rfl (by kernel_rfl) (by kernel_rfl) (fun K hK => ?_)
    go_simp
    have Gs := qI ((Kept.refl [] w3).alloc (.cells #[.int .i64 k3, .int .i64 m3, .string s3, .slice p3 i3 d3, .slice p4 i4 d4] 25))
    have Gd := qI (slc_new w3 [.int .i64 k3, .int .i64 m3, .string s3, .slice p3 i3 d3, .slice p4 i4 d4] 5 1 25 w3.heap.size rfl rfl (by decide))
    have hS4 : (fun w' : World => Kept (Value.slice ak k ck).ownBlock.toList wr w') (w3.alloc (.cells #[.int .i64 k3, .int .i64 m3, .string s3, .slice p3 i3 d3, .slice p4 i4 d4] 25)) := hSS.then Gs.o
    have Jc : Hid ((w3.alloc (.cells #[.int .i64 k3, .int .i64 m3, .string s3, .slice p3 i3 d3, .slice p4 i4 d4] 25)).heap.size = w3.heap.size + 1) := qI (by simp)
    refine hK _ _ (.inr hS4) ?_
    clear hK K
    try simp only [zA,zN,zB,zC,zD]
    clear hSS
    have hSS := hS4
    clear hS4
    revert hSS Gs Gd Jc
    generalize w3.alloc (.cells #[.int .i64 k3, .int .i64 m3, .string s3, .slice p3 i3 d3, .slice p4 i4 d4] 25) = w4
    intro Gs Gd Jc hSS
    have Jm := qI (row_kept HC.o.row (Gx.o.trans' Gs.o) (by simp))
    have Gr := qI hsz3
    clear hsz3
    refine wpAnyT_one' (i := 9) hO rfl (by kernel_rfl) (by kernel_rfl) (fun K hK => ?_)
    refine oper_append tyVals Jm.o Gd.o Gw.o.one (by simp only [maxLen]; omega) (by omega) (by have h1 := (Gx.o.trans' Gs.o).size; have h2 := HC.o.kept.size; omega) (.tmp 23) (.tmp 30) rfl rfl rfl ?_
    intro b5 d5 w5 hown5 hk5 hg5
    have hS5 : (fun w' : World => Kept (Value.slice ak k ck).ownBlock.toList wr w') w5 := hSS.trans' hk5
    refine hK _ _ (.inr hS5) ?_
    clear hK K
    try simp only [zA,zN,zB,zC,zD]
    clear hSS
    have hSS := hS5
    clear hS5
    have Gi := qI hown5
    have Mf := qI hk5
    have Mq := qI hg5
    clear hown5 hk5 hg5
    refine wpAnyT_one' (i := 10) hO rfl (by kernel_rfl) (by kernel_rfl) (fun K hK => ?_)
    go_simp
    refine hK _ _ (.inr hSS) ?_
    clear hK K
    try simp only [zA,zN,zB,zC,zD]
    have Gp : Hid (w5.heap[w.heap.size + 1 + 1]? = some (.cells (valA v.kind v.num v.s (.slice ak k ck) (.slice none 0 0)) 25 (0, 0))) := qI (hSS.heap HC.o.blk Me.o)
    have hc5 := cell_head (o := 3) Gp.o rfl
    have hf5 := free_head (o := 3) Gp.o
    refine wpAnyT_one' (i := 11) hO rfl (by kernel_rfl) (by kernel_rfl) (fun K hK => ?_)
    go_simp
    refine hK _ _ (.inl rfl) ?_
    clear hK K
    try simp only [zA,zN,zB,zC,zD]
    refine wpAnyT_done' hO (by kernel_rfl) ?_ _
    subst hR
    try clear hQp hO O
    clear hc5 hf5 hSS q0 q1 q2 q3 q4 f3 b3
    go_wp2_with fail
    case roundEnd =>
     have hz := Ge.o
     have hz3 := Gr.o
     have hz4 := Jc.o
     have hlo := Ji.o
     have KX : Kept ((w.heap.size + 1 + 1) :: (Value.slice ak k ck).ownBlock.toList) w4 (w5.setCell ⟨w.heap.size + 1 + 1, 3, none⟩ (.slice b5 (k + 1) d5)) := (Mf.o.mono (Y := (w.heap.size + 1 + 1) :: (Value.slice ak k ck).ownBlock.toList) (fun i hi => List.mem_cons_of_mem _ hi)).setCell (p := ⟨w.heap.size + 1 + 1, 3, none⟩) (.inl (List.mem_cons_self ..)) _
     have hz5 : ∀ g, (Value.slice b5 (k + 1) d5).ownBlock = some g → (Value.slice ak k ck).ownBlock = some g ∨ g = w4.heap.size := fun g hg => by
      rcases Mq.o with h | h
      ·exact .inl (by rw [← h]; exact hg)
      ·exact .inr (by rw [hg] at h; exact Option.some.inj h)
     refine ⟨⟨k + 1, _, lk ++ [[.int .i64 k3, .int .i64 m3, .string s3, .slice p3 i3 d3, .slice p4 i4 d4]], by go_num, by omega, {
      blk := block_setCell Gp.o rfl
      row := ?_
      all := ?_
      kept := ?_ }⟩, by simp [intOf]; omega⟩
     ·rw [List.flatten_append]
      simp only [List.flatten_cons, List.flatten_nil, List.append_nil]
      exact row_kept Gi.o ((Kept.refl [w.heap.size + 1 + 1] w5).setCell (.inl (by simp)) _) (by
       intro g hg hx
       simp at hx
       have := (Gi.o.lt g hg).1
       omega)
     ·rw [List.take_succ_eq_append_getElem hlt, List.map_append]
      refine All2.snoc (HC.o.all.mono fun c y _ r => r.move ((Gx.o.trans' Gs.o).mono (Y := (w.heap.size + 1 + 1) :: (Value.slice ak k ck).ownBlock.toList) (by simp) |>.trans' KX) ?_) ((Gw.o).move ((Gs.o.mono (Y := (w.heap.size + 1 + 1) :: (Value.slice ak k ck).ownBlock.toList) (by simp)).trans' KX) ?_)
      ·intro g hg ⟨h1, h2⟩
       refine ⟨?_, h1, ?_⟩
       ·intro hx
        rcases List.mem_cons.1 hx with rfl | hx
        ·omega
        ·exact h2 (Option.mem_toList.1 hx)
       ·intro h3
        rcases hz5 g h3 with h4 | h4
        ·exact h2 h4
        ·have := (Gx.o.trans' Gs.o).size; omega
      ·intro g hg h1
       have hz0 := HC.o.kept.size
       have hz2 := Gf.o.size
       refine ⟨?_, by omega, ?_⟩
       ·intro hx
        rcases List.mem_cons.1 hx with rfl | hx
        ·omega
        ·have := (hlo g (Option.mem_toList.1 hx)).2; omega
       ·intro h3
        rcases hz5 g h3 with h4 | h4
        ·have := (hlo g h4).2; omega
        ·omega
     ·exact ((HC.o.kept.then (Gx.o.trans' Gs.o)).trans Mf.o (fun i hi => .inr (hlo i (Option.mem_toList.1 hi)).1)).setCell (.inl (by simp)) _
   ·obtain rfl : k = v.l.length := by omega
    obtain ⟨WL, rfl⟩ : ∃ x, x = wr := ⟨_, rfl⟩
    have Jd := qI HC.o
    have Jn := qI Gc.o
    have Jo : Hid (w.heap.size + 3 ≤ WL.heap.size) := qI (by have h1 := HC.o.kept.size; have h2 := Ge.o; omega)
    have Mg := qI hba
    obtain ⟨vL, rfl⟩ : ∃ x, x = vk := ⟨_, rfl⟩
    obtain ⟨lL, rfl⟩ : ∃ x, x = lk := ⟨_, rfl⟩
    clear hba
    go_wp2_with fail
    clear b3 HC Gc
    go_loopw [5] (fun i wr => ∃ (k : Nat) (vm : Value) (mc : List (ByteArray × List Value)) (ms : List (ByteArray × V n)), i = .int .i64 k ∧ k ≤ v.m.length ∧ InsM WL (w.heap.size + 1 + 1) v vL k wr vm mc ms) (fun i _ => v.m.length - (intOf i).toNat)
    case atStart =>
     exact ⟨0, .slice none 0 0, [], [], rfl, Nat.zero_le _, {
      blk := Jd.o.blk
      row := World.ownsRow_nil _ _ _ _
      all := All2.nil _
      kept := Kept.refl _ _
      ord := List.Pairwise.nil
      perm := by simp
      lim := rfl }⟩
    case round =>
     obtain ⟨k, vk, mk, ms, rfl, hk, hc⟩ := hrel
     have HC := qI hc
     have Gc : Hid (Kept [] w wr) := qI (Jn.o.trans hc.kept (by intro i hi; simp at hi; subst hi; exact .inr (by omega)))
     have b4 := cell_head (o := 4) (v := .slice b v.m.length e) (HC.o.kept.heap Mg.o (by simp; omega)) rfl
     clear hc
     by_cases hlt : k < v.m.length
     ·have hltI : (k : Int) < v.m.length := by omega
      obtain ⟨g, o, cap, kd, nm, st, a1, b1, he, q0, q1, q2, q3, q4, q5, hr⟩ := H.o.at_m Gc.o k hlt
      simp only [Value.slice.injEq] at he
      obtain ⟨rfl, -, rfl⟩ := he
      obtain ⟨ak, ck, rfl, -, -⟩ := (Slc.of_row HC.o.row).form
      obtain ⟨p1, i1, d1, p2, i2, d2, rfl, rfl⟩ := hr.sl
      have HR := qI hr
      have Js := qI (Jb.o.kid (mem_m (List.getElem_mem hlt)))
      have Jt := qI (right_kid Gv.o (mem_m (List.getElem_mem hlt)))
      have f4 := cell_head (o := 4) (v := .slice ak ms.length ck) HC.o.blk rfl
      generalize hkey : v.m[k].1 = key at q0
      have Jv := qI hkey
      have hmsI : (ms.length : Int) ≤ 20000 := by have := HC.o.lim; omega
      clear hr hkey
      obtain ⟨wo, rfl⟩ : ∃ x, x = wr := ⟨_, rfl⟩
      go_upto_block 4 with fail
      go_cut [6] from 43 to 62 (fun q wq => ∃ j : Nat, q = .int .i64 j ∧ j ≤ ms.length ∧ Hid (∀ (t : Nat) (ht : t < ms.length), j ≤ t → ltB key ms[t].1 = true) ∧ Hid (j = 0 ∨ ∃ h : j - 1 < ms.length, ltB key (ms[j - 1]'h).1 = false) ∧ Kept [] wo wq)
      case first =>
       go_wp2_with fail
       go_loopw [6] (fun i wq => ∃ j : Nat, i = .int .i64 j ∧ j ≤ ms.length ∧ (∀ (t : Nat) (ht : t < ms.length), j ≤ t → ltB key ms[t].1 = true) ∧ Kept [] wo wq) (fun i _ => (intOf i).toNat)
       case atStart => exact ⟨ms.length, rfl, Nat.le_refl _, fun t ht h => absurd ht (by omega), Kept.refl _ _⟩
       case round =>
        obtain ⟨j, rfl, hj, hge, hkq⟩ := hrel
        have Ju := qI hge
        have Gt := qI hkq
        clear hge hkq
        have hjI : (j : Int) ≤ ms.length := by omega
        have hcase : j = 0 ∨ (0 < j ∧ ∃ h : j - 1 < ms.length, ltB key (ms[j - 1]'h).1 = false) ∨ (0 < j ∧ ∃ h : j - 1 < ms.length, ltB key (ms[j - 1]'h).1 = true) := by
         by_cases hz : j = 0
         ·exact .inl hz
         ·cases hb : ltB key (ms[j - 1]'(by omega)).1 with
          | false => exact .inr (.inl ⟨by omega, by omega, hb⟩)
          | true => exact .inr (.inr ⟨by omega, by omega, hb⟩)
        rcases hcase with hz | ⟨hp, hx, hb⟩ | ⟨hp, hx, hb⟩
        rotate_left 2
        ·have HB : Hid (∀ (t : Nat) (ht : t < ms.length), t = j - 1 → ltB key ms[t].1 = true) := qI (fun t ht e => by subst e; exact hb)
         have HP := qI hp
         have hz1 : decide (0 < j) = true := decide_eq_true hp
         have hj1 : j - 1 < ms.length := hx
         have hl2 : mk.length = ms.length := HC.o.all.1
         obtain ⟨gm, om, capm, hvm, x0⟩ := slc_six ((Slc.of_row HC.o.row).kept0 Gt.o) (j := j - 1) (by intro cc hcc; obtain ⟨pq, hpq, rfl⟩ := List.mem_map.1 hcc; obtain ⟨y, -, hy⟩ := HC.o.all.mem_left hpq; simp [pairC, hy.2.len]) (by omega)
         rw [(HC.o.all.2 (j - 1) _ _ (List.getElem?_eq_getElem (by omega)) (List.getElem?_eq_getElem hx)).1] at x0
         simp only [Value.slice.injEq] at hvm
         obtain ⟨hak, -, -⟩ := hvm
         generalize hmk : (ms[j - 1]).1 = mkey at x0 hb
         obtain ⟨hb1, hb2⟩ := gtr_yes hb
         have y0 := ext_cell (Gt.o.cell q0 (by simp))
         have y1 := ext_cell (Gt.o.cell f4 (by simp))
         rw [hak] at y1
         have y2 := ext_cell (Gt.o.cell b4 (by simp))
         have y3 := ext_cell x0
         have hj1I : (j : Int) - 1 < ms.length := by omega
         have hj0I : (1 : Int) ≤ j := by omega
         have Mh := qI hak
         clear hx hmk x0 hl2 hak hp hb
         go_wp2_with fail
         refine wp_region_ext wr (by kernel_rfl) (by kernel_rfl) (Kept.refl _ _) ?_
         repeat go_big_quiet_step (fail)
         refine wpQuiet_nil ?_
         intro wq hkq
         have Gm := qI (Gt.o.then hkq)
         clear hkq hz1 y0 y1 y2 y3 hj1I hj0I hb1 hb2 hj1
         go_wp2_with fail
         case roundEnd =>
          have hp := HP.o
          exact ⟨⟨j - 1, by rw [Int.ofNat_sub hp]; rfl, by omega, fun t ht h => by
           by_cases e : t = j - 1
           ·exact HB.o t ht e
           ·exact Ju.o t ht (by omega), Gm.o⟩, by simp [intOf]; omega⟩
        case' inl =>
          have Gj : Hid (j = 0 ∨ ∃ h : j - 1 < ms.length, ltB key (ms[j - 1]'h).1 = false) := qI (.inl hz)
          have hz1 : decide (0 < j) = false := decide_eq_false (by omega)
          clear hz
          go_wp2_with fail
          refine wp_region_ext wr (by kernel_rfl) (by kernel_rfl) (Kept.refl _ _) ?_
          repeat go_big_quiet_step (fail)
          refine wpQuiet_nil ?_
          intro wq hkq
          have Gm := qI (Gt.o.then hkq)
          clear hkq hz1
          go_wp2_with fail
        case' inr.inl =>
          have Gj : Hid (j = 0 ∨ ∃ h : j - 1 < ms.length, ltB key (ms[j - 1]'h).1 = false) := qI (.inr ⟨hx, hb⟩)
          have hz1 : decide (0 < j) = true := decide_eq_true hp
          have hj1 : j - 1 < ms.length := hx
          have hl2 : mk.length = ms.length := HC.o.all.1
          obtain ⟨gm, om, capm, hvm, x0⟩ := slc_six ((Slc.of_row HC.o.row).kept0 Gt.o) (j := j - 1) (by intro cc hcc; obtain ⟨pq, hpq, rfl⟩ := List.mem_map.1 hcc; obtain ⟨y, -, hy⟩ := HC.o.all.mem_left hpq; simp [pairC, hy.2.len]) (by omega)
          rw [(HC.o.all.2 (j - 1) _ _ (List.getElem?_eq_getElem (by omega)) (List.getElem?_eq_getElem hx)).1] at x0
          simp only [Value.slice.injEq] at hvm
          obtain ⟨hak, -, -⟩ := hvm
          generalize hmk : (ms[j - 1]).1 = mkey at x0 hb
          have hb1 := gtr_no hb
          have y0 := ext_cell (Gt.o.cell q0 (by simp))
          have y1 := ext_cell (Gt.o.cell f4 (by simp))
          rw [hak] at y1
          have y2 := ext_cell (Gt.o.cell b4 (by simp))
          have y3 := ext_cell x0
          have hj1I : (j : Int) - 1 < ms.length := by omega
          have hj0I : (1 : Int) ≤ j := by omega
          have Mh := qI hak
          clear hx hmk x0 hl2 hak hp hb
          go_wp2_with fail
          refine wp_region_ext wr (by kernel_rfl) (by kernel_rfl) (Kept.refl _ _) ?_
          repeat go_big_quiet_step (fail)
          refine wpQuiet_nil ?_
          intro wq hkq
          have Gm := qI (Gt.o.then hkq)
          clear hkq hz1 y0 y1 y2 y3 hj1I hj0I hb1 hj1 Mh
          go_wp2_with fail
        all_goals
         go_meet
         exact ⟨j, rfl, hj, Ju, Gj, Gm.o⟩
      case rest =>
       obtain ⟨j, rfl, hj, Ju, Gj, hka⟩ := hcut
       obtain ⟨wq, rfl⟩ : ∃ x, x = wc := ⟨_, rfl⟩
       have Gm := qI hka
       have hjI : (j : Int) ≤ ms.length := by omega
       clear hka
       go_upto_region 12 with fail
       go_cut [7] from 63 to 76 (fun q wd => ∃ (pb : Nat) (k3 m3 : Int) (s3 : ByteArray) (p3 : Option Addr) (i3 d3 : Nat) (p4 : Option Addr) (i4 d4 : Nat), q = .pointer (some ⟨pb, 0, none⟩) ∧ Hid (wd.heap[pb]? = some (.cells #[.string key, .int .i64 k3, .int .i64 m3, .string s3, .slice p3 i3 d3, .slice p4 i4 d4] 60 (0, 0))) ∧ Hid (Kept [] wo wd) ∧ Hid (Rep n (fun g => wo.heap.size ≤ g ∧ g ≠ pb) wd [.int .i64 k3, .int .i64 m3, .string s3, .slice p3 i3 d3, .slice p4 i4 d4] (sortV n v.m[k].2)))
       case first =>
        go_wp2_with fail
        have hba := (HC.o.kept.heap Mg.o (by simp; omega))
        have r0 := Gm.o.cell q0 (by simp)
        have r1 := Gm.o.cell q1 (by simp)
        have r2 := Gm.o.cell q2 (by simp)
        have r3 := Gm.o.cell q3 (by simp)
        have r4 := Gm.o.cell q4 (by simp)
        have r5 := Gm.o.cell q5 (by simp)
        have rb := Gm.o.cell b4 (by simp)
        clear hba
        refine wp_region_last' (n := 16) (fun w' : World => Kept [] wq w') 15 (by kernel_rfl) (by kernel_rfl) ?_
        change wpAnyT _ _ _ _ _ _ _ _ _ wq.drew
        have hSS : (fun w' : World => Kept [] wq w') wq.drew := (Kept.refl [] wq).drew
        revert hSS
        generalize wq.drew = W2
        intro hSS
        refine wpAnyT_start ?_
        intro O R hO hR
        have hQp : ∀ c a (d : Nat) v w, R (.panic c) (a.put (some d) v) w → R (.panic c) a w := by subst hR; exact fun _ _ _ _ _ h => h
        refine wpAnyT_take' (i := 0) (v := ?_) hO rfl rfl (by kernel_rfl) (by kernel_rfl) (by kernel_rfl) (by kernel_rfl) hQp (Or.inl ⟨by kernel_rfl, fun w hSw => ?_⟩) hSS ?_
        rotate_left
        ·go_simp; try with_reducible rfl
        try simp only [zA,zN,zB,zC,zD]
        refine wpAnyT_take' (i := 1) (v := ?_) hO rfl rfl (by kernel_rfl) (by kernel_rfl) (by kernel_rfl) (by kernel_rfl) hQp (Or.inl ⟨by kernel_rfl, fun w hSw => ?_⟩) hSS ?_
        rotate_left
        ·have s := hSw.cell rb (by simp); go_simp; try with_reducible rfl
        try simp only [zA,zN,zB,zC,zD]
        refine wpAnyT_take' (i := 2) (v := ?_) hO rfl rfl (by kernel_rfl) (by kernel_rfl) (by kernel_rfl) (by kernel_rfl) hQp (Or.inl ⟨by kernel_rfl, fun w hSw => ?_⟩) hSS ?_
        rotate_left
        ·go_simp; try with_reducible rfl
        try simp only [zA,zN,zB,zC,zD]
        refine wpAnyT_take' (i := 3) (v := ?_) hO rfl rfl (by kernel_rfl) (by kernel_rfl) (by kernel_rfl) (by kernel_rfl) hQp (Or.inl ⟨by kernel_rfl, fun w hSw => ?_⟩) hSS ?_
        rotate_left
        ·go_simp; try with_reducible rfl
        try simp only [zA,zN,zB,zC,zD]
        refine wpAnyT_take' (i := 4) (v := ?_) hO rfl rfl (by kernel_rfl) (by kernel_rfl) (by kernel_rfl) (by kernel_rfl) hQp (Or.inl ⟨by kernel_rfl, fun w hSw => ?_⟩) hSS ?_
        rotate_left
        ·go_simp; try with_reducible rfl
        try simp only [zA,zN,zB,zC,zD]
        refine wpAnyT_take' (i := 5) (v := ?_) hO rfl rfl (by kernel_rfl) (by kernel_rfl) (by kernel_rfl) (by kernel_rfl) hQp (Or.inl ⟨by kernel_rfl, fun w hSw => ?_⟩) hSS ?_
        rotate_left
        ·have s := hSw.cell r0 (by simp); go_simp; try with_reducible rfl
        try simp only [zA,zN,zB,zC,zD]
        refine wpAnyT_take' (i := 6) (v := ?_) hO rfl rfl (by kernel_rfl) (by kernel_rfl) (by kernel_rfl) (by kernel_rfl) hQp (Or.inl ⟨by kernel_rfl, fun w hSw => ?_⟩) hSS ?_
        rotate_left
        ·go_simp; try with_reducible rfl
        try simp only [zA,zN,zB,zC,zD]
        refine wpAnyT_take' (i := 7) (v := ?_) hO rfl rfl (by kernel_rfl) (by kernel_rfl) (by kernel_rfl) (by kernel_rfl) hQp (Or.inl ⟨by kernel_rfl, fun w hSw => ?_⟩) hSS ?_
        rotate_left
        ·have s := hSw.cell rb (by simp); go_simp; try with_reducible rfl
        try simp only [zA,zN,zB,zC,zD]
        refine wpAnyT_take' (i := 8) (v := ?_) hO rfl rfl (by kernel_rfl) (by kernel_rfl) (by kernel_rfl) (by kernel_rfl) hQp (Or.inl ⟨by kernel_rfl, fun w hSw => ?_⟩) hSS ?_
        rotate_left
        ·go_simp; try with_reducible rfl
        try simp only [zA,zN,zB,zC,zD]
        refine wpAnyT_take' (i := 9) (v := ?_) hO rfl rfl (by kernel_rfl) (by kernel_rfl) (by kernel_rfl) (by kernel_rfl) hQp (Or.inl ⟨by kernel_rfl, fun w hSw => ?_⟩) hSS ?_
        rotate_left
        ·go_simp; try with_reducible rfl
        try simp only [zA,zN,zB,zC,zD]
        refine wpAnyT_take' (i := 10) (v := ?_) hO rfl rfl (by kernel_rfl) (by kernel_rfl) (by kernel_rfl) (by kernel_rfl) hQp (Or.inl ⟨by kernel_rfl, fun w hSw => ?_⟩) hSS ?_
        rotate_left
        ·go_simp; try with_reducible rfl
        try simp only [zA,zN,zB,zC,zD]
        refine wpAnyT_take' (i := 11) (v := ?_) hO rfl rfl (by kernel_rfl) (by kernel_rfl) (by kernel_rfl) (by kernel_rfl) hQp (Or.inl ⟨by kernel_rfl, fun w hSw => ?_⟩) hSS ?_
        rotate_left
        ·have s1 := hSw.cell r1 (by simp); have s2 := hSw.cell r2 (by simp); have s3 := hSw.cell r3 (by simp); have s4 := hSw.cell r4 (by simp); have s5 := hSw.cell r5 (by simp); go_simp; try with_reducible rfl
        try simp only [zA,zN,zB,zC,zD]
        clear r0 r1 r2 r3 r4 r5 rb
        refine wpAnyT_twoB (i := 12) (j := 14) hO rfl rfl (by kernel_rfl) (by kernel_rfl) (by kernel_rfl) (fun K hK => ?_) (fun K hK => ?_)
        case' refine_1 =>
         go_simp
         refine Calls.mono (IH.o v.m[k].2 (HR.o.kept0 (Gm.o.then hSS)) Js.o Jt.o) ?_
         rintro e w3 ⟨⟨cs', rfl, hown⟩, hk3⟩
         have hrep := hown.rep
         obtain ⟨k3, m3, s3, l3, r3, rfl⟩ := hrep.five
         obtain ⟨p3, i3, d3, p4, i4, d4, rfl, rfl⟩ := hrep.sl
         have hS3 : (fun w' : World => Kept [] wq w') w3 := hSS.then hk3
         refine hK _ _ (.inr hS3) ?_
         clear hK K
         try simp only [zA,zN,zB,zC,zD]
         have Mi := qI hSS.size
         clear hSS
         have hSS := hS3
         refine wpAnyT_take' (i := 13) (v := ?_) hO rfl rfl (by kernel_rfl) (by kernel_rfl) (by kernel_rfl) (by kernel_rfl) hQp (Or.inl ⟨by kernel_rfl, fun w hSw => ?_⟩) hSS ?_
         rotate_left
         ·go_simp; try with_reducible rfl
         try simp only [zA,zN,zB,zC,zD]
         refine wpAnyT_one' (i := 14) hO rfl (by kernel_rfl) (by kernel_rfl) (fun K hK => ?_)
         go_simp
         have hS4 : (fun w' : World => Kept [] wq w') (w3.alloc (.cells #[.string ⟨#[]⟩, .int .i64 0, .int .i64 0, .string ⟨#[]⟩, .slice none 0 0, .slice none 0 0] 60)) := hS3.alloc _
         refine hK _ _ (.inr hS4) ?_
         clear hK K
         try simp only [zA,zN,zB,zC,zD]
         have Gk : Hid ((w3.alloc (.cells #[.string ⟨#[]⟩, .int .i64 0, .int .i64 0, .string ⟨#[]⟩, .slice none 0 0, .slice none 0 0] 60)).heap[w3.heap.size]? = some (.cells #[.string ⟨#[]⟩, .int .i64 0, .int .i64 0, .string ⟨#[]⟩, .slice none 0 0, .slice none 0 0] 60 (0, 0))) := qI (block_alloc rfl)
         have Gl : Hid (Rep n (fun g => wq.heap.size ≤ g ∧ g ≠ w3.heap.size) (w3.alloc (.cells #[.string ⟨#[]⟩, .int .i64 0, .int .i64 0, .string ⟨#[]⟩, .slice none 0 0, .slice none 0 0] 60)) [.int .i64 k3, .int .i64 m3, .string s3, .slice p3 i3 d3, .slice p4 i4 d4] (sortV n v.m[k].2)) := qI (hrep.move ((Kept.refl [] w3).alloc _) (fun g hg h1 => ⟨by simp, by have := Mi.o; omega, by omega⟩))
         have Je : Hid (wq.heap.size ≤ w3.heap.size) := qI hS3.size
         clear hSS hown hrep hk3 hS3 Mi
         have hSS := hS4
         clear hS4
         revert Gk Gl Je hSS
         generalize w3.heap.size = pb
         generalize w3.alloc (.cells #[.string ⟨#[]⟩, .int .i64 0, .int .i64 0, .string ⟨#[]⟩, .slice none 0 0, .slice none 0 0] 60) = w4
         intro Gk Gl Je hSS
         clear w3
        case' refine_2 =>
         go_simp
         have hS4 : (fun w' : World => Kept [] wq w') (W2.alloc (.cells #[.string ⟨#[]⟩, .int .i64 0, .int .i64 0, .string ⟨#[]⟩, .slice none 0 0, .slice none 0 0] 60)) := hSS.alloc _
         refine hK _ _ (.inr hS4) ?_
         clear hK K
         try simp only [zA,zN,zB,zC,zD]
         have Jj : Hid ((W2.alloc (.cells #[.string ⟨#[]⟩, .int .i64 0, .int .i64 0, .string ⟨#[]⟩, .slice none 0 0, .slice none 0 0] 60)).heap[W2.heap.size]? = some (.cells #[.string ⟨#[]⟩, .int .i64 0, .int .i64 0, .string ⟨#[]⟩, .slice none 0 0, .slice none 0 0] 60 (0, 0))) := qI (block_alloc rfl)
         have Gr : Hid ((W2.alloc (.cells #[.string ⟨#[]⟩, .int .i64 0, .int .i64 0, .string ⟨#[]⟩, .slice none 0 0, .slice none 0 0] 60)).heap.size = W2.heap.size + 1) := qI (by simp)
         have Je : Hid (wq.heap.size ≤ W2.heap.size) := qI hSS.size
         clear hSS
         have hSS := hS4
         clear hS4
         revert Jj Gr Je hSS
         generalize W2.heap.size = pb
         generalize W2.alloc (.cells #[.string ⟨#[]⟩, .int .i64 0, .int .i64 0, .string ⟨#[]⟩, .slice none 0 0, .slice none 0 0] 60) = W3
         intro Jj Gr Je hSS
         refine wpAnyT_one' (i := 12) hO rfl (by kernel_rfl) (by kernel_rfl) (fun K hK => ?_)
         go_simp
         refine Calls.mono (IH.o v.m[k].2 (HR.o.kept0 (Gm.o.then hSS)) Js.o Jt.o) ?_
         rintro e w4 ⟨⟨cs', rfl, hown⟩, hk3⟩
         have hrep := hown.rep
         obtain ⟨k3, m3, s3, l3, r3, rfl⟩ := hrep.five
         obtain ⟨p3, i3, d3, p4, i4, d4, rfl, rfl⟩ := hrep.sl
         have Gk := qI (hk3.heap Jj.o (by simp))
         have Gl : Hid (Rep n (fun g => wq.heap.size ≤ g ∧ g ≠ pb) w4 [.int .i64 k3, .int .i64 m3, .string s3, .slice p3 i3 d3, .slice p4 i4 d4] (sortV n v.m[k].2)) := qI (hrep.mono (fun g hg h1 => by have := Gr.o; have := Je.o; omega))
         have hS4 : (fun w' : World => Kept [] wq w') w4 := hSS.then hk3
         refine hK _ _ (.inr hS4) ?_
         clear hK K
         try simp only [zA,zN,zB,zC,zD]
         clear hSS hown hrep hk3 Jj Gr
         have hSS := hS4
         clear hS4 W3
         refine wpAnyT_take' (i := 13) (v := ?_) hO rfl rfl (by kernel_rfl) (by kernel_rfl) (by kernel_rfl) (by kernel_rfl) hQp (Or.inl ⟨by kernel_rfl, fun w hSw => ?_⟩) hSS ?_
         rotate_left
         ·go_simp; try with_reducible rfl
         try simp only [zA,zN,zB,zC,zD]
        all_goals
         clear W2
         have hc0 := cell_head (o := 0) (v := .string ⟨#[]⟩) Gk.o rfl
         have hc1 := cell_head (o := 1) (v := .int .i64 0) Gk.o rfl
         have hc2 := cell_head (o := 2) (v := .int .i64 0) Gk.o rfl
         have hc3 := cell_head (o := 3) (v := .string ⟨#[]⟩) Gk.o rfl
         have hc4 := cell_head (o := 4) (v := .slice none 0 0) Gk.o rfl
         have hc5 := cell_head (o := 5) (v := .slice none 0 0) Gk.o rfl
         have hf0 := free_head (o := 0) Gk.o
         have hf1 := free_head (o := 1) Gk.o
         have hf2 := free_head (o := 2) Gk.o
         have hf3 := free_head (o := 3) Gk.o
         have hf4 := free_head (o := 4) Gk.o
         have hf5 := free_head (o := 5) Gk.o
         refine wpAnyT_one' (i := 15) hO rfl (by kernel_rfl) (by kernel_rfl) (fun K hK => ?_)
         go_simp
         refine hK _ _ (.inl rfl) ?_
         clear hK K
         try simp only [zA,zN,zB,zC,zD]
         refine wpAnyT_done' hO (by kernel_rfl) ?_ _
         subst hR
         try clear hQp hO O
         clear hc0 hc1 hc2 hc3 hc4 hc5 hf0 hf1 hf2 hf3 hf4 hf5
         have KC : Kept [pb] w4 ((((((w4.setCell ⟨pb, 0, none⟩ (.string key)).setCell ⟨pb, 1, none⟩ (.int .i64 k3)).setCell ⟨pb, 2, none⟩ (.int .i64 m3)).setCell ⟨pb, 3, none⟩ (.string s3)).setCell ⟨pb, 4, none⟩ (.slice p3 i3 d3)).setCell ⟨pb, 5, none⟩ (.slice p4 i4 d4)) := ((((((Kept.refl _ _).setCell (p := ⟨pb, 0, none⟩) (.inl (by simp)) _).setCell (p := ⟨pb, 1, none⟩) (.inl (by simp)) _).setCell (p := ⟨pb, 2, none⟩) (.inl (by simp)) _).setCell (p := ⟨pb, 3, none⟩) (.inl (by simp)) _).setCell (p := ⟨pb, 4, none⟩) (.inl (by simp)) _).setCell (p := ⟨pb, 5, none⟩) (.inl (by simp)) _
         have Gp := qI (block_setCell (v := .slice p4 i4 d4) (i := 5) (block_setCell (v := .slice p3 i3 d3) (i := 4) (block_setCell (v := .string s3) (i := 3) (block_setCell (v := .int .i64 m3) (i := 2) (block_setCell (v := .int .i64 k3) (i := 1) (block_setCell (v := .string key) (i := 0) Gk.o rfl) rfl) rfl) rfl) rfl) rfl)
         revert KC Gp
         generalize (((((w4.setCell ⟨pb, 0, none⟩ (.string key)).setCell ⟨pb, 1, none⟩ (.int .i64 k3)).setCell ⟨pb, 2, none⟩ (.int .i64 m3)).setCell ⟨pb, 3, none⟩ (.string s3)).setCell ⟨pb, 4, none⟩ (.slice p3 i3 d3)).setCell ⟨pb, 5, none⟩ (.slice p4 i4 d4) = WC
         intro KC Gp
         have Jf : Hid (Kept [] wo WC) := qI (Gm.o.trans (Kept.trans (X := []) hSS KC (fun i hi => by simp at hi; subst hi; exact .inr Je.o)) (by simp))
         have Mr : Hid (wo.heap.size ≤ wq.heap.size) := qI Gm.o.size
         have Gq : Hid (Rep n (fun g => wo.heap.size ≤ g ∧ g ≠ pb) WC [.int .i64 k3, .int .i64 m3, .string s3, .slice p3 i3 d3, .slice p4 i4 d4] (sortV n v.m[k].2)) := qI (Gl.o.move KC (fun g hg h1 => ⟨by simp; exact h1.2, by have := Mr.o; omega, h1.2⟩))
         clear Gk Gl KC hSS w4
         go_wp2_with fail
         go_meet
         exact ⟨pb, k3, m3, s3, p3, i3, d3, p4, i4, d4, rfl, Gp, Jf, Gq⟩
       case rest =>
        obtain ⟨pb, k3, m3, s3, p3, i3, d3, p4, i4, d4, rfl, Gp, Jf, Gq⟩ := hcut
        obtain ⟨WC, rfl⟩ : ∃ x, x = wc := ⟨_, rfl⟩
        have x0 := cell_head (o := 0) (v := .string key) Gp.o rfl
        have x1 := cell_head (o := 1) (v := .int .i64 k3) Gp.o rfl
        have x2 := cell_head (o := 2) (v := .int .i64 m3) Gp.o rfl
        have x3 := cell_head (o := 3) (v := .string s3) Gp.o rfl
        have x4 := cell_head (o := 4) (v := .slice p3 i3 d3) Gp.o rfl
        have x5 := cell_head (o := 5) (v := .slice p4 i4 d4) Gp.o rfl
        have xf := Jf.o.cell f4 (by simp)
        have H5M : ∀ p, p ∈ mk → p.2.length = 5 := fun p hp => by obtain ⟨y, -, hy⟩ := HC.o.all.mem_left hp; exact hy.2.len
        obtain ⟨a1, c1, hr1, hs1⟩ := slc_head tyPairs ((Slc.of_row HC.o.row).kept0 Jf.o) j hj
        obtain ⟨a2, c2, hr2, hs2⟩ := slc_tail tyPairs ((Slc.of_row HC.o.row).kept0 Jf.o) j hj
        rw [pairCs_take _ _ H5M] at hs1
        rw [pairCs_drop _ _ H5M] at hs2
        have Jw := qI hs1
        have Gu := qI hs2
        have Jx : Hid (∀ u ∈ pairCs (mk.take j), u.oneCell' = true) := qI (ones_pairs (HC.o.all.take j) (fun c y r => r.one))
        have Ms : Hid (∀ u ∈ pairCs (mk.drop j), u.oneCell' = true) := qI (ones_pairs (HC.o.all.drop j) (fun c y r => r.one))
        have hjm : (j : Int) ≤ ms.length := hjI
        clear hs1 hs2 H5M
        go_wp2_with fail
        refine wp_region_last' (n := 16) (fun w' : World => Kept [] WC w') 15 (by kernel_rfl) (by kernel_rfl) ?_
        change wpAnyT _ _ _ _ _ _ _ _ _ WC.drew
        have hSS : (fun w' : World => Kept [] WC w') WC.drew := (Kept.refl [] WC).drew
        revert hSS
        generalize WC.drew = W5
        intro hSS
        refine wpAnyT_start ?_
        intro O R hO hR
        have hQp : ∀ c a (d : Nat) v w, R (.panic c) (a.put (some d) v) w → R (.panic c) a w := by subst hR; exact fun _ _ _ _ _ h => h
        refine wpAnyT_take' (i := 1) (v := ?_) hO rfl rfl (by kernel_rfl) (by kernel_rfl) (by kernel_rfl) (by kernel_rfl) hQp (Or.inl ⟨by kernel_rfl, fun w hSw => ?_⟩) hSS ?_
        rotate_left
        ·go_simp; try with_reducible rfl
        try simp only [zA,zN,zB,zC,zD]
        refine wpAnyT_take' (i := 2) (v := ?_) hO rfl rfl (by kernel_rfl) (by kernel_rfl) (by kernel_rfl) (by kernel_rfl) hQp (Or.inl ⟨by kernel_rfl, fun w hSw => ?_⟩) hSS ?_
        rotate_left
        ·have s := hSw.cell xf (by simp); go_simp; try with_reducible rfl
        try simp only [zA,zN,zB,zC,zD]
        refine wpAnyT_take' (i := 3) (v := ?_) hO rfl rfl (by kernel_rfl) (by kernel_rfl) (by kernel_rfl) (by kernel_rfl) hQp (Or.inl ⟨by kernel_rfl, fun w hSw => ?_⟩) hSS ?_
        rotate_left
        ·go_simp; try with_reducible rfl
        try simp only [zA,zN,zB,zC,zD]
        refine wpAnyT_take' (i := 4) (v := ?_) hO rfl rfl (by kernel_rfl) (by kernel_rfl) (by kernel_rfl) (by kernel_rfl) hQp (Or.inl ⟨by kernel_rfl, fun w hSw => ?_⟩) hSS ?_
        rotate_left
        ·go_simp; try with_reducible rfl
        try simp only [zA,zN,zB,zC,zD]
        refine wpAnyT_take' (i := 6) (v := ?_) hO rfl rfl (by kernel_rfl) (by kernel_rfl) (by kernel_rfl) (by kernel_rfl) hQp (Or.inl ⟨by kernel_rfl, fun w hSw => ?_⟩) hSS ?_
        rotate_left
        ·have s0 := hSw.cell x0 (by simp); have s1 := hSw.cell x1 (by simp); have s2 := hSw.cell x2 (by simp); have s3 := hSw.cell x3 (by simp); have s4 := hSw.cell x4 (by simp); have s5 := hSw.cell x5 (by simp); go_simp; try with_reducible rfl
        try simp only [zA,zN,zB,zC,zD]
        refine wpAnyT_take' (i := 9) (v := ?_) hO rfl rfl (by kernel_rfl) (by kernel_rfl) (by kernel_rfl) (by kernel_rfl) hQp (Or.inl ⟨by kernel_rfl, fun w hSw => ?_⟩) hSS ?_
        rotate_left
        ·go_simp; try with_reducible rfl
        try simp only [zA,zN,zB,zC,zD]
        refine wpAnyT_take' (i := 10) (v := ?_) hO rfl rfl (by kernel_rfl) (by kernel_rfl) (by kernel_rfl) (by kernel_rfl) hQp (Or.inl ⟨by kernel_rfl, fun w hSw => ?_⟩) hSS ?_
        rotate_left
        ·have s := hSw.cell xf (by simp); go_simp; try with_reducible rfl
        try simp only [zA,zN,zB,zC,zD]
        refine wpAnyT_take' (i := 11) (v := ?_) hO rfl rfl (by kernel_rfl) (by kernel_rfl) (by kernel_rfl) (by kernel_rfl) hQp (Or.inl ⟨by kernel_rfl, fun w hSw => ?_⟩) hSS ?_
        rotate_left
        ·go_simp; try with_reducible rfl
        try simp only [zA,zN,zB,zC,zD]
        refine wpAnyT_take' (i := 12) (v := ?_) hO rfl rfl (by kernel_rfl) (by kernel_rfl) (by kernel_rfl) (by kernel_rfl) hQp (Or.inl ⟨by kernel_rfl, fun w hSw => ?_⟩) hSS ?_
        rotate_left
        ·go_simp; try with_reducible rfl
        try simp only [zA,zN,zB,zC,zD]
        clear x0 x1 x2 x3 x4 x5 xf hr1 hr2
        refine wpAnyT_twoB (i := 0) (j := 7) hO rfl rfl (by kernel_rfl) (by kernel_rfl) (by kernel_rfl) (fun K hK => ?_) (fun K hK => ?_)
        case' refine_2 =>
         go_simp
         have kA : (fun w' : World => Kept [] WC w') (W5.alloc (.cells #[.string key, .int .i64 k3, .int .i64 m3, .string s3, .slice p3 i3 d3, .slice p4 i4 d4] 60)) := hSS.alloc _
         have hone := slc_new W5 [.string key, .int .i64 k3, .int .i64 m3, .string s3, .slice p3 i3 d3, .slice p4 i4 d4] 6 1 60 W5.heap.size rfl rfl (by decide)
         refine hK _ _ (.inr kA) ?_
         clear hK K
         try simp only [zA,zN,zB,zC,zD]
         have Gy := qI hSS.size
         clear hSS
         have hSS := kA
         refine wpAnyT_one' (i := 0) hO rfl (by kernel_rfl) (by kernel_rfl) (fun K hK => ?_)
         go_simp
         have kB : (fun w' : World => Kept [] WC w') ((W5.alloc (.cells #[.string key, .int .i64 k3, .int .i64 m3, .string s3, .slice p3 i3 d3, .slice p4 i4 d4] 60)).alloc (.cells #[] 60)) := kA.alloc _
         have hown1 := own_new (t := 60) (size := 6) (base := WC.heap.size) (W5.alloc (.cells #[.string key, .int .i64 k3, .int .i64 m3, .string s3, .slice p3 i3 d3, .slice p4 i4 d4] 60)) rfl kA.size
         have hone2 := hone.kept0 ((Kept.refl [] (W5.alloc (.cells #[.string key, .int .i64 k3, .int .i64 m3, .string s3, .slice p3 i3 d3, .slice p4 i4 d4] 60))).alloc (.cells #[] 60))
         rw [show (W5.alloc (.cells #[.string key, .int .i64 k3, .int .i64 m3, .string s3, .slice p3 i3 d3, .slice p4 i4 d4] 60)).heap.size = W5.heap.size + 1 by simp] at hown1
         refine hK _ _ (.inr kB) ?_
         clear hK K
         try simp only [zA,zN,zB,zC,zD]
         clear hSS
         have hSS := kB
         refine wpAnyT_one' (i := 5) hO rfl (by kernel_rfl) (by kernel_rfl) (fun K hK => ?_)
         refine oper_append0 tyPairs hown1 (Jw.o.kept0 kB) Jx.o (by simp only [maxLen]; omega) (by omega) kB.size (.tmp 77) (.tmp 81) rfl rfl rfl ?_
         intro b1 d1 w2 hown2 hk2 hg2
         have hS2 : (fun w' : World => Kept [] WC w') w2 := Kept.trans (X := []) kB hk2 (fun i hi => .inr (by have := Gy.o; simp [Value.ownBlock] at hi; omega))
         have Gh := qI (hone2.kept hk2 (by intro g hg hx; simp [Value.ownBlock] at hx; simp [vblk] at hg; omega))
         have Ga := qI hown2
         refine hK _ _ (.inr hS2) ?_
         clear hK K
         try simp only [zA,zN,zB,zC,zD]
         clear hSS kA hown1 kB hone hone2 hk2 hg2 hown2 Gy
         have hSS := hS2
         clear hS2
         revert Gh
         generalize W5.heap.size = G
         intro Gh
        case' refine_1 =>
         go_simp
         have kA : (fun w' : World => Kept [] WC w') (W5.alloc (.cells #[] 60)) := hSS.alloc _
         have hown0 := own_new (t := 60) (size := 6) (base := WC.heap.size) W5 rfl hSS.size
         refine hK _ _ (.inr kA) ?_
         clear hK K
         try simp only [zA,zN,zB,zC,zD]
         refine wpAnyT_twoB (i := 5) (j := 7) hO rfl rfl (by kernel_rfl) (by kernel_rfl) (by kernel_rfl) (fun K hK => ?_) (fun K hK => ?_)
         case' refine_2 =>
          go_simp
          have kB : (fun w' : World => Kept [] WC w') ((W5.alloc (.cells #[] 60)).alloc (.cells #[.string key, .int .i64 k3, .int .i64 m3, .string s3, .slice p3 i3 d3, .slice p4 i4 d4] 60)) := kA.alloc _
          have hone := slc_new (W5.alloc (.cells #[] 60)) [.string key, .int .i64 k3, .int .i64 m3, .string s3, .slice p3 i3 d3, .slice p4 i4 d4] 6 1 60 (W5.heap.size + 1) (by simp) rfl (by decide)
          have hown1 := row_kept hown0 ((Kept.refl [] (W5.alloc (.cells #[] 60))).alloc (.cells #[.string key, .int .i64 k3, .int .i64 m3, .string s3, .slice p3 i3 d3, .slice p4 i4 d4] 60)) (by simp)
          refine hK _ _ (.inr kB) ?_
          clear hK K
          try simp only [zA,zN,zB,zC,zD]
          have Gy := qI hSS.size
          clear hSS
          have hSS := kB
          refine wpAnyT_one' (i := 5) hO rfl (by kernel_rfl) (by kernel_rfl) (fun K hK => ?_)
          refine oper_append0 tyPairs hown1 (Jw.o.kept0 kB) Jx.o (by simp only [maxLen]; omega) (by omega) kB.size (.tmp 77) (.tmp 81) rfl rfl rfl ?_
          intro b1 d1 w2 hown2 hk2 hg2
          have hS2 : (fun w' : World => Kept [] WC w') w2 := Kept.trans (X := []) kB hk2 (fun i hi => .inr (by have := Gy.o; simp [Value.ownBlock] at hi; omega))
          have Gh := qI (hone.kept hk2 (by intro g hg hx; simp [Value.ownBlock] at hx; simp [vblk] at hg; omega))
          have Ga := qI hown2
          refine hK _ _ (.inr hS2) ?_
          clear hK K
          try simp only [zA,zN,zB,zC,zD]
          clear hSS kA hown0 hown1 kB hone hk2 hg2 hown2 Gy
          have hSS := hS2
          clear hS2
          revert Gh
          generalize W5.heap.size + 1 = G
          intro Gh
         case' refine_1 =>
          refine oper_append0 tyPairs hown0 (Jw.o.kept0 kA) Jx.o (by simp only [maxLen]; omega) (by omega) kA.size (.tmp 77) (.tmp 81) rfl rfl rfl ?_
          intro b1 d1 w1 hown1 hk1 hg1
          have hS1 : (fun w' : World => Kept [] WC w') w1 := Kept.trans (X := []) kA hk1 (fun i hi => .inr (by have := hSS.size; simp [Value.ownBlock] at hi; omega))
          refine hK _ _ (.inr hS1) ?_
          clear hK K
          try simp only [zA,zN,zB,zC,zD]
          clear hown0 hk1 hg1 kA hSS
          have hSS := hS1
          clear hS1
          refine wpAnyT_one' (i := 7) hO rfl (by kernel_rfl) (by kernel_rfl) (fun K hK => ?_)
          go_simp
          have hS2 : (fun w' : World => Kept [] WC w') (w1.alloc (.cells #[.string key, .int .i64 k3, .int .i64 m3, .string s3, .slice p3 i3 d3, .slice p4 i4 d4] 60)) := hSS.alloc _
          have Gh := qI (slc_new w1 [.string key, .int .i64 k3, .int .i64 m3, .string s3, .slice p3 i3 d3, .slice p4 i4 d4] 6 1 60 w1.heap.size rfl rfl (by decide))
          have Ga := qI (row_kept hown1 ((Kept.refl [] w1).alloc (.cells #[.string key, .int .i64 k3, .int .i64 m3, .string s3, .slice p3 i3 d3, .slice p4 i4 d4] 60)) (by simp))
          refine hK _ _ (.inr hS2) ?_
          clear hK K
          try simp only [zA,zN,zB,zC,zD]
          clear hSS hown1
          have hSS := hS2
          clear hS2
          revert Gh Ga hSS
          generalize w1.heap.size = G
          generalize w1.alloc (.cells #[.string key, .int .i64 k3, .int .i64 m3, .string s3, .slice p3 i3 d3, .slice p4 i4 d4] 60) = w2
          intro Gh Ga hSS
          clear w1
        all_goals
         refine wpAnyT_one' (i := 8) hO rfl (by kernel_rfl) (by kernel_rfl) (fun K hK => ?_)
         refine oper_append tyPairs Ga.o Gh.o (by intro u hu; rcases List.mem_cons.1 hu with rfl | hu <;> first | rfl | exact Gq.o.one u hu) (by simp only [maxLen]; omega) (by omega) hSS.size (.tmp 82) (.tmp 84) rfl rfl rfl ?_
         intro bx dx w3 hown3 hk3 hg3
         have hlt2 := Ga.o.lt
         have hS3 : (fun w' : World => Kept [] WC w') w3 := Kept.trans (X := []) hSS hk3 (fun i hi => .inr (hlt2 i (Option.mem_toList.1 hi)).1)
         refine hK _ _ (.inr hS3) ?_
         clear hK K
         try simp only [zA,zN,zB,zC,zD]
         clear hSS hlt2
         have hSS := hS3
         clear hS3
         refine wpAnyT_one' (i := 13) hO rfl (by kernel_rfl) (by kernel_rfl) (fun K hK => ?_)
         refine oper_append tyPairs hown3 (Gu.o.kept0 hSS) Ms.o (by simp only [maxLen]; omega) (by omega) hSS.size (.tmp 85) (.tmp 89) rfl rfl rfl ?_
         intro b5 d5 w5 hown5 hk5 hg5
         have hlt3 := hown3.lt
         have hS5 : (fun w' : World => Kept [] WC w') w5 := Kept.trans (X := []) hSS hk5 (fun i hi => .inr (hlt3 i (Option.mem_toList.1 hi)).1)
         refine hK _ _ (.inr hS5) ?_
         clear hK K
         try simp only [zA,zN,zB,zC,zD]
         clear hSS hlt3
         have hSS := hS5
         clear hS5
         refine wpAnyT_one' (i := 14) hO rfl (by kernel_rfl) (by kernel_rfl) (fun K hK => ?_)
         go_simp
         refine hK _ _ (.inr hSS) ?_
         clear hK K
         try simp only [zA,zN,zB,zC,zD]
         have Gi := qI hown5
         have Jy : Hid (Kept [] wo w5) := qI (Jf.o.then hSS)
         have Mj : Hid (Kept [] WC w5) := qI hSS
         have Jz : Hid (w5.heap[w.heap.size + 1 + 1]? = some (.cells (valA v.kind v.num v.s vL (.slice ak ms.length ck)) 25 (0, 0))) := qI (Jy.o.heap HC.o.blk (by simp))
         have hc6 := cell_head (o := 4) Jz.o rfl
         have hf6 := free_head (o := 4) Jz.o
         refine wpAnyT_one' (i := 15) hO rfl (by kernel_rfl) (by kernel_rfl) (fun K hK => ?_)
         go_simp
         refine hK _ _ (.inl rfl) ?_
         clear hK K
         try simp only [zA,zN,zB,zC,zD]
         refine wpAnyT_done' hO (by kernel_rfl) ?_ _
         subst hR
         try clear hQp hO O
         clear hc6 hf6 hSS hown3 hown5 hk3 hk5 hg3 hg5
         go_wp2_with fail
         case roundEnd =>
          have hz := Jo.o
          have hzw := Jf.o.size
          have hlw := HC.o.kept.size
          have hzf := Mj.o.size
          have hlo := HC.o.row.lt
          have hnew := Gi.o.lt
          have e1 : (ms.take j ++ (key, sortV n v.m[k].2) :: ms.drop j).length = j + 1 + (ms.length - j) := by simp; omega
          have KX : Kept [w.heap.size + 1 + 1] w5 (w5.setCell ⟨w.heap.size + 1 + 1, 4, none⟩ (.slice b5 (j + 1 + (ms.length - j)) d5)) := kept_cell _ _ _ _
          refine ⟨⟨k + 1, _, mk.take j ++ (key, [.int .i64 k3, .int .i64 m3, .string s3, .slice p3 i3 d3, .slice p4 i4 d4]) :: mk.drop j, ms.take j ++ (key, sortV n v.m[k].2) :: ms.drop j, by go_num, by omega, {
           blk := block_setCell Jz.o rfl
           row := ?_
           all := ?_
           kept := ?_
           ord := put_sorted HC.o.ord hj (fun t ht h => Ju.o t ht h) Gj.o
           perm := ?_
           lim := by rw [e1]; have := HC.o.lim; omega }⟩, by simp [intOf]; omega⟩
          ·rw [e1]
           have h4 := row_base (row_kept Gi.o KX (fun g hg hx => by have := (hnew g hg).1; simp at hx; omega)) (base' := WL.heap.size) (fun g hg => by have := (hnew g hg).1; omega)
           have e2 : pairCs (mk.take j ++ (key, [.int .i64 k3, .int .i64 m3, .string s3, .slice p3 i3 d3, .slice p4 i4 d4]) :: mk.drop j) = pairCs (mk.take j) ++ [.string key, .int .i64 k3, .int .i64 m3, .string s3, .slice p3 i3 d3, .slice p4 i4 d4] ++ pairCs (mk.drop j) := by simp [pairCs, pairC]
           rw [e2]
           exact h4
          ·have hold : ∀ (c : ByteArray × List Value) (y : ByteArray × V n), pairR (Rep n (fun g => WL.heap.size ≤ g ∧ (Value.slice ak ms.length ck).ownBlock ≠ some g) wo) c y → pairR (Rep n (fun g => WL.heap.size ≤ g ∧ (Value.slice b5 (j + 1 + (ms.length - j)) d5).ownBlock ≠ some g) (w5.setCell ⟨w.heap.size + 1 + 1, 4, none⟩ (.slice b5 (j + 1 + (ms.length - j)) d5))) c y := fun c y r =>
            ⟨r.1, r.2.move ((Jy.o.mono (by simp)).trans' KX) (fun g hg ⟨h1, h2⟩ => ⟨by simp; omega, h1, fun h3 => by have := (hnew g h3).1; omega⟩)⟩
           refine ((HC.o.all.take j).mono fun c y _ r => hold c y r).app (All2.cons ⟨rfl, ?_⟩ ((HC.o.all.drop j).mono fun c y _ r => hold c y r))
           exact Gq.o.move ((Mj.o.mono (by simp)).trans' KX) (fun g hg ⟨h1, h2⟩ => ⟨by simp; omega, by omega, fun h3 => by have := (hnew g h3).1; omega⟩)
          ·exact (HC.o.kept.then Jy.o).trans' KX
          ·rw [List.take_succ_eq_append_getElem hlt, List.map_append]
           refine (put_perm ms _ j).trans ?_
           have e3 : pairMap (sortV n) v.m[k] = (key, sortV n v.m[k].2) := by unfold pairMap; rw [Jv.o]
           rw [List.map_singleton, e3]
           exact HC.o.perm.append (List.Perm.refl _)
     ·obtain rfl : k = v.m.length := by omega
      have hms : ms = (v.m.map (pairMap (sortV n))).mergeSort leK := by
       have hp := HC.o.perm
       rw [List.take_length] at hp
       have hk : ((v.m.map (pairMap (sortV n))).map (fun p => p.1)).Nodup := by
        rw [List.map_map]
        exact nodup_right Gv.o
       exact sorted_unique (hp.trans (sort_perm v).symm) HC.o.ord (List.pairwise_mergeSort leK_trans leK_total _) ((hp.map _).nodup_iff.2 hk)
      have Mt := qI hms
      have Mx := qI HC.o.lim
      have hbc := HC.o.blk
      have d0 := cell_head (o := 0) (v := .int .i64 v.kind) hbc rfl
      have d1 := cell_head (o := 1) (v := .int .i64 v.num) hbc rfl
      have d2 := cell_head (o := 2) (v := .string v.s) hbc rfl
      have d3 := cell_head (o := 3) (v := vL) hbc rfl
      have d4 := cell_head (o := 4) (v := vk) hbc rfl
      have hbr := HC.o.kept.heap (Jd.o.kept.heap Md.o (by simp)) (by simp)
      obtain ⟨aL, cL, rfl, -, -⟩ := (Slc.of_row Jd.o.row).form
      obtain ⟨aM, cM, rfl, -, -⟩ := (Slc.of_row HC.o.row).form
      have r0 := cell_head (o := 0) (v := .int .i64 0) hbr rfl
      have r1 := cell_head (o := 1) (v := .int .i64 0) hbr rfl
      have r2 := cell_head (o := 2) (v := .string ⟨#[]⟩) hbr rfl
      have r3 := cell_head (o := 3) (v := .slice none 0 0) hbr rfl
      have r4 := cell_head (o := 4) (v := .slice none 0 0) hbr rfl
      have s0 := free_head (o := 0) hbr
      have s1 := free_head (o := 1) hbr
      have s2 := free_head (o := 2) hbr
      have s3 := free_head (o := 3) hbr
      have s4 := free_head (o := 4) hbr
      clear hbc hbr hms
      go_wp2_with fail
      have KF : Kept [w.heap.size + 1] wr (((((wr.setCell ⟨w.heap.size + 1, 0, none⟩ (.int .i64 v.kind)).setCell ⟨w.heap.size + 1, 1, none⟩ (.int .i64 v.num)).setCell ⟨w.heap.size + 1, 2, none⟩ (.string v.s)).setCell ⟨w.heap.size + 1, 3, none⟩ (.slice aL v.l.length cL)).setCell ⟨w.heap.size + 1, 4, none⟩ (.slice aM ms.length cM)) :=
       (((((Kept.refl _ _).setCell (p := ⟨w.heap.size + 1, 0, none⟩) (.inl (by simp)) _).setCell (p := ⟨w.heap.size + 1, 1, none⟩) (.inl (by simp)) _).setCell (p := ⟨w.heap.size + 1, 2, none⟩) (.inl (by simp)) _).setCell (p := ⟨w.heap.size + 1, 3, none⟩) (.inl (by simp)) _).setCell (p := ⟨w.heap.size + 1, 4, none⟩) (.inl (by simp)) _
      have hbf := block_setCell (v := .slice aM ms.length cM) (i := 4) (block_setCell (v := .slice aL v.l.length cL) (i := 3) (block_setCell (v := .string v.s) (i := 2) (block_setCell (v := .int .i64 v.num) (i := 1) (block_setCell (v := .int .i64 v.kind) (i := 0) (HC.o.kept.heap (Jd.o.kept.heap Md.o (by simp)) (by simp)) rfl) rfl) rfl) rfl) rfl
      have x0 := cell_head (o := 0) (v := .int .i64 v.kind) hbf rfl
      have x1 := cell_head (o := 1) (v := .int .i64 v.num) hbf rfl
      have x2 := cell_head (o := 2) (v := .string v.s) hbf rfl
      have x3 := cell_head (o := 3) (v := .slice aL v.l.length cL) hbf rfl
      have x4 := cell_head (o := 4) (v := .slice aM ms.length cM) hbf rfl
      clear hbf d0 d1 d2 d3 d4 r0 r1 r2 r3 r4 s0 s1 s2 s3 s4
      revert KF x0 x1 x2 x3 x4
      generalize ((((wr.setCell ⟨w.heap.size + 1, 0, none⟩ (.int .i64 v.kind)).setCell ⟨w.heap.size + 1, 1, none⟩ (.int .i64 v.num)).setCell ⟨w.heap.size + 1, 2, none⟩ (.string v.s)).setCell ⟨w.heap.size + 1, 3, none⟩ (.slice aL v.l.length cL)).setCell ⟨w.heap.size + 1, 4, none⟩ (.slice aM ms.length cM) = WF
      intro KF x0 x1 x2 x3 x4
      have hzl := Jo.o
      have hz0 := Ge.o
      have hLlt := Jd.o.row.lt
      have hMlt := HC.o.row.lt
      have hkl := HC.o.kept.size
      have KLM : Kept [w.heap.size + 1, w.heap.size + 1 + 1] WL WF := (HC.o.kept.mono (by simp)).trans' (KF.mono (by simp))
      refine bodyPost_ret (v := .agg #[.int .i64 v.kind, .int .i64 v.num, .string v.s, .slice aL v.l.length cL, .slice aM ms.length cM]) (by simp [results, Tryz.results19, go_sem, x0, x1, x2, x3, x4]) rfl ⟨⟨[.int .i64 v.kind, .int .i64 v.num, .string v.s, .slice aL v.l.length cL, .slice aM ms.length cM], rfl, ?_⟩, ?_⟩
      ·rw [sortV_eq, ← Mt.o]
       refine ⟨_, _, lL, mk, rfl, ?_, ?_, ?_, ?_, H.o.wfk, H.o.wfn⟩
       ·simp only [List.length_map]
        exact row_base (row_kept Jd.o.row KLM (fun g hg hx => by have := hLlt g hg; simp at hx; omega)) (fun g hg => by have := hLlt g hg; omega)
       ·have h1 := Jd.o.all
        rw [List.take_length] at h1
        exact h1.mono fun _ _ _ r => r.move KLM (fun g hg ⟨h2, h3⟩ => ⟨by simp; omega, by omega, h3, fun h4 => by have := (hMlt g h4).1; omega⟩)
       ·exact row_base (row_kept HC.o.row KF (fun g hg hx => by have := hMlt g hg; simp at hx; omega)) (fun g hg => by have := hMlt g hg; omega)
       ·exact HC.o.all.mono fun _ _ _ r => ⟨r.1, r.2.move KF (fun g hg ⟨h2, h3⟩ => ⟨by simp; omega, by omega, fun h4 => by have := (hLlt g h4).2; omega, h3⟩)⟩
      ·exact Jn.o.trans KLM (fun i hi => by simp at hi; omega)
theorem refSort_any : ∀ (n : Nat), RefSortKnown n
 | 0 => fun v => nomatch v
 | n + 1 => fun v _ _ _ h hs hr => refSort_step (refSort_any n) v h hs hr
section
variable {n : Nat} {va vb : V n} {S T : Nat → Prop} {w : World} {ca cb : List Value}
end
theorem one_hex (k : Nat) (hk : k < 16) : (⟨#[48, 49, 50, 51, 52, 53, 54, 55, 56, 57, 97, 98, 99, 100, 101, 102]⟩ : ByteArray).extract k (k + 1) = ⟨#[hexd k]⟩ := by
 have : k = 0 ∨ k = 1 ∨ k = 2 ∨ k = 3 ∨ k = 4 ∨ k = 5 ∨ k = 6 ∨ k = 7 ∨ k = 8 ∨ k = 9 ∨ k = 10 ∨ k = 11 ∨ k = 12 ∨ k = 13 ∨ k = 14 ∨ k = 15 := by omega
 rcases this with rfl | rfl | rfl | rfl | rfl | rfl | rfl | rfl | rfl | rfl | rfl | rfl | rfl | rfl | rfl | rfl <;> rfl
theorem refHex_any (z : Int) (h0 : 0 ≤ z) (h1 : z < 16) (w : World) : Calls Tryz.prog 83 #[.int .i64 z] w fun e w' => e = .returned (.string ⟨#[hexd z.toNat]⟩) ∧ w = w' := by
 obtain ⟨k, rfl⟩ := Int.eq_ofNat_of_zero_le h0
 have hk : k < 16 := by omega
 have hs := qI (one_hex k hk)
 have hT : Hid ((k : Int).toNat = k) := qI (by simp)
 clear h0 h1
 go_enter Tryz.func83, Tryz.ntmps83
 go_wp2_with fail
 go_ret
 rw [hT.o, ← hs.o]
 exact ⟨rfl, rfl⟩
theorem quote_at (s : ByteArray) (k : Nat) (h : k < s.size) : 34 :: (s.data.toList.take (k + 1)).flatMap quoteB = (34 :: (s.data.toList.take k).flatMap quoteB) ++ quoteB (s[k]'h) := by
 rw [List.take_succ_eq_append_getElem (by simpa using h), List.flatMap_append, List.cons_append]
 simp only [List.flatMap_cons, List.flatMap_nil, List.append_nil]
 rfl
theorem refQuote_any (s : ByteArray) (hs : s.size ≤ 1000000) (w : World) :
  Calls Tryz.prog 53 #[.string s] w fun e w' => e = .returned (.string (strB (quoteL s.data.toList))) ∧ Kept [] w w' := by
 have HL : Hid (s.data.toList.length = s.size) := qI (by simp)
 have Mu : Hid ((w.alloc (.cells #[.int .u8 34] 5)).ownsRow w.heap.size 5 1 (.slice (some ⟨w.heap.size, 0, none⟩) 1 1) 1 [.int .u8 34]) := qI (World.ownsRow_lit w #[.int .u8 34] 1 (Nat.le_refl _) (by decide) rfl)
 have Gg : Hid (Kept [] w (w.alloc (.cells #[.int .u8 34] 5))) := qI ((Kept.refl [] w).alloc _)
 go_enter Tryz.func53, Tryz.ntmps53
 go_wp2_with fail
 go_loopw [3, 4] (fun o i wr => ∃ (k : Nat) (a : Option Addr) (c : Nat) (L : List UInt8), i = .int .i64 k ∧ k ≤ s.size ∧ L = 34 :: (s.data.toList.take k).flatMap quoteB ∧ o = .slice a L.length c ∧ wr.ownsRow w.heap.size 5 1 (.slice a L.length c) L.length (L.map bv) ∧ Kept [] w wr) (fun _ i _ => s.size - (intOf i).toNat)
 case atStart => exact ⟨0, _, _, [34], rfl, Nat.zero_le _, rfl, rfl, Mu.o, Gg.o⟩
 case round =>
  obtain ⟨k, a, c, L, rfl, hk, hL, rfl, hr, hkw⟩ := hrel
  have HR := qI hr
  have Gc := qI hkw
  have hq : L.length ≤ 6000001 := by
   have := quote_take s.data.toList k
   rw [HL.o] at this
   rw [hL, List.length_cons]
   omega
  have Mk := qI hL
  have Ji := qI hr.lt
  clear hr hkw hL
  by_cases hlt : k < s.size
  ·have hltI : (k : Int) < s.size := by omega
   have Jp : Hid (34 :: (s.data.toList.take (k + 1)).flatMap quoteB = L ++ quoteB (s[k]'hlt)) := qI (by rw [Mk.o]; exact quote_at s k hlt)
   have hx : ((s[k]'hlt).toNat : Int) ≤ 255 := by have := (s[k]'hlt).toNat_lt; omega
   revert hx Jp
   generalize hsk : s[k]'hlt = x
   intro Jp hx
   by_cases h32 : x.toNat < 32
   ·obtain ⟨z, hz⟩ : ∃ z : Int, z = (x.toNat : Int) := ⟨_, rfl⟩
    have hz0 : 0 ≤ z := by omega
    have hz1 : z < 32 := by omega
    have hne : (z == 34) = false ∧ (z == 92) = false := ⟨(int_ne (by omega)).1, (int_ne (by omega)).1⟩
    obtain ⟨g1, g2⟩ := hne
    have hsk2 : ((s[k]'hlt).toNat : Int) = z := by rw [hsk]; exact hz.symm
    have HQ : Hid (quoteB x = [92, 117, 48, 48, hexd (z / 16).toNat, hexd (z % 16).toNat]) := qI (by
     unfold quoteB
     rw [if_pos h32, hz]
     have e1 : ((x.toNat : Int) / 16).toNat = x.toNat / 16 := by omega
     have e2 : ((x.toNat : Int) % 16).toNat = x.toNat % 16 := by omega
     rw [e1, e2])
    have hq0 : 0 ≤ z / 16 := by omega
    have hq1 : z / 16 < 16 := by omega
    have hr0 : 0 ≤ z % 16 := by omega
    have hr1 : z % 16 < 16 := by omega
    obtain ⟨i0, hi, hz0', hz1', hz2'⟩ := info_parts tyByte.info
    have HI := qI hi
    have HZ := qI (And.intro hz0' (And.intro hz1' hz2'))
    clear hi hz0' hz1' hz2' hz hsk hx h32
    have Jk : Hid (((⟨#[92, 117, 48, 48]⟩ : ByteArray) ++ ⟨#[hexd (z / 16).toNat]⟩ ++ ⟨#[hexd (z % 16).toNat]⟩).size = 6 ∧ ((⟨#[92, 117, 48, 48]⟩ : ByteArray) ++ ⟨#[hexd (z / 16).toNat]⟩ ++ ⟨#[hexd (z % 16).toNat]⟩).data.toList = quoteB x) := qI ⟨by simp [ByteArray.size_append]; rfl, by rw [HQ.o]; simp⟩
    go_wp2_with (first
     | (go_at_call 83; refine (refHex_any _ (by omega) (by omega) _).mono ?_; rintro e w' ⟨rfl, rfl⟩)
     | (at_builtin; refine Lib.wpList_append_own_string _ rfl _ _ 28 9 rfl w.heap.size 5 i0 Tryz.underlying28 Tryz.underlying9 HI.o HZ.o.1 HZ.o.2.1 HZ.o.2.2 (.slice a L.length c) L.length (L.map bv) rfl HR.o ((⟨#[92, 117, 48, 48]⟩ : ByteArray) ++ ⟨#[hexd (z / 16).toNat]⟩ ++ ⟨#[hexd (z % 16).toNat]⟩) rfl (by rw [Jk.o.1]; simp only [maxLen]; omega) (by rw [Jk.o.1]; omega) Gc.o.size ?_; intro v2 w2 hown2 hg2 _; have Ga := qI hown2; have Mv := qI hg2; clear hown2 hg2))
    case roundEnd =>
     have h9 := Ga.o
     rw [show Lib.strCells ((⟨#[92, 117, 48, 48]⟩ : ByteArray) ++ ⟨#[hexd (z / 16).toNat]⟩ ++ ⟨#[hexd (z % 16).toNat]⟩) = (((⟨#[92, 117, 48, 48]⟩ : ByteArray) ++ ⟨#[hexd (z / 16).toNat]⟩ ++ ⟨#[hexd (z % 16).toNat]⟩).data.toList).map bv from rfl, Jk.o.2, Jk.o.1] at h9
     obtain ⟨a', c', rfl, -, -⟩ := (Slc.of_row h9).form
     have hl6 : (L ++ quoteB x).length = L.length + 6 := by rw [HQ.o]; simp
     refine ⟨⟨k + 1, a', c', L ++ quoteB x, by go_num, by omega, Jp.o.symm, by rw [hl6], by rw [hl6, List.map_append]; exact h9, ?_⟩, by simp [intOf]; omega⟩
     exact Gc.o.grown Mv.o (fun g hg => .inr (Ji.o g hg).1)
   ·have h32I : ¬ (x.toNat : Int) < 32 := by omega
    by_cases hc : x = 34 ∨ x = 92
    ·have HQ : Hid (quoteB x = [92, x]) := qI (by unfold quoteB; rw [if_neg h32, if_pos hc])
     have hg : ((x.toNat : Int) == 34) = true ∨ (((x.toNat : Int) == 34) = false ∧ ((x.toNat : Int) == 92) = true) := by
      rcases hc with rfl | rfl
      ·exact .inl rfl
      ·exact .inr ⟨rfl, rfl⟩
     have Gd := qI (slc_new wr [.int .u8 92, bv x] 1 2 5 wr.heap.size rfl rfl (by decide))
     have Gn := qI (row_kept HR.o ((Kept.refl [] wr).alloc (.cells #[.int .u8 92, bv x] 5)) (by simp))
     have Ma : Hid (∀ (v' : Value) (w' : World), w'.ownsRow w.heap.size 5 1 v' (L.length + 2) (L.map bv ++ [.int .u8 92, bv x]) → ∃ a' c', v' = .slice a' (L ++ quoteB x).length c' ∧ w'.ownsRow w.heap.size 5 1 (.slice a' (L ++ quoteB x).length c') (L ++ quoteB x).length ((L ++ quoteB x).map bv)) := qI (by
      intro v' w' h
      obtain ⟨a', c', rfl, -, -⟩ := (Slc.of_row h).form
      rw [HQ.o]
      exact ⟨a', c', by simp, by simpa [bv] using h⟩)
     clear hc h32
     unfold bv at Gd Gn
     rcases hg with g1 | ⟨g1, g2⟩
     all_goals
      go_wp2_with (at_builtin; refine wpList_append_slc tyByte Gn.o Gd.o (by intro u hu; simp at hu; rcases hu with rfl | rfl <;> rfl) (by simp only [maxLen]; omega) (by omega) (by have := Gc.o.size; simp; omega) rfl _ _ rfl rfl rfl ?_; intro v' w' hown hk2 _ hbk; have Ga := qI hown; have Gf := qI hk2; clear hown hk2 hbk)
      case roundEnd =>
       obtain ⟨a', c', rfl, h9⟩ := Ma.o _ _ Ga.o
       refine ⟨⟨k + 1, a', c', _, by go_num, by omega, Jp.o.symm, rfl, h9, ?_⟩, by simp [intOf]; omega⟩
       exact ((Gc.o.alloc _).trans Gf.o (fun i hi => .inr (Ji.o i (Option.mem_toList.1 hi)).1))
    ·have HQ : Hid (quoteB x = [x]) := qI (by unfold quoteB; rw [if_neg h32, if_neg hc])
     have hg1 : ((x.toNat : Int) == 34) = false := (int_ne (fun e => hc (.inl (UInt8.toNat_inj.1 (show x.toNat = 34 by omega))))).1
     have hg2 : ((x.toNat : Int) == 92) = false := (int_ne (fun e => hc (.inr (UInt8.toNat_inj.1 (show x.toNat = 92 by omega))))).1
     have Gd := qI (slc_new wr [bv x] 1 1 5 wr.heap.size rfl rfl (by decide))
     have Gn := qI (row_kept HR.o ((Kept.refl [] wr).alloc (.cells #[bv x] 5)) (by simp))
     have Ma : Hid (∀ (v' : Value) (w' : World), w'.ownsRow w.heap.size 5 1 v' (L.length + 1) (L.map bv ++ [bv x]) → ∃ a' c', v' = .slice a' (L ++ quoteB x).length c' ∧ w'.ownsRow w.heap.size 5 1 (.slice a' (L ++ quoteB x).length c') (L ++ quoteB x).length ((L ++ quoteB x).map bv)) := qI (by
      intro v' w' h
      obtain ⟨a', c', rfl, -, -⟩ := (Slc.of_row h).form
      rw [HQ.o]
      exact ⟨a', c', by simp, by simpa [bv] using h⟩)
     clear hc h32
     unfold bv at Gd Gn
     go_wp2_with (at_builtin; refine wpList_append_slc tyByte Gn.o Gd.o (by intro u hu; simp at hu; rcases hu with rfl | rfl <;> rfl) (by simp only [maxLen]; omega) (by omega) (by have := Gc.o.size; simp; omega) rfl _ _ rfl rfl rfl ?_; intro v' w' hown hk2 _ hbk; have Ga := qI hown; have Gf := qI hk2; clear hown hk2 hbk)
     case roundEnd =>
      obtain ⟨a', c', rfl, h9⟩ := Ma.o _ _ Ga.o
      refine ⟨⟨k + 1, a', c', _, by go_num, by omega, Jp.o.symm, rfl, h9, ?_⟩, by simp [intOf]; omega⟩
      exact ((Gc.o.alloc _).trans Gf.o (fun i hi => .inr (Ji.o i (Option.mem_toList.1 hi)).1))
  ·obtain rfl : k = s.size := by omega
   have HE : Hid (L ++ [34] = quoteL s.data.toList) := qI (by rw [Mk.o, List.take_of_length_le (by rw [HL.o]; exact Nat.le_refl _)]; rfl)
   have Gd := qI (slc_new wr [.int .u8 34] 1 1 5 wr.heap.size rfl rfl (by decide))
   have Gn := qI (row_kept HR.o ((Kept.refl [] wr).alloc (.cells #[.int .u8 34] 5)) (by simp))
   have Mw : Hid (∀ (v' : Value) (w' : World), w'.ownsRow w.heap.size 5 1 v' (L.length + 1) (L.map bv ++ [.int .u8 34]) → (convert 28 9 v').run Tryz.prog w' = .ok (.string (strB (quoteL s.data.toList))) w') := qI (by
    intro v' w' h
    rw [← HE.o]
    refine Bytes.toStr ?_
    have h2 := Slc.of_row h
    unfold Bytes
    simpa [bv] using h2)
   go_wp2_with (at_builtin; refine wpList_append_slc tyByte Gn.o Gd.o (by intro u hu; simp at hu; subst hu; rfl) (by simp only [maxLen]; omega) (by omega) (by have := Gc.o.size; simp; omega) rfl _ _ rfl rfl rfl ?_; intro v' w' hown hk2 _ hbk; have Gf := qI hk2; have hcv := Mw.o _ _ hown; clear hown hk2 hbk)
   go_ret
   exact ⟨rfl, (Gc.o.alloc _).trans Gf.o (fun i hi => .inr (Ji.o i (Option.mem_toList.1 hi)).1)⟩
theorem strB_app (a b : List UInt8) : strB (a ++ b) = strB a ++ strB b := by
 apply ByteArray.ext
 simp [strB]
theorem getD_map {α β : Type} (f : α → β) (l : List α) (k : Nat) (h : k < l.length) (d : β) : (l.map f).getD k d = f l[k] := by
 rw [List.getD_eq_getElem?_getD, List.getElem?_map, List.getElem?_eq_getElem h]
 rfl
def refWrite_anyKnown (n : Nat) : Prop := ∀ (v : V n) {S : Nat → Prop} {w : World} {cs : List Value}, Rep n S w cs v → Small n v → rightV n v = true →
    Calls Tryz.prog 25 #[.agg cs.toArray] w fun e w' => e = .returned (.string (strB (writeV n v))) ∧ Kept [] w w'
theorem refWrite_any_step {n : Nat} (known : refWrite_anyKnown n) : refWrite_anyKnown (n + 1) := fun (v : VS (V n)) {S} {w} {cs} h hs hr0 => by
  have Jb := qI hs
  have Gv := qI hr0
  obtain ⟨vl, vm, lcs, mcs, h⟩ := h
  obtain ⟨a, c, b, e, rfl, rfl, rfl⟩ := h.forms
  have H := qI h
  have IH := qI known
  have hlv : v.l.length ≤ 20000 := by have := hs.few; omega
  have hmv : v.m.length ≤ 20000 := by have := hs.few; omega
  have Gy := qI (write_small hr0 hs)
  obtain ⟨W0, Gb⟩ : ∃ W0, Hid (W0 = w.alloc (.cells #[.int .i64 v.kind, .int .i64 v.num, .string v.s, .slice a v.l.length c, .slice b v.m.length e] 25)) := ⟨_, qI rfl⟩
  have Gg : Hid (Kept [] w W0) := qI (by rw [Gb.o]; exact (Kept.refl [] w).alloc _)
  have hown := own_cases (right_own hr0)
  have Gz : Hid (∀ k : Int, v.kind = k → BoxAt W0 w.heap.size k v.num v.s (.slice a v.l.length c) (.slice b v.m.length e)) := qI (fun k hk => by rw [Gb.o, ← hk]; exact box_at _ _ _ _ _ _ _)
  clear h hs hr0
  rcases hown with g | g | g | g | g | g
  ·have HE := qI (write_1 g.1)
   rw [g.1] at Gb ⊢
   clear g Gz
   obtain ⟨c0, c1, c2, c3, c4⟩ := box_at w 1 v.num v.s (.slice a v.l.length c) (.slice b v.m.length e) 25
   go_enter Tryz.func25, Tryz.ntmps25
   go_wp2_with fail
   go_ret
   rw [HE.o, ← Gb.o]
   exact ⟨rfl, Gg.o⟩
  ·have HE := qI (write_2 g.1)
   have hn := g.2.1
   rw [g.1] at Gb ⊢
   clear g Gz
   obtain ⟨c0, c1, c2, c3, c4⟩ := box_at w 2 v.num v.s (.slice a v.l.length c) (.slice b v.m.length e) 25
   rcases hn with hn | hn
   ·rw [hn] at Gb HE c1 ⊢
    clear hn
    go_enter Tryz.func25, Tryz.ntmps25
    go_wp2_with fail
    go_ret
    rw [HE.o, ← Gb.o]
    exact ⟨rfl, Gg.o⟩
   ·rw [hn] at Gb HE c1 ⊢
    clear hn
    go_enter Tryz.func25, Tryz.ntmps25
    go_wp2_with fail
    go_ret
    rw [HE.o, ← Gb.o]
    exact ⟨rfl, Gg.o⟩
  ·have HE := qI (write_3 g.1)
   have CD := qI (refDigits_str v.num (by omega) (by omega) W0)
   rw [g.1] at Gb ⊢
   clear g Gz
   obtain ⟨c0, c1, c2, c3, c4⟩ := box_at w 3 v.num v.s (.slice a v.l.length c) (.slice b v.m.length e) 25
   go_enter Tryz.func25, Tryz.ntmps25
   go_wp2_with fail
   rw [← Gb.o]
   refine CD.o.mono ?_
   rintro e w1 ⟨rfl, rfl⟩
   go_wp2_with fail
   go_ret
   rw [HE.o]
   exact ⟨rfl, Gg.o⟩
  ·have HE := qI (write_4 g.1)
   have hsz : v.s.size ≤ 1000000 := by
    have h1 := Jb.o.2
    have h2 : v.s.size ≤ bytesV (n + 1) v := Nat.le_trans (Nat.le_add_right _ _) (Nat.le_add_right _ _)
    omega
   have CD := qI (refQuote_any v.s hsz W0)
   rw [g.1] at Gb ⊢
   clear g Gz hsz
   obtain ⟨c0, c1, c2, c3, c4⟩ := box_at w 4 v.num v.s (.slice a v.l.length c) (.slice b v.m.length e) 25
   go_enter Tryz.func25, Tryz.ntmps25
   go_wp2_with fail
   rw [← Gb.o]
   refine CD.o.mono ?_
   rintro e w1 ⟨rfl, hk1⟩
   go_wp2_with fail
   go_ret
   rw [HE.o]
   exact ⟨rfl, Gg.o.then hk1⟩
  ·have HE := qI (write_5 g.1)
   have HL : Hid ((preC (fun k => (v.l.map (writeV n)).getD k []) v.l.length).length ≤ 3000000) := qI (by have h1 := Gy.o; rw [HE.o, List.length_cons, List.length_append] at h1; omega)
   have Jg := qI (Gz.o 5 g.1)
   rw [g.1] at Gb ⊢
   clear g Gz
   obtain ⟨c0, c1, c2, c3, c4⟩ := box_at w 5 v.num v.s (.slice a v.l.length c) (.slice b v.m.length e) 25
   go_enter Tryz.func25, Tryz.ntmps25
   go_wp2_with fail
   rw [← Gb.o]
   clear c0 c1 c2 c3 c4
   generalize hit : (fun k => (v.l.map (writeV n)).getD k []) = it at HE HL
   have Mb : Hid (∀ (k : Nat) (h : k < v.l.length), it k = writeV n v.l[k]) := qI (fun k h => by rw [← hit]; exact getD_map _ _ _ h _)
   clear hit
   go_loopw [3, 4] (fun q i wr => ∃ k : Nat, i = .int .i64 k ∧ k ≤ v.l.length ∧ q = .string (strB (91 :: preC it k)) ∧ Kept [] W0 wr) (fun _ i _ => v.l.length - (intOf i).toNat)
   case atStart => exact ⟨0, rfl, Nat.zero_le _, rfl, Kept.refl _ _⟩
   case round =>
    obtain ⟨k, rfl, hk, rfl, hkw⟩ := hrel
    have Gc := qI hkw
    obtain ⟨d0, d1, d2, d3, d4⟩ := Jg.o.kept0 hkw
    have hle := preC_le it hk
    have Ge : Hid ((strB (91 :: preC it k)).size ≤ 3000001) := qI (by rw [strB_size, List.length_cons]; have := HL.o; omega)
    clear hkw hle
    by_cases hlt : k < v.l.length
    ·have hltI : (k : Int) < v.l.length := by omega
     obtain ⟨g, o, cap, kd, nm, st, a1, b1, he, q0, q1, q2, q3, q4, hr⟩ := H.o.at_l (Gg.o.then Gc.o) k hlt
     simp only [Value.slice.injEq] at he
     obtain ⟨rfl, -, rfl⟩ := he
     obtain ⟨p1, i1, d1', p2, i2, d2', rfl, rfl⟩ := hr.sl
     have CW := qI (IH.o v.l[k] hr (Jb.o.kid (mem_l (List.getElem_mem hlt))) (right_kid Gv.o (mem_l (List.getElem_mem hlt))))
     rw [← Mb.o k hlt] at CW
     have hst := preC_len it k
     have hle2 := preC_le it (show k + 1 ≤ v.l.length from hlt)
     have Ja : Hid ((strB (it k)).size ≤ 3000001) := qI (by rw [strB_size]; have := HL.o; omega)
     have Gj : Hid (strB (91 :: preC it (k + 1)) = if k = 0 then strB (91 :: preC it k) ++ strB (it k) else strB (91 :: preC it k) ++ ⟨#[44]⟩ ++ strB (it k)) := qI (by
      by_cases h0 : k = 0
      ·rw [if_pos h0, h0, preC_one, preC_zero, ← strB_app]; rfl
      ·rw [if_neg h0, preC_succ it (by omega), show (⟨#[44]⟩ : ByteArray) = strB [44] from rfl, ← strB_app, ← strB_app]; simp)
     clear hr hst hle2
     revert Ge Ja Gj CW
     generalize strB (91 :: preC it k) = T
     generalize strB (it k) = U
     intro Ge CW Ja Gj
     have hsT := Ge.o
     have hsU := Ja.o
     have hz1 : ¬ 9223372036854775807 < T.size + 1 := by omega
     have hz2 : ¬ 9223372036854775807 < T.size + 1 + U.size := by omega
     have hz3 : ¬ 9223372036854775807 < T.size + U.size := by omega
     clear hsT hsU
     by_cases h0 : k = 0
     ·have hst := Gj.o
      rw [if_pos h0] at hst
      have Gu := qI hst
      have h0I : decide (0 < k) = false := decide_eq_false (by omega)
      clear h0 hst
      go_wp2_with (go_at_call 25; refine CW.o.mono ?_; rintro e w2 ⟨rfl, hk2⟩; have Gf := qI hk2; clear hk2)
      case roundEnd => exact ⟨⟨k + 1, by go_num, by omega, by rw [Gu.o], Gc.o.then Gf.o⟩, by simp [intOf]; omega⟩
     ·have hst := Gj.o
      rw [if_neg h0] at hst
      have Gu := qI hst
      have h0I : decide (0 < k) = true := decide_eq_true (by omega)
      clear h0 hst
      go_wp2_with (go_at_call 25; refine CW.o.mono ?_; rintro e w2 ⟨rfl, hk2⟩; have Gf := qI hk2; clear hk2)
      case roundEnd => exact ⟨⟨k + 1, by go_num, by omega, by rw [Gu.o], Gc.o.then Gf.o⟩, by simp [intOf]; omega⟩
    ·obtain rfl : k = v.l.length := by omega
     have Jh : Hid (strB (writeV (n + 1) v) = strB (91 :: preC it v.l.length) ++ ⟨#[93]⟩) := qI (by rw [HE.o, show (⟨#[93]⟩ : ByteArray) = strB [93] from rfl, ← strB_app]; rfl)
     revert Ge Jh
     generalize strB (91 :: preC it v.l.length) = T
     intro Ge Jh
     have hsT := Ge.o
     have hz1 : ¬ 9223372036854775807 < T.size + 1 := by omega
     clear hsT
     go_wp2_with fail
     go_ret
     rw [Jh.o]
     exact ⟨rfl, Gg.o.then Gc.o⟩
  ·have HE := qI (write_6 g.1)
   have HL : Hid ((preC (fun k => (v.m.map (fun p => quoteL p.1.data.toList ++ (58 :: writeV n p.2))).getD k []) v.m.length).length ≤ 3000000) := qI (by have h1 := Gy.o; rw [HE.o, List.length_cons, List.length_append] at h1; omega)
   have Jg := qI (Gz.o 6 g.1)
   rw [g.1] at Gb ⊢
   clear g Gz
   obtain ⟨c0, c1, c2, c3, c4⟩ := box_at w 6 v.num v.s (.slice a v.l.length c) (.slice b v.m.length e) 25
   go_enter Tryz.func25, Tryz.ntmps25
   go_wp2_with fail
   rw [← Gb.o]
   clear c0 c1 c2 c3 c4
   generalize hit : (fun k => (v.m.map (fun p => quoteL p.1.data.toList ++ (58 :: writeV n p.2))).getD k []) = it at HE HL
   have Mb : Hid (∀ (k : Nat) (h : k < v.m.length), it k = quoteL v.m[k].1.data.toList ++ (58 :: writeV n v.m[k].2)) := qI (fun k h => by rw [← hit]; exact getD_map _ _ _ h _)
   clear hit
   go_loopw [5, 6] (fun q i wr => ∃ k : Nat, i = .int .i64 k ∧ k ≤ v.m.length ∧ q = .string (strB (123 :: preC it k)) ∧ Kept [] W0 wr) (fun _ i _ => v.m.length - (intOf i).toNat)
   case atStart => exact ⟨0, rfl, Nat.zero_le _, rfl, Kept.refl _ _⟩
   case round =>
    obtain ⟨k, rfl, hk, rfl, hkw⟩ := hrel
    have Gc := qI hkw
    obtain ⟨d0, d1, d2, d3, d4⟩ := Jg.o.kept0 hkw
    have hle := preC_le it hk
    have Ge : Hid ((strB (123 :: preC it k)).size ≤ 3000001) := qI (by rw [strB_size, List.length_cons]; have := HL.o; omega)
    clear hkw hle
    by_cases hlt : k < v.m.length
    ·have hltI : (k : Int) < v.m.length := by omega
     obtain ⟨g, o, cap, kd, nm, st, a1, b1, he, q0, q1, q2, q3, q4, q5, hr⟩ := H.o.at_m (Gg.o.then Gc.o) k hlt
     simp only [Value.slice.injEq] at he
     obtain ⟨rfl, -, rfl⟩ := he
     obtain ⟨p1, i1, d1', p2, i2, d2', rfl, rfl⟩ := hr.sl
     have CW : Hid (∀ z : Ext wr, _) := qI (fun z : Ext wr => IH.o v.m[k].2 (hr.kept0 z.k) (Jb.o.kid (mem_m (List.getElem_mem hlt))) (right_kid Gv.o (mem_m (List.getElem_mem hlt))))
     have hkS : v.m[k].1.size ≤ 1000000 := by have h1 := Jb.o.2; have h2 := key_le (List.getElem_mem hlt); omega
     have CQ : Hid (∀ z : Ext wr, _) := qI (fun z : Ext wr => refQuote_any v.m[k].1 hkS z.w)
     have hst := preC_len it k
     have hle2 := preC_le it (show k + 1 ≤ v.m.length from hlt)
     have hitk := Mb.o k hlt
     have hitl : (it k).length ≤ 3000001 := by have := HL.o; omega
     rw [hitk, List.length_append, List.length_cons] at hitl
     have Jq : Hid ((strB (quoteL v.m[k].1.data.toList)).size ≤ 3000001) := qI (by rw [strB_size]; omega)
     have Ja : Hid ((strB (writeV n v.m[k].2)).size ≤ 3000001) := qI (by rw [strB_size]; omega)
     have Gj : Hid (strB (123 :: preC it (k + 1)) = (if k = 0 then strB (123 :: preC it k) else strB (123 :: preC it k) ++ ⟨#[44]⟩) ++ strB (quoteL v.m[k].1.data.toList) ++ ⟨#[58]⟩ ++ strB (writeV n v.m[k].2)) := qI (by
      rw [show (⟨#[58]⟩ : ByteArray) = strB [58] from rfl]
      by_cases h0 : k = 0
      ·have e0 : preC it (k + 1) = it k := by rw [h0]; exact preC_one it
       have e1 : preC it k = [] := by rw [h0]; exact preC_zero it
       rw [if_pos h0, e0, e1, ← strB_app, ← strB_app, ← strB_app, hitk]
       simp
      ·rw [if_neg h0, preC_succ it (by omega), show (⟨#[44]⟩ : ByteArray) = strB [44] from rfl, ← strB_app, ← strB_app, ← strB_app, ← strB_app, hitk]
       simp)
     clear hr hst hle2 hitk hitl hkS
     generalize hky : v.m[k].1 = key at q0 Jq Gj CQ
     clear hky
     revert Ge CW Ja Gj Jq CQ
     generalize strB (123 :: preC it k) = T
     generalize strB (writeV n v.m[k].2) = U
     generalize strB (quoteL key.data.toList) = Q
     intro Ge CW Ja Jq Gj CQ
     by_cases h0 : k = 0
     ·have hst := Gj.o
      rw [if_pos h0] at hst
      have Jr := qI hst
      have h0I : decide (0 < k) = false := decide_eq_false (by omega)
      clear h0 hst Gj
      go_wp2_with fail
      have Gu : Hid (T.size ≤ 3000002) := qI (by have := Ge.o; omega)
      obtain ⟨T2, rfl⟩ : ∃ T2, T2 = T := ⟨_, rfl⟩
      have hs2 := Gu.o
      have hq0 := Jq.o
      have hu0 := Ja.o
      have hz2 : ¬ 9223372036854775807 < T2.size + Q.size := by omega
      have hz3 : ¬ 9223372036854775807 < T2.size + Q.size + 1 := by omega
      have hz4 : ¬ 9223372036854775807 < T2.size + Q.size + 1 + U.size := by omega
      have e4 := ext_cell d4
      have r0 := ext_cell q0
      have r1 := ext_cell q1
      have r2 := ext_cell q2
      have r3 := ext_cell q3
      have r4 := ext_cell q4
      have r5 := ext_cell q5
      refine wp_region_ext wr (by kernel_rfl) (by kernel_rfl) (Kept.refl _ _) ?_
      clear hs2 hq0 hu0 d0 d1 d2 d3 d4 q0 q1 q2 q3 q4 q5
      repeat go_big_quiet_step (first | (go_at_call 53; exact ext_of (CQ.o _)) | (go_at_call 25; exact ext_of (CW.o _)))
      refine wpQuiet_nil ?_
      intro w2 hk2
      have Gf := qI hk2
      clear hk2 e4 r0 r1 r2 r3 r4 r5 hz2 hz3 hz4
      go_wp2_with fail
      case roundEnd => exact ⟨⟨k + 1, by go_num, by omega, by rw [Jr.o], Gc.o.then Gf.o⟩, by simp [intOf]; omega⟩
     ·have hst := Gj.o
      rw [if_neg h0] at hst
      have Jr := qI hst
      have h0I : decide (0 < k) = true := decide_eq_true (by omega)
      have hsz := Ge.o
      have hz1 : ¬ 9223372036854775807 < T.size + 1 := by omega
      clear h0 hst Gj hsz
      go_wp2_with fail
      have Gu : Hid ((T ++ ⟨#[44]⟩).size ≤ 3000002) := qI (by rw [ByteArray.size_append, show (⟨#[44]⟩ : ByteArray).size = 1 from rfl]; have := Ge.o; omega)
      clear hz1
      revert Jr Gu
      generalize T ++ (⟨#[44]⟩ : ByteArray) = T2
      intro Jr Gu
      have hs2 := Gu.o
      have hq0 := Jq.o
      have hu0 := Ja.o
      have hz2 : ¬ 9223372036854775807 < T2.size + Q.size := by omega
      have hz3 : ¬ 9223372036854775807 < T2.size + Q.size + 1 := by omega
      have hz4 : ¬ 9223372036854775807 < T2.size + Q.size + 1 + U.size := by omega
      have e4 := ext_cell d4
      have r0 := ext_cell q0
      have r1 := ext_cell q1
      have r2 := ext_cell q2
      have r3 := ext_cell q3
      have r4 := ext_cell q4
      have r5 := ext_cell q5
      refine wp_region_ext wr (by kernel_rfl) (by kernel_rfl) (Kept.refl _ _) ?_
      clear hs2 hq0 hu0 d0 d1 d2 d3 d4 q0 q1 q2 q3 q4 q5
      repeat go_big_quiet_step (first | (go_at_call 53; exact ext_of (CQ.o _)) | (go_at_call 25; exact ext_of (CW.o _)))
      refine wpQuiet_nil ?_
      intro w2 hk2
      have Gf := qI hk2
      clear hk2 e4 r0 r1 r2 r3 r4 r5 hz2 hz3 hz4
      go_wp2_with fail
      case roundEnd => exact ⟨⟨k + 1, by go_num, by omega, by rw [Jr.o], Gc.o.then Gf.o⟩, by simp [intOf]; omega⟩
    ·obtain rfl : k = v.m.length := by omega
     have Jh : Hid (strB (writeV (n + 1) v) = strB (123 :: preC it v.m.length) ++ ⟨#[125]⟩) := qI (by rw [HE.o, show (⟨#[125]⟩ : ByteArray) = strB [125] from rfl, ← strB_app]; rfl)
     revert Ge Jh
     generalize strB (123 :: preC it v.m.length) = T
     intro Ge Jh
     have hsT := Ge.o
     have hz1 : ¬ 9223372036854775807 < T.size + 1 := by omega
     clear hsT
     go_wp2_with fail
     go_ret
     rw [Jh.o]
     exact ⟨rfl, Gg.o.then Gc.o⟩
theorem refWrite_any_known : ∀ (n : Nat), refWrite_anyKnown n
 | 0 => fun v {_} {_} {_} h _ _ => h.elim
 | n + 1 => refWrite_any_step (refWrite_any_known n)
theorem refWrite_any : ∀ (n : Nat) (v : V n) {S : Nat → Prop} {w : World} {cs : List Value}, Rep n S w cs v → Small n v → rightV n v = true →
  Calls Tryz.prog 25 #[.agg cs.toArray] w fun e w' => e = .returned (.string (strB (writeV n v))) ∧ Kept [] w w' := fun n => refWrite_any_known n
section
variable {n : Nat} {v : V n} {S : Nat → Prop} {w : World} {cs : List Value}
theorem refEncode_any (h : Rep n S w cs v) (hs : Small n v) (hn : n ≤ 100) :
  Calls Tryz.prog 14 #[.agg cs.toArray] w fun e w' => (∃ a c, e = .returned (.tuple #[.slice a (encV n v).1.length c, .int .i64 (encV n v).2]) ∧ Bytes w' (.slice a (encV n v).1.length c) (encV n v).1) ∧ Kept [] w w' := by
 obtain ⟨kd, nm, st, a, ca, ea, b, cb, eb, rfl⟩ := h.conv
 obtain ⟨W0, Gb⟩ : ∃ W0, Hid (W0 = w.alloc (.cells #[.int .i64 kd, .int .i64 nm, .string st, .slice a ca ea, .slice b cb eb] 25)) := ⟨_, qI rfl⟩
 have Gg : Hid (Kept [] w W0) := qI (by rw [Gb.o]; exact (Kept.refl [] w).alloc _)
 have Mc : Hid (BoxAt W0 w.heap.size kd nm st (.slice a ca ea) (.slice b cb eb)) := qI (by rw [Gb.o]; exact box_at _ _ _ _ _ _ _)
 have CC := qI (refCheck_any (h.kept0 Gg.o) hs hn)
 have CT : Hid (∀ w1, Kept [] W0 w1 → rightV n v = true → _) := qI (fun w1 (k : Kept [] W0 w1) (hr : rightV n v = true) => refSort_any n v ((h.kept0 Gg.o).kept0 k) hs hr)
 have CR := qI (fun hr : rightV n v = true => write_small (n := n) (v := sortV n v) (by rw [right_sort]; exact hr) (small_sort hs))
 have Jk := qI (small_sort hs)
 clear h hs
 by_cases hc : checkV n v = 0
 rotate_left
 ·have HE := qI (encV_bad hc)
  obtain ⟨f1, f2⟩ := int_ne hc
  clear hc
  obtain ⟨c0, c1, c2, c3, c4⟩ := Mc.o
  rw [Gb.o] at c0 c1 c2 c3 c4
  go_enter Tryz.func14, Tryz.ntmps14
  go_wp2_with fail
  rw [← Gb.o]
  refine CC.o.mono ?_
  rintro e w1 ⟨rfl, hk1⟩
  go_wp2_with fail
  go_ret2
  rw [HE.o]
  exact ⟨⟨_, _, rfl, slc_nil _ _⟩, Gg.o.then hk1⟩
 have HC := qI hc
 have hr := check_right hc
 have Gv := qI hr
 have hlen := CR.o hr
 clear hc hr
 obtain ⟨c0, c1, c2, c3, c4⟩ := Mc.o
 rw [Gb.o] at c0 c1 c2 c3 c4
 go_enter Tryz.func14, Tryz.ntmps14
 go_wp2_with fail
 rw [← Gb.o]
 clear c0 c1 c2 c3 c4
 refine CC.o.mono ?_
 rintro e w1 ⟨rfl, hk1⟩
 rw [HC.o]
 obtain ⟨c0, c1, c2, c3, c4⟩ := Mc.o.kept0 hk1
 have Ml := qI hk1
 clear hk1
 go_wp2_with fail
 refine (CT.o _ Ml.o Gv.o).mono ?_
 rintro e w2 ⟨⟨cs2, rfl, ho2⟩, hk2⟩
 obtain ⟨k3, m3, s3, p3, i3, c3', q3, j3, d3, rfl⟩ := ho2.rep.conv
 have CW := qI (refWrite_any n (sortV n v) ho2.rep Jk.o (by rw [right_sort]; exact Gv.o))
 have Gf := qI (Ml.o.then hk2)
 clear hk2 ho2 c0 c1 c2 c3 c4
 go_wp2_with fail
 refine CW.o.mono ?_
 rintro e w3 ⟨rfl, hk3⟩
 have Gx := qI (Gf.o.then hk3)
 have Mm : Hid ((strB (writeV n (sortV n v))).size = (writeV n (sortV n v)).length ∧ (strB (writeV n (sortV n v))).data.toList = writeV n (sortV n v)) := qI ⟨strB_size _, strB_list _⟩
 have hsb := Mm.o.1
 clear hk3
 by_cases hl : 262144 < (writeV n (sortV n v)).length
 ·have HE := qI (encV_long HC.o hl)
  rw [← hsb] at hl
  revert hl
  generalize strB (writeV n (sortV n v)) = T
  intro hl
  have hsI : (262144 : Int) < T.size := by omega
  clear hsb hlen hl
  go_wp2_with fail
  go_ret2
  rw [HE.o]
  exact ⟨⟨_, _, rfl, slc_nil _ _⟩, Gg.o.then Gx.o⟩
 ·have HE := qI (encV_fine HC.o (by omega))
  obtain ⟨a2, n2, c2', w4, hrun, hn2, hb3, hk4⟩ := str_bytes w3 (strB (writeV n (sortV n v))) (by omega)
  rw [Mm.o.2] at hn2 hb3
  subst hn2
  have Jj := qI hb3
  have Gs := qI hk4
  rw [← hsb] at hl
  revert hl hrun
  generalize strB (writeV n (sortV n v)) = T
  intro hl hrun
  have hsI : (T.size : Int) ≤ 262144 := by omega
  clear hsb hk4 hb3 hlen hl
  go_wp2_with fail
  go_ret2
  rw [HE.o]
  exact ⟨⟨_, _, rfl, Jj.o⟩, (Gg.o.then Gx.o).then Gs.o⟩
end
end Go.Proofs.YtpbphdkjjoipnaaGreatDoor

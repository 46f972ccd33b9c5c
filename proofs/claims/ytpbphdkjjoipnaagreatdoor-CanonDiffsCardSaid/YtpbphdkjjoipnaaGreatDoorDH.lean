/- Parts of one proof, merged: XSo XSa XWr XWs XEn. -/
import Derived.Test.YtpbphdkjjoipnaaGreatDoorDC
import Derived.Deep.DeepCutAuto
import Derived.Deep.CutBlock
import Derived.Test.YtpbphdkjjoipnaaGreatDoorDD
import Derived.Test.YtpbphdkjjoipnaaGreatDoorDF
import Derived.Laws.OwnMore
set_option linter.all false
set_option linter.unusedVariables false
set_option linter.unusedSimpArgs false
set_option linter.unnecessarySimpa false
namespace Go.Proofs.YtpbphdkjjoipnaaGreatDoor
open Go.RowKit
def RefSortKnown (n : Nat) : Prop := ∀ (v : V n) {S : Nat → Prop} {w : World} {cs : List Value}, Rep n S w cs v → Small n v → rightV n v = true →
    Calls Tryz.prog 19 #[.agg cs.toArray] w fun e w' => (∃ cs' : List Value, e = .returned (.agg cs'.toArray) ∧ OwnRep n w.heap.size w' cs' (sortV n v)) ∧ Kept [] w w'
set_option maxRecDepth 10000 in
set_option maxHeartbeats 12800000 in
theorem refSort_step {n : Nat} (IH0 : RefSortKnown n) (v : VS (V n)) {S : Nat → Prop} {w : World} {cs : List Value} (h : Rep (n + 1) S w cs v) (hs : Small (n + 1) v) (hr0 : rightV (n + 1) v = true) :
    Calls Tryz.prog 19 #[.agg cs.toArray] w fun e w' => (∃ cs' : List Value, e = .returned (.agg cs'.toArray) ∧ OwnRep (n + 1) w.heap.size w' cs' (sortV (n + 1) v)) ∧ Kept [] w w' := by
    have HSM := Lib.hid hs
    have HRT := Lib.hid hr0
    obtain ⟨vl, vm, lcs, mcs, h⟩ := h
    obtain ⟨a, c, b, e, rfl, rfl, rfl⟩ := h.forms
    have H := Lib.hid h
    have IH := @Lib.hid (RefSortKnown n) (by exact @IH0)
    clear IH0
    have hlv : v.l.length ≤ 20000 := by have := hs.few; omega
    have hmv : v.m.length ≤ 20000 := by have := hs.few; omega
    obtain ⟨W0, HW0⟩ : ∃ W0, Hid (W0 = ((w.alloc (.cells #[.int .i64 v.kind, .int .i64 v.num, .string v.s, .slice a v.l.length c, .slice b v.m.length e] 25)).alloc (.cells #[.int .i64 0, .int .i64 0, .string ⟨#[]⟩, .slice none 0 0, .slice none 0 0] 25)).alloc (.cells #[.int .i64 v.kind, .int .i64 v.num, .string v.s, .slice none 0 0, .slice none 0 0] 25)) := ⟨_, Lib.hid rfl⟩
    have HSZ : Hid (W0.heap.size = w.heap.size + 3) := Lib.hid (by rw [HW0.out]; simp)
    have HK0 : Hid (Kept [] w W0) := Lib.hid (by rw [HW0.out]; exact (((Kept.refl [] w).alloc _).alloc _).alloc _)
    have HBA : Hid (W0.heap[w.heap.size]? = some (.cells (valA v.kind v.num v.s (.slice a v.l.length c) (.slice b v.m.length e)) 25 (0, 0))) := Lib.hid (by
      rw [HW0.out]; exact (((Kept.refl [] _).alloc _).alloc _).heap (block_alloc rfl) (by simp))
    have HBR : Hid (W0.heap[w.heap.size + 1]? = some (.cells #[.int .i64 0, .int .i64 0, .string ⟨#[]⟩, .slice none 0 0, .slice none 0 0] 25 (0, 0))) := Lib.hid (by
      rw [HW0.out]; exact ((Kept.refl [] _).alloc _).heap (block_alloc (by simp)) (by simp))
    have HBC : Hid (W0.heap[w.heap.size + 1 + 1]? = some (.cells (valA v.kind v.num v.s (.slice none 0 0) (.slice none 0 0)) 25 (0, 0))) := Lib.hid (by
      rw [HW0.out]; exact block_alloc (by simp))
    obtain ⟨c0, c1, c2, c3, c4⟩ := box_at w v.kind v.num v.s (.slice a v.l.length c) (.slice b v.m.length e) 25
    clear h hs hr0
    go_enter Tryz.func19, Tryz.ntmps19
    go_wp2_with fail
    rw [← HW0.out]
    clear c0 c1 c2 c3 c4
    go_loopw [4] (fun i wr => ∃ (k : Nat) (vl : Value) (lcs' : List (List Value)), i = .int .i64 k ∧ k ≤ v.l.length ∧ InsL W0 (w.heap.size + 1 + 1) v k wr vl lcs') (fun i _ => v.l.length - (intOf i).toNat)
    case atStart =>
      exact ⟨0, .slice none 0 0, [], rfl, Nat.zero_le _, {
        blk := HBC.out
        row := World.ownsRow_nil _ _ _ _
        all := All2.nil _
        kept := Kept.refl _ _ }⟩
    case round =>
      obtain ⟨k, vk, lk, rfl, hk, hc⟩ := hrel
      have HC := Lib.hid hc
      have HKW : Hid (Kept [] w wr) := Lib.hid (HK0.out.trans hc.kept (by intro i hi; simp at hi; subst hi; exact .inr (by omega)))
      have hba := HC.out.kept.heap HBA.out (by simp; omega)
      have b3 := cell_head (o := 3) (v := .slice a v.l.length c) hba rfl
      clear hc
      by_cases hlt : k < v.l.length
      · have hltI : (k : Int) < v.l.length := by omega
        obtain ⟨g, o, cap, kd, nm, st, a1, b1, he, q0, q1, q2, q3, q4, hr⟩ := H.out.at_l HKW.out k hlt
        have hgw : ∀ x, a = some x → x.block < w.heap.size := fun x hx => H.out.slcl.lt (by rw [hx]; exact vblk_mk (by omega))
        simp only [Value.slice.injEq] at he
        obtain ⟨rfl, -, rfl⟩ := he
        obtain ⟨ak, ck, rfl, -, -⟩ := (Slc.of_row HC.out.row).form
        obtain ⟨p1, i1, d1, p2, i2, d2, rfl, rfl⟩ := hr.sl
        have HR := Lib.hid hr
        have HSK := Lib.hid (HSM.out.kid (mem_l (List.getElem_mem hlt)))
        have HRK := Lib.hid (right_kid HRT.out (mem_l (List.getElem_mem hlt)))
        have hb3 := HC.out.blk
        have f3 := cell_head (o := 3) (v := .slice ak k ck) hb3 rfl
        have hlt3 := HC.out.row.lt
        have hb3l : w.heap.size + 1 + 1 < wr.heap.size := lt_of_block HC.out.blk
        have HLT := Lib.hid hlt3
        have HXG : Hid (g ∉ (Value.slice ak k ck).ownBlock.toList) := Lib.hid (fun hx => by have h1 := (hlt3 _ (Option.mem_toList.1 hx)).1; have h2 := hgw _ rfl; have h3 := HSZ.out; simp only at h2; omega)
        have HXA : Hid (w.heap.size ∉ (Value.slice ak k ck).ownBlock.toList) := Lib.hid (fun hx => by have h1 := (hlt3 _ (Option.mem_toList.1 hx)).1; have h3 := HSZ.out; omega)
        have HXB : Hid (w.heap.size + 1 + 1 ∉ (Value.slice ak k ck).ownBlock.toList) := Lib.hid (fun hx => by have h1 := (hlt3 _ (Option.mem_toList.1 hx)).1; have h3 := HSZ.out; omega)
        clear hr hb3 hlt3 hgw hba
        go_wp2_with fail
        refine wp_region_last' (n := 12) (fun w' : World => Kept (Value.slice ak k ck).ownBlock.toList wr w') 11 (by kernel_rfl) (by kernel_rfl) ?_
        change wpAnyT _ _ _ _ _ _ _ _ _ wr.drew
        have hSS : (fun w' : World => Kept (Value.slice ak k ck).ownBlock.toList wr w') wr.drew := (Kept.refl _ wr).drew
        have HK2 : Hid (Kept [] wr wr.drew) := Lib.hid (Kept.refl [] wr).drew
        revert hSS HK2
        generalize wr.drew = W2
        intro hSS HK2
        refine wpAnyT_start ?_
        intro O R hO hR
        have hQp : ∀ c a (d : Nat) v w, R (.panic c) (a.put (some d) v) w → R (.panic c) a w := by subst hR; exact fun _ _ _ _ _ h => h
        refine wpAnyT_take' (i := 0) (v := ?_) hO rfl rfl (by kernel_rfl) (by kernel_rfl) (by kernel_rfl) (by kernel_rfl) hQp (Or.inl ⟨by kernel_rfl, fun w hSw => ?_⟩) hSS ?_
        rotate_left
        · go_simp; try with_reducible rfl
        try simp only [Act.put, List.setIfInBounds_toArray, List.set_cons_zero, List.set_cons_succ]
        refine wpAnyT_take' (i := 1) (v := ?_) hO rfl rfl (by kernel_rfl) (by kernel_rfl) (by kernel_rfl) (by kernel_rfl) hQp (Or.inl ⟨by kernel_rfl, fun w hSw => ?_⟩) hSS ?_
        rotate_left
        · have s := hSw.cell f3 HXB.out; go_simp; try with_reducible rfl
        try simp only [Act.put, List.setIfInBounds_toArray, List.set_cons_zero, List.set_cons_succ]
        refine wpAnyT_take' (i := 2) (v := ?_) hO rfl rfl (by kernel_rfl) (by kernel_rfl) (by kernel_rfl) (by kernel_rfl) hQp (Or.inl ⟨by kernel_rfl, fun w hSw => ?_⟩) hSS ?_
        rotate_left
        · go_simp; try with_reducible rfl
        try simp only [Act.put, List.setIfInBounds_toArray, List.set_cons_zero, List.set_cons_succ]
        refine wpAnyT_take' (i := 3) (v := ?_) hO rfl rfl (by kernel_rfl) (by kernel_rfl) (by kernel_rfl) (by kernel_rfl) hQp (Or.inl ⟨by kernel_rfl, fun w hSw => ?_⟩) hSS ?_
        rotate_left
        · have s := hSw.cell b3 HXA.out; go_simp; try with_reducible rfl
        try simp only [Act.put, List.setIfInBounds_toArray, List.set_cons_zero, List.set_cons_succ]
        refine wpAnyT_take' (i := 4) (v := ?_) hO rfl rfl (by kernel_rfl) (by kernel_rfl) (by kernel_rfl) (by kernel_rfl) hQp (Or.inl ⟨by kernel_rfl, fun w hSw => ?_⟩) hSS ?_
        rotate_left
        · go_simp; try with_reducible rfl
        try simp only [Act.put, List.setIfInBounds_toArray, List.set_cons_zero, List.set_cons_succ]
        refine wpAnyT_take' (i := 5) (v := ?_) hO rfl rfl (by kernel_rfl) (by kernel_rfl) (by kernel_rfl) (by kernel_rfl) hQp (Or.inl ⟨by kernel_rfl, fun w hSw => ?_⟩) hSS ?_
        rotate_left
        · go_simp; try with_reducible rfl
        try simp only [Act.put, List.setIfInBounds_toArray, List.set_cons_zero, List.set_cons_succ]
        refine wpAnyT_take' (i := 6) (v := ?_) hO rfl rfl (by kernel_rfl) (by kernel_rfl) (by kernel_rfl) (by kernel_rfl) hQp (Or.inl ⟨by kernel_rfl, fun w hSw => ?_⟩) hSS ?_
        rotate_left
        · have s0 := hSw.cell q0 HXG.out; have s1 := hSw.cell q1 HXG.out; have s2 := hSw.cell q2 HXG.out; have s3 := hSw.cell q3 HXG.out; have s4 := hSw.cell q4 HXG.out; go_simp; try with_reducible rfl
        try simp only [Act.put, List.setIfInBounds_toArray, List.set_cons_zero, List.set_cons_succ]
        refine wpAnyT_one' (i := 7) hO rfl (by kernel_rfl) (by kernel_rfl) (fun K hK => ?_)
        go_simp
        refine Calls.mono (IH.out v.l[k] (HR.out.kept0 HK2.out) HSK.out HRK.out) ?_
        rintro e w3 ⟨⟨cs', rfl, hown⟩, hk3⟩
        have hrep := hown.rep
        obtain ⟨k3, m3, s3, l3, r3, rfl⟩ := hrep.five
        obtain ⟨p3, i3, d3, p4, i4, d4, rfl, rfl⟩ := hrep.sl
        have HREP3 := Lib.hid hrep
        have HK3 := Lib.hid (HK2.out.trans' hk3)
        have hS3 : (fun w' : World => Kept (Value.slice ak k ck).ownBlock.toList wr w') w3 := hSS.then hk3
        have hsz3 := hk3.size
        clear hown hrep hk3
        refine hK _ _ (.inr hS3) ?_
        clear hK K
        try simp only [Act.put, List.setIfInBounds_toArray, List.set_cons_zero, List.set_cons_succ]
        clear hSS
        have hSS := hS3
        clear hS3
        refine wpAnyT_one' (i := 8) hO rfl (by kernel_rfl) (by kernel_rfl) (fun K hK => ?_)
        go_simp
        have HK4 := Lib.hid ((Kept.refl [] w3).alloc (.cells #[.int .i64 k3, .int .i64 m3, .string s3, .slice p3 i3 d3, .slice p4 i4 d4] 25))
        have HSRC := Lib.hid (slc_new w3 [.int .i64 k3, .int .i64 m3, .string s3, .slice p3 i3 d3, .slice p4 i4 d4] 5 1 25 w3.heap.size rfl rfl (by decide))
        have hS4 : (fun w' : World => Kept (Value.slice ak k ck).ownBlock.toList wr w') (w3.alloc (.cells #[.int .i64 k3, .int .i64 m3, .string s3, .slice p3 i3 d3, .slice p4 i4 d4] 25)) := hSS.then HK4.out
        have HSZ4 : Hid ((w3.alloc (.cells #[.int .i64 k3, .int .i64 m3, .string s3, .slice p3 i3 d3, .slice p4 i4 d4] 25)).heap.size = w3.heap.size + 1) := Lib.hid (by simp)
        refine hK _ _ (.inr hS4) ?_
        clear hK K
        try simp only [Act.put, List.setIfInBounds_toArray, List.set_cons_zero, List.set_cons_succ]
        clear hSS
        have hSS := hS4
        clear hS4
        revert hSS HK4 HSRC HSZ4
        generalize w3.alloc (.cells #[.int .i64 k3, .int .i64 m3, .string s3, .slice p3 i3 d3, .slice p4 i4 d4] 25) = w4
        intro HK4 HSRC HSZ4 hSS
        have HROW4 := Lib.hid (row_kept HC.out.row (HK3.out.trans' HK4.out) (by simp))
        have HSZ3 := Lib.hid hsz3
        clear hsz3
        refine wpAnyT_one' (i := 9) hO rfl (by kernel_rfl) (by kernel_rfl) (fun K hK => ?_)
        refine oper_append tyVals HROW4.out HSRC.out HREP3.out.one (by simp only [maxLen]; omega) (by omega) (by have h1 := (HK3.out.trans' HK4.out).size; have h2 := HC.out.kept.size; omega) (.tmp 23) (.tmp 30) rfl rfl rfl ?_
        intro b5 d5 w5 hown5 hk5 hg5
        have hS5 : (fun w' : World => Kept (Value.slice ak k ck).ownBlock.toList wr w') w5 := hSS.trans' hk5
        refine hK _ _ (.inr hS5) ?_
        clear hK K
        try simp only [Act.put, List.setIfInBounds_toArray, List.set_cons_zero, List.set_cons_succ]
        clear hSS
        have hSS := hS5
        clear hS5
        have HOWN5 := Lib.hid hown5
        have HK5 := Lib.hid hk5
        have HG5 := Lib.hid hg5
        clear hown5 hk5 hg5
        refine wpAnyT_one' (i := 10) hO rfl (by kernel_rfl) (by kernel_rfl) (fun K hK => ?_)
        go_simp
        refine hK _ _ (.inr hSS) ?_
        clear hK K
        try simp only [Act.put, List.setIfInBounds_toArray, List.set_cons_zero, List.set_cons_succ]
        have HB5 : Hid (w5.heap[w.heap.size + 1 + 1]? = some (.cells (valA v.kind v.num v.s (.slice ak k ck) (.slice none 0 0)) 25 (0, 0))) := Lib.hid (hSS.heap HC.out.blk HXB.out)
        have hc5 := cell_head (o := 3) HB5.out rfl
        have hf5 := free_head (o := 3) HB5.out
        refine wpAnyT_one' (i := 11) hO rfl (by kernel_rfl) (by kernel_rfl) (fun K hK => ?_)
        go_simp
        refine hK _ _ (.inl rfl) ?_
        clear hK K
        try simp only [Act.put, List.setIfInBounds_toArray, List.set_cons_zero, List.set_cons_succ]
        refine wpAnyT_done' hO (by kernel_rfl) ?_ _
        subst hR
        try clear hQp hO O
        clear hc5 hf5 hSS q0 q1 q2 q3 q4 f3 b3
        go_wp2_with fail
        case roundEnd =>
          have hz := HSZ.out
          have hz3 := HSZ3.out
          have hz4 := HSZ4.out
          have hlo := HLT.out
          have KX : Kept ((w.heap.size + 1 + 1) :: (Value.slice ak k ck).ownBlock.toList) w4 (w5.setCell ⟨w.heap.size + 1 + 1, 3, none⟩ (.slice b5 (k + 1) d5)) := (HK5.out.mono (Y := (w.heap.size + 1 + 1) :: (Value.slice ak k ck).ownBlock.toList) (fun i hi => List.mem_cons_of_mem _ hi)).setCell (p := ⟨w.heap.size + 1 + 1, 3, none⟩) (.inl (List.mem_cons_self ..)) _
          have hz5 : ∀ g, (Value.slice b5 (k + 1) d5).ownBlock = some g → (Value.slice ak k ck).ownBlock = some g ∨ g = w4.heap.size := fun g hg => by
            rcases HG5.out with h | h
            · exact .inl (by rw [← h]; exact hg)
            · exact .inr (by rw [hg] at h; exact Option.some.inj h)
          refine ⟨⟨k + 1, _, lk ++ [[.int .i64 k3, .int .i64 m3, .string s3, .slice p3 i3 d3, .slice p4 i4 d4]], by go_num, by omega, {
            blk := block_setCell HB5.out rfl
            row := ?_
            all := ?_
            kept := ?_ }⟩, by simp [intOf]; omega⟩
          · rw [List.flatten_append]
            simp only [List.flatten_cons, List.flatten_nil, List.append_nil]
            exact row_kept HOWN5.out ((Kept.refl [w.heap.size + 1 + 1] w5).setCell (.inl (by simp)) _) (by
              intro g hg hx
              simp at hx
              have := (HOWN5.out.lt g hg).1
              omega)
          · rw [List.take_succ_eq_append_getElem hlt, List.map_append]
            refine All2.snoc (HC.out.all.mono fun c y _ r => r.move ((HK3.out.trans' HK4.out).mono (Y := (w.heap.size + 1 + 1) :: (Value.slice ak k ck).ownBlock.toList) (by simp) |>.trans' KX) ?_) ((HREP3.out).move ((HK4.out.mono (Y := (w.heap.size + 1 + 1) :: (Value.slice ak k ck).ownBlock.toList) (by simp)).trans' KX) ?_)
            · intro g hg ⟨h1, h2⟩
              refine ⟨?_, h1, ?_⟩
              · intro hx
                rcases List.mem_cons.1 hx with rfl | hx
                · omega
                · exact h2 (Option.mem_toList.1 hx)
              · intro h3
                rcases hz5 g h3 with h4 | h4
                · exact h2 h4
                · have := (HK3.out.trans' HK4.out).size; omega
            · intro g hg h1
              have hz0 := HC.out.kept.size
              have hz2 := HK2.out.size
              refine ⟨?_, by omega, ?_⟩
              · intro hx
                rcases List.mem_cons.1 hx with rfl | hx
                · omega
                · have := (hlo g (Option.mem_toList.1 hx)).2; omega
              · intro h3
                rcases hz5 g h3 with h4 | h4
                · have := (hlo g h4).2; omega
                · omega
          · exact ((HC.out.kept.then (HK3.out.trans' HK4.out)).trans HK5.out (fun i hi => .inr (hlo i (Option.mem_toList.1 hi)).1)).setCell (.inl (by simp)) _
      · obtain rfl : k = v.l.length := by omega
        obtain ⟨WL, rfl⟩ : ∃ x, x = wr := ⟨_, rfl⟩
        have HCL := Lib.hid HC.out
        have HKWL := Lib.hid HKW.out
        have HSZL : Hid (w.heap.size + 3 ≤ WL.heap.size) := Lib.hid (by have h1 := HC.out.kept.size; have h2 := HSZ.out; omega)
        have HBL := Lib.hid hba
        obtain ⟨vL, rfl⟩ : ∃ x, x = vk := ⟨_, rfl⟩
        obtain ⟨lL, rfl⟩ : ∃ x, x = lk := ⟨_, rfl⟩
        clear hba
        go_wp2_with fail
        clear b3 HC HKW
        go_loopw [5] (fun i wr => ∃ (k : Nat) (vm : Value) (mc : List (ByteArray × List Value)) (ms : List (ByteArray × V n)), i = .int .i64 k ∧ k ≤ v.m.length ∧ InsM WL (w.heap.size + 1 + 1) v vL k wr vm mc ms) (fun i _ => v.m.length - (intOf i).toNat)
        case atStart =>
          exact ⟨0, .slice none 0 0, [], [], rfl, Nat.zero_le _, {
            blk := HCL.out.blk
            row := World.ownsRow_nil _ _ _ _
            all := All2.nil _
            kept := Kept.refl _ _
            ord := List.Pairwise.nil
            perm := by simp
            lim := rfl }⟩
        case round =>
          obtain ⟨k, vk, mk, ms, rfl, hk, hc⟩ := hrel
          have HC := Lib.hid hc
          have HKW : Hid (Kept [] w wr) := Lib.hid (HKWL.out.trans hc.kept (by intro i hi; simp at hi; subst hi; exact .inr (by omega)))
          have b4 := cell_head (o := 4) (v := .slice b v.m.length e) (HC.out.kept.heap HBL.out (by simp; omega)) rfl
          clear hc
          by_cases hlt : k < v.m.length
          · have hltI : (k : Int) < v.m.length := by omega
            obtain ⟨g, o, cap, kd, nm, st, a1, b1, he, q0, q1, q2, q3, q4, q5, hr⟩ := H.out.at_m HKW.out k hlt
            simp only [Value.slice.injEq] at he
            obtain ⟨rfl, -, rfl⟩ := he
            obtain ⟨ak, ck, rfl, -, -⟩ := (Slc.of_row HC.out.row).form
            obtain ⟨p1, i1, d1, p2, i2, d2, rfl, rfl⟩ := hr.sl
            have HR := Lib.hid hr
            have HSK := Lib.hid (HSM.out.kid (mem_m (List.getElem_mem hlt)))
            have HRK := Lib.hid (right_kid HRT.out (mem_m (List.getElem_mem hlt)))
            have f4 := cell_head (o := 4) (v := .slice ak ms.length ck) HC.out.blk rfl
            generalize hkey : v.m[k].1 = key at q0
            have HKEY := Lib.hid hkey
            have hmsI : (ms.length : Int) ≤ 20000 := by have := HC.out.lim; omega
            clear hr hkey
            obtain ⟨wo, rfl⟩ : ∃ x, x = wr := ⟨_, rfl⟩
            go_upto_block 4 with fail
            go_cut [6] from 43 to 62 (fun q wq => ∃ j : Nat, q = .int .i64 j ∧ j ≤ ms.length ∧ Hid (∀ (t : Nat) (ht : t < ms.length), j ≤ t → ltB key ms[t].1 = true) ∧ Hid (j = 0 ∨ ∃ h : j - 1 < ms.length, ltB key (ms[j - 1]'h).1 = false) ∧ Kept [] wo wq)
            case first =>
              go_wp2_with fail
              go_loopw [6] (fun i wq => ∃ j : Nat, i = .int .i64 j ∧ j ≤ ms.length ∧ (∀ (t : Nat) (ht : t < ms.length), j ≤ t → ltB key ms[t].1 = true) ∧ Kept [] wo wq) (fun i _ => (intOf i).toNat)
              case atStart => exact ⟨ms.length, rfl, Nat.le_refl _, fun t ht h => absurd ht (by omega), Kept.refl _ _⟩
              case round =>
                obtain ⟨j, rfl, hj, hge, hkq⟩ := hrel
                have HGE := Lib.hid hge
                have HKQ := Lib.hid hkq
                clear hge hkq
                have hjI : (j : Int) ≤ ms.length := by omega
                have hcase : j = 0 ∨ (0 < j ∧ ∃ h : j - 1 < ms.length, ltB key (ms[j - 1]'h).1 = false) ∨ (0 < j ∧ ∃ h : j - 1 < ms.length, ltB key (ms[j - 1]'h).1 = true) := by
                  by_cases hz : j = 0
                  · exact .inl hz
                  · cases hb : ltB key (ms[j - 1]'(by omega)).1 with
                    | false => exact .inr (.inl ⟨by omega, by omega, hb⟩)
                    | true => exact .inr (.inr ⟨by omega, by omega, hb⟩)
                rcases hcase with hz | ⟨hp, hx, hb⟩ | ⟨hp, hx, hb⟩
                rotate_left 2
                · have HB : Hid (∀ (t : Nat) (ht : t < ms.length), t = j - 1 → ltB key ms[t].1 = true) := Lib.hid (fun t ht e => by subst e; exact hb)
                  have HP := Lib.hid hp
                  have hz1 : decide (0 < j) = true := decide_eq_true hp
                  have hj1 : j - 1 < ms.length := hx
                  have hl2 : mk.length = ms.length := HC.out.all.1
                  obtain ⟨gm, om, capm, hvm, x0⟩ := slc_six ((Slc.of_row HC.out.row).kept0 HKQ.out) (j := j - 1) (by intro cc hcc; obtain ⟨pq, hpq, rfl⟩ := List.mem_map.1 hcc; obtain ⟨y, -, hy⟩ := HC.out.all.mem_left hpq; simp [pairC, hy.2.len]) (by omega)
                  rw [(HC.out.all.2 (j - 1) _ _ (List.getElem?_eq_getElem (by omega)) (List.getElem?_eq_getElem hx)).1] at x0
                  simp only [Value.slice.injEq] at hvm
                  obtain ⟨hak, -, -⟩ := hvm
                  generalize hmk : (ms[j - 1]).1 = mkey at x0 hb
                  obtain ⟨hb1, hb2⟩ := gtr_yes hb
                  have y0 := ext_cell (HKQ.out.cell q0 (by simp))
                  have y1 := ext_cell (HKQ.out.cell f4 (by simp))
                  rw [hak] at y1
                  have y2 := ext_cell (HKQ.out.cell b4 (by simp))
                  have y3 := ext_cell x0
                  have hj1I : (j : Int) - 1 < ms.length := by omega
                  have hj0I : (1 : Int) ≤ j := by omega
                  have HAK := Lib.hid hak
                  clear hx hmk x0 hl2 hak hp hb
                  go_wp2_with fail
                  refine wp_region_ext wr (by kernel_rfl) (by kernel_rfl) (Kept.refl _ _) ?_
                  repeat go_big_quiet_step (fail)
                  refine wpQuiet_nil ?_
                  intro wq hkq
                  have HKA := Lib.hid (HKQ.out.then hkq)
                  clear hkq hz1 y0 y1 y2 y3 hj1I hj0I hb1 hb2 hj1
                  go_wp2_with fail
                  case roundEnd =>
                    have hp := HP.out
                    exact ⟨⟨j - 1, by rw [Int.ofNat_sub hp]; rfl, by omega, fun t ht h => by
                      by_cases e : t = j - 1
                      · exact HB.out t ht e
                      · exact HGE.out t ht (by omega), HKA.out⟩, by simp [intOf]; omega⟩
                case' inl =>
                    have HST : Hid (j = 0 ∨ ∃ h : j - 1 < ms.length, ltB key (ms[j - 1]'h).1 = false) := Lib.hid (.inl hz)
                    have hz1 : decide (0 < j) = false := decide_eq_false (by omega)
                    clear hz
                    go_wp2_with fail
                    refine wp_region_ext wr (by kernel_rfl) (by kernel_rfl) (Kept.refl _ _) ?_
                    repeat go_big_quiet_step (fail)
                    refine wpQuiet_nil ?_
                    intro wq hkq
                    have HKA := Lib.hid (HKQ.out.then hkq)
                    clear hkq hz1
                    go_wp2_with fail
                case' inr.inl =>
                    have HST : Hid (j = 0 ∨ ∃ h : j - 1 < ms.length, ltB key (ms[j - 1]'h).1 = false) := Lib.hid (.inr ⟨hx, hb⟩)
                    have hz1 : decide (0 < j) = true := decide_eq_true hp
                    have hj1 : j - 1 < ms.length := hx
                    have hl2 : mk.length = ms.length := HC.out.all.1
                    obtain ⟨gm, om, capm, hvm, x0⟩ := slc_six ((Slc.of_row HC.out.row).kept0 HKQ.out) (j := j - 1) (by intro cc hcc; obtain ⟨pq, hpq, rfl⟩ := List.mem_map.1 hcc; obtain ⟨y, -, hy⟩ := HC.out.all.mem_left hpq; simp [pairC, hy.2.len]) (by omega)
                    rw [(HC.out.all.2 (j - 1) _ _ (List.getElem?_eq_getElem (by omega)) (List.getElem?_eq_getElem hx)).1] at x0
                    simp only [Value.slice.injEq] at hvm
                    obtain ⟨hak, -, -⟩ := hvm
                    generalize hmk : (ms[j - 1]).1 = mkey at x0 hb
                    have hb1 := gtr_no hb
                    have y0 := ext_cell (HKQ.out.cell q0 (by simp))
                    have y1 := ext_cell (HKQ.out.cell f4 (by simp))
                    rw [hak] at y1
                    have y2 := ext_cell (HKQ.out.cell b4 (by simp))
                    have y3 := ext_cell x0
                    have hj1I : (j : Int) - 1 < ms.length := by omega
                    have hj0I : (1 : Int) ≤ j := by omega
                    have HAK := Lib.hid hak
                    clear hx hmk x0 hl2 hak hp hb
                    go_wp2_with fail
                    refine wp_region_ext wr (by kernel_rfl) (by kernel_rfl) (Kept.refl _ _) ?_
                    repeat go_big_quiet_step (fail)
                    refine wpQuiet_nil ?_
                    intro wq hkq
                    have HKA := Lib.hid (HKQ.out.then hkq)
                    clear hkq hz1 y0 y1 y2 y3 hj1I hj0I hb1 hj1 HAK
                    go_wp2_with fail
                all_goals
                  go_meet
                  exact ⟨j, rfl, hj, HGE, HST, HKA.out⟩
            case rest =>
              obtain ⟨j, rfl, hj, HGE, HST, hka⟩ := hcut
              obtain ⟨wq, rfl⟩ : ∃ x, x = wc := ⟨_, rfl⟩
              have HKA := Lib.hid hka
              have hjI : (j : Int) ≤ ms.length := by omega
              clear hka
              go_upto_region 12 with fail
              go_cut [7] from 63 to 76 (fun q wd => ∃ (pb : Nat) (k3 m3 : Int) (s3 : ByteArray) (p3 : Option Addr) (i3 d3 : Nat) (p4 : Option Addr) (i4 d4 : Nat), q = .pointer (some ⟨pb, 0, none⟩) ∧ Hid (wd.heap[pb]? = some (.cells #[.string key, .int .i64 k3, .int .i64 m3, .string s3, .slice p3 i3 d3, .slice p4 i4 d4] 60 (0, 0))) ∧ Hid (Kept [] wo wd) ∧ Hid (Rep n (fun g => wo.heap.size ≤ g ∧ g ≠ pb) wd [.int .i64 k3, .int .i64 m3, .string s3, .slice p3 i3 d3, .slice p4 i4 d4] (sortV n v.m[k].2)))
              case first =>
                go_wp2_with fail
                have hba := (HC.out.kept.heap HBL.out (by simp; omega))
                have r0 := HKA.out.cell q0 (by simp)
                have r1 := HKA.out.cell q1 (by simp)
                have r2 := HKA.out.cell q2 (by simp)
                have r3 := HKA.out.cell q3 (by simp)
                have r4 := HKA.out.cell q4 (by simp)
                have r5 := HKA.out.cell q5 (by simp)
                have rb := HKA.out.cell b4 (by simp)
                clear hba
                refine wp_region_last' (n := 16) (fun w' : World => Kept [] wq w') 15 (by kernel_rfl) (by kernel_rfl) ?_
                change wpAnyT _ _ _ _ _ _ _ _ _ wq.drew
                have hSS : (fun w' : World => Kept [] wq w') wq.drew := (Kept.refl [] wq).drew
                revert hSS
                generalize wq.drew = W2
                intro hSS
                refine wpAnyT_start ?_
                intro O R hO hR
                have hQp : ∀ c a (d : Nat) v w, R (.panic c) (a.put (some d) v) w → R (.panic c) a w := by subst hR; exact fun _ _ _ _ _ h => h
                refine wpAnyT_take' (i := 0) (v := ?_) hO rfl rfl (by kernel_rfl) (by kernel_rfl) (by kernel_rfl) (by kernel_rfl) hQp (Or.inl ⟨by kernel_rfl, fun w hSw => ?_⟩) hSS ?_
                rotate_left
                · go_simp; try with_reducible rfl
                try simp only [Act.put, List.setIfInBounds_toArray, List.set_cons_zero, List.set_cons_succ]
                refine wpAnyT_take' (i := 1) (v := ?_) hO rfl rfl (by kernel_rfl) (by kernel_rfl) (by kernel_rfl) (by kernel_rfl) hQp (Or.inl ⟨by kernel_rfl, fun w hSw => ?_⟩) hSS ?_
                rotate_left
                · have s := hSw.cell rb (by simp); go_simp; try with_reducible rfl
                try simp only [Act.put, List.setIfInBounds_toArray, List.set_cons_zero, List.set_cons_succ]
                refine wpAnyT_take' (i := 2) (v := ?_) hO rfl rfl (by kernel_rfl) (by kernel_rfl) (by kernel_rfl) (by kernel_rfl) hQp (Or.inl ⟨by kernel_rfl, fun w hSw => ?_⟩) hSS ?_
                rotate_left
                · go_simp; try with_reducible rfl
                try simp only [Act.put, List.setIfInBounds_toArray, List.set_cons_zero, List.set_cons_succ]
                refine wpAnyT_take' (i := 3) (v := ?_) hO rfl rfl (by kernel_rfl) (by kernel_rfl) (by kernel_rfl) (by kernel_rfl) hQp (Or.inl ⟨by kernel_rfl, fun w hSw => ?_⟩) hSS ?_
                rotate_left
                · go_simp; try with_reducible rfl
                try simp only [Act.put, List.setIfInBounds_toArray, List.set_cons_zero, List.set_cons_succ]
                refine wpAnyT_take' (i := 4) (v := ?_) hO rfl rfl (by kernel_rfl) (by kernel_rfl) (by kernel_rfl) (by kernel_rfl) hQp (Or.inl ⟨by kernel_rfl, fun w hSw => ?_⟩) hSS ?_
                rotate_left
                · go_simp; try with_reducible rfl
                try simp only [Act.put, List.setIfInBounds_toArray, List.set_cons_zero, List.set_cons_succ]
                refine wpAnyT_take' (i := 5) (v := ?_) hO rfl rfl (by kernel_rfl) (by kernel_rfl) (by kernel_rfl) (by kernel_rfl) hQp (Or.inl ⟨by kernel_rfl, fun w hSw => ?_⟩) hSS ?_
                rotate_left
                · have s := hSw.cell r0 (by simp); go_simp; try with_reducible rfl
                try simp only [Act.put, List.setIfInBounds_toArray, List.set_cons_zero, List.set_cons_succ]
                refine wpAnyT_take' (i := 6) (v := ?_) hO rfl rfl (by kernel_rfl) (by kernel_rfl) (by kernel_rfl) (by kernel_rfl) hQp (Or.inl ⟨by kernel_rfl, fun w hSw => ?_⟩) hSS ?_
                rotate_left
                · go_simp; try with_reducible rfl
                try simp only [Act.put, List.setIfInBounds_toArray, List.set_cons_zero, List.set_cons_succ]
                refine wpAnyT_take' (i := 7) (v := ?_) hO rfl rfl (by kernel_rfl) (by kernel_rfl) (by kernel_rfl) (by kernel_rfl) hQp (Or.inl ⟨by kernel_rfl, fun w hSw => ?_⟩) hSS ?_
                rotate_left
                · have s := hSw.cell rb (by simp); go_simp; try with_reducible rfl
                try simp only [Act.put, List.setIfInBounds_toArray, List.set_cons_zero, List.set_cons_succ]
                refine wpAnyT_take' (i := 8) (v := ?_) hO rfl rfl (by kernel_rfl) (by kernel_rfl) (by kernel_rfl) (by kernel_rfl) hQp (Or.inl ⟨by kernel_rfl, fun w hSw => ?_⟩) hSS ?_
                rotate_left
                · go_simp; try with_reducible rfl
                try simp only [Act.put, List.setIfInBounds_toArray, List.set_cons_zero, List.set_cons_succ]
                refine wpAnyT_take' (i := 9) (v := ?_) hO rfl rfl (by kernel_rfl) (by kernel_rfl) (by kernel_rfl) (by kernel_rfl) hQp (Or.inl ⟨by kernel_rfl, fun w hSw => ?_⟩) hSS ?_
                rotate_left
                · go_simp; try with_reducible rfl
                try simp only [Act.put, List.setIfInBounds_toArray, List.set_cons_zero, List.set_cons_succ]
                refine wpAnyT_take' (i := 10) (v := ?_) hO rfl rfl (by kernel_rfl) (by kernel_rfl) (by kernel_rfl) (by kernel_rfl) hQp (Or.inl ⟨by kernel_rfl, fun w hSw => ?_⟩) hSS ?_
                rotate_left
                · go_simp; try with_reducible rfl
                try simp only [Act.put, List.setIfInBounds_toArray, List.set_cons_zero, List.set_cons_succ]
                refine wpAnyT_take' (i := 11) (v := ?_) hO rfl rfl (by kernel_rfl) (by kernel_rfl) (by kernel_rfl) (by kernel_rfl) hQp (Or.inl ⟨by kernel_rfl, fun w hSw => ?_⟩) hSS ?_
                rotate_left
                · have s1 := hSw.cell r1 (by simp); have s2 := hSw.cell r2 (by simp); have s3 := hSw.cell r3 (by simp); have s4 := hSw.cell r4 (by simp); have s5 := hSw.cell r5 (by simp); go_simp; try with_reducible rfl
                try simp only [Act.put, List.setIfInBounds_toArray, List.set_cons_zero, List.set_cons_succ]
                clear r0 r1 r2 r3 r4 r5 rb
                refine wpAnyT_twoB (i := 12) (j := 14) hO rfl rfl (by kernel_rfl) (by kernel_rfl) (by kernel_rfl) (fun K hK => ?_) (fun K hK => ?_)
                case' refine_1 =>
                  go_simp
                  refine Calls.mono (IH.out v.m[k].2 (HR.out.kept0 (HKA.out.then hSS)) HSK.out HRK.out) ?_
                  rintro e w3 ⟨⟨cs', rfl, hown⟩, hk3⟩
                  have hrep := hown.rep
                  obtain ⟨k3, m3, s3, l3, r3, rfl⟩ := hrep.five
                  obtain ⟨p3, i3, d3, p4, i4, d4, rfl, rfl⟩ := hrep.sl
                  have hS3 : (fun w' : World => Kept [] wq w') w3 := hSS.then hk3
                  refine hK _ _ (.inr hS3) ?_
                  clear hK K
                  try simp only [Act.put, List.setIfInBounds_toArray, List.set_cons_zero, List.set_cons_succ]
                  have HSW := Lib.hid hSS.size
                  clear hSS
                  have hSS := hS3
                  refine wpAnyT_take' (i := 13) (v := ?_) hO rfl rfl (by kernel_rfl) (by kernel_rfl) (by kernel_rfl) (by kernel_rfl) hQp (Or.inl ⟨by kernel_rfl, fun w hSw => ?_⟩) hSS ?_
                  rotate_left
                  · go_simp; try with_reducible rfl
                  try simp only [Act.put, List.setIfInBounds_toArray, List.set_cons_zero, List.set_cons_succ]
                  refine wpAnyT_one' (i := 14) hO rfl (by kernel_rfl) (by kernel_rfl) (fun K hK => ?_)
                  go_simp
                  have hS4 : (fun w' : World => Kept [] wq w') (w3.alloc (.cells #[.string ⟨#[]⟩, .int .i64 0, .int .i64 0, .string ⟨#[]⟩, .slice none 0 0, .slice none 0 0] 60)) := hS3.alloc _
                  refine hK _ _ (.inr hS4) ?_
                  clear hK K
                  try simp only [Act.put, List.setIfInBounds_toArray, List.set_cons_zero, List.set_cons_succ]
                  have HB4 : Hid ((w3.alloc (.cells #[.string ⟨#[]⟩, .int .i64 0, .int .i64 0, .string ⟨#[]⟩, .slice none 0 0, .slice none 0 0] 60)).heap[w3.heap.size]? = some (.cells #[.string ⟨#[]⟩, .int .i64 0, .int .i64 0, .string ⟨#[]⟩, .slice none 0 0, .slice none 0 0] 60 (0, 0))) := Lib.hid (block_alloc rfl)
                  have HREP4 : Hid (Rep n (fun g => wq.heap.size ≤ g ∧ g ≠ w3.heap.size) (w3.alloc (.cells #[.string ⟨#[]⟩, .int .i64 0, .int .i64 0, .string ⟨#[]⟩, .slice none 0 0, .slice none 0 0] 60)) [.int .i64 k3, .int .i64 m3, .string s3, .slice p3 i3 d3, .slice p4 i4 d4] (sortV n v.m[k].2)) := Lib.hid (hrep.move ((Kept.refl [] w3).alloc _) (fun g hg h1 => ⟨by simp, by have := HSW.out; omega, by omega⟩))
                  have HPB : Hid (wq.heap.size ≤ w3.heap.size) := Lib.hid hS3.size
                  clear hSS hown hrep hk3 hS3 HSW
                  have hSS := hS4
                  clear hS4
                  revert HB4 HREP4 HPB hSS
                  generalize w3.heap.size = pb
                  generalize w3.alloc (.cells #[.string ⟨#[]⟩, .int .i64 0, .int .i64 0, .string ⟨#[]⟩, .slice none 0 0, .slice none 0 0] 60) = w4
                  intro HB4 HREP4 HPB hSS
                  clear w3
                case' refine_2 =>
                  go_simp
                  have hS4 : (fun w' : World => Kept [] wq w') (W2.alloc (.cells #[.string ⟨#[]⟩, .int .i64 0, .int .i64 0, .string ⟨#[]⟩, .slice none 0 0, .slice none 0 0] 60)) := hSS.alloc _
                  refine hK _ _ (.inr hS4) ?_
                  clear hK K
                  try simp only [Act.put, List.setIfInBounds_toArray, List.set_cons_zero, List.set_cons_succ]
                  have HB3 : Hid ((W2.alloc (.cells #[.string ⟨#[]⟩, .int .i64 0, .int .i64 0, .string ⟨#[]⟩, .slice none 0 0, .slice none 0 0] 60)).heap[W2.heap.size]? = some (.cells #[.string ⟨#[]⟩, .int .i64 0, .int .i64 0, .string ⟨#[]⟩, .slice none 0 0, .slice none 0 0] 60 (0, 0))) := Lib.hid (block_alloc rfl)
                  have HSZ3 : Hid ((W2.alloc (.cells #[.string ⟨#[]⟩, .int .i64 0, .int .i64 0, .string ⟨#[]⟩, .slice none 0 0, .slice none 0 0] 60)).heap.size = W2.heap.size + 1) := Lib.hid (by simp)
                  have HPB : Hid (wq.heap.size ≤ W2.heap.size) := Lib.hid hSS.size
                  clear hSS
                  have hSS := hS4
                  clear hS4
                  revert HB3 HSZ3 HPB hSS
                  generalize W2.heap.size = pb
                  generalize W2.alloc (.cells #[.string ⟨#[]⟩, .int .i64 0, .int .i64 0, .string ⟨#[]⟩, .slice none 0 0, .slice none 0 0] 60) = W3
                  intro HB3 HSZ3 HPB hSS
                  refine wpAnyT_one' (i := 12) hO rfl (by kernel_rfl) (by kernel_rfl) (fun K hK => ?_)
                  go_simp
                  refine Calls.mono (IH.out v.m[k].2 (HR.out.kept0 (HKA.out.then hSS)) HSK.out HRK.out) ?_
                  rintro e w4 ⟨⟨cs', rfl, hown⟩, hk3⟩
                  have hrep := hown.rep
                  obtain ⟨k3, m3, s3, l3, r3, rfl⟩ := hrep.five
                  obtain ⟨p3, i3, d3, p4, i4, d4, rfl, rfl⟩ := hrep.sl
                  have HB4 := Lib.hid (hk3.heap HB3.out (by simp))
                  have HREP4 : Hid (Rep n (fun g => wq.heap.size ≤ g ∧ g ≠ pb) w4 [.int .i64 k3, .int .i64 m3, .string s3, .slice p3 i3 d3, .slice p4 i4 d4] (sortV n v.m[k].2)) := Lib.hid (hrep.mono (fun g hg h1 => by have := HSZ3.out; have := HPB.out; omega))
                  have hS4 : (fun w' : World => Kept [] wq w') w4 := hSS.then hk3
                  refine hK _ _ (.inr hS4) ?_
                  clear hK K
                  try simp only [Act.put, List.setIfInBounds_toArray, List.set_cons_zero, List.set_cons_succ]
                  clear hSS hown hrep hk3 HB3 HSZ3
                  have hSS := hS4
                  clear hS4 W3
                  refine wpAnyT_take' (i := 13) (v := ?_) hO rfl rfl (by kernel_rfl) (by kernel_rfl) (by kernel_rfl) (by kernel_rfl) hQp (Or.inl ⟨by kernel_rfl, fun w hSw => ?_⟩) hSS ?_
                  rotate_left
                  · go_simp; try with_reducible rfl
                  try simp only [Act.put, List.setIfInBounds_toArray, List.set_cons_zero, List.set_cons_succ]
                all_goals
                  clear W2
                  have hc0 := cell_head (o := 0) (v := .string ⟨#[]⟩) HB4.out rfl
                  have hc1 := cell_head (o := 1) (v := .int .i64 0) HB4.out rfl
                  have hc2 := cell_head (o := 2) (v := .int .i64 0) HB4.out rfl
                  have hc3 := cell_head (o := 3) (v := .string ⟨#[]⟩) HB4.out rfl
                  have hc4 := cell_head (o := 4) (v := .slice none 0 0) HB4.out rfl
                  have hc5 := cell_head (o := 5) (v := .slice none 0 0) HB4.out rfl
                  have hf0 := free_head (o := 0) HB4.out
                  have hf1 := free_head (o := 1) HB4.out
                  have hf2 := free_head (o := 2) HB4.out
                  have hf3 := free_head (o := 3) HB4.out
                  have hf4 := free_head (o := 4) HB4.out
                  have hf5 := free_head (o := 5) HB4.out
                  refine wpAnyT_one' (i := 15) hO rfl (by kernel_rfl) (by kernel_rfl) (fun K hK => ?_)
                  go_simp
                  refine hK _ _ (.inl rfl) ?_
                  clear hK K
                  try simp only [Act.put, List.setIfInBounds_toArray, List.set_cons_zero, List.set_cons_succ]
                  refine wpAnyT_done' hO (by kernel_rfl) ?_ _
                  subst hR
                  try clear hQp hO O
                  clear hc0 hc1 hc2 hc3 hc4 hc5 hf0 hf1 hf2 hf3 hf4 hf5
                  have KC : Kept [pb] w4 ((((((w4.setCell ⟨pb, 0, none⟩ (.string key)).setCell ⟨pb, 1, none⟩ (.int .i64 k3)).setCell ⟨pb, 2, none⟩ (.int .i64 m3)).setCell ⟨pb, 3, none⟩ (.string s3)).setCell ⟨pb, 4, none⟩ (.slice p3 i3 d3)).setCell ⟨pb, 5, none⟩ (.slice p4 i4 d4)) := ((((((Kept.refl _ _).setCell (p := ⟨pb, 0, none⟩) (.inl (by simp)) _).setCell (p := ⟨pb, 1, none⟩) (.inl (by simp)) _).setCell (p := ⟨pb, 2, none⟩) (.inl (by simp)) _).setCell (p := ⟨pb, 3, none⟩) (.inl (by simp)) _).setCell (p := ⟨pb, 4, none⟩) (.inl (by simp)) _).setCell (p := ⟨pb, 5, none⟩) (.inl (by simp)) _
                  have HB5 := Lib.hid (block_setCell (v := .slice p4 i4 d4) (i := 5) (block_setCell (v := .slice p3 i3 d3) (i := 4) (block_setCell (v := .string s3) (i := 3) (block_setCell (v := .int .i64 m3) (i := 2) (block_setCell (v := .int .i64 k3) (i := 1) (block_setCell (v := .string key) (i := 0) HB4.out rfl) rfl) rfl) rfl) rfl) rfl)
                  revert KC HB5
                  generalize (((((w4.setCell ⟨pb, 0, none⟩ (.string key)).setCell ⟨pb, 1, none⟩ (.int .i64 k3)).setCell ⟨pb, 2, none⟩ (.int .i64 m3)).setCell ⟨pb, 3, none⟩ (.string s3)).setCell ⟨pb, 4, none⟩ (.slice p3 i3 d3)).setCell ⟨pb, 5, none⟩ (.slice p4 i4 d4) = WC
                  intro KC HB5
                  have HKD : Hid (Kept [] wo WC) := Lib.hid (HKA.out.trans (Kept.trans (X := []) hSS KC (fun i hi => by simp at hi; subst hi; exact .inr HPB.out)) (by simp))
                  have HSQ : Hid (wo.heap.size ≤ wq.heap.size) := Lib.hid HKA.out.size
                  have HREP5 : Hid (Rep n (fun g => wo.heap.size ≤ g ∧ g ≠ pb) WC [.int .i64 k3, .int .i64 m3, .string s3, .slice p3 i3 d3, .slice p4 i4 d4] (sortV n v.m[k].2)) := Lib.hid (HREP4.out.move KC (fun g hg h1 => ⟨by simp; exact h1.2, by have := HSQ.out; omega, h1.2⟩))
                  clear HB4 HREP4 KC hSS w4
                  go_wp2_with fail
                  go_meet
                  exact ⟨pb, k3, m3, s3, p3, i3, d3, p4, i4, d4, rfl, HB5, HKD, HREP5⟩
              case rest =>
                obtain ⟨pb, k3, m3, s3, p3, i3, d3, p4, i4, d4, rfl, HB5, HKD, HREP5⟩ := hcut
                obtain ⟨WC, rfl⟩ : ∃ x, x = wc := ⟨_, rfl⟩
                have x0 := cell_head (o := 0) (v := .string key) HB5.out rfl
                have x1 := cell_head (o := 1) (v := .int .i64 k3) HB5.out rfl
                have x2 := cell_head (o := 2) (v := .int .i64 m3) HB5.out rfl
                have x3 := cell_head (o := 3) (v := .string s3) HB5.out rfl
                have x4 := cell_head (o := 4) (v := .slice p3 i3 d3) HB5.out rfl
                have x5 := cell_head (o := 5) (v := .slice p4 i4 d4) HB5.out rfl
                have xf := HKD.out.cell f4 (by simp)
                have H5M : ∀ p, p ∈ mk → p.2.length = 5 := fun p hp => by obtain ⟨y, -, hy⟩ := HC.out.all.mem_left hp; exact hy.2.len
                obtain ⟨a1, c1, hr1, hs1⟩ := slc_head tyPairs ((Slc.of_row HC.out.row).kept0 HKD.out) j hj
                obtain ⟨a2, c2, hr2, hs2⟩ := slc_tail tyPairs ((Slc.of_row HC.out.row).kept0 HKD.out) j hj
                rw [pairCs_take _ _ H5M] at hs1
                rw [pairCs_drop _ _ H5M] at hs2
                have HS1 := Lib.hid hs1
                have HS2 := Lib.hid hs2
                have HO1 : Hid (∀ u ∈ pairCs (mk.take j), u.oneCell' = true) := Lib.hid (ones_pairs (HC.out.all.take j) (fun c y r => r.one))
                have HO2 : Hid (∀ u ∈ pairCs (mk.drop j), u.oneCell' = true) := Lib.hid (ones_pairs (HC.out.all.drop j) (fun c y r => r.one))
                have hjm : (j : Int) ≤ ms.length := hjI
                clear hs1 hs2 H5M
                go_wp2_with fail
                refine wp_region_last' (n := 16) (fun w' : World => Kept [] WC w') 15 (by kernel_rfl) (by kernel_rfl) ?_
                change wpAnyT _ _ _ _ _ _ _ _ _ WC.drew
                have hSS : (fun w' : World => Kept [] WC w') WC.drew := (Kept.refl [] WC).drew
                revert hSS
                generalize WC.drew = W5
                intro hSS
                refine wpAnyT_start ?_
                intro O R hO hR
                have hQp : ∀ c a (d : Nat) v w, R (.panic c) (a.put (some d) v) w → R (.panic c) a w := by subst hR; exact fun _ _ _ _ _ h => h
                refine wpAnyT_take' (i := 1) (v := ?_) hO rfl rfl (by kernel_rfl) (by kernel_rfl) (by kernel_rfl) (by kernel_rfl) hQp (Or.inl ⟨by kernel_rfl, fun w hSw => ?_⟩) hSS ?_
                rotate_left
                · go_simp; try with_reducible rfl
                try simp only [Act.put, List.setIfInBounds_toArray, List.set_cons_zero, List.set_cons_succ]
                refine wpAnyT_take' (i := 2) (v := ?_) hO rfl rfl (by kernel_rfl) (by kernel_rfl) (by kernel_rfl) (by kernel_rfl) hQp (Or.inl ⟨by kernel_rfl, fun w hSw => ?_⟩) hSS ?_
                rotate_left
                · have s := hSw.cell xf (by simp); go_simp; try with_reducible rfl
                try simp only [Act.put, List.setIfInBounds_toArray, List.set_cons_zero, List.set_cons_succ]
                refine wpAnyT_take' (i := 3) (v := ?_) hO rfl rfl (by kernel_rfl) (by kernel_rfl) (by kernel_rfl) (by kernel_rfl) hQp (Or.inl ⟨by kernel_rfl, fun w hSw => ?_⟩) hSS ?_
                rotate_left
                · go_simp; try with_reducible rfl
                try simp only [Act.put, List.setIfInBounds_toArray, List.set_cons_zero, List.set_cons_succ]
                refine wpAnyT_take' (i := 4) (v := ?_) hO rfl rfl (by kernel_rfl) (by kernel_rfl) (by kernel_rfl) (by kernel_rfl) hQp (Or.inl ⟨by kernel_rfl, fun w hSw => ?_⟩) hSS ?_
                rotate_left
                · go_simp; try with_reducible rfl
                try simp only [Act.put, List.setIfInBounds_toArray, List.set_cons_zero, List.set_cons_succ]
                refine wpAnyT_take' (i := 6) (v := ?_) hO rfl rfl (by kernel_rfl) (by kernel_rfl) (by kernel_rfl) (by kernel_rfl) hQp (Or.inl ⟨by kernel_rfl, fun w hSw => ?_⟩) hSS ?_
                rotate_left
                · have s0 := hSw.cell x0 (by simp); have s1 := hSw.cell x1 (by simp); have s2 := hSw.cell x2 (by simp); have s3 := hSw.cell x3 (by simp); have s4 := hSw.cell x4 (by simp); have s5 := hSw.cell x5 (by simp); go_simp; try with_reducible rfl
                try simp only [Act.put, List.setIfInBounds_toArray, List.set_cons_zero, List.set_cons_succ]
                refine wpAnyT_take' (i := 9) (v := ?_) hO rfl rfl (by kernel_rfl) (by kernel_rfl) (by kernel_rfl) (by kernel_rfl) hQp (Or.inl ⟨by kernel_rfl, fun w hSw => ?_⟩) hSS ?_
                rotate_left
                · go_simp; try with_reducible rfl
                try simp only [Act.put, List.setIfInBounds_toArray, List.set_cons_zero, List.set_cons_succ]
                refine wpAnyT_take' (i := 10) (v := ?_) hO rfl rfl (by kernel_rfl) (by kernel_rfl) (by kernel_rfl) (by kernel_rfl) hQp (Or.inl ⟨by kernel_rfl, fun w hSw => ?_⟩) hSS ?_
                rotate_left
                · have s := hSw.cell xf (by simp); go_simp; try with_reducible rfl
                try simp only [Act.put, List.setIfInBounds_toArray, List.set_cons_zero, List.set_cons_succ]
                refine wpAnyT_take' (i := 11) (v := ?_) hO rfl rfl (by kernel_rfl) (by kernel_rfl) (by kernel_rfl) (by kernel_rfl) hQp (Or.inl ⟨by kernel_rfl, fun w hSw => ?_⟩) hSS ?_
                rotate_left
                · go_simp; try with_reducible rfl
                try simp only [Act.put, List.setIfInBounds_toArray, List.set_cons_zero, List.set_cons_succ]
                refine wpAnyT_take' (i := 12) (v := ?_) hO rfl rfl (by kernel_rfl) (by kernel_rfl) (by kernel_rfl) (by kernel_rfl) hQp (Or.inl ⟨by kernel_rfl, fun w hSw => ?_⟩) hSS ?_
                rotate_left
                · go_simp; try with_reducible rfl
                try simp only [Act.put, List.setIfInBounds_toArray, List.set_cons_zero, List.set_cons_succ]
                clear x0 x1 x2 x3 x4 x5 xf hr1 hr2
                refine wpAnyT_twoB (i := 0) (j := 7) hO rfl rfl (by kernel_rfl) (by kernel_rfl) (by kernel_rfl) (fun K hK => ?_) (fun K hK => ?_)
                case' refine_2 =>
                  go_simp
                  have kA : (fun w' : World => Kept [] WC w') (W5.alloc (.cells #[.string key, .int .i64 k3, .int .i64 m3, .string s3, .slice p3 i3 d3, .slice p4 i4 d4] 60)) := hSS.alloc _
                  have hone := slc_new W5 [.string key, .int .i64 k3, .int .i64 m3, .string s3, .slice p3 i3 d3, .slice p4 i4 d4] 6 1 60 W5.heap.size rfl rfl (by decide)
                  refine hK _ _ (.inr kA) ?_
                  clear hK K
                  try simp only [Act.put, List.setIfInBounds_toArray, List.set_cons_zero, List.set_cons_succ]
                  have HWS := Lib.hid hSS.size
                  clear hSS
                  have hSS := kA
                  refine wpAnyT_one' (i := 0) hO rfl (by kernel_rfl) (by kernel_rfl) (fun K hK => ?_)
                  go_simp
                  have kB : (fun w' : World => Kept [] WC w') ((W5.alloc (.cells #[.string key, .int .i64 k3, .int .i64 m3, .string s3, .slice p3 i3 d3, .slice p4 i4 d4] 60)).alloc (.cells #[] 60)) := kA.alloc _
                  have hown1 := own_new (t := 60) (size := 6) (base := WC.heap.size) (W5.alloc (.cells #[.string key, .int .i64 k3, .int .i64 m3, .string s3, .slice p3 i3 d3, .slice p4 i4 d4] 60)) rfl kA.size
                  have hone2 := hone.kept0 ((Kept.refl [] (W5.alloc (.cells #[.string key, .int .i64 k3, .int .i64 m3, .string s3, .slice p3 i3 d3, .slice p4 i4 d4] 60))).alloc (.cells #[] 60))
                  rw [show (W5.alloc (.cells #[.string key, .int .i64 k3, .int .i64 m3, .string s3, .slice p3 i3 d3, .slice p4 i4 d4] 60)).heap.size = W5.heap.size + 1 by simp] at hown1
                  refine hK _ _ (.inr kB) ?_
                  clear hK K
                  try simp only [Act.put, List.setIfInBounds_toArray, List.set_cons_zero, List.set_cons_succ]
                  clear hSS
                  have hSS := kB
                  refine wpAnyT_one' (i := 5) hO rfl (by kernel_rfl) (by kernel_rfl) (fun K hK => ?_)
                  refine oper_append0 tyPairs hown1 (HS1.out.kept0 kB) HO1.out (by simp only [maxLen]; omega) (by omega) kB.size (.tmp 77) (.tmp 81) rfl rfl rfl ?_
                  intro b1 d1 w2 hown2 hk2 hg2
                  have hS2 : (fun w' : World => Kept [] WC w') w2 := Kept.trans (X := []) kB hk2 (fun i hi => .inr (by have := HWS.out; simp [Value.ownBlock] at hi; omega))
                  have HONE := Lib.hid (hone2.kept hk2 (by intro g hg hx; simp [Value.ownBlock] at hx; simp [vblk] at hg; omega))
                  have HOWN2 := Lib.hid hown2
                  refine hK _ _ (.inr hS2) ?_
                  clear hK K
                  try simp only [Act.put, List.setIfInBounds_toArray, List.set_cons_zero, List.set_cons_succ]
                  clear hSS kA hown1 kB hone hone2 hk2 hg2 hown2 HWS
                  have hSS := hS2
                  clear hS2
                  revert HONE
                  generalize W5.heap.size = G
                  intro HONE
                case' refine_1 =>
                  go_simp
                  have kA : (fun w' : World => Kept [] WC w') (W5.alloc (.cells #[] 60)) := hSS.alloc _
                  have hown0 := own_new (t := 60) (size := 6) (base := WC.heap.size) W5 rfl hSS.size
                  refine hK _ _ (.inr kA) ?_
                  clear hK K
                  try simp only [Act.put, List.setIfInBounds_toArray, List.set_cons_zero, List.set_cons_succ]
                  refine wpAnyT_twoB (i := 5) (j := 7) hO rfl rfl (by kernel_rfl) (by kernel_rfl) (by kernel_rfl) (fun K hK => ?_) (fun K hK => ?_)
                  case' refine_2 =>
                    go_simp
                    have kB : (fun w' : World => Kept [] WC w') ((W5.alloc (.cells #[] 60)).alloc (.cells #[.string key, .int .i64 k3, .int .i64 m3, .string s3, .slice p3 i3 d3, .slice p4 i4 d4] 60)) := kA.alloc _
                    have hone := slc_new (W5.alloc (.cells #[] 60)) [.string key, .int .i64 k3, .int .i64 m3, .string s3, .slice p3 i3 d3, .slice p4 i4 d4] 6 1 60 (W5.heap.size + 1) (by simp) rfl (by decide)
                    have hown1 := row_kept hown0 ((Kept.refl [] (W5.alloc (.cells #[] 60))).alloc (.cells #[.string key, .int .i64 k3, .int .i64 m3, .string s3, .slice p3 i3 d3, .slice p4 i4 d4] 60)) (by simp)
                    refine hK _ _ (.inr kB) ?_
                    clear hK K
                    try simp only [Act.put, List.setIfInBounds_toArray, List.set_cons_zero, List.set_cons_succ]
                    have HWS := Lib.hid hSS.size
                    clear hSS
                    have hSS := kB
                    refine wpAnyT_one' (i := 5) hO rfl (by kernel_rfl) (by kernel_rfl) (fun K hK => ?_)
                    refine oper_append0 tyPairs hown1 (HS1.out.kept0 kB) HO1.out (by simp only [maxLen]; omega) (by omega) kB.size (.tmp 77) (.tmp 81) rfl rfl rfl ?_
                    intro b1 d1 w2 hown2 hk2 hg2
                    have hS2 : (fun w' : World => Kept [] WC w') w2 := Kept.trans (X := []) kB hk2 (fun i hi => .inr (by have := HWS.out; simp [Value.ownBlock] at hi; omega))
                    have HONE := Lib.hid (hone.kept hk2 (by intro g hg hx; simp [Value.ownBlock] at hx; simp [vblk] at hg; omega))
                    have HOWN2 := Lib.hid hown2
                    refine hK _ _ (.inr hS2) ?_
                    clear hK K
                    try simp only [Act.put, List.setIfInBounds_toArray, List.set_cons_zero, List.set_cons_succ]
                    clear hSS kA hown0 hown1 kB hone hk2 hg2 hown2 HWS
                    have hSS := hS2
                    clear hS2
                    revert HONE
                    generalize W5.heap.size + 1 = G
                    intro HONE
                  case' refine_1 =>
                    refine oper_append0 tyPairs hown0 (HS1.out.kept0 kA) HO1.out (by simp only [maxLen]; omega) (by omega) kA.size (.tmp 77) (.tmp 81) rfl rfl rfl ?_
                    intro b1 d1 w1 hown1 hk1 hg1
                    have hS1 : (fun w' : World => Kept [] WC w') w1 := Kept.trans (X := []) kA hk1 (fun i hi => .inr (by have := hSS.size; simp [Value.ownBlock] at hi; omega))
                    refine hK _ _ (.inr hS1) ?_
                    clear hK K
                    try simp only [Act.put, List.setIfInBounds_toArray, List.set_cons_zero, List.set_cons_succ]
                    clear hown0 hk1 hg1 kA hSS
                    have hSS := hS1
                    clear hS1
                    refine wpAnyT_one' (i := 7) hO rfl (by kernel_rfl) (by kernel_rfl) (fun K hK => ?_)
                    go_simp
                    have hS2 : (fun w' : World => Kept [] WC w') (w1.alloc (.cells #[.string key, .int .i64 k3, .int .i64 m3, .string s3, .slice p3 i3 d3, .slice p4 i4 d4] 60)) := hSS.alloc _
                    have HONE := Lib.hid (slc_new w1 [.string key, .int .i64 k3, .int .i64 m3, .string s3, .slice p3 i3 d3, .slice p4 i4 d4] 6 1 60 w1.heap.size rfl rfl (by decide))
                    have HOWN2 := Lib.hid (row_kept hown1 ((Kept.refl [] w1).alloc (.cells #[.string key, .int .i64 k3, .int .i64 m3, .string s3, .slice p3 i3 d3, .slice p4 i4 d4] 60)) (by simp))
                    refine hK _ _ (.inr hS2) ?_
                    clear hK K
                    try simp only [Act.put, List.setIfInBounds_toArray, List.set_cons_zero, List.set_cons_succ]
                    clear hSS hown1
                    have hSS := hS2
                    clear hS2
                    revert HONE HOWN2 hSS
                    generalize w1.heap.size = G
                    generalize w1.alloc (.cells #[.string key, .int .i64 k3, .int .i64 m3, .string s3, .slice p3 i3 d3, .slice p4 i4 d4] 60) = w2
                    intro HONE HOWN2 hSS
                    clear w1
                all_goals
                  refine wpAnyT_one' (i := 8) hO rfl (by kernel_rfl) (by kernel_rfl) (fun K hK => ?_)
                  refine oper_append tyPairs HOWN2.out HONE.out (by intro u hu; rcases List.mem_cons.1 hu with rfl | hu <;> first | rfl | exact HREP5.out.one u hu) (by simp only [maxLen]; omega) (by omega) hSS.size (.tmp 82) (.tmp 84) rfl rfl rfl ?_
                  intro bx dx w3 hown3 hk3 hg3
                  have hlt2 := HOWN2.out.lt
                  have hS3 : (fun w' : World => Kept [] WC w') w3 := Kept.trans (X := []) hSS hk3 (fun i hi => .inr (hlt2 i (Option.mem_toList.1 hi)).1)
                  refine hK _ _ (.inr hS3) ?_
                  clear hK K
                  try simp only [Act.put, List.setIfInBounds_toArray, List.set_cons_zero, List.set_cons_succ]
                  clear hSS hlt2
                  have hSS := hS3
                  clear hS3
                  refine wpAnyT_one' (i := 13) hO rfl (by kernel_rfl) (by kernel_rfl) (fun K hK => ?_)
                  refine oper_append tyPairs hown3 (HS2.out.kept0 hSS) HO2.out (by simp only [maxLen]; omega) (by omega) hSS.size (.tmp 85) (.tmp 89) rfl rfl rfl ?_
                  intro b5 d5 w5 hown5 hk5 hg5
                  have hlt3 := hown3.lt
                  have hS5 : (fun w' : World => Kept [] WC w') w5 := Kept.trans (X := []) hSS hk5 (fun i hi => .inr (hlt3 i (Option.mem_toList.1 hi)).1)
                  refine hK _ _ (.inr hS5) ?_
                  clear hK K
                  try simp only [Act.put, List.setIfInBounds_toArray, List.set_cons_zero, List.set_cons_succ]
                  clear hSS hlt3
                  have hSS := hS5
                  clear hS5
                  refine wpAnyT_one' (i := 14) hO rfl (by kernel_rfl) (by kernel_rfl) (fun K hK => ?_)
                  go_simp
                  refine hK _ _ (.inr hSS) ?_
                  clear hK K
                  try simp only [Act.put, List.setIfInBounds_toArray, List.set_cons_zero, List.set_cons_succ]
                  have HOWN5 := Lib.hid hown5
                  have HKE : Hid (Kept [] wo w5) := Lib.hid (HKD.out.then hSS)
                  have HKF : Hid (Kept [] WC w5) := Lib.hid hSS
                  have HB6 : Hid (w5.heap[w.heap.size + 1 + 1]? = some (.cells (valA v.kind v.num v.s vL (.slice ak ms.length ck)) 25 (0, 0))) := Lib.hid (HKE.out.heap HC.out.blk (by simp))
                  have hc6 := cell_head (o := 4) HB6.out rfl
                  have hf6 := free_head (o := 4) HB6.out
                  refine wpAnyT_one' (i := 15) hO rfl (by kernel_rfl) (by kernel_rfl) (fun K hK => ?_)
                  go_simp
                  refine hK _ _ (.inl rfl) ?_
                  clear hK K
                  try simp only [Act.put, List.setIfInBounds_toArray, List.set_cons_zero, List.set_cons_succ]
                  refine wpAnyT_done' hO (by kernel_rfl) ?_ _
                  subst hR
                  try clear hQp hO O
                  clear hc6 hf6 hSS hown3 hown5 hk3 hk5 hg3 hg5
                  go_wp2_with fail
                  case roundEnd =>
                    have hz := HSZL.out
                    have hzw := HKD.out.size
                    have hlw := HC.out.kept.size
                    have hzf := HKF.out.size
                    have hlo := HC.out.row.lt
                    have hnew := HOWN5.out.lt
                    have e1 : (ms.take j ++ (key, sortV n v.m[k].2) :: ms.drop j).length = j + 1 + (ms.length - j) := by simp; omega
                    have KX : Kept [w.heap.size + 1 + 1] w5 (w5.setCell ⟨w.heap.size + 1 + 1, 4, none⟩ (.slice b5 (j + 1 + (ms.length - j)) d5)) := kept_cell _ _ _ _
                    refine ⟨⟨k + 1, _, mk.take j ++ (key, [.int .i64 k3, .int .i64 m3, .string s3, .slice p3 i3 d3, .slice p4 i4 d4]) :: mk.drop j, ms.take j ++ (key, sortV n v.m[k].2) :: ms.drop j, by go_num, by omega, {
                      blk := block_setCell HB6.out rfl
                      row := ?_
                      all := ?_
                      kept := ?_
                      ord := put_sorted HC.out.ord hj (fun t ht h => HGE.out t ht h) HST.out
                      perm := ?_
                      lim := by rw [e1]; have := HC.out.lim; omega }⟩, by simp [intOf]; omega⟩
                    · rw [e1]
                      have h4 := row_base (row_kept HOWN5.out KX (fun g hg hx => by have := (hnew g hg).1; simp at hx; omega)) (base' := WL.heap.size) (fun g hg => by have := (hnew g hg).1; omega)
                      have e2 : pairCs (mk.take j ++ (key, [.int .i64 k3, .int .i64 m3, .string s3, .slice p3 i3 d3, .slice p4 i4 d4]) :: mk.drop j) = pairCs (mk.take j) ++ [.string key, .int .i64 k3, .int .i64 m3, .string s3, .slice p3 i3 d3, .slice p4 i4 d4] ++ pairCs (mk.drop j) := by simp [pairCs, pairC]
                      rw [e2]
                      exact h4
                    · have hold : ∀ (c : ByteArray × List Value) (y : ByteArray × V n), pairR (Rep n (fun g => WL.heap.size ≤ g ∧ (Value.slice ak ms.length ck).ownBlock ≠ some g) wo) c y → pairR (Rep n (fun g => WL.heap.size ≤ g ∧ (Value.slice b5 (j + 1 + (ms.length - j)) d5).ownBlock ≠ some g) (w5.setCell ⟨w.heap.size + 1 + 1, 4, none⟩ (.slice b5 (j + 1 + (ms.length - j)) d5))) c y := fun c y r =>
                        ⟨r.1, r.2.move ((HKE.out.mono (by simp)).trans' KX) (fun g hg ⟨h1, h2⟩ => ⟨by simp; omega, h1, fun h3 => by have := (hnew g h3).1; omega⟩)⟩
                      refine ((HC.out.all.take j).mono fun c y _ r => hold c y r).app (All2.cons ⟨rfl, ?_⟩ ((HC.out.all.drop j).mono fun c y _ r => hold c y r))
                      exact HREP5.out.move ((HKF.out.mono (by simp)).trans' KX) (fun g hg ⟨h1, h2⟩ => ⟨by simp; omega, by omega, fun h3 => by have := (hnew g h3).1; omega⟩)
                    · exact (HC.out.kept.then HKE.out).trans' KX
                    · rw [List.take_succ_eq_append_getElem hlt, List.map_append]
                      refine (put_perm ms _ j).trans ?_
                      have e3 : pairMap (sortV n) v.m[k] = (key, sortV n v.m[k].2) := by unfold pairMap; rw [HKEY.out]
                      rw [List.map_singleton, e3]
                      exact HC.out.perm.append (List.Perm.refl _)
          · obtain rfl : k = v.m.length := by omega
            have hms : ms = (v.m.map (pairMap (sortV n))).mergeSort leK := by
              have hp := HC.out.perm
              rw [List.take_length] at hp
              have hk : ((v.m.map (pairMap (sortV n))).map (fun p => p.1)).Nodup := by
                rw [List.map_map]
                exact nodup_right HRT.out
              exact sorted_unique (hp.trans (sort_perm v).symm) HC.out.ord (List.pairwise_mergeSort leK_trans leK_total _) ((hp.map _).nodup_iff.2 hk)
            have HMS := Lib.hid hms
            have HML := Lib.hid HC.out.lim
            have hbc := HC.out.blk
            have d0 := cell_head (o := 0) (v := .int .i64 v.kind) hbc rfl
            have d1 := cell_head (o := 1) (v := .int .i64 v.num) hbc rfl
            have d2 := cell_head (o := 2) (v := .string v.s) hbc rfl
            have d3 := cell_head (o := 3) (v := vL) hbc rfl
            have d4 := cell_head (o := 4) (v := vk) hbc rfl
            have hbr := HC.out.kept.heap (HCL.out.kept.heap HBR.out (by simp)) (by simp)
            obtain ⟨aL, cL, rfl, -, -⟩ := (Slc.of_row HCL.out.row).form
            obtain ⟨aM, cM, rfl, -, -⟩ := (Slc.of_row HC.out.row).form
            have r0 := cell_head (o := 0) (v := .int .i64 0) hbr rfl
            have r1 := cell_head (o := 1) (v := .int .i64 0) hbr rfl
            have r2 := cell_head (o := 2) (v := .string ⟨#[]⟩) hbr rfl
            have r3 := cell_head (o := 3) (v := .slice none 0 0) hbr rfl
            have r4 := cell_head (o := 4) (v := .slice none 0 0) hbr rfl
            have s0 := free_head (o := 0) hbr
            have s1 := free_head (o := 1) hbr
            have s2 := free_head (o := 2) hbr
            have s3 := free_head (o := 3) hbr
            have s4 := free_head (o := 4) hbr
            clear hbc hbr hms
            go_wp2_with fail
            have KF : Kept [w.heap.size + 1] wr (((((wr.setCell ⟨w.heap.size + 1, 0, none⟩ (.int .i64 v.kind)).setCell ⟨w.heap.size + 1, 1, none⟩ (.int .i64 v.num)).setCell ⟨w.heap.size + 1, 2, none⟩ (.string v.s)).setCell ⟨w.heap.size + 1, 3, none⟩ (.slice aL v.l.length cL)).setCell ⟨w.heap.size + 1, 4, none⟩ (.slice aM ms.length cM)) :=
              (((((Kept.refl _ _).setCell (p := ⟨w.heap.size + 1, 0, none⟩) (.inl (by simp)) _).setCell (p := ⟨w.heap.size + 1, 1, none⟩) (.inl (by simp)) _).setCell (p := ⟨w.heap.size + 1, 2, none⟩) (.inl (by simp)) _).setCell (p := ⟨w.heap.size + 1, 3, none⟩) (.inl (by simp)) _).setCell (p := ⟨w.heap.size + 1, 4, none⟩) (.inl (by simp)) _
            have hbf := block_setCell (v := .slice aM ms.length cM) (i := 4) (block_setCell (v := .slice aL v.l.length cL) (i := 3) (block_setCell (v := .string v.s) (i := 2) (block_setCell (v := .int .i64 v.num) (i := 1) (block_setCell (v := .int .i64 v.kind) (i := 0) (HC.out.kept.heap (HCL.out.kept.heap HBR.out (by simp)) (by simp)) rfl) rfl) rfl) rfl) rfl
            have x0 := cell_head (o := 0) (v := .int .i64 v.kind) hbf rfl
            have x1 := cell_head (o := 1) (v := .int .i64 v.num) hbf rfl
            have x2 := cell_head (o := 2) (v := .string v.s) hbf rfl
            have x3 := cell_head (o := 3) (v := .slice aL v.l.length cL) hbf rfl
            have x4 := cell_head (o := 4) (v := .slice aM ms.length cM) hbf rfl
            clear hbf d0 d1 d2 d3 d4 r0 r1 r2 r3 r4 s0 s1 s2 s3 s4
            revert KF x0 x1 x2 x3 x4
            generalize ((((wr.setCell ⟨w.heap.size + 1, 0, none⟩ (.int .i64 v.kind)).setCell ⟨w.heap.size + 1, 1, none⟩ (.int .i64 v.num)).setCell ⟨w.heap.size + 1, 2, none⟩ (.string v.s)).setCell ⟨w.heap.size + 1, 3, none⟩ (.slice aL v.l.length cL)).setCell ⟨w.heap.size + 1, 4, none⟩ (.slice aM ms.length cM) = WF
            intro KF x0 x1 x2 x3 x4
            have hzl := HSZL.out
            have hz0 := HSZ.out
            have hLlt := HCL.out.row.lt
            have hMlt := HC.out.row.lt
            have hkl := HC.out.kept.size
            have KLM : Kept [w.heap.size + 1, w.heap.size + 1 + 1] WL WF := (HC.out.kept.mono (by simp)).trans' (KF.mono (by simp))
            refine bodyPost_ret (v := .agg #[.int .i64 v.kind, .int .i64 v.num, .string v.s, .slice aL v.l.length cL, .slice aM ms.length cM]) (by simp [results, Tryz.results19, go_sem, x0, x1, x2, x3, x4]) rfl ⟨⟨[.int .i64 v.kind, .int .i64 v.num, .string v.s, .slice aL v.l.length cL, .slice aM ms.length cM], rfl, ?_⟩, ?_⟩
            · rw [sortV_eq, ← HMS.out]
              refine ⟨_, _, lL, mk, rfl, ?_, ?_, ?_, ?_, H.out.wfk, H.out.wfn⟩
              · simp only [List.length_map]
                exact row_base (row_kept HCL.out.row KLM (fun g hg hx => by have := hLlt g hg; simp at hx; omega)) (fun g hg => by have := hLlt g hg; omega)
              · have h1 := HCL.out.all
                rw [List.take_length] at h1
                exact h1.mono fun _ _ _ r => r.move KLM (fun g hg ⟨h2, h3⟩ => ⟨by simp; omega, by omega, h3, fun h4 => by have := (hMlt g h4).1; omega⟩)
              · exact row_base (row_kept HC.out.row KF (fun g hg hx => by have := hMlt g hg; simp at hx; omega)) (fun g hg => by have := hMlt g hg; omega)
              · exact HC.out.all.mono fun _ _ _ r => ⟨r.1, r.2.move KF (fun g hg ⟨h2, h3⟩ => ⟨by simp; omega, by omega, fun h4 => by have := (hLlt g h4).2; omega, h3⟩)⟩
            · exact HKWL.out.trans KLM (fun i hi => by simp at hi; omega)
theorem refSort_any : ∀ (n : Nat), RefSortKnown n
  | 0 => fun v => nomatch v
  | n + 1 => fun v _ _ _ h hs hr => refSort_step (refSort_any n) v h hs hr
end Go.Proofs.YtpbphdkjjoipnaaGreatDoor
namespace Go.Proofs.YtpbphdkjjoipnaaGreatDoor
open Go.RowKit
section
variable {n : Nat} {va vb : V n} {S T : Nat → Prop} {w : World} {ca cb : List Value}
set_option maxRecDepth 10000 in
set_option maxHeartbeats 6400000 in
theorem refSame_any (h : Rep n S w ca va) (h' : Rep n T w cb vb) (hs : Small n va) (hs' : Small n vb) (hn : n ≤ 100) :
    Calls Tryz.prog 21 #[.agg ca.toArray, .agg cb.toArray] w fun e w' => e = .returned (.bool (sameV n va vb)) ∧ Kept [] w w' := by
  obtain ⟨kd, nm, st, a, la, ea, b, lb, eb, rfl⟩ := h.conv
  obtain ⟨kd', nm', st', a', la', ea', b', lb', eb', rfl⟩ := h'.conv
  obtain ⟨W0, HW0⟩ : ∃ W0, Hid (W0 = (w.alloc (.cells #[.int .i64 kd, .int .i64 nm, .string st, .slice a la ea, .slice b lb eb] 25)).alloc (.cells #[.int .i64 kd', .int .i64 nm', .string st', .slice a' la' ea', .slice b' lb' eb'] 25)) := ⟨_, Lib.hid rfl⟩
  have HK0 : Hid (Kept [] w W0) := Lib.hid (by rw [HW0.out]; exact ((Kept.refl [] w).alloc _).alloc _)
  have hA : BoxAt W0 w.heap.size kd nm st (.slice a la ea) (.slice b lb eb) := by rw [HW0.out]; exact (box_at _ _ _ _ _ _ _).kept0 ((Kept.refl [] _).alloc _)
  have hB : BoxAt W0 (w.heap.size + 1) kd' nm' st' (.slice a' la' ea') (.slice b' lb' eb') := by rw [HW0.out]; exact box_at' (by simp) _ _ _ _ _ _
  have CA : Hid (∀ w1, Kept [] W0 w1 → _) := Lib.hid (fun w1 (k : Kept [] W0 w1) => refCheck_any ((h.kept0 HK0.out).kept0 k) hs hn)
  have CB : Hid (∀ w1, Kept [] W0 w1 → _) := Lib.hid (fun w1 (k : Kept [] W0 w1) => refCheck_any ((h'.kept0 HK0.out).kept0 k) hs' hn)
  have SA : Hid (∀ w1, Kept [] W0 w1 → rightV n va = true → _) := Lib.hid (fun w1 (k : Kept [] W0 w1) (hr : rightV n va = true) => refSort_any n va ((h.kept0 HK0.out).kept0 k) hs hr)
  have SB : Hid (∀ w1, Kept [] W0 w1 → rightV n vb = true → _) := Lib.hid (fun w1 (k : Kept [] W0 w1) (hr : rightV n vb = true) => refSort_any n vb ((h'.kept0 HK0.out).kept0 k) hs' hr)
  have HSM := Lib.hid (small_sort hs)
  obtain ⟨a0, a1, a2, a3, a4⟩ := hA
  obtain ⟨b0, b1, b2, b3, b4⟩ := hB
  clear h h' hs hs'
  go_enter Tryz.func21, Tryz.ntmps21
  go_wp2_with fail
  rw [← HW0.out]
  refine wp_region_last' (n := 16) (fun w' : World => Kept [] W0 w') 16 (by kernel_rfl) (by kernel_rfl) ?_
  change wpAnyT _ _ _ _ _ _ _ _ _ W0.drew
  have hSS : (fun w' : World => Kept [] W0 w') W0.drew := (Kept.refl [] W0).drew
  revert hSS
  generalize W0.drew = W1
  intro hSS
  refine wpAnyT_start ?_
  intro O R hO hR
  have hQp : ∀ c a (d : Nat) v w, R (.panic c) (a.put (some d) v) w → R (.panic c) a w := by subst hR; exact fun _ _ _ _ _ h => h
  refine wpAnyT_take' (i := 0) (v := ?_) hO rfl rfl (by kernel_rfl) (by kernel_rfl) (by kernel_rfl) (by kernel_rfl) hQp (Or.inl ⟨by kernel_rfl, fun w hSw => ?_⟩) hSS ?_
  rotate_left
  · have s0 := hSw.cell a0 (by simp); have s1 := hSw.cell a1 (by simp); have s2 := hSw.cell a2 (by simp); have s3 := hSw.cell a3 (by simp); have s4 := hSw.cell a4 (by simp); go_simp; try with_reducible rfl
  try simp only [Act.put, List.setIfInBounds_toArray, List.set_cons_zero, List.set_cons_succ]
  refine wpAnyT_one' (i := 1) hO rfl (by kernel_rfl) (by kernel_rfl) (fun K hK => ?_)
  go_simp
  refine Calls.mono (CA.out _ hSS) ?_
  rintro e w1 ⟨rfl, hk1⟩
  have hS1 : (fun w' : World => Kept [] W0 w') w1 := hSS.then hk1
  refine hK _ _ (.inr hS1) ?_
  clear hK K
  try simp only [Act.put, List.setIfInBounds_toArray, List.set_cons_zero, List.set_cons_succ]
  clear hSS hk1
  by_cases hca : checkV n va = 0
  rotate_left
  · have HR := Lib.hid (same_a (b := vb) hca)
    obtain ⟨f1, f2⟩ := int_ne hca
    clear hca
    have hSS := hS1
    refine wpAnyT_take' (i := 2) (v := ?_) hO rfl rfl (by kernel_rfl) (by kernel_rfl) (by kernel_rfl) (by kernel_rfl) hQp (Or.inl ⟨by kernel_rfl, fun w hSw => ?_⟩) hSS ?_
    rotate_left
    · go_simp; try with_reducible rfl
    try simp only [Act.put, List.setIfInBounds_toArray, List.set_cons_zero, List.set_cons_succ]
    refine wpAnyT_take' (i := 3) (v := ?_) hO rfl rfl (by kernel_rfl) (by kernel_rfl) (by kernel_rfl) (by kernel_rfl) hQp (Or.inl ⟨by kernel_rfl, fun w hSw => ?_⟩) hSS ?_
    rotate_left
    · go_simp; try with_reducible rfl
    try simp only [Act.put, List.setIfInBounds_toArray, List.set_cons_zero, List.set_cons_succ]
    refine wpAnyT_take' (i := 4) (v := undef) hO rfl rfl (by kernel_rfl) (by kernel_rfl) (by kernel_rfl) (by kernel_rfl) hQp (Or.inr ⟨by kernel_rfl, rfl⟩) hSS ?_
    try simp only [Act.put, List.setIfInBounds_toArray, List.set_cons_zero, List.set_cons_succ]
    refine wpAnyT_take' (i := 5) (v := undef) hO rfl rfl (by kernel_rfl) (by kernel_rfl) (by kernel_rfl) (by kernel_rfl) hQp (Or.inr ⟨by kernel_rfl, rfl⟩) hSS ?_
    try simp only [Act.put, List.setIfInBounds_toArray, List.set_cons_zero, List.set_cons_succ]
    refine wpAnyT_take' (i := 6) (v := undef) hO rfl rfl (by kernel_rfl) (by kernel_rfl) (by kernel_rfl) (by kernel_rfl) hQp (Or.inr ⟨by kernel_rfl, rfl⟩) hSS ?_
    try simp only [Act.put, List.setIfInBounds_toArray, List.set_cons_zero, List.set_cons_succ]
    refine wpAnyT_take' (i := 7) (v := ?_) hO rfl rfl (by kernel_rfl) (by kernel_rfl) (by kernel_rfl) (by kernel_rfl) hQp (Or.inl ⟨by kernel_rfl, fun w hSw => ?_⟩) hSS ?_
    rotate_left
    · go_simp; try with_reducible rfl
    try simp only [Act.put, List.setIfInBounds_toArray, List.set_cons_zero, List.set_cons_succ]
    refine wpAnyT_take' (i := 8) (v := ?_) hO rfl rfl (by kernel_rfl) (by kernel_rfl) (by kernel_rfl) (by kernel_rfl) hQp (Or.inl ⟨by kernel_rfl, fun w hSw => ?_⟩) hSS ?_
    rotate_left
    · go_simp; try with_reducible rfl
    try simp only [Act.put, List.setIfInBounds_toArray, List.set_cons_zero, List.set_cons_succ]
    refine wpAnyT_take' (i := 9) (v := undef) hO rfl rfl (by kernel_rfl) (by kernel_rfl) (by kernel_rfl) (by kernel_rfl) hQp (Or.inr ⟨by kernel_rfl, rfl⟩) hSS ?_
    try simp only [Act.put, List.setIfInBounds_toArray, List.set_cons_zero, List.set_cons_succ]
    refine wpAnyT_take' (i := 10) (v := undef) hO rfl rfl (by kernel_rfl) (by kernel_rfl) (by kernel_rfl) (by kernel_rfl) hQp (Or.inr ⟨by kernel_rfl, rfl⟩) hSS ?_
    try simp only [Act.put, List.setIfInBounds_toArray, List.set_cons_zero, List.set_cons_succ]
    refine wpAnyT_take' (i := 11) (v := undef) hO rfl rfl (by kernel_rfl) (by kernel_rfl) (by kernel_rfl) (by kernel_rfl) hQp (Or.inr ⟨by kernel_rfl, rfl⟩) hSS ?_
    try simp only [Act.put, List.setIfInBounds_toArray, List.set_cons_zero, List.set_cons_succ]
    refine wpAnyT_take' (i := 12) (v := undef) hO rfl rfl (by kernel_rfl) (by kernel_rfl) (by kernel_rfl) (by kernel_rfl) hQp (Or.inr ⟨by kernel_rfl, rfl⟩) hSS ?_
    try simp only [Act.put, List.setIfInBounds_toArray, List.set_cons_zero, List.set_cons_succ]
    refine wpAnyT_take' (i := 13) (v := undef) hO rfl rfl (by kernel_rfl) (by kernel_rfl) (by kernel_rfl) (by kernel_rfl) hQp (Or.inr ⟨by kernel_rfl, rfl⟩) hSS ?_
    try simp only [Act.put, List.setIfInBounds_toArray, List.set_cons_zero, List.set_cons_succ]
    refine wpAnyT_take' (i := 14) (v := ?_) hO rfl rfl (by kernel_rfl) (by kernel_rfl) (by kernel_rfl) (by kernel_rfl) hQp (Or.inl ⟨by kernel_rfl, fun w hSw => ?_⟩) hSS ?_
    rotate_left
    · go_simp; try with_reducible rfl
    try simp only [Act.put, List.setIfInBounds_toArray, List.set_cons_zero, List.set_cons_succ]
    refine wpAnyT_take' (i := 15) (v := ?_) hO rfl rfl (by kernel_rfl) (by kernel_rfl) (by kernel_rfl) (by kernel_rfl) hQp (Or.inl ⟨by kernel_rfl, fun w hSw => ?_⟩) hSS ?_
    rotate_left
    · go_simp; try with_reducible rfl
    try simp only [Act.put, List.setIfInBounds_toArray, List.set_cons_zero, List.set_cons_succ]
    refine wpAnyT_done' hO (by kernel_rfl) ?_ _
    subst hR
    try clear hQp hO O
    clear f1 f2
    go_wp2_with fail
    go_ret
    rw [HR.out]
    exact ⟨rfl, HK0.out.then hS1⟩
  have HCA := Lib.hid hca
  rw [hca]
  clear hca
  have hSS := hS1
  clear hS1
  refine wpAnyT_take' (i := 2) (v := ?_) hO rfl rfl (by kernel_rfl) (by kernel_rfl) (by kernel_rfl) (by kernel_rfl) hQp (Or.inl ⟨by kernel_rfl, fun w hSw => ?_⟩) hSS ?_
  rotate_left
  · go_simp; try with_reducible rfl
  try simp only [Act.put, List.setIfInBounds_toArray, List.set_cons_zero, List.set_cons_succ]
  refine wpAnyT_take' (i := 3) (v := ?_) hO rfl rfl (by kernel_rfl) (by kernel_rfl) (by kernel_rfl) (by kernel_rfl) hQp (Or.inl ⟨by kernel_rfl, fun w hSw => ?_⟩) hSS ?_
  rotate_left
  · go_simp; try with_reducible rfl
  try simp only [Act.put, List.setIfInBounds_toArray, List.set_cons_zero, List.set_cons_succ]
  refine wpAnyT_take' (i := 4) (v := ?_) hO rfl rfl (by kernel_rfl) (by kernel_rfl) (by kernel_rfl) (by kernel_rfl) hQp (Or.inl ⟨by kernel_rfl, fun w hSw => ?_⟩) hSS ?_
  rotate_left
  · have s0 := hSw.cell b0 (by simp); have s1 := hSw.cell b1 (by simp); have s2 := hSw.cell b2 (by simp); have s3 := hSw.cell b3 (by simp); have s4 := hSw.cell b4 (by simp); go_simp; try with_reducible rfl
  try simp only [Act.put, List.setIfInBounds_toArray, List.set_cons_zero, List.set_cons_succ]
  refine wpAnyT_one' (i := 5) hO rfl (by kernel_rfl) (by kernel_rfl) (fun K hK => ?_)
  go_simp
  refine Calls.mono (CB.out _ hSS) ?_
  rintro e w2 ⟨rfl, hk2⟩
  have hS1 : (fun w' : World => Kept [] W0 w') w2 := hSS.then hk2
  refine hK _ _ (.inr hS1) ?_
  clear hK K
  try simp only [Act.put, List.setIfInBounds_toArray, List.set_cons_zero, List.set_cons_succ]
  clear hSS hk2
  by_cases hcb : checkV n vb = 0
  rotate_left
  · have HR := Lib.hid (same_b (a := va) hcb)
    obtain ⟨f1, f2⟩ := int_ne hcb
    clear hcb
    have hSS := hS1
    refine wpAnyT_take' (i := 6) (v := ?_) hO rfl rfl (by kernel_rfl) (by kernel_rfl) (by kernel_rfl) (by kernel_rfl) hQp (Or.inl ⟨by kernel_rfl, fun w hSw => ?_⟩) hSS ?_
    rotate_left
    · go_simp; try with_reducible rfl
    try simp only [Act.put, List.setIfInBounds_toArray, List.set_cons_zero, List.set_cons_succ]
    refine wpAnyT_take' (i := 7) (v := ?_) hO rfl rfl (by kernel_rfl) (by kernel_rfl) (by kernel_rfl) (by kernel_rfl) hQp (Or.inl ⟨by kernel_rfl, fun w hSw => ?_⟩) hSS ?_
    rotate_left
    · go_simp; try with_reducible rfl
    try simp only [Act.put, List.setIfInBounds_toArray, List.set_cons_zero, List.set_cons_succ]
    refine wpAnyT_take' (i := 8) (v := ?_) hO rfl rfl (by kernel_rfl) (by kernel_rfl) (by kernel_rfl) (by kernel_rfl) hQp (Or.inl ⟨by kernel_rfl, fun w hSw => ?_⟩) hSS ?_
    rotate_left
    · go_simp; try with_reducible rfl
    try simp only [Act.put, List.setIfInBounds_toArray, List.set_cons_zero, List.set_cons_succ]
    refine wpAnyT_take' (i := 9) (v := undef) hO rfl rfl (by kernel_rfl) (by kernel_rfl) (by kernel_rfl) (by kernel_rfl) hQp (Or.inr ⟨by kernel_rfl, rfl⟩) hSS ?_
    try simp only [Act.put, List.setIfInBounds_toArray, List.set_cons_zero, List.set_cons_succ]
    refine wpAnyT_take' (i := 10) (v := undef) hO rfl rfl (by kernel_rfl) (by kernel_rfl) (by kernel_rfl) (by kernel_rfl) hQp (Or.inr ⟨by kernel_rfl, rfl⟩) hSS ?_
    try simp only [Act.put, List.setIfInBounds_toArray, List.set_cons_zero, List.set_cons_succ]
    refine wpAnyT_take' (i := 11) (v := undef) hO rfl rfl (by kernel_rfl) (by kernel_rfl) (by kernel_rfl) (by kernel_rfl) hQp (Or.inr ⟨by kernel_rfl, rfl⟩) hSS ?_
    try simp only [Act.put, List.setIfInBounds_toArray, List.set_cons_zero, List.set_cons_succ]
    refine wpAnyT_take' (i := 12) (v := undef) hO rfl rfl (by kernel_rfl) (by kernel_rfl) (by kernel_rfl) (by kernel_rfl) hQp (Or.inr ⟨by kernel_rfl, rfl⟩) hSS ?_
    try simp only [Act.put, List.setIfInBounds_toArray, List.set_cons_zero, List.set_cons_succ]
    refine wpAnyT_take' (i := 13) (v := undef) hO rfl rfl (by kernel_rfl) (by kernel_rfl) (by kernel_rfl) (by kernel_rfl) hQp (Or.inr ⟨by kernel_rfl, rfl⟩) hSS ?_
    try simp only [Act.put, List.setIfInBounds_toArray, List.set_cons_zero, List.set_cons_succ]
    refine wpAnyT_take' (i := 14) (v := ?_) hO rfl rfl (by kernel_rfl) (by kernel_rfl) (by kernel_rfl) (by kernel_rfl) hQp (Or.inl ⟨by kernel_rfl, fun w hSw => ?_⟩) hSS ?_
    rotate_left
    · go_simp; try with_reducible rfl
    try simp only [Act.put, List.setIfInBounds_toArray, List.set_cons_zero, List.set_cons_succ]
    refine wpAnyT_take' (i := 15) (v := ?_) hO rfl rfl (by kernel_rfl) (by kernel_rfl) (by kernel_rfl) (by kernel_rfl) hQp (Or.inl ⟨by kernel_rfl, fun w hSw => ?_⟩) hSS ?_
    rotate_left
    · go_simp; try with_reducible rfl
    try simp only [Act.put, List.setIfInBounds_toArray, List.set_cons_zero, List.set_cons_succ]
    refine wpAnyT_done' hO (by kernel_rfl) ?_ _
    subst hR
    try clear hQp hO O
    clear f1 f2
    go_wp2_with fail
    go_ret
    rw [HR.out]
    exact ⟨rfl, HK0.out.then hS1⟩
  have HR := Lib.hid (same_c HCA.out hcb)
  have HCB := Lib.hid hcb
  rw [hcb]
  clear hcb
  have hSS := hS1
  clear hS1
  refine wpAnyT_take' (i := 6) (v := ?_) hO rfl rfl (by kernel_rfl) (by kernel_rfl) (by kernel_rfl) (by kernel_rfl) hQp (Or.inl ⟨by kernel_rfl, fun w hSw => ?_⟩) hSS ?_
  rotate_left
  · go_simp; try with_reducible rfl
  try simp only [Act.put, List.setIfInBounds_toArray, List.set_cons_zero, List.set_cons_succ]
  refine wpAnyT_take' (i := 7) (v := ?_) hO rfl rfl (by kernel_rfl) (by kernel_rfl) (by kernel_rfl) (by kernel_rfl) hQp (Or.inl ⟨by kernel_rfl, fun w hSw => ?_⟩) hSS ?_
  rotate_left
  · go_simp; try with_reducible rfl
  try simp only [Act.put, List.setIfInBounds_toArray, List.set_cons_zero, List.set_cons_succ]
  refine wpAnyT_take' (i := 8) (v := ?_) hO rfl rfl (by kernel_rfl) (by kernel_rfl) (by kernel_rfl) (by kernel_rfl) hQp (Or.inl ⟨by kernel_rfl, fun w hSw => ?_⟩) hSS ?_
  rotate_left
  · go_simp; try with_reducible rfl
  try simp only [Act.put, List.setIfInBounds_toArray, List.set_cons_zero, List.set_cons_succ]
  refine wpAnyT_take' (i := 9) (v := ?_) hO rfl rfl (by kernel_rfl) (by kernel_rfl) (by kernel_rfl) (by kernel_rfl) hQp (Or.inl ⟨by kernel_rfl, fun w hSw => ?_⟩) hSS ?_
  rotate_left
  · have s0 := hSw.cell a0 (by simp); have s1 := hSw.cell a1 (by simp); have s2 := hSw.cell a2 (by simp); have s3 := hSw.cell a3 (by simp); have s4 := hSw.cell a4 (by simp); go_simp; try with_reducible rfl
  try simp only [Act.put, List.setIfInBounds_toArray, List.set_cons_zero, List.set_cons_succ]
  refine wpAnyT_take' (i := 11) (v := ?_) hO rfl rfl (by kernel_rfl) (by kernel_rfl) (by kernel_rfl) (by kernel_rfl) hQp (Or.inl ⟨by kernel_rfl, fun w hSw => ?_⟩) hSS ?_
  rotate_left
  · have s0 := hSw.cell b0 (by simp); have s1 := hSw.cell b1 (by simp); have s2 := hSw.cell b2 (by simp); have s3 := hSw.cell b3 (by simp); have s4 := hSw.cell b4 (by simp); go_simp; try with_reducible rfl
  try simp only [Act.put, List.setIfInBounds_toArray, List.set_cons_zero, List.set_cons_succ]
  refine wpAnyT_one' (i := 10) hO rfl (by kernel_rfl) (by kernel_rfl) (fun K hK => ?_)
  go_simp
  refine Calls.mono (SA.out _ hSS (check_right HCA.out)) ?_
  rintro e w3 ⟨⟨cs3, rfl, ho3⟩, hk3⟩
  obtain ⟨k3, m3, s3, p3, i3, c3, q3, j3, d3, rfl⟩ := ho3.said
  have HO3 := Lib.hid ho3
  have hS1 : (fun w' : World => Kept [] W0 w') w3 := hSS.then hk3
  refine hK _ _ (.inr hS1) ?_
  clear hK K
  try simp only [Act.put, List.setIfInBounds_toArray, List.set_cons_zero, List.set_cons_succ]
  clear hSS hk3 ho3
  have hSS := hS1
  clear hS1
  refine wpAnyT_one' (i := 12) hO rfl (by kernel_rfl) (by kernel_rfl) (fun K hK => ?_)
  go_simp
  refine Calls.mono (SB.out _ hSS (check_right HCB.out)) ?_
  rintro e w4 ⟨⟨cs4, rfl, ho4⟩, hk4⟩
  obtain ⟨k4, m4, s4, p4, i4, c4, q4, j4, d4, rfl⟩ := ho4.said
  have CE := Lib.hid (exact_any n (sortV n va) (sortV n vb) (HO3.out.rep.kept0 hk4) ho4.rep HSM.out)
  have hS1 : (fun w' : World => Kept [] W0 w') w4 := hSS.then hk4
  refine hK _ _ (.inr hS1) ?_
  clear hK K
  try simp only [Act.put, List.setIfInBounds_toArray, List.set_cons_zero, List.set_cons_succ]
  clear hSS hk4 ho4
  have hSS := hS1
  clear hS1
  refine wpAnyT_one' (i := 13) hO rfl (by kernel_rfl) (by kernel_rfl) (fun K hK => ?_)
  go_simp
  refine Calls.mono CE.out ?_
  rintro e w5 ⟨rfl, hk5⟩
  have hS1 : (fun w' : World => Kept [] W0 w') w5 := hSS.then hk5
  refine hK _ _ (.inr hS1) ?_
  clear hK K
  try simp only [Act.put, List.setIfInBounds_toArray, List.set_cons_zero, List.set_cons_succ]
  clear hSS hk5
  have hSS := hS1
  refine wpAnyT_take' (i := 14) (v := ?_) hO rfl rfl (by kernel_rfl) (by kernel_rfl) (by kernel_rfl) (by kernel_rfl) hQp (Or.inl ⟨by kernel_rfl, fun w hSw => ?_⟩) hSS ?_
  rotate_left
  · go_simp; try with_reducible rfl
  try simp only [Act.put, List.setIfInBounds_toArray, List.set_cons_zero, List.set_cons_succ]
  refine wpAnyT_take' (i := 15) (v := ?_) hO rfl rfl (by kernel_rfl) (by kernel_rfl) (by kernel_rfl) (by kernel_rfl) hQp (Or.inl ⟨by kernel_rfl, fun w hSw => ?_⟩) hSS ?_
  rotate_left
  · go_simp; try with_reducible rfl
  try simp only [Act.put, List.setIfInBounds_toArray, List.set_cons_zero, List.set_cons_succ]
  refine wpAnyT_done' hO (by kernel_rfl) ?_ _
  subst hR
  try clear hQp hO O
  go_wp2_with fail
  go_ret
  rw [HR.out]
  exact ⟨rfl, HK0.out.then hS1⟩
end
end Go.Proofs.YtpbphdkjjoipnaaGreatDoor
namespace Go.Proofs.YtpbphdkjjoipnaaGreatDoor
open Go.RowKit
end Go.Proofs.YtpbphdkjjoipnaaGreatDoor
namespace Go.Proofs.YtpbphdkjjoipnaaGreatDoor
open Go.RowKit
end Go.Proofs.YtpbphdkjjoipnaaGreatDoor
namespace Go.Proofs.YtpbphdkjjoipnaaGreatDoor
open Go.RowKit
section
variable {n : Nat} {v : V n} {S : Nat → Prop} {w : World} {cs : List Value}
end
end Go.Proofs.YtpbphdkjjoipnaaGreatDoor

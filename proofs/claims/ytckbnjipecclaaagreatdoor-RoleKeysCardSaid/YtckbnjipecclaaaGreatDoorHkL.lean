/- Parts of one proof, merged: XGN XKC. -/
import Derived.Test.YtckbnjipecclaaaGreatDoorHkK
import Derived.Test.YtckbnjipecclaaaGreatDoorHkB
set_option linter.all false
set_option maxHeartbeats 12800000
set_option maxRecDepth 10000
set_option linter.unusedVariables false
set_option linter.unusedSimpArgs false
set_option linter.unnecessarySimpa false
namespace Go.Proofs.YtckbnjipecclaaaGreatDoor
open Go.RowKit
theorem ones_bv (l : List UInt8) : ∀ u, u ∈ l.map bv → u.oneCell' = true := bvs_one l
set_option maxRecDepth 100000 in
theorem refSha_any (w : World) (a : Option Addr) (c : Nat) (l : List UInt8) (hb : Bytes w (.slice a l.length c) l) (hl : l.length ≤ 100000000) :
  Calls Tryz.prog 63 #[.slice a l.length c] w fun e w' => e = .returned (.agg ((shaL l).map bv).toArray) ∧ Kept [] w w' := by
 obtain ⟨W0, Gv⟩ : ∃ W0, Hid (W0 = w.alloc (.cells (((outK startS 0).map bv).toArray) 22)) := ⟨_, qI rfl⟩
 have Ge : Hid (Kept [] w W0) := qI (by rw [Gv.o]; exact (Kept.refl _ w).alloc _)
 have Jx : Hid (Sum32 W0 w.heap.size (outK startS 0)) := qI (by rw [Gv.o]; exact block_alloc rfl)
 have Jy : Hid (W0.heap.size = w.heap.size + 1) := qI (by rw [Gv.o]; simp)
 obtain ⟨n, HN⟩ : ∃ n, Hid (n = l.length) := ⟨_, qI rfl⟩
 have HB := qI (Slc.kept0 hb Ge.o)
 rw [← HN.o] at HB hl ⊢
 have hnI : (n : Int) ≤ 100000000 := by omega
 have Gg := qI hl
 clear hb hl
 go_enter Tryz.func63, Tryz.ntmps63
 go_upto_region 1 with fail
 change Code.wp _ _ _ _ (w.alloc (.cells (((outK startS 0).map bv).toArray) 22))
 rw [← Gv.o]
 have Jo := qI (own_new (t := 5) (size := 1) (base := W0.heap.size) W0 rfl (Nat.le_refl _))
 have Gf : Hid (Kept [] W0 (W0.alloc (.cells #[] 5))) := qI ((Kept.refl _ _).alloc _)
 go_upto_region 2 with first
  | (have Mt := GO1; at_builtin; refine wpList_append_slc tyByteJ (v := .slice a1 n c1) (n := n) (row_kept Jp.o ((Kept.refl [] w1).alloc _) (by simp)) (slc_one w1 (.int .u8 128) _ _ rfl) (by simp [Value.oneCell']) (by simp only [maxLen]; have := Gg.o; omega) (by have := Gg.o; omega) (by have := Gn.o.size; simp; omega) rfl _ _ rfl rfl rfl ?_; intro v2 w2 hown hk2 _ hb2; obtain ⟨a2, c2, rfl, -, -⟩ := (Slc.of_row hown).form; have Jz := qI hown; have Ma : Hid (Kept [] W0 w2) := qI ((Gn.o.then ((Kept.refl [] w1).alloc _)).trans hk2 (fun i hi => .inr (Jp.o.lt i (Option.mem_toList.1 hi)).1)); clear hown hk2 hb2)
  | (at_builtin; refine wpList_append_slc tyByteJ (v := .slice (some ⟨W0.heap.size, 0, none⟩) 0 0) (n := 0) Jo.o (Slc.kept0 HB.o Gf.o) (ones_bv l) (by simp only [maxLen]; have := Gg.o; omega) (by have := Gg.o; omega) (by simp) rfl _ _ rfl rfl rfl ?_; intro v1 w1 hown hk1 _ hb1; rw [Nat.zero_add, List.nil_append] at hown; obtain ⟨a1, c1, rfl, -, -⟩ := (Slc.of_row hown).form; have Jp := qI hown; have Gn : Hid (Kept [] W0 w1) := qI (Gf.o.trans hk1 (by intro i hi; simp [Value.ownBlock] at hi; subst hi; exact .inr (Nat.le_refl _))); have GO1 := True.intro; clear hown hk1 hb1)
 obtain ⟨P, HP⟩ : ∃ P, Hid (P = (119 - n % 64) % 64) := ⟨_, qI rfl⟩
 clear Jo Gf
 go_loopw [3] (fun out wr => ∃ (k : Nat) (a3 : Option Addr) (c3 : Nat), Hid (k ≤ P) ∧ out = .slice a3 (n + 1 + k) c3 ∧ wr.ownsRow W0.heap.size 5 1 (.slice a3 (n + 1 + k) c3) (n + 1 + k) ((l ++ 128 :: List.replicate k 0).map bv) ∧ Kept [] W0 wr) (fun out _ => P + n + 1 - sliceLen out)
 case atStart =>
  refine ⟨0, a2, c2, qI (Nat.zero_le _), rfl, ?_, Ma.o⟩
  have h9 := Jz.o
  have e9 : List.map bv (l ++ 128 :: List.replicate 0 0) = List.map bv l ++ [Value.int .u8 128] := by rw [List.map_append]; rfl
  rw [e9]
  exact h9
 case round =>
  obtain ⟨k, a3, c3, Ja, rfl, hrow, hkr⟩ := hrel
  have Gb := qI hrow
  have Ga := qI hkr
  clear hrow hkr
  obtain ⟨m, HM⟩ : ∃ m, Hid (m = n + 1 + k) := ⟨_, qI rfl⟩
  rw [← HM.o] at Gb ⊢
  have hmI : (m : Int) ≤ 200000000 := by have := HM.o; have := Ja.o; have := HP.o; have := Gg.o; omega
  by_cases h56 : m % 64 = 56
  rotate_left
  ·have ft : ((m : Int) % 64 != 56) = true := (int_ne (by omega)).2
   have Gc : Hid (k < P) := qI (by have := HM.o; have := Ja.o; have := HP.o; omega)
   clear h56
   go_wp2_with (at_builtin; refine wpList_append_slc tyByteJ (v := .slice a3 m c3) (n := m) (row_kept Gb.o ((Kept.refl [] wr).alloc _) (by simp)) (slc_one wr (.int .u8 0) _ _ rfl) (by simp [Value.oneCell']) (by simp only [maxLen]; omega) (by omega) (by have := Ga.o.size; simp; omega) rfl _ _ rfl rfl rfl ?_; intro v5 w5 hown hk5 _ hb5; obtain ⟨a5, c5, rfl, -, -⟩ := (Slc.of_row hown).form; have Jb := qI hown; have Gh := qI hk5; clear hown hk5 hb5)
   case roundEnd =>
    refine ⟨⟨k + 1, a5, c5, qI Gc.o, by rw [HM.o]; rfl, ?_, (Ga.o.then ((Kept.refl [] wr).alloc _)).trans Gh.o (fun i hi => .inr (Gb.o.lt i (Option.mem_toList.1 hi)).1)⟩, by have := HM.o; have := Gc.o; simp only [sliceLen]; omega⟩
    have h9 := Jb.o
    rw [show n + 1 + (k + 1) = m + 1 by have := HM.o; omega]
    have e9 : List.map bv (l ++ 128 :: List.replicate (k + 1) 0) = List.map bv (l ++ 128 :: List.replicate k 0) ++ [Value.int .u8 0] := by rw [List.replicate_succ']; simp [bv]
    rw [e9]
    exact h9
  ·have ft : ((m : Int) % 64 != 56) = false := (int_eq (by omega)).2
   have Gf : Hid (k = P) := qI (by have := HM.o; have := Ja.o; have := HP.o; omega)
   clear h56
   clear ft
   have CP : Hid (∀ w1, Calls Tryz.prog 103 #[.int .i64 (8 * (n : Int)), .int .i64 8] w1 fun e w' => ∃ a c, e = .returned (.tuple #[.slice a 8 c, .bool true]) ∧ w'.ownsRow w1.heap.size 5 1 (.slice a 8 c) 8 ((putL (8 * n) 8).map bv) ∧ Kept [] w1 w') := qI (fun w1 => by
    have h9 := refPut8_any (8 * n) w1 (by have := Gg.o; omega)
    rw [show ((8 * n : Nat) : Int) = 8 * (n : Int) by omega] at h9
    exact h9)
   have ft : ((m : Int) % 64 != 56) = false := (int_eq (by have := HM.o; have := Gf.o; have := HP.o; omega)).2
   go_upto_region 5 with (go_at_call 103; refine (CP.o _).mono ?_; rintro e w5 ⟨pa, pc, rfl, hp, hk5⟩; have Mb := qI hp; have Gh := qI hk5; clear hp hk5)
   go_upto_region 6 with (at_builtin; refine wpList_append_slc tyByteJ (v := .slice a3 m c3) (n := m) (row_kept Gb.o Gh.o (by simp)) (Slc.of_row Mb.o) (ones_bv _) (by simp only [maxLen]; omega) (by omega) (by have := Ga.o.size; have := Gh.o.size; omega) rfl _ _ rfl rfl rfl ?_; intro v6 w6 hown hk6 _ hb6; obtain ⟨a9, c9, rfl, -, -⟩ := (Slc.of_row hown).form; have Jc := qI hown; have Mc : Hid (Kept [] W0 w6) := qI ((Ga.o.then Gh.o).trans hk6 (fun i hi => .inr (Gb.o.lt i (Option.mem_toList.1 hi)).1)); clear hown hk6 hb6)
   obtain ⟨T, Gw⟩ : ∃ T, Hid (T = m + 8) := ⟨_, qI rfl⟩
   obtain ⟨AL, Jd⟩ : ∃ AL, Hid (AL = l ++ padL (l.length % 64) l.length) := ⟨_, qI rfl⟩
   have Gi : Hid (AL.length = T) := qI (by rw [Jd.o, Gw.o, HM.o, Gf.o, HP.o, HN.o]; simp [padL, putL_len]; omega)
   have Jq : Hid (Bytes w6 (.slice a9 T c9) AL) := qI (by
    have h9 := Slc.of_row Jc.o
    unfold Bytes
    rw [Gi.o, Gw.o]
    have e9 : List.map bv AL = List.map bv (l ++ 128 :: List.replicate k 0) ++ List.map bv (putL (8 * n) 8) := by
     rw [Jd.o, Gf.o, HP.o, HN.o, ← List.map_append]
     unfold padL
     simp
    rw [e9]
    exact h9)
   have Gx : Hid (T % 64 = 0 ∧ T ≤ 200000000) := qI (by have := Gw.o; have := HM.o; have := Gf.o; have := HP.o; have := Gg.o; omega)
   rw [← Gw.o]
   clear ft hmI
   obtain ⟨sb, Gp⟩ : ∃ sb, Hid (sb = sb) := ⟨0, qI rfl⟩
   clear Gp sb
   go_upto_region 7 with first
    | (go_at_call 104; refine (first_any _).mono ?_; rintro e w7 ⟨rfl, hk7⟩; have Jr := qI (Mc.o.then hk7); have Gq := qI hk7; clear hk7)
    | (refine wpList_store8 (by rfl) (.tmp 6) (.tmp 32) (by rfl) (g := w7.heap.size) (s := S8.mk 0 0 0 0 0 0 0 0) (r := startS) (block_alloc rfl) (by rfl) (by rfl) ?_; intro w8 h8 hk8; have Js := qI h8; have Gr : Hid (Kept [] w7 w8) := qI (((Kept.refl [] w7).alloc _).trans hk8 (by intro i hi; simp at hi; subst hi; exact .inr (Nat.le_refl _))); clear h8 hk8; simp only [Act.put])
   obtain ⟨sb, Gp⟩ : ∃ sb, Hid (sb = w7.heap.size) := ⟨_, qI rfl⟩
   have Gj : Hid (w.heap.size < sb) := qI (by have := Jr.o.size; have := Jy.o; rw [Gp.o]; omega)
   rw [← Gp.o] at Js ⊢
   have Md := qI (Jq.o.kept0 (Gq.o.then Gr.o))
   have Jt := qI (Jr.o.then Gr.o)
   have hTI : (T : Int) ≤ 200000000 := by have := Gx.o.2; omega
   go_wp2_with fail
   go_loopw [7] (fun i wr => ∃ (m : Nat) (S : S8), i = .int .i64 m ∧ Hid (m % 64 = 0 ∧ m ≤ T) ∧ W8 wr sb S ∧ Hid (eatD S (AL.drop m) = eatD startS AL) ∧ Kept [sb] w8 wr) (fun i _ => T - (intOf i).toNat)
   case atStart => exact ⟨0, startS, rfl, qI ⟨rfl, Nat.zero_le _⟩, Js.o, qI rfl, Kept.refl _ _⟩
   case round =>
    obtain ⟨m, S, rfl, Je, hw, Gs, hkr⟩ := hrel
    have HW := qI hw
    have Gy := qI hkr
    clear hw hkr
    by_cases hlt : m < T
    ·have hltI : (m : Int) < T := by omega
     have Ju : Hid ((m : Int) < 200000000) := qI (by have := Gx.o.2; omega)
     have hml : m + 64 ≤ AL.length := by have := Je.o; have := Gx.o; rw [Gi.o]; omega
     obtain ⟨a8, c8, hs, hby, hvb⟩ := (show Bytes w8 (.slice a9 T c9) AL from Md.o).mid tyByteJ m (m + 64) (by omega) hml
     rw [show m + 64 - m = 64 by omega] at hs hby hvb
     have Me : Hid (∀ W, (Instr.slice 82 (.slice a9 T c9) (some (.int .i64 m)) (some (.int .i64 (m + 64))) none).run Tryz.prog W = .ok (.slice a8 64 c8) W) := qI hs
     obtain ⟨blk, Jf⟩ : ∃ blk, Hid (blk = (AL.drop m).take 64) := ⟨_, qI rfl⟩
     rw [← Jf.o] at hby
     have Mf : Hid (blk.length = 64) := qI (by rw [Jf.o, List.length_take, List.length_drop]; omega)
     have Mg : Hid (∀ g, vblk (.slice a8 64 c8) = some g → g ≠ sb) := qI (fun g hg e => by
      have h1 := Slc.lt (show Bytes w6 (.slice a9 T c9) AL from Jq.o) (hvb g hg)
      have h2 := Gq.o.size
      have h3 := Gp.o
      omega)
     have Mh := qI (Slc.kept hby Gy.o (fun g hg hx => by simp at hx; exact Mg.o g hg hx))
     have Mi : Hid (eatD (blockS S blk) (AL.drop (m + 64)) = eatD startS AL) := qI (by
      rw [← Gs.o, eatD_more S (AL.drop m) (by rw [List.length_drop]; omega), ← Jf.o, List.drop_drop])
     have Jv := qI hlt
     clear hs hby hvb hlt hml
     go_upto_region 10 with fail
     refine wp_grows (n := 63) 7 [Fact.is (.agg (S.list.map wv).toArray),
      Fact.is (.slice a9 T c9),
      Fact.is (.int .i64 m),
      Fact.is (.int .i64 m),
      Fact.is (.int .i64 (m + 64)),
      Fact.is (.slice a8 64 c8),
      Fact.is (.agg ((blockS S blk).list.map wv).toArray)] (by kernel_rfl) rfl (by kernel_rfl) (fun x => by simp only [List.map, puts, Act.put, List.setIfInBounds_toArray, List.set_cons_zero, List.set_cons_succ]; rfl) ?_ ?_
     ·refine ⟨fun x w2 hkw b hd => ?_, fun x w2 hkw b hd => ?_, fun x w2 hkw b hd => ?_, fun x w2 hkw b hd => ?_, fun x w2 hkw b hd => ?_, fun x w2 hkw b hd => ?_, fun x w2 hkw b hd => ?_, trivial⟩
      ·refine wpList_load8 (by rfl) (.tmp 6) (by rfl) (W8.kept HW.o hkw (by simp)) (by rfl) ?_
       go_wp2_with fail
       exact ⟨rfl, Kept.refl _ _⟩
      ·go_wp2_with fail
       exact ⟨rfl, Kept.refl _ _⟩
      ·go_wp2_with fail
       exact ⟨rfl, Kept.refl _ _⟩
      ·go_wp2_with fail
       exact ⟨rfl, Kept.refl _ _⟩
      ·have d3 : x 3 = _ := hd 3 (by kernel_rfl)
       have hmI := Ju.o
       go_wp2_with fail
       exact ⟨rfl, Kept.refl _ _⟩
      ·have d1 : x 1 = _ := hd 1 (by kernel_rfl)
       have d2 : x 2 = _ := hd 2 (by kernel_rfl)
       have d4 : x 4 = _ := hd 4 (by kernel_rfl)
       have hsl := Me.o w2
       go_wp2_with fail
       exact ⟨rfl, Kept.refl _ _⟩
      ·have d0 : x 0 = _ := hd 0 (by kernel_rfl)
       have d5 : x 5 = _ := hd 5 (by kernel_rfl)
       have CX := refBlock_any w2 S a8 c8 blk Mf.o (Mh.o.kept0 hkw)
       go_wp2_with (go_at_call 105; refine CX.mono ?_; rintro e w5 ⟨rfl, hk5⟩; have Gh := qI hk5; clear hk5)
       exact ⟨rfl, Gh.o⟩
     ·intro x w9 hkw b9 hd hwin
      have d6 : x 6 = _ := hd 6 (by decide)
      have Mj := qI hkw
      have Mk := qI (W8.kept HW.o hkw (by simp))
      clear hd hwin hkw
      change wpList _ _ _ [_] _ _
      have hmI := Ju.o
      go_wp2_with (refine wpList_store8 (by rfl) (.tmp 6) (.tmp 45) (by rfl) (g := sb) (s := S) (r := blockS S blk) Mk.o (by rfl) d6 ?_; intro w11 h11 hk11; have Jg := qI h11; have Jh := qI hk11; clear h11 hk11; simp only [Act.put])
      case roundEnd =>
       exact ⟨⟨m + 64, blockS S blk, by go_num, qI (by have := Je.o; have := Gx.o; have := Jv.o; omega), Jg.o, Mi, (Gy.o.then Mj.o).trans' Jh.o⟩, by have := Jv.o; simp [intOf]; omega⟩
    ·obtain rfl : m = T := by have := Je.o; omega
     have hge : ¬ m < m := hlt
     have Ji : Hid (shaL l = outL S) := qI (by
      have h9 := Gs.o
      rw [List.drop_of_length_le (by rw [Gi.o]; exact Nat.le_refl _), eatD_done S [] (by simp)] at h9
      unfold shaL
      rw [← Jd.o, ← h9])
     have Ml : Hid (Kept [] w wr) := qI ((Ge.o.then Jt.o).trans Gy.o (by have := Gj.o; intro i hi; simp at hi; subst hi; exact .inr (by omega)))
     have Mm := qI ((Jt.o.heap Jx.o (by simp)))
     have Mn : Hid (Sum32 wr w.heap.size (outK startS 0)) := qI (Gy.o.heap Mm.o (by have := Gj.o; simp; omega))
     obtain ⟨wo, Jj⟩ : ∃ wo, Hid (wo = wr.alloc (.cells ((outK S 0).map bv).toArray 22)) := ⟨_, qI rfl⟩
     obtain ⟨ob, Jk⟩ : ∃ ob, Hid (ob = wr.heap.size) := ⟨_, qI rfl⟩
     have Jl : Hid (Kept [] wr wo) := qI (by rw [Jj.o]; exact (Kept.refl _ _).alloc _)
     have Mo : Hid (Sum32 wo ob (outK S 0)) := qI (by rw [Jj.o, Jk.o]; exact block_alloc rfl)
     have Jm : Hid (sb < ob ∧ w.heap.size < ob) := qI (by have h9 := lt_of_block HW.o; have := Gj.o; rw [Jk.o]; omega)
     have Jn := qI (W8.kept HW.o Jl.o (by simp))
     have Mp := qI (Jl.o.heap Mn.o (by simp))
     clear hlt
     go_upto_region 12 with fail
     change Code.wp _ _ _ _ (wr.alloc (.cells ((outK S 0).map bv).toArray 22))
     rw [← Jj.o, ← Jk.o]
     go_wp2_with fail
     go_loopw [9] (fun i wq => ∃ k : Nat, i = .int .i64 k ∧ k ≤ 32 ∧ Sum32 wq ob (outK S k) ∧ Kept [ob] wo wq) (fun i _ => 32 - (intOf i).toNat)
     case atStart => exact ⟨0, rfl, Nat.zero_le _, Mo.o, Kept.refl _ _⟩
     case round =>
      obtain ⟨k, rfl, hk, ho, hkq⟩ := hrel
      have HO := qI ho
      have Jw := qI hkq
      have Mq := qI (W8.kept Jn.o hkq (by have := Jm.o; simp; omega))
      have Mr : Hid (Sum32 wr w.heap.size (outK startS 0)) := qI (hkq.heap Mp.o (by have := Jm.o; simp; omega))
      rcases Nat.lt_or_ge k 32 with h32 | h32
      ·have h32I : (k : Int) < 32 := by omega
       have c0 := w8_at Mq.o (k := k / 4) (by omega)
       have o0 := cell_head (o := k) (v := bv ((outK S k)[k]'(by rw [outK_len]; exact h32))) ho (by rw [List.getElem?_toArray, List.getElem?_map, List.getElem?_eq_getElem (by rw [outK_len]; exact h32)]; rfl)
       have f0 := free_head (o := k) ho
       clear ho hkq
       go_wp2_with fail
       case roundEnd =>
        have hst : Kept [ob] wr (wr.setCell ⟨ob, k, none⟩ (.int .u8 (S.get (k / 4) / 2 ^ (24 - 8 * (k % 4)) % 256))) := (Kept.refl _ _).setCell (.inl (by simp)) _
        exact ⟨⟨k + 1, by go_num, by omega, block_setCell HO.o (outK_set S k h32), Jw.o.trans' hst⟩, by simp [intOf]; omega⟩
      ·obtain rfl : k = 32 := by omega
       clear ho hkq
       rw [outK_all] at HO
       have hsz : ((outL S).map bv).toArray.size = 32 := by simp [outL_len]
       go_upto_region 16 with fail
       refine wp_region_list ?_
       change wpList _ _ _ [_, _] _ _
       refine wpList_load32 (by rfl) (.tmp 8) (by rfl) HO.o (outL_len S) (by rfl) ?_
       refine wpList_store32 (by rfl) (.tmp 2) (.tmp 62) (by rfl) (g := w.heap.size) (l := outL S) Mr.o (outK_len _ _) (outL_len S) (by rfl) (by rfl) ?_
       intro WF hF hkF
       have hres := Sum32.var hF (outL_len S)
       try simp only [zA,zN,zB,zC,zD]
       have Ms := qI hkF
       clear hkF hF
       go_wp2_with fail
       refine bodyPost_ret (v := .agg ((outL S).map bv).toArray) (by simp only [results, Tryz.results63]; simp [hres, Sem.run_bind, asAddr]) rfl ?_
       rw [Ji.o]
       exact ⟨rfl, ((Ml.o.then Jl.o).trans Jw.o (by have := Jm.o; intro i hi; simp at hi; subst hi; exact .inr (by omega))).trans Ms.o (by intro i hi; simp at hi; subst hi; exact .inr (Nat.le_refl _))⟩
theorem maxL_snoc (l : List Nat) (x : Nat) : maxL (l ++ [x]) = max (maxL l) x := by
 rw [maxL_app]; simp [maxL]
theorem take_map_succ {α β : Type} (f : α → β) (l : List α) (k : Nat) (h : k < l.length) : (l.take (k + 1)).map f = (l.take k).map f ++ [f l[k]] := by
 rw [List.take_succ_eq_append_getElem h, List.map_append]; rfl
theorem depth_le' : ∀ (n : Nat) (v : V n), depthV n v ≤ n
 | 0, v => nomatch v
 | n + 1, (v : VS (V n)) => by
  show 1 + maxL (v.kids.map (depthV n)) ≤ n + 1
  have : maxL (v.kids.map (depthV n)) ≤ n := maxL_le.2 (fun x hx => by
   obtain ⟨y, _, rfl⟩ := List.mem_map.1 hx
   exact depth_le' n y)
  omega
theorem Small.few {n : Nat} {v : VS (V n)} (h : Small (n + 1) v) : v.l.length + v.m.length ≤ 20000 := by
 have := kids_few v; have := h.1; omega
def depth_anyKnown (n : Nat) : Prop := ∀ (v : V n) {S : Nat → Prop} {w : World} {cs : List Value}, Rep n S w cs v → Small n v → n ≤ 100 →
    Calls Tryz.prog 58 #[.agg cs.toArray] w fun e w' => e = .returned (.int .i64 (depthV n v)) ∧ Kept [] w w'
theorem depth_any_step {n : Nat} (known : depth_anyKnown n) : depth_anyKnown (n + 1) := fun (v : VS (V n)) {S} {w} {cs} h hs hn => by
  have Gk := qI h
  have Gt := qI hs
  obtain ⟨vl, vm, lcs, mcs, h⟩ := h
  obtain ⟨a, c, b, e, rfl, rfl, rfl⟩ := h.forms
  have IH := qI known
  have Gz : Hid (∀ x, x ∈ v.kids → depthV n x ≤ n) := qI fun x _ => depth_le' n x
  have Gd : Hid (depthV (n + 1) v = 1 + maxL (v.kids.map (depthV n))) := qI rfl
  have HB := qI (box_at w v.kind v.num v.s (.slice a v.l.length c) (.slice b v.m.length e) 28)
  have Ge := qI (((Kept.refl [] w).alloc (.cells #[.int .i64 v.kind, .int .i64 v.num, .string v.s, .slice a v.l.length c, .slice b v.m.length e] 28)))
  have Gc : Hid (v.kids.length ≤ 20000) := qI (by have := hs.few; simp only [VS.kids, List.length_append, List.length_map]; omega)
  obtain ⟨c0, c1, c2, c3, c4⟩ := HB.o
  clear h hs
  have Gu := qI (kids_any (Gk.o.kept0 Ge.o) Gt.o.few)
  go_enter Tryz.func58, Tryz.ntmps58
  go_wp2_with (go_at_call 96; refine Gu.o.mono ?_; rintro e w1 ⟨⟨ak, ck, rfl, hva⟩, hk1⟩)
  have Gl := qI hva
  have Gn := qI (Ge.o.then hk1)
  clear hva hk1 c0 c1 c2 c3 c4 Gu
  have hkl := Gc.o
  revert Gl Gz Gd Gc hkl
  have Gm : Hid (∀ x, x ∈ v.kids → Small n x) := qI fun x hx => Gt.o.kid hx
  revert Gm
  generalize v.kids = kids
  intro Gm Gz Gd Gc Gl hkl
  go_loopw [3, 5] (fun m i wr => ∃ k : Nat, i = .int .i64 k ∧ k ≤ kids.length ∧ m = .int .i64 (maxL ((kids.take k).map (depthV n))) ∧ Kept [] w1 wr) (fun _ i _ => kids.length - (intOf i).toNat)
  case atStart => exact ⟨0, rfl, Nat.zero_le _, rfl, Kept.refl _ _⟩
  case round =>
   obtain ⟨k, rfl, hk, rfl, hkr⟩ := hrel
   have Ga := qI hkr
   clear hkr
   by_cases hlt : k < kids.length
   ·have hltI : (k : Int) < kids.length := by omega
    obtain ⟨g, o, cap, kd, nm, st, a1, b1, he, q0, q1, q2, q3, q4, hr⟩ := (Gl.o.kept0 Ga.o).at hlt
    simp only [Value.slice.injEq] at he
    obtain ⟨rfl, -, rfl⟩ := he
    have CL := qI (IH.o kids[k] hr (Gm.o _ (List.getElem_mem hlt)) (by omega))
    have hd := Gz.o kids[k] (List.getElem_mem hlt)
    have HT : Hid (maxL ((kids.take (k + 1)).map (depthV n)) = max (maxL ((kids.take k).map (depthV n))) (depthV n kids[k])) := qI (by rw [take_map_succ _ _ _ hlt, maxL_snoc])
    clear hr
    revert CL hd HT
    generalize depthV n kids[k] = D
    generalize maxL ((kids.take k).map (depthV n)) = M
    intro CL hd HT
    by_cases hgt : M < D
    ·have hgtI : (M : Int) < D := by omega
     go_wp2_with (go_at_call 58; refine CL.o.mono ?_; rintro e w2 ⟨rfl, hk2⟩)
     case roundEnd =>
      refine ⟨⟨k + 1, by go_num, by omega, ?_, Ga.o.then hk2⟩, by simp [intOf]; omega⟩
      rw [HT.o, Nat.max_eq_right (Nat.le_of_lt hgt)]
    ·have hgtI : ¬ (M : Int) < D := by omega
     go_wp2_with (go_at_call 58; refine CL.o.mono ?_; rintro e w2 ⟨rfl, hk2⟩)
     case roundEnd =>
      refine ⟨⟨k + 1, by go_num, by omega, ?_, Ga.o.then hk2⟩, by simp [intOf]; omega⟩
      rw [HT.o, Nat.max_eq_left (by omega)]
   ·obtain rfl : k = kids.length := by omega
    rw [List.take_length]
    have hM : maxL (kids.map (depthV n)) ≤ n := maxL_le.2 (fun x hx => by
     obtain ⟨y, hy, rfl⟩ := List.mem_map.1 hx
     exact Gz.o y hy)
    revert hM Gd
    generalize maxL (kids.map (depthV n)) = M
    intro Gd hM
    go_wp2_with fail
    go_ret
    rw [Gd.o]
    exact ⟨by simp; omega, Gn.o.then Ga.o⟩
theorem depth_any_known : ∀ (n : Nat), depth_anyKnown n
 | 0 => fun v {_} {_} {_} h _ _ => h.elim
 | n + 1 => depth_any_step (depth_any_known n)
theorem depth_any : ∀ (n : Nat) (v : V n) {S : Nat → Prop} {w : World} {cs : List Value}, Rep n S w cs v → Small n v → n ≤ 100 →
  Calls Tryz.prog 58 #[.agg cs.toArray] w fun e w' => e = .returned (.int .i64 (depthV n v)) ∧ Kept [] w w' := fun n => depth_any_known n
def count_anyKnown (n : Nat) : Prop := ∀ (v : V n) {S : Nat → Prop} {w : World} {cs : List Value}, Rep n S w cs v → Small n v →
    Calls Tryz.prog 59 #[.agg cs.toArray] w fun e w' => e = .returned (.int .i64 (countV n v)) ∧ Kept [] w w'
theorem count_any_step {n : Nat} (known : count_anyKnown n) : count_anyKnown (n + 1) := fun (v : VS (V n)) {S} {w} {cs} h hs => by
  have Gk := qI h
  have Gt := qI hs
  obtain ⟨vl, vm, lcs, mcs, h⟩ := h
  obtain ⟨a, c, b, e, rfl, rfl, rfl⟩ := h.forms
  have IH := qI known
  have Gd : Hid (countV (n + 1) v = 1 + (v.kids.map (countV n)).sum) := qI rfl
  have HC : Hid (1 + (v.kids.map (countV n)).sum ≤ 20000) := qI hs.1
  have HB := qI (box_at w v.kind v.num v.s (.slice a v.l.length c) (.slice b v.m.length e) 28)
  have Ge := qI (((Kept.refl [] w).alloc (.cells #[.int .i64 v.kind, .int .i64 v.num, .string v.s, .slice a v.l.length c, .slice b v.m.length e] 28)))
  have Gc : Hid (v.kids.length ≤ 20000) := qI (by have := hs.few; simp only [VS.kids, List.length_append, List.length_map]; omega)
  obtain ⟨c0, c1, c2, c3, c4⟩ := HB.o
  clear h hs
  have Gu := qI (kids_any (Gk.o.kept0 Ge.o) Gt.o.few)
  go_enter Tryz.func59, Tryz.ntmps59
  go_wp2_with (go_at_call 96; refine Gu.o.mono ?_; rintro e w1 ⟨⟨ak, ck, rfl, hva⟩, hk1⟩)
  have Gl := qI hva
  have Gn := qI (Ge.o.then hk1)
  clear hva hk1 c0 c1 c2 c3 c4 Gu
  have hkl := Gc.o
  revert Gl HC Gd Gc hkl
  have Gm : Hid (∀ x, x ∈ v.kids → Small n x) := qI fun x hx => Gt.o.kid hx
  revert Gm
  generalize v.kids = kids
  intro Gm Gd HC Gc Gl hkl
  go_loopw [3, 5] (fun m i wr => ∃ k : Nat, i = .int .i64 k ∧ k ≤ kids.length ∧ m = .int .i64 (1 + ((kids.take k).map (countV n)).sum : Nat) ∧ Kept [] w1 wr) (fun _ i _ => kids.length - (intOf i).toNat)
  case atStart => exact ⟨0, rfl, Nat.zero_le _, rfl, Kept.refl _ _⟩
  case round =>
   obtain ⟨k, rfl, hk, rfl, hkr⟩ := hrel
   have Ga := qI hkr
   clear hkr
   by_cases hlt : k < kids.length
   ·have hltI : (k : Int) < kids.length := by omega
    obtain ⟨g, o, cap, kd, nm, st, a1, b1, he, q0, q1, q2, q3, q4, hr⟩ := (Gl.o.kept0 Ga.o).at hlt
    simp only [Value.slice.injEq] at he
    obtain ⟨rfl, -, rfl⟩ := he
    have CL := qI (IH.o kids[k] hr (Gm.o _ (List.getElem_mem hlt)))
    have HT : Hid (1 + ((kids.take (k + 1)).map (countV n)).sum = (1 + ((kids.take k).map (countV n)).sum) + countV n kids[k]) := qI (by rw [take_map_succ _ _ _ hlt, List.sum_append]; simp; omega)
    have hle : (1 + ((kids.take k).map (countV n)).sum) + countV n kids[k] ≤ 20000 := by
     rw [← HT.o]
     have h1 : (kids.map (countV n)).sum = ((kids.take (k + 1)).map (countV n)).sum + ((kids.drop (k + 1)).map (countV n)).sum := by
      rw [← List.sum_append, ← List.map_append, List.take_append_drop]
     have := HC.o
     omega
    clear hr
    revert CL hle HT
    generalize countV n kids[k] = D
    generalize 1 + ((kids.take k).map (countV n)).sum = M
    intro CL HT hle
    go_wp2_with (go_at_call 59; refine CL.o.mono ?_; rintro e w2 ⟨rfl, hk2⟩)
    case roundEnd =>
     refine ⟨⟨k + 1, by go_num, by omega, ?_, Ga.o.then hk2⟩, by simp [intOf]; omega⟩
     rw [HT.o]
     go_num
   ·obtain rfl : k = kids.length := by omega
    rw [List.take_length]
    go_wp2_with fail
    go_ret
    rw [Gd.o]
    exact ⟨rfl, Gn.o.then Ga.o⟩
theorem count_any_known : ∀ (n : Nat), count_anyKnown n
 | 0 => fun v {_} {_} {_} h _ => h.elim
 | n + 1 => count_any_step (count_any_known n)
theorem count_any : ∀ (n : Nat) (v : V n) {S : Nat → Prop} {w : World} {cs : List Value}, Rep n S w cs v → Small n v →
  Calls Tryz.prog 59 #[.agg cs.toArray] w fun e w' => e = .returned (.int .i64 (countV n v)) ∧ Kept [] w w' := fun n => count_any_known n
end Go.Proofs.YtckbnjipecclaaaGreatDoor

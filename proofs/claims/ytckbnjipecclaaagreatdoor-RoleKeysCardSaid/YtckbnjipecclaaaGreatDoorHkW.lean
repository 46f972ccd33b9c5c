/- Parts of one proof, merged: XGF XGG XGO. -/
import Derived.Test.YtckbnjipecclaaaGreatDoorHkV
import Derived.Test.YtckbnjipecclaaaGreatDoorHkU
import Derived.Test.YtckbnjipecclaaaGreatDoorHkL
import Derived.Test.YtckbnjipecclaaaGreatDoorHkR
set_option linter.all false
set_option maxHeartbeats 12800000
set_option maxRecDepth 10000
set_option linter.unusedVariables false
set_option linter.unusedSimpArgs false
set_option linter.unnecessarySimpa false
namespace Go.Proofs.YtckbnjipecclaaaGreatDoor
open Go.RowKit
theorem refInt_any (n : Int) (w : World) : Calls Tryz.prog 55 #[.int .i64 n] w fun e w' => e = .returned (.agg #[.int .i64 3, .int .i64 n, .string ⟨#[]⟩, .slice none 0 0, .slice none 0 0]) ∧ Kept [] w w' := by
 go_enter Tryz.func55, Tryz.ntmps55
 go_wp2_with fail
 exact bodyPost_ret (v := .agg #[.int .i64 3, .int .i64 n, .string ⟨#[]⟩, .slice none 0 0, .slice none 0 0]) (by simp [results, Tryz.results55, go_sem]) rfl ⟨rfl, (Kept.refl _ _).alloc _⟩
theorem refText_any (s : ByteArray) (w : World) : Calls Tryz.prog 56 #[.string s] w fun e w' => e = .returned (.agg #[.int .i64 4, .int .i64 0, .string s, .slice none 0 0, .slice none 0 0]) ∧ Kept [] w w' := by
 go_enter Tryz.func56, Tryz.ntmps56
 go_wp2_with fail
 exact bodyPost_ret (v := .agg #[.int .i64 4, .int .i64 0, .string s, .slice none 0 0, .slice none 0 0]) (by simp [results, Tryz.results56, go_sem]) rfl ⟨rfl, (Kept.refl _ _).alloc _⟩
def NewR (n : Nat) (S : Nat → Prop) (w' : World) (e : Ending) (v : V n) : Prop := ∃ cs : List Value, e = .returned (.agg cs.toArray) ∧ Rep n S w' cs v
theorem zip_take {α β : Type} : ∀ (l : List α) (m : List β) (k : Nat) (h1 : k < l.length) (h2 : k < m.length), (l.zip m).take (k + 1) = (l.zip m).take k ++ [(l[k], m[k])]
 | [], _, _, h, _ => by simp at h
 | _ :: _, [], _, _, h => by simp at h
 | a :: l, b :: m, 0, _, _ => rfl
 | a :: l, b :: m, k + 1, h1, h2 => by
  have := zip_take l m k (by simpa using h1) (by simpa using h2)
  simp only [List.zip_cons_cons, List.take_succ_cons, this, List.getElem_cons_succ, List.cons_append]
theorem pairCs_snoc (l : List (ByteArray × List Value)) (p : ByteArray × List Value) : pairCs (l ++ [p]) = pairCs l ++ pairC p := by simp [pairCs]
theorem zip_all2 {α β γ : Type} {R : α → β → Prop} {ks : List γ} {xs : List α} {ys : List β} (h : All2 R xs ys) : All2 (fun (p : γ × α) (q : γ × β) => p.1 = q.1 ∧ R p.2 q.2) (ks.zip xs) (ks.zip ys) := by
 refine ⟨by simp [h.1], ?_⟩
 intro j x y hx hy
 rw [List.getElem?_zip_eq_some] at hx hy
 rw [hx.1] at hy
 exact ⟨Option.some.inj hy.1, h.2 j _ _ hx.2 hy.2⟩
theorem items_at {n : Nat} {S : Nat → Prop} {w : World} {b : Option Addr} {N d : Nat} {lcs : List (List Value)} {vs : List (V n)} (hl : Slc w 5 (.slice b N d) N lcs.flatten) (ha : All2 (Rep n S w) lcs vs) (hN : vs.length = N) {k : Nat} (hk : k < N) :
  ∃ g o kd nm s p i c q j e, b = some ⟨g, o, none⟩ ∧ w.cell? ⟨g, o + k * 5, none⟩ = some (.int .i64 kd) ∧ w.cell? ⟨g, o + k * 5 + 1, none⟩ = some (.int .i64 nm) ∧ w.cell? ⟨g, o + k * 5 + 2, none⟩ = some (.string s) ∧
   w.cell? ⟨g, o + k * 5 + 3, none⟩ = some (.slice p i c) ∧ w.cell? ⟨g, o + k * 5 + 4, none⟩ = some (.slice q j e) ∧ lcs[k]? = some [.int .i64 kd, .int .i64 nm, .string s, .slice p i c, .slice q j e] := by
 have hk' : k < lcs.length := by rw [ha.1]; omega
 have hr := ha.2 k _ _ (List.getElem?_eq_getElem hk') (List.getElem?_eq_getElem (by omega))
 obtain ⟨kd, nm, s, p, i, c, q, j, e, he⟩ := hr.conv
 have hfive : ∀ c, c ∈ lcs → c.length = 5 := by
  intro c hc
  obtain ⟨i, hi, rfl⟩ := List.getElem_of_mem hc
  exact (ha.2 i _ _ (List.getElem?_eq_getElem hi) (List.getElem?_eq_getElem (by have := ha.1; omega))).len
 rcases hl.2 with ⟨_, h0⟩ | ⟨h0, _⟩ | ⟨g, o, cap, hsv, _, _, hrow⟩
 ·omega
 ·omega
 simp only [Value.slice.injEq] at hsv
 have hc : ∀ i, i < 5 → lcs.flatten[k * 5 + i]? = lcs[k][i]? := fun i hi => flat_get lcs k i hfive hk' hi
 rw [he] at hc
 refine ⟨g, o, kd, nm, s, p, i, c, q, j, e, hsv.1, hrow.cells (k * 5 + 0) _ (hc 0 (by decide)), ?_, ?_, ?_, ?_, by rw [List.getElem?_eq_getElem hk', he]⟩
 all_goals rw [Nat.add_assoc]
 ·exact hrow.cells (k * 5 + 1) _ (hc 1 (by decide))
 ·exact hrow.cells (k * 5 + 2) _ (hc 2 (by decide))
 ·exact hrow.cells (k * 5 + 3) _ (hc 3 (by decide))
 ·exact hrow.cells (k * 5 + 4) _ (hc 4 (by decide))
theorem refMap_any {n : Nat} {S : Nat → Prop} {w : World} {a b : Option Addr} {c d N : Nat} {ks : List ByteArray} {lcs : List (List Value)} {vs : List (V n)} (hk : Texts w (.slice a ks.length c) ks) (hl : Slc w 5 (.slice b N d) N lcs.flatten) (ha : All2 (Rep n S w) lcs vs) (hN : vs.length = N) (hM : ks.length = N) (hlt : N ≤ 100) :
  Calls Tryz.prog 54 #[.slice a N c, .slice b N d] w fun e w' => NewR (n + 1) (fun g => S g ∨ w.heap.size ≤ g) w' e (mapV (ks.zip vs) : VS (V n)) ∧ Kept [] w w' := by
 obtain ⟨W0, Gb⟩ : ∃ W0, Hid (W0 = (w.alloc (.cells #[.int .i64 0, .int .i64 0, .string ⟨#[]⟩, .slice none 0 0, .slice none 0 0] 28)).alloc (.cells #[.int .i64 6, .int .i64 0, .string ⟨#[]⟩, .slice none 0 0, .slice none 0 0] 28)) := ⟨_, qI rfl⟩
 have Gh : Hid (Kept [] w W0) := qI (by rw [Gb.o]; exact ((Kept.refl _ w).alloc _).alloc _)
 have Gy : Hid (W0.heap[w.heap.size]? = some (.cells #[.int .i64 0, .int .i64 0, .string ⟨#[]⟩, .slice none 0 0, .slice none 0 0] 28 (0, 0))) := qI (by rw [Gb.o]; exact ((Kept.refl [] _).alloc _).heap (block_alloc rfl) (by simp))
 have Gz : Hid (W0.heap[w.heap.size + 1]? = some (.cells #[.int .i64 6, .int .i64 0, .string ⟨#[]⟩, .slice none 0 0, .slice none 0 0] 28 (0, 0))) := qI (by rw [Gb.o]; exact block_alloc (by simp))
 have Gi : Hid (W0.heap.size = w.heap.size + 2) := qI (by rw [Gb.o]; simp)
 have HA := qI (ha.mono (fun _ _ _ r => r.kept0 Gh.o))
 have Gr := qI ha
 have Ja := qI hl
 have Jb : Hid (Texts w (.slice a N c) ks) := qI (by rw [← hM]; exact hk)
 have HN := qI hN
 have HM := qI hM
 have hNI : (N : Int) ≤ 100 := by omega
 have Jc : Hid ((ks.zip lcs).length = N) := qI (by have := ha.1; simp; omega)
 clear hk hl ha hN hM hlt
 go_enter Tryz.func54, Tryz.ntmps54
 go_upto_region 2 with fail
 rw [← Gb.o]
 go_wp2_with fail
 go_loopw [6] (fun i wr => ∃ (k cm : Nat) (am : Option Addr), i = .int .i64 k ∧ k ≤ N ∧ wr.heap[w.heap.size + 1]? = some (.cells #[.int .i64 6, .int .i64 0, .string ⟨#[]⟩, .slice none 0 0, .slice am k cm] 28 (0, 0)) ∧ wr.ownsRow W0.heap.size 78 6 (.slice am k cm) k (pairCs ((ks.zip lcs).take k)) ∧ Kept [w.heap.size + 1] W0 wr) (fun i _ => N - (intOf i).toNat)
 case atStart => exact ⟨0, 0, none, rfl, Nat.zero_le _, Gz.o, World.ownsRow_nil _ _ _ _, Kept.refl _ _⟩
 case round =>
  obtain ⟨k, cm, am, rfl, hk, hb, hrow, hkr⟩ := hrel
  have HB := qI hb
  have Ga := qI hrow
  have Ge := qI hkr
  have Gj : Hid (Kept [] w wr) := qI (Gh.o.trans hkr (by intro i hi; simp at hi; subst hi; exact .inr (by omega)))
  clear hb hrow hkr
  by_cases hlt : k < N
  ·have hltI : (k : Int) < N := by omega
   have Gs : Hid ((k : Int) < N) := qI hltI
   have hka : k < ks.length := by rw [HM.o]; exact hlt
   have hkl : k < lcs.length := by have := HA.o.1; have := HN.o; omega
   obtain ⟨ga, oa, ea, q0⟩ := Texts.at (w := wr) (l := ks) (c := c) (a := a) (by rw [HM.o]; exact Jb.o.kept0 Gj.o) hka
   obtain ⟨gb, ob, kd, nm, st, p1, i1, d1, p2, i2, d2, eb, s0, s1, s2, s3, s4, hcs⟩ := items_at (w := wr) (Ja.o.kept0 Gj.o) (Gr.o.mono (fun _ _ _ r => r.kept0 Gj.o)) HN.o hlt
   subst ea eb
   have HZ : Hid ((ks.zip lcs).take (k + 1) = (ks.zip lcs).take k ++ [(ks[k], lcs[k])]) := qI (zip_take _ _ _ hka hkl)
   have f4 := cell_head (o := 4) (v := .slice am k cm) HB.o rfl
   rw [List.getElem?_eq_getElem hkl, Option.some.injEq] at hcs
   rw [hcs] at HZ
   clear hcs hkl
   revert q0 HZ
   generalize ks[k] = key
   intro q0 HZ
   clear hka
   have Gc := qI hlt
   clear hlt
   go_upto_region 5 with fail
   refine wp_grows (n := 29) 12 [Fact.is (.pointer (some ⟨w.heap.size + 1, 4, none⟩)),
    Fact.is (.slice am k cm),
    Fact.is (.slice (some ⟨ga, oa, none⟩) N c),
    Fact.is (.int .i64 k),
    Fact.is (.pointer (some ⟨ga, oa + k, none⟩)),
    Fact.is (.string key),
    Fact.is (.slice (some ⟨gb, ob, none⟩) N d),
    Fact.is (.int .i64 k),
    Fact.is (.pointer (some ⟨gb, ob + k * 5, none⟩)),
    Fact.is (.agg #[.int .i64 kd, .int .i64 nm, .string st, .slice p1 i1 d1, .slice p2 i2 d2]),
    Fact.is (.agg #[.string key, .int .i64 kd, .int .i64 nm, .string st, .slice p1 i1 d1, .slice p2 i2 d2]),
    pairFact [.string key, .int .i64 kd, .int .i64 nm, .string st, .slice p1 i1 d1, .slice p2 i2 d2] 1 6] (by kernel_rfl) rfl (by kernel_rfl) (fun x => by simp only [List.map, puts, Act.put, List.setIfInBounds_toArray, List.set_cons_zero, List.set_cons_succ]; rfl) ?_ ?_
   ·refine ⟨fun x w2 hkw b hd => ?_, fun x w2 hkw b hd => ?_, fun x w2 hkw b hd => ?_, fun x w2 hkw b hd => ?_, fun x w2 hkw b hd => ?_, fun x w2 hkw b hd => ?_, fun x w2 hkw b hd => ?_, fun x w2 hkw b hd => ?_, fun x w2 hkw b hd => ?_, fun x w2 hkw b hd => ?_, fun x w2 hkw b hd => ?_, fun x w2 hkw b hd => ?_, trivial⟩
    ·go_wp2_with fail
     exact ⟨rfl, Kept.refl _ _⟩
    ·have d0 : x 0 = _ := hd 0 (by kernel_rfl)
     have y0 := hkw.cell f4 (by simp)
     go_wp2_with fail
     exact ⟨rfl, Kept.refl _ _⟩
    ·go_wp2_with fail
     exact ⟨rfl, Kept.refl _ _⟩
    ·go_wp2_with fail
     exact ⟨rfl, Kept.refl _ _⟩
    ·have d2 : x 2 = _ := hd 2 (by kernel_rfl)
     have d3 : x 3 = _ := hd 3 (by kernel_rfl)
     have hkN := Gs.o
     go_wp2_with fail
     exact ⟨rfl, Kept.refl _ _⟩
    ·have d4 : x 4 = _ := hd 4 (by kernel_rfl)
     have y0 := hkw.cell q0 (by simp)
     go_wp2_with fail
     exact ⟨rfl, Kept.refl _ _⟩
    ·go_wp2_with fail
     exact ⟨rfl, Kept.refl _ _⟩
    ·go_wp2_with fail
     exact ⟨rfl, Kept.refl _ _⟩
    ·have d6 : x 6 = _ := hd 6 (by kernel_rfl)
     have d7 : x 7 = _ := hd 7 (by kernel_rfl)
     have hkN := Gs.o
     go_wp2_with fail
     exact ⟨rfl, Kept.refl _ _⟩
    ·have d8 : x 8 = _ := hd 8 (by kernel_rfl)
     have y0 := hkw.cell s0 (by simp)
     have y1 := hkw.cell s1 (by simp)
     have y2 := hkw.cell s2 (by simp)
     have y3 := hkw.cell s3 (by simp)
     have y4 := hkw.cell s4 (by simp)
     go_wp2_with fail
     exact ⟨rfl, Kept.refl _ _⟩
    ·have d5 : x 5 = _ := hd 5 (by kernel_rfl)
     have d9 : x 9 = _ := hd 9 (by kernel_rfl)
     go_wp2_with fail
     exact ⟨rfl, Kept.refl _ _⟩
    ·have d10 : x 10 = _ := hd 10 (by kernel_rfl)
     go_wp2_with fail
     exact ⟨⟨w2.heap.size, rfl, Nat.le_refl _, by simp, slc_new w2 [.string key, .int .i64 kd, .int .i64 nm, .string st, .slice p1 i1 d1, .slice p2 i2 d2] 6 1 _ _ rfl rfl (by decide)⟩, (Kept.refl _ _).alloc _⟩
   ·intro x w7 hkw b7 hd hwin
    have d9 : x 1 = _ := hd 1 (by decide)
    obtain ⟨g9, d11, -, -, hsl⟩ := hd 11 (by decide)
    have Gm := qI hsl
    have Gg := qI hkw
    have Jd := qI (hkw.heap HB.o (by simp))
    have Gt := qI Ga.o.lt
    have Je : Hid (w.heap.size + 1 ∉ (Value.slice am k cm).ownBlock.toList) := qI (fun hx => by have h1 := (Gt.o _ (Option.mem_toList.1 hx)).1; have h3 := Gi.o; omega)
    clear hd hwin hkw hsl
    change wpList _ _ _ [_, _, _] _ _
    go_wp2_with (at_builtin; refine wpList_append_slc tyPairs (v := .slice am k cm) (n := k) (row_kept Ga.o Gg.o (by simp)) Gm.o (by simp [Value.oneCell']) (by simp only [maxLen]; have := Gc.o; omega) (by have := Gc.o; omega) (by have := Ge.o.size; have := Gg.o.size; omega) rfl _ _ rfl d9 d11 ?_; intro v5 w8 hown hk5 _ hb5; obtain ⟨a5, c5, rfl, -, -⟩ := (Slc.of_row hown).form; have Gd := qI hown; have Gn := qI hk5; have Gf := qI (hk5.heap Jd.o Je.o); have u0 := cell_head (o := 4) (v := .slice am k cm) Gf.o rfl; have uf := free_head (o := 4) Gf.o; clear hown hk5 hb5)
    case roundEnd =>
     have hst : Kept [w.heap.size + 1] w8 (w8.setCell ⟨w.heap.size + 1, 4, none⟩ (.slice a5 (k + 1) c5)) := (Kept.refl _ _).setCell (.inl (by simp)) _
     have hX5 : ∀ i, i ∈ (Value.slice am k cm).ownBlock.toList → W0.heap.size ≤ i := fun i hi => (Gt.o i (Option.mem_toList.1 hi)).1
     refine ⟨⟨k + 1, c5, a5, by go_num, by have := Gc.o; omega, block_setCell Gf.o rfl, ?_, ((Ge.o.then Gg.o).trans Gn.o (fun i hi => .inr (hX5 i hi))).trans hst (fun i hi => .inl hi)⟩, by have := Gc.o; simp [intOf]; omega⟩
     rw [HZ.o, pairCs_snoc]
     exact row_kept Gd.o hst (fun g hg => by have := (Gd.o.lt g hg).1; have := Gi.o; simp; omega)
  ·obtain rfl : k = N := by omega
   have hge : ¬ k < k := by omega
   have Gp := qI (Ge.o.heap Gy.o (by simp))
   obtain ⟨b0, b1, b2, b3, b4⟩ := box_of HB.o
   obtain ⟨r0, r1, r2, r3, r4⟩ := box_of Gp.o
   have z : ∀ j, wr.frozen? ⟨w.heap.size, j, none⟩ = false := fun j => free_head Gp.o
   go_wp2_with fail
   change bodyPost _ _ _ _ _ (put5 wr w.heap.size 6 0 ⟨#[]⟩ (.slice none 0 0) (.slice am k cm))
   have Gk := put5_kept wr w.heap.size 6 0 ⟨#[]⟩ (.slice none 0 0) (.slice am k cm)
   obtain ⟨y0, y1, y2, y3, y4⟩ := box_of (put5_at Gp.o 6 0 ⟨#[]⟩ (.slice none 0 0) (.slice am k cm))
   revert Gk y0 y1 y2 y3 y4
   generalize put5 wr w.heap.size 6 0 ⟨#[]⟩ (.slice none 0 0) (.slice am k cm) = WF
   intro Gk y0 y1 y2 y3 y4
   refine bodyPost_ret (v := .agg #[.int .i64 6, .int .i64 0, .string ⟨#[]⟩, .slice none 0 0, .slice am k cm]) (by simp [results, Tryz.results54, go_sem, y0, y1, y2, y3, y4]) rfl ?_
   have Gu : Kept [] w WF := Gj.o.trans Gk (by intro i hi; simp at hi; subst hi; exact .inr (Nat.le_refl _))
   have hrow := Ga.o
   rw [List.take_of_length_le (by have := Jc.o; omega)] at hrow
   have hsl := (Slc.of_row hrow).kept Gk (fun g hg => by have := (hrow.lt g (own_of_vblk hg)).1; have := Gi.o; simp; omega)
   have hzl : (mapV (ks.zip vs) : VS (V n)).m.length = k := by show (ks.zip vs).length = k; have := HN.o; have := HM.o; simp; omega
   refine ⟨⟨[.int .i64 6, .int .i64 0, .string ⟨#[]⟩, .slice none 0 0, .slice am k cm], rfl, .slice none 0 0, .slice am k cm, [], ks.zip lcs, {
    cells := rfl
    slcl := slc_nil _ _
    alll := All2.nil _
    slcm := by rw [hzl]; exact hsl
    allm := zip_all2 ((Gr.o.mono (fun _ _ _ r => r.kept0 Gu)).mono (fun _ _ _ r => r.mono (fun _ _ h => .inl h)))
    inl := by simp [vblk]
    inm := fun g hg => .inr (by have := (hrow.lt g (own_of_vblk hg)).1; have := Gi.o; omega)
    wfk := wf64 (i := 6) (by decide) (by decide)
    wfn := wf64 (i := 0) (by decide) (by decide) }⟩, Gu⟩
def repFact (S : Nat → Prop) (n : Nat) (v : V n) : Fact (Kept []) := ⟨fun u _ w => ∃ k m s p i c q j d, u = .agg #[.int .i64 k, .int .i64 m, .string s, .slice p i c, .slice q j d] ∧ Rep n S w [.int .i64 k, .int .i64 m, .string s, .slice p i c, .slice q j d] v,
 fun _ _ _ _ ⟨k, m, s, p, i, c, q, j, d, h1, h2⟩ kk => ⟨k, m, s, p, i, c, q, j, d, h1, h2.kept0 kk⟩⟩
theorem index_strU {P : Program} {t : TypeId} (ht : P.underlying t = some .string) (s : ByteArray) (m : Nat) (h : m < s.data.toList.length) (W : World) : (Instr.index t (.string s) (.int .u8 m)).run P W = .ok (.int .u8 s.data.toList[m].toNat) W := by
 rw [run_index_string _ t s .u8 m ht, dif_pos ⟨by omega, by simp only [Array.length_toList] at h; have : s.data.size = s.size := rfl; omega⟩]
 rfl
theorem digits_at (m : Nat) (h : m < 16) : ∃ h2 : m < (⟨#[48, 49, 50, 51, 52, 53, 54, 55, 56, 57, 97, 98, 99, 100, 101, 102]⟩ : ByteArray).data.toList.length, (⟨#[48, 49, 50, 51, 52, 53, 54, 55, 56, 57, 97, 98, 99, 100, 101, 102]⟩ : ByteArray).data.toList[m] = hexd m := by
 refine ⟨h, ?_⟩
 have : ∀ q : Fin 16, (⟨#[48, 49, 50, 51, 52, 53, 54, 55, 56, 57, 97, 98, 99, 100, 101, 102]⟩ : ByteArray).data.toList[q.val]'q.isLt = hexd q.val := by decide
 exact this ⟨m, h⟩
theorem refHexes_any {w : World} {a : Option Addr} {c : Nat} {l : List UInt8} (hb : Bytes w (.slice a l.length c) l) (hl : l.length ≤ 1000000) :
  Calls Tryz.prog 57 #[.slice a l.length c] w fun e w' => e = .returned (.string (hexS l)) ∧ Kept [] w w' := by
 obtain ⟨N, HN⟩ : ∃ N, Hid (N = l.length) := ⟨_, qI rfl⟩
 have HB := qI hb
 have Gq := qI hl
 have hnI : (N : Int) ≤ 1000000 := by have := HN.o; omega
 rw [← HN.o] at Gq ⊢
 clear hb hl
 go_enter Tryz.func57, Tryz.ntmps57
 go_wp2_with fail
 go_loopw [3, 4] (fun out i wr => ∃ (k m : Nat) (a3 : Option Addr) (c3 : Nat), i = .int .i64 k ∧ k ≤ N ∧ Hid (m = 2 * k) ∧ out = .slice a3 m c3 ∧ wr.ownsRow w.heap.size 5 1 (.slice a3 m c3) m ((hexL (l.take k)).map bv) ∧ Kept [] w wr) (fun _ i _ => N - (intOf i).toNat)
 case atStart => exact ⟨0, 0, none, 0, rfl, Nat.zero_le _, qI rfl, rfl, World.ownsRow_nil _ _ _ _, Kept.refl _ _⟩
 case round =>
  obtain ⟨k, m, a3, c3, rfl, hk, HM, rfl, hrow, hkr⟩ := hrel
  have Ga := qI hrow
  have Ge := qI hkr
  clear hrow hkr
  by_cases hlt : k < N
  ·have hltI : (k : Int) < N := by omega
   have Gv : Hid ((k : Int) < N) := qI hltI
   have hka : k < l.length := by rw [← HN.o]; exact hlt
   obtain ⟨g, o, rfl, q0⟩ := Bytes.at (w := wr) (l := l) (c := c) (a := a) (Slc.kept0 HB.o Ge.o) hka
   have HZ : Hid (hexL (l.take (k + 1)) = hexL (l.take k) ++ [hexd (l[k].toNat / 16), hexd (l[k].toNat % 16)]) := qI (by rw [List.take_succ_eq_append_getElem hka, hexL_snoc, List.append_assoc]; rfl)
   have Gf : Hid (l[k].toNat < 256) := qI l[k].toNat_lt
   revert q0 HZ Gf
   generalize l[k].toNat = b
   intro q0 HZ Gf
   clear hka
   obtain ⟨h1, e1⟩ := digits_at (b / 16) (by have := Gf.o; omega)
   obtain ⟨h2, e2⟩ := digits_at (b % 16) (by omega)
   have i1 := index_strU Tryz.underlying9 _ _ h1
   have i2 := index_strU Tryz.underlying9 _ _ h2
   rw [e1] at i1
   rw [e2] at i2
   obtain ⟨y, Gl⟩ : ∃ y : Int, Hid (y = (b : Int)) := ⟨_, qI rfl⟩
   obtain ⟨hi, HH⟩ : ∃ hi : Int, Hid (hi = ((b / 16 : Nat) : Int)) := ⟨_, qI rfl⟩
   obtain ⟨lo, HL⟩ : ∃ lo : Int, Hid (lo = ((b % 16 : Nat) : Int)) := ⟨_, qI rfl⟩
   obtain ⟨xh, Gw⟩ : ∃ xh : Int, Hid (xh = (hexd (b / 16)).toNat) := ⟨_, qI rfl⟩
   obtain ⟨xl, Gx⟩ : ∃ xl : Int, Hid (xl = (hexd (b % 16)).toNat) := ⟨_, qI rfl⟩
   rw [← HH.o, ← Gw.o] at i1
   rw [← HL.o, ← Gx.o] at i2
   rw [← Gl.o] at q0
   have IH := qI i1
   have IL := qI i2
   have HQ := qI q0
   have HY : Hid (0 ≤ y ∧ y < 256) := qI (by have := Gl.o; have := Gf.o; omega)
   have Jf : Hid (y / 16 = hi) := qI (by have := Gl.o; have := HH.o; omega)
   have Jg : Hid (y % 16 = lo) := qI (by have := Gl.o; have := HL.o; omega)
   have Jh : Hid ([Value.int .u8 xh, .int .u8 xl] = [hexd (b / 16), hexd (b % 16)].map bv) := qI (by rw [Gw.o, Gx.o]; rfl)
   have Gc := qI hlt
   clear i1 i2 q0 h1 h2 e1 e2 hlt
   go_upto_region 5 with fail
   refine wp_grows_late (n := 28) 14 [Fact.is (.slice a3 m c3),
    Fact.is (.slice (some ⟨g, o, none⟩) N c),
    Fact.is (.int .i64 k),
    Fact.is (.pointer (some ⟨g, o + k, none⟩)),
    Fact.is (.int .u8 y),
    Fact.is (.int .u8 hi),
    Fact.is (.int .u8 xh),
    Fact.is (.slice (some ⟨g, o, none⟩) N c),
    Fact.is (.int .i64 k),
    Fact.is (.pointer (some ⟨g, o + k, none⟩)),
    Fact.is (.int .u8 y),
    Fact.is (.int .u8 lo),
    Fact.is (.int .u8 xl),
    pairFact [.int .u8 xh, .int .u8 xl] 2 1] (by kernel_rfl) rfl (by kernel_rfl) (fun x => by simp only [List.map, puts, Act.put, List.setIfInBounds_toArray, List.set_cons_zero, List.set_cons_succ]; rfl) (fun x hx => by rw [show x 15 = .slice a3 m c3 from hx 15 (by decide) (by decide)]) ?_ ?_
   ·refine ⟨fun x w2 hkw b hd => ?_, fun x w2 hkw b hd => ?_, fun x w2 hkw b hd => ?_, fun x w2 hkw b hd => ?_, fun x w2 hkw b hd => ?_, fun x w2 hkw b hd => ?_, fun x w2 hkw b hd => ?_, fun x w2 hkw b hd => ?_, fun x w2 hkw b hd => ?_, fun x w2 hkw b hd => ?_, fun x w2 hkw b hd => ?_, fun x w2 hkw b hd => ?_, fun x w2 hkw b hd => ?_, fun x w2 hkw b hd => ?_, trivial⟩
    ·go_wp2_with fail
     exact ⟨rfl, Kept.refl _ _⟩
    ·go_wp2_with fail
     exact ⟨rfl, Kept.refl _ _⟩
    ·go_wp2_with fail
     exact ⟨rfl, Kept.refl _ _⟩
    ·have d1 : x 1 = _ := hd 1 (by kernel_rfl)
     have d2 : x 2 = _ := hd 2 (by kernel_rfl)
     have hkI := Gv.o
     go_wp2_with fail
     exact ⟨rfl, Kept.refl _ _⟩
    ·have d3 : x 3 = _ := hd 3 (by kernel_rfl)
     have y0 := hkw.cell HQ.o (by simp)
     go_wp2_with fail
     exact ⟨rfl, Kept.refl _ _⟩
    ·have d4 : x 4 = _ := hd 4 (by kernel_rfl)
     have hy0 := HY.o.1
     have hy1 := HY.o.2
     go_wp2_with fail
     exact ⟨congrArg (Value.int .u8) Jf.o, Kept.refl _ _⟩
    ·have d5 : x 5 = _ := hd 5 (by kernel_rfl)
     have hix := IH.o w2
     go_wp2_with fail
     exact ⟨rfl, Kept.refl _ _⟩
    ·go_wp2_with fail
     exact ⟨rfl, Kept.refl _ _⟩
    ·go_wp2_with fail
     exact ⟨rfl, Kept.refl _ _⟩
    ·have d7 : x 7 = _ := hd 7 (by kernel_rfl)
     have d8 : x 8 = _ := hd 8 (by kernel_rfl)
     have hkI := Gv.o
     go_wp2_with fail
     exact ⟨rfl, Kept.refl _ _⟩
    ·have d9 : x 9 = _ := hd 9 (by kernel_rfl)
     have y0 := hkw.cell HQ.o (by simp)
     go_wp2_with fail
     exact ⟨rfl, Kept.refl _ _⟩
    ·have d10 : x 10 = _ := hd 10 (by kernel_rfl)
     have hy0 := HY.o.1
     have hy1 := HY.o.2
     go_wp2_with fail
     exact ⟨congrArg (Value.int .u8) Jg.o, Kept.refl _ _⟩
    ·have d11 : x 11 = _ := hd 11 (by kernel_rfl)
     have hix := IL.o w2
     go_wp2_with fail
     exact ⟨rfl, Kept.refl _ _⟩
    ·have d6 : x 6 = _ := hd 6 (by kernel_rfl)
     have d12 : x 12 = _ := hd 12 (by kernel_rfl)
     go_wp2_with fail
     exact ⟨⟨w2.heap.size, rfl, Nat.le_refl _, by simp, slc_new w2 [.int .u8 xh, .int .u8 xl] 1 2 _ _ rfl rfl (by decide)⟩, (Kept.refl _ _).alloc _⟩
   ·intro x w7 hkw b7 hd hwin
    have d0 : x 0 = _ := hd 0 (by decide)
    obtain ⟨g9, d13, -, -, hsl⟩ := hd 13 (by decide)
    have Gm := qI hsl
    have Gg := qI hkw
    clear hd hwin hkw hsl
    change wpList _ _ _ [_, _] _ _
    go_wp2_with (at_builtin; refine wpList_append_slc tyByteJ (v := .slice a3 m c3) (n := m) (row_kept Ga.o Gg.o (by simp)) Gm.o (by simp [Value.oneCell']) (by simp only [maxLen]; have := Gq.o; have := HM.o; have := Gc.o; omega) (by have := Gq.o; have := HM.o; have := Gc.o; omega) (by have := Ge.o.size; have := Gg.o.size; omega) rfl _ _ rfl d0 d13 ?_; intro v5 w8 hown hk5 _ hb5; obtain ⟨a5, c5, rfl, -, -⟩ := (Slc.of_row hown).form; have Gd := qI hown; have Gn := qI hk5; clear hown hk5 hb5)
    case roundEnd =>
     refine ⟨⟨k + 1, m + 2, a5, c5, by go_num, by have := Gc.o; omega, qI (by have := HM.o; omega), rfl, ?_, (Ge.o.then Gg.o).trans Gn.o (fun i hi => .inr (Ga.o.lt i (Option.mem_toList.1 hi)).1)⟩, by have := Gc.o; simp [intOf]; omega⟩
     have h9 := Gd.o
     rw [Jh.o, ← List.map_append, ← HZ.o] at h9
     exact h9
  ·obtain rfl : k = N := by omega
   have hge : ¬ k < k := by omega
   have hrow := Ga.o
   rw [List.take_of_length_le (by have := HN.o; omega)] at hrow
   have hsl := Slc.of_row hrow
   have hmm : m = (hexL l).length := by rw [hexL_len, HM.o, HN.o]
   rw [hmm] at hsl
   have htr : (convert 82 9 (.slice a3 m c3)).run Tryz.prog wr = .ok (.string (hexS l)) wr := by rw [hmm]; exact Bytes.toStr (l := hexL l) hsl
   clear hrow hsl hmm
   go_wp2_with fail
   go_ret
   exact ⟨rfl, Ge.o⟩
theorem refMayBits_any (b : Int) (h0 : -9223372036854775808 ≤ b) (h1 : b ≤ 9223372036854775807) (w : World) : Calls Tryz.prog 95 #[.int .i64 b] w fun e w' => e = .returned (.bool (mayBits b)) ∧ w = w' := by
 have HB : Hid (mayBits b = (decide (8 ≤ b) && (decide (b ≤ 256) && decide (b % 8 = 0)))) := qI rfl
 by_cases k1 : 8 ≤ b
 ·have d1 : decide (8 ≤ b) = true := decide_eq_true k1
  by_cases k2 : b ≤ 256
  ·have d2 : decide (b ≤ 256) = true := decide_eq_true k2
   by_cases k3 : b % 8 = 0
   all_goals
    go_enter Tryz.func95, Tryz.ntmps95
    go_wp2_with fail
    go_ret
    exact ⟨by rw [HB.o, d1, d2]; simp [k3], rfl⟩
  ·have d2 : decide (b ≤ 256) = false := decide_eq_false k2
   go_enter Tryz.func95, Tryz.ntmps95
   go_wp2_with fail
   go_ret
   exact ⟨by rw [HB.o, d1, d2]; rfl, rfl⟩
 ·have d1 : decide (8 ≤ b) = false := decide_eq_false k1
  go_enter Tryz.func95, Tryz.ntmps95
  go_wp2_with fail
  go_ret
  exact ⟨by rw [HB.o, d1]; rfl, rfl⟩
theorem refMayKey_any (k : KeyS) (hb : wf64I k.bits) (w : World) : Calls Tryz.prog 51 #[.agg (keyA k)] w fun e w' => e = .returned (.bool (mayKey k)) ∧ Kept [] w w' := by
 have HM : Hid (mayKey k = (mayBits k.bits && (decide (0 ≤ k.height) && decide (k.height ≤ 6)))) := qI rfl
 obtain ⟨W0, Gb⟩ : ∃ W0, Hid (W0 = w.alloc (.cells (keyA k) 24)) := ⟨_, qI rfl⟩
 have Gh : Hid (Kept [] w W0) := qI (by rw [Gb.o]; exact (Kept.refl _ w).alloc _)
 have HA : Hid (KeyAt W0 w.heap.size k) := qI (by rw [Gb.o]; exact block_alloc rfl)
 have CL := qI (fun w1 : World => refMayBits_any k.bits hb.1 hb.2 w1)
 have c0 := HA.o.c0
 have c1 := HA.o.c1
 revert HM CL
 generalize mayBits k.bits = r
 intro HM CL
 cases r with
 | false =>
  go_enter Tryz.func51, Tryz.ntmps51
  go_upto_region 1 with fail
  rw [← Gb.o]
  go_wp2_with (go_at_call 95; refine (CL.o _).mono ?_; rintro e w2 ⟨rfl, rfl⟩)
  go_ret
  exact ⟨by rw [HM.o]; rfl, Gh.o⟩
 | true =>
  by_cases k1 : 0 ≤ k.height
  ·have d1 : decide (0 ≤ k.height) = true := decide_eq_true k1
   go_enter Tryz.func51, Tryz.ntmps51
   go_upto_region 1 with fail
   rw [← Gb.o]
   go_wp2_with (go_at_call 95; refine (CL.o _).mono ?_; rintro e w2 ⟨rfl, rfl⟩)
   go_ret
   exact ⟨by rw [HM.o, d1]; rfl, Gh.o⟩
  ·have d1 : decide (0 ≤ k.height) = false := decide_eq_false k1
   go_enter Tryz.func51, Tryz.ntmps51
   go_upto_region 1 with fail
   rw [← Gb.o]
   go_wp2_with (go_at_call 95; refine (CL.o _).mono ?_; rintro e w2 ⟨rfl, rfl⟩)
   go_ret
   exact ⟨by rw [HM.o, d1]; rfl, Gh.o⟩
end Go.Proofs.YtckbnjipecclaaaGreatDoor

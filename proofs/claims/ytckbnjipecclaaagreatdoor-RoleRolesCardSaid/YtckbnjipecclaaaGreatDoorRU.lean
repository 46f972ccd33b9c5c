/- Parts of one proof, merged: XGF XGG XIM. -/
import Derived.Test.YtckbnjipecclaaaGreatDoorRT
import Derived.Test.YtckbnjipecclaaaGreatDoorRS
set_option linter.all false
set_option maxHeartbeats 12800000
set_option maxRecDepth 10000
set_option linter.unusedVariables false
set_option linter.unusedSimpArgs false
set_option linter.unnecessarySimpa false
namespace Go.Proofs.YtckbnjipecclaaaGreatDoor
open Go.RowKit
theorem refInt_any (n : Int) (w : World) : Calls Tryz.prog 55 #[.int .i64 n] w fun e w' => e = .returned (.agg #[.int .i64 3, .int .i64 n, .string ⟨#[]⟩, .slice none 0 0, .slice none 0 0]) ∧ Kept [] w w' := by
 go_enter Tryz.func55, Tryz.ntmps55
 go_wp2_with fail
 exact bodyPost_ret (v := .agg #[.int .i64 3, .int .i64 n, .string ⟨#[]⟩, .slice none 0 0, .slice none 0 0]) (by simp [results, Tryz.results55, go_sem]) rfl ⟨rfl, (Kept.refl _ _).alloc _⟩
theorem refText_any (s : ByteArray) (w : World) : Calls Tryz.prog 56 #[.string s] w fun e w' => e = .returned (.agg #[.int .i64 4, .int .i64 0, .string s, .slice none 0 0, .slice none 0 0]) ∧ Kept [] w w' := by
 go_enter Tryz.func56, Tryz.ntmps56
 go_wp2_with fail
 exact bodyPost_ret (v := .agg #[.int .i64 4, .int .i64 0, .string s, .slice none 0 0, .slice none 0 0]) (by simp [results, Tryz.results56, go_sem]) rfl ⟨rfl, (Kept.refl _ _).alloc _⟩
def NewR (n : Nat) (S : Nat → Prop) (w' : World) (e : Ending) (v : V n) : Prop := ∃ cs : List Value, e = .returned (.agg cs.toArray) ∧ Rep n S w' cs v
theorem zip_take {α β : Type} : ∀ (l : List α) (m : List β) (k : Nat) (h1 : k < l.length) (h2 : k < m.length), (l.zip m).take (k + 1) = (l.zip m).take k ++ [(l[k], m[k])]
 | [], _, _, h, _ => by simp at h
 | _ :: _, [], _, _, h => by simp at h
 | a :: l, b :: m, 0, _, _ => rfl
 | a :: l, b :: m, k + 1, h1, h2 => by
  have := zip_take l m k (by simpa using h1) (by simpa using h2)
  simp only [List.zip_cons_cons, List.take_succ_cons, this, List.getElem_cons_succ, List.cons_append]
theorem pairCs_snoc (l : List (ByteArray × List Value)) (p : ByteArray × List Value) : pairCs (l ++ [p]) = pairCs l ++ pairC p := by simp [pairCs]
theorem zip_all2 {α β γ : Type} {R : α → β → Prop} {ks : List γ} {xs : List α} {ys : List β} (h : All2 R xs ys) : All2 (fun (p : γ × α) (q : γ × β) => p.1 = q.1 ∧ R p.2 q.2) (ks.zip xs) (ks.zip ys) := by
 refine ⟨by simp [h.1], ?_⟩
 intro j x y hx hy
 rw [List.getElem?_zip_eq_some] at hx hy
 rw [hx.1] at hy
 exact ⟨Option.some.inj hy.1, h.2 j _ _ hx.2 hy.2⟩
theorem items_at {n : Nat} {S : Nat → Prop} {w : World} {b : Option Addr} {N d : Nat} {lcs : List (List Value)} {vs : List (V n)} (hl : Slc w 5 (.slice b N d) N lcs.flatten) (ha : All2 (Rep n S w) lcs vs) (hN : vs.length = N) {k : Nat} (hk : k < N) :
  ∃ g o kd nm s p i c q j e, b = some ⟨g, o, none⟩ ∧ w.cell? ⟨g, o + k * 5, none⟩ = some (.int .i64 kd) ∧ w.cell? ⟨g, o + k * 5 + 1, none⟩ = some (.int .i64 nm) ∧ w.cell? ⟨g, o + k * 5 + 2, none⟩ = some (.string s) ∧
   w.cell? ⟨g, o + k * 5 + 3, none⟩ = some (.slice p i c) ∧ w.cell? ⟨g, o + k * 5 + 4, none⟩ = some (.slice q j e) ∧ lcs[k]? = some [.int .i64 kd, .int .i64 nm, .string s, .slice p i c, .slice q j e] := by
 have hk' : k < lcs.length := by rw [ha.1]; omega
 have hr := ha.2 k _ _ (List.getElem?_eq_getElem hk') (List.getElem?_eq_getElem (by omega))
 obtain ⟨kd, nm, s, p, i, c, q, j, e, he⟩ := hr.conv
 have hfive : ∀ c, c ∈ lcs → c.length = 5 := by
  intro c hc
  obtain ⟨i, hi, rfl⟩ := List.getElem_of_mem hc
  exact (ha.2 i _ _ (List.getElem?_eq_getElem hi) (List.getElem?_eq_getElem (by have := ha.1; omega))).len
 rcases hl.2 with ⟨_, h0⟩ | ⟨h0, _⟩ | ⟨g, o, cap, hsv, _, _, hrow⟩
 ·omega
 ·omega
 simp only [Value.slice.injEq] at hsv
 have hc : ∀ i, i < 5 → lcs.flatten[k * 5 + i]? = lcs[k][i]? := fun i hi => flat_get lcs k i hfive hk' hi
 rw [he] at hc
 refine ⟨g, o, kd, nm, s, p, i, c, q, j, e, hsv.1, hrow.cells (k * 5 + 0) _ (hc 0 (by decide)), ?_, ?_, ?_, ?_, by rw [List.getElem?_eq_getElem hk', he]⟩
 all_goals rw [Nat.add_assoc]
 ·exact hrow.cells (k * 5 + 1) _ (hc 1 (by decide))
 ·exact hrow.cells (k * 5 + 2) _ (hc 2 (by decide))
 ·exact hrow.cells (k * 5 + 3) _ (hc 3 (by decide))
 ·exact hrow.cells (k * 5 + 4) _ (hc 4 (by decide))
theorem refMap_any {n : Nat} {S : Nat → Prop} {w : World} {a b : Option Addr} {c d N : Nat} {ks : List ByteArray} {lcs : List (List Value)} {vs : List (V n)} (hk : Texts w (.slice a ks.length c) ks) (hl : Slc w 5 (.slice b N d) N lcs.flatten) (ha : All2 (Rep n S w) lcs vs) (hN : vs.length = N) (hM : ks.length = N) (hlt : N ≤ 100) :
  Calls Tryz.prog 54 #[.slice a N c, .slice b N d] w fun e w' => NewR (n + 1) (fun g => S g ∨ w.heap.size ≤ g) w' e (mapV (ks.zip vs) : VS (V n)) ∧ Kept [] w w' := by
 obtain ⟨W0, Gc⟩ : ∃ W0, Hid (W0 = (w.alloc (.cells #[.int .i64 0, .int .i64 0, .string ⟨#[]⟩, .slice none 0 0, .slice none 0 0] 28)).alloc (.cells #[.int .i64 6, .int .i64 0, .string ⟨#[]⟩, .slice none 0 0, .slice none 0 0] 28)) := ⟨_, qI rfl⟩
 have Gm : Hid (Kept [] w W0) := qI (by rw [Gc.o]; exact ((Kept.refl _ w).alloc _).alloc _)
 have Je : Hid (W0.heap[w.heap.size]? = some (.cells #[.int .i64 0, .int .i64 0, .string ⟨#[]⟩, .slice none 0 0, .slice none 0 0] 28 (0, 0))) := qI (by rw [Gc.o]; exact ((Kept.refl [] _).alloc _).heap (block_alloc rfl) (by simp))
 have Gn : Hid (W0.heap[w.heap.size + 1]? = some (.cells #[.int .i64 6, .int .i64 0, .string ⟨#[]⟩, .slice none 0 0, .slice none 0 0] 28 (0, 0))) := qI (by rw [Gc.o]; exact block_alloc (by simp))
 have Gl : Hid (W0.heap.size = w.heap.size + 2) := qI (by rw [Gc.o]; simp)
 have HA := qI (ha.mono (fun _ _ _ r => r.kept0 Gm.o))
 have Mf := qI ha
 have Mp := qI hl
 have Mq : Hid (Texts w (.slice a N c) ks) := qI (by rw [← hM]; exact hk)
 have HN := qI hN
 have HM := qI hM
 have hNI : (N : Int) ≤ 100 := by omega
 have Mr : Hid ((ks.zip lcs).length = N) := qI (by have := ha.1; simp; omega)
 clear hk hl ha hN hM hlt
 go_enter Tryz.func54, Tryz.ntmps54
 go_upto_region 2 with fail
 rw [← Gc.o]
 go_wp2_with fail
 go_loopw [6] (fun i wr => ∃ (k cm : Nat) (am : Option Addr), i = .int .i64 k ∧ k ≤ N ∧ wr.heap[w.heap.size + 1]? = some (.cells #[.int .i64 6, .int .i64 0, .string ⟨#[]⟩, .slice none 0 0, .slice am k cm] 28 (0, 0)) ∧ wr.ownsRow W0.heap.size 78 6 (.slice am k cm) k (pairCs ((ks.zip lcs).take k)) ∧ Kept [w.heap.size + 1] W0 wr) (fun i _ => N - (intOf i).toNat)
 case atStart => exact ⟨0, 0, none, rfl, Nat.zero_le _, Gn.o, World.ownsRow_nil _ _ _ _, Kept.refl _ _⟩
 case round =>
  obtain ⟨k, cm, am, rfl, hk, hb, hrow, hkr⟩ := hrel
  have HB := qI hb
  have Ga := qI hrow
  have Gj := qI hkr
  have Gf : Hid (Kept [] w wr) := qI (Gm.o.trans hkr (by intro i hi; simp at hi; subst hi; exact .inr (by omega)))
  clear hb hrow hkr
  by_cases hlt : k < N
  ·have hltI : (k : Int) < N := by omega
   have Jf : Hid ((k : Int) < N) := qI hltI
   have hka : k < ks.length := by rw [HM.o]; exact hlt
   have hkl : k < lcs.length := by have := HA.o.1; have := HN.o; omega
   obtain ⟨ga, oa, ea, q0⟩ := Texts.at (w := wr) (l := ks) (c := c) (a := a) (by rw [HM.o]; exact Mq.o.kept0 Gf.o) hka
   obtain ⟨gb, ob, kd, nm, st, p1, i1, d1, p2, i2, d2, eb, s0, s1, s2, s3, s4, hcs⟩ := items_at (w := wr) (Mp.o.kept0 Gf.o) (Mf.o.mono (fun _ _ _ r => r.kept0 Gf.o)) HN.o hlt
   subst ea eb
   have HZ : Hid ((ks.zip lcs).take (k + 1) = (ks.zip lcs).take k ++ [(ks[k], lcs[k])]) := qI (zip_take _ _ _ hka hkl)
   have f4 := cell_head (o := 4) (v := .slice am k cm) HB.o rfl
   rw [List.getElem?_eq_getElem hkl, Option.some.injEq] at hcs
   rw [hcs] at HZ
   clear hcs hkl
   revert q0 HZ
   generalize ks[k] = key
   intro q0 HZ
   clear hka
   have Gp := qI hlt
   clear hlt
   go_upto_region 5 with fail
   refine wp_grows (n := 29) 12 [Fact.is (.pointer (some ⟨w.heap.size + 1, 4, none⟩)),
    Fact.is (.slice am k cm),
    Fact.is (.slice (some ⟨ga, oa, none⟩) N c),
    Fact.is (.int .i64 k),
    Fact.is (.pointer (some ⟨ga, oa + k, none⟩)),
    Fact.is (.string key),
    Fact.is (.slice (some ⟨gb, ob, none⟩) N d),
    Fact.is (.int .i64 k),
    Fact.is (.pointer (some ⟨gb, ob + k * 5, none⟩)),
    Fact.is (.agg #[.int .i64 kd, .int .i64 nm, .string st, .slice p1 i1 d1, .slice p2 i2 d2]),
    Fact.is (.agg #[.string key, .int .i64 kd, .int .i64 nm, .string st, .slice p1 i1 d1, .slice p2 i2 d2]),
    pairFact [.string key, .int .i64 kd, .int .i64 nm, .string st, .slice p1 i1 d1, .slice p2 i2 d2] 1 6] (by kernel_rfl) rfl (by kernel_rfl) (fun x => by simp only [List.map, puts, Act.put, List.setIfInBounds_toArray, List.set_cons_zero, List.set_cons_succ]; rfl) ?_ ?_
   ·refine ⟨fun x w2 hkw b hd => ?_, fun x w2 hkw b hd => ?_, fun x w2 hkw b hd => ?_, fun x w2 hkw b hd => ?_, fun x w2 hkw b hd => ?_, fun x w2 hkw b hd => ?_, fun x w2 hkw b hd => ?_, fun x w2 hkw b hd => ?_, fun x w2 hkw b hd => ?_, fun x w2 hkw b hd => ?_, fun x w2 hkw b hd => ?_, fun x w2 hkw b hd => ?_, trivial⟩
    ·go_wp2_with fail
     exact ⟨rfl, Kept.refl _ _⟩
    ·have d0 : x 0 = _ := hd 0 (by kernel_rfl)
     have y0 := hkw.cell f4 (by simp)
     go_wp2_with fail
     exact ⟨rfl, Kept.refl _ _⟩
    ·go_wp2_with fail
     exact ⟨rfl, Kept.refl _ _⟩
    ·go_wp2_with fail
     exact ⟨rfl, Kept.refl _ _⟩
    ·have d2 : x 2 = _ := hd 2 (by kernel_rfl)
     have d3 : x 3 = _ := hd 3 (by kernel_rfl)
     have hkN := Jf.o
     go_wp2_with fail
     exact ⟨rfl, Kept.refl _ _⟩
    ·have d4 : x 4 = _ := hd 4 (by kernel_rfl)
     have y0 := hkw.cell q0 (by simp)
     go_wp2_with fail
     exact ⟨rfl, Kept.refl _ _⟩
    ·go_wp2_with fail
     exact ⟨rfl, Kept.refl _ _⟩
    ·go_wp2_with fail
     exact ⟨rfl, Kept.refl _ _⟩
    ·have d6 : x 6 = _ := hd 6 (by kernel_rfl)
     have d7 : x 7 = _ := hd 7 (by kernel_rfl)
     have hkN := Jf.o
     go_wp2_with fail
     exact ⟨rfl, Kept.refl _ _⟩
    ·have d8 : x 8 = _ := hd 8 (by kernel_rfl)
     have y0 := hkw.cell s0 (by simp)
     have y1 := hkw.cell s1 (by simp)
     have y2 := hkw.cell s2 (by simp)
     have y3 := hkw.cell s3 (by simp)
     have y4 := hkw.cell s4 (by simp)
     go_wp2_with fail
     exact ⟨rfl, Kept.refl _ _⟩
    ·have d5 : x 5 = _ := hd 5 (by kernel_rfl)
     have d9 : x 9 = _ := hd 9 (by kernel_rfl)
     go_wp2_with fail
     exact ⟨rfl, Kept.refl _ _⟩
    ·have d10 : x 10 = _ := hd 10 (by kernel_rfl)
     go_wp2_with fail
     exact ⟨⟨w2.heap.size, rfl, Nat.le_refl _, by simp, slc_new w2 [.string key, .int .i64 kd, .int .i64 nm, .string st, .slice p1 i1 d1, .slice p2 i2 d2] 6 1 _ _ rfl rfl (by decide)⟩, (Kept.refl _ _).alloc _⟩
   ·intro x w7 hkw b7 hd hwin
    have d9 : x 1 = _ := hd 1 (by decide)
    obtain ⟨g9, d11, -, -, hsl⟩ := hd 11 (by decide)
    have Jq := qI hsl
    have Gg := qI hkw
    have Jr := qI (hkw.heap HB.o (by simp))
    have Ja := qI Ga.o.lt
    have Js : Hid (w.heap.size + 1 ∉ (Value.slice am k cm).ownBlock.toList) := qI (fun hx => by have h1 := (Ja.o _ (Option.mem_toList.1 hx)).1; have h3 := Gl.o; omega)
    clear hd hwin hkw hsl
    change wpList _ _ _ [_, _, _] _ _
    go_wp2_with (at_builtin; refine wpList_append_slc tyPairs (v := .slice am k cm) (n := k) (row_kept Ga.o Gg.o (by simp)) Jq.o (by simp [Value.oneCell']) (by simp only [maxLen]; have := Gp.o; omega) (by have := Gp.o; omega) (by have := Gj.o.size; have := Gg.o.size; omega) rfl _ _ rfl d9 d11 ?_; intro v5 w8 hown hk5 _ hb5; obtain ⟨a5, c5, rfl, -, -⟩ := (Slc.of_row hown).form; have Ge := qI hown; have Gi := qI hk5; have Gt := qI (hk5.heap Jr.o Js.o); have u0 := cell_head (o := 4) (v := .slice am k cm) Gt.o rfl; have uf := free_head (o := 4) Gt.o; clear hown hk5 hb5)
    case roundEnd =>
     have hst : Kept [w.heap.size + 1] w8 (w8.setCell ⟨w.heap.size + 1, 4, none⟩ (.slice a5 (k + 1) c5)) := (Kept.refl _ _).setCell (.inl (by simp)) _
     have hX5 : ∀ i, i ∈ (Value.slice am k cm).ownBlock.toList → W0.heap.size ≤ i := fun i hi => (Ja.o i (Option.mem_toList.1 hi)).1
     refine ⟨⟨k + 1, c5, a5, by go_num, by have := Gp.o; omega, block_setCell Gt.o rfl, ?_, ((Gj.o.then Gg.o).trans Gi.o (fun i hi => .inr (hX5 i hi))).trans hst (fun i hi => .inl hi)⟩, by have := Gp.o; simp [intOf]; omega⟩
     rw [HZ.o, pairCs_snoc]
     exact row_kept Ge.o hst (fun g hg => by have := (Ge.o.lt g hg).1; have := Gl.o; simp; omega)
  ·obtain rfl : k = N := by omega
   have hge : ¬ k < k := by omega
   have Gk := qI (Gj.o.heap Je.o (by simp))
   obtain ⟨b0, b1, b2, b3, b4⟩ := box_of HB.o
   obtain ⟨r0, r1, r2, r3, r4⟩ := box_of Gk.o
   have z : ∀ j, wr.frozen? ⟨w.heap.size, j, none⟩ = false := fun j => free_head Gk.o
   go_wp2_with fail
   change bodyPost _ _ _ _ _ (put5 wr w.heap.size 6 0 ⟨#[]⟩ (.slice none 0 0) (.slice am k cm))
   have Gb := put5_kept wr w.heap.size 6 0 ⟨#[]⟩ (.slice none 0 0) (.slice am k cm)
   obtain ⟨y0, y1, y2, y3, y4⟩ := box_of (put5_at Gk.o 6 0 ⟨#[]⟩ (.slice none 0 0) (.slice am k cm))
   revert Gb y0 y1 y2 y3 y4
   generalize put5 wr w.heap.size 6 0 ⟨#[]⟩ (.slice none 0 0) (.slice am k cm) = WF
   intro Gb y0 y1 y2 y3 y4
   refine bodyPost_ret (v := .agg #[.int .i64 6, .int .i64 0, .string ⟨#[]⟩, .slice none 0 0, .slice am k cm]) (by simp [results, Tryz.results54, go_sem, y0, y1, y2, y3, y4]) rfl ?_
   have Gx : Kept [] w WF := Gf.o.trans Gb (by intro i hi; simp at hi; subst hi; exact .inr (Nat.le_refl _))
   have hrow := Ga.o
   rw [List.take_of_length_le (by have := Mr.o; omega)] at hrow
   have hsl := (Slc.of_row hrow).kept Gb (fun g hg => by have := (hrow.lt g (own_of_vblk hg)).1; have := Gl.o; simp; omega)
   have hzl : (mapV (ks.zip vs) : VS (V n)).m.length = k := by show (ks.zip vs).length = k; have := HN.o; have := HM.o; simp; omega
   refine ⟨⟨[.int .i64 6, .int .i64 0, .string ⟨#[]⟩, .slice none 0 0, .slice am k cm], rfl, .slice none 0 0, .slice am k cm, [], ks.zip lcs, {
    cells := rfl
    slcl := slc_nil _ _
    alll := All2.nil _
    slcm := by rw [hzl]; exact hsl
    allm := zip_all2 ((Mf.o.mono (fun _ _ _ r => r.kept0 Gx)).mono (fun _ _ _ r => r.mono (fun _ _ h => .inl h)))
    inl := by simp [vblk]
    inm := fun g hg => .inr (by have := (hrow.lt g (own_of_vblk hg)).1; have := Gl.o; omega)
    wfk := wf64 (i := 6) (by decide) (by decide)
    wfn := wf64 (i := 0) (by decide) (by decide) }⟩, Gx⟩
def repFact (S : Nat → Prop) (n : Nat) (v : V n) : Fact (Kept []) := ⟨fun u _ w => ∃ k m s p i c q j d, u = .agg #[.int .i64 k, .int .i64 m, .string s, .slice p i c, .slice q j d] ∧ Rep n S w [.int .i64 k, .int .i64 m, .string s, .slice p i c, .slice q j d] v,
 fun _ _ _ _ ⟨k, m, s, p, i, c, q, j, d, h1, h2⟩ kk => ⟨k, m, s, p, i, c, q, j, d, h1, h2.kept0 kk⟩⟩
theorem rep_listR {n : Nat} {S : Nat → Prop} {w : World} {vl : Value} {N : Nat} {lcs : List (List Value)} {vs : List (V n)} (hl : Slc w 5 vl N lcs.flatten) (ha : All2 (Rep n S w) lcs vs) (hN : vs.length = N) (hg : ∀ g, vblk vl = some g → S g) : Rep (n + 1) S w [.int .i64 5, .int .i64 0, .string ⟨#[]⟩, vl, .slice none 0 0] (listV vs : VS (V n)) :=
 ⟨vl, .slice none 0 0, lcs, [], {
  cells := rfl
  slcl := by rw [show (listV vs : VS (V n)).l.length = N from hN]; exact hl
  alll := ha
  slcm := slc_nil _ _
  allm := All2.nil _
  inl := hg
  inm := by simp [vblk]
  wfk := wf64 (i := 5) (by decide) (by decide)
  wfn := wf64 (i := 0) (by decide) (by decide) }⟩
def RoleAnsR (w w' : World) (e : Ending) (r : RoleS) : Prop := if mayRole r = true then NewR 3 (fun g => w.heap.size ≤ g) w' e (roleV r) else e = .returned zero5
theorem refRoleValue_any {w : World} {r : RoleS} {a : Option Addr} {c : Nat} (h : Texts w (.slice a r.keys.length c) r.keys) (hz : ∀ k, k ∈ r.keys → k.size ≤ 140737488355328) (hlen : r.keys.length ≤ 1000000000000) :
  Calls Tryz.prog 21 #[.agg #[.slice a r.keys.length c, .int .i64 r.thr]] w fun e w' => RoleAnsR w w' e r ∧ Kept [] w w' := by
 obtain ⟨W0, Gc⟩ : ∃ W0, Hid (W0 = (w.alloc (.cells #[.slice a r.keys.length c, .int .i64 r.thr] 43)).alloc (.cells #[.int .i64 0, .int .i64 0, .string ⟨#[]⟩, .slice none 0 0, .slice none 0 0] 28)) := ⟨_, qI rfl⟩
 have Gm : Hid (Kept [] w W0) := qI (by rw [Gc.o]; exact ((Kept.refl _ w).alloc _).alloc _)
 have Gn : Hid (W0.heap[w.heap.size]? = some (.cells #[.slice a r.keys.length c, .int .i64 r.thr] 43 (0, 0))) := qI (by rw [Gc.o]; exact ((Kept.refl [] _).alloc _).heap (block_alloc rfl) (by simp))
 have Je : Hid (W0.heap[w.heap.size + 1]? = some (.cells #[.int .i64 0, .int .i64 0, .string ⟨#[]⟩, .slice none 0 0, .slice none 0 0] 28 (0, 0))) := qI (by rw [Gc.o]; exact block_alloc (by simp))
 have Gl : Hid (W0.heap.size = w.heap.size + 2) := qI (by rw [Gc.o]; simp)
 have H := qI (h.kept0 Gm.o)
 have CM := qI (refMay_any (h.kept0 Gm.o) hz hlen)
 have HI : Hid (mayRole r = true → r.keys.length ≤ 16 ∧ 1 ≤ r.thr ∧ r.thr ≤ 16 ∧ r.thr ≤ r.keys.length ∧ ∀ s, s ∈ r.keys → isIdB s = true ∧ s.size = 64) := qI mayRole_ids
 obtain ⟨N, HN⟩ : ∃ N, Hid (N = r.keys.length) := ⟨_, qI rfl⟩
 rw [← HN.o] at Gc Gn H CM HI ⊢
 have c0 := cell_head (o := 0) (v := .slice a N c) Gn.o rfl
 have c1 := cell_head (o := 1) (v := .int .i64 r.thr) Gn.o rfl
 clear h hz hlen
 by_cases hm : mayRole r = true
 rotate_left
 ·have HA : Hid (∀ w' e, RoleAnsR w w' e r = (e = .returned zero5)) := qI (fun w' e => by unfold RoleAnsR; rw [if_neg hm])
  have hm2 : mayRole r = false := by simpa using hm
  rw [hm2] at CM
  clear hm hm2
  go_enter Tryz.func21, Tryz.ntmps21
  go_upto_region 1 with fail
  rw [← Gc.o]
  go_wp2_with (go_at_call 20; refine CM.o.mono ?_; rintro e w1 ⟨rfl, hk1⟩; have Gy := qI hk1; have Jt := qI (hk1.heap Je.o (by simp)); obtain ⟨r0, r1, r2, r3, r4⟩ := box_of Jt.o; have z : ∀ j, w1.frozen? ⟨w.heap.size + 1, j, none⟩ = false := fun j => free_head Jt.o; clear hk1)
  change bodyPost _ _ _ _ _ (put5 w1 (w.heap.size + 1) 0 0 ⟨#[]⟩ (.slice none 0 0) (.slice none 0 0))
  have Gb := put5_kept w1 (w.heap.size + 1) 0 0 ⟨#[]⟩ (.slice none 0 0) (.slice none 0 0)
  obtain ⟨y0, y1, y2, y3, y4⟩ := box_of (put5_at Jt.o 0 0 ⟨#[]⟩ (.slice none 0 0) (.slice none 0 0))
  revert Gb y0 y1 y2 y3 y4
  generalize put5 w1 (w.heap.size + 1) 0 0 ⟨#[]⟩ (.slice none 0 0) (.slice none 0 0) = WF
  intro Gb y0 y1 y2 y3 y4
  refine bodyPost_ret (v := zero5) (by simp [results, Tryz.results21, go_sem, y0, y1, y2, y3, y4, zero5]) rfl ?_
  rw [HA.o]
  exact ⟨rfl, (Gm.o.then Gy.o).trans Gb (by intro i hi; simp at hi; subst hi; exact .inr (by omega))⟩
 have HA : Hid (∀ w' e, RoleAnsR w w' e r = NewR 3 (fun g => w.heap.size ≤ g) w' e (roleV r)) := qI (fun w' e => by unfold RoleAnsR; rw [if_pos hm])
 obtain ⟨n16, t1, t16, -, -⟩ := HI.o hm
 have Ms : Hid (wf64I r.thr) := qI ⟨by omega, by omega⟩
 rw [hm] at CM
 have hNI : (N : Int) ≤ 16 := by omega
 clear hm HI t1 t16 n16
 go_enter Tryz.func21, Tryz.ntmps21
 go_upto_region 1 with fail
 rw [← Gc.o]
 go_upto_region 4 with (go_at_call 20; refine CM.o.mono ?_; rintro e w1 ⟨rfl, hk1⟩; have Gy := qI hk1; clear hk1)
 obtain ⟨W1, Jg⟩ : ∃ W1, Hid (W1 = w1.alloc (.cells #[.int .i64 5, .int .i64 0, .string ⟨#[]⟩, .slice none 0 0, .slice none 0 0] 28)) := ⟨_, qI rfl⟩
 have Mg : Hid (Kept [] W0 W1) := qI (by rw [Jg.o]; exact Gy.o.alloc _)
 obtain ⟨vb, Jh⟩ : ∃ vb, Hid (vb = w1.heap.size) := ⟨_, qI rfl⟩
 have Mt : Hid (W1.heap[vb]? = some (.cells #[.int .i64 5, .int .i64 0, .string ⟨#[]⟩, .slice none 0 0, .slice none 0 0] 28 (0, 0))) := qI (by rw [Jg.o, Jh.o]; exact block_alloc rfl)
 have Ju : Hid (w.heap.size + 2 ≤ vb ∧ vb < W1.heap.size) := qI ⟨by have := Gy.o.size; have := Gl.o; have := Jh.o; omega, by rw [Jg.o, Jh.o]; simp⟩
 rw [← Jg.o, ← Jh.o]
 clear c0 c1
 go_wp2_with fail
 go_loopw [4] (fun i wr => ∃ (k cl : Nat) (al : Option Addr), i = .int .i64 k ∧ k ≤ N ∧ wr.heap[vb]? = some (.cells #[.int .i64 5, .int .i64 0, .string ⟨#[]⟩, .slice al k cl, .slice none 0 0] 28 (0, 0)) ∧ wr.ownsRow W1.heap.size 28 5 (.slice al k cl) k (((r.keys.take k).map textC).flatten) ∧ Kept [vb] W1 wr) (fun i _ => N - (intOf i).toNat)
 case atStart => exact ⟨0, 0, none, rfl, Nat.zero_le _, Mt.o, World.ownsRow_nil _ _ _ _, Kept.refl _ _⟩
 case round =>
  obtain ⟨k, cl, al, rfl, hk, hb, hrow, hkr⟩ := hrel
  have HB := qI hb
  have Ga := qI hrow
  have Gj := qI hkr
  have Gf : Hid (Kept [] W0 wr) := qI (Mg.o.trans hkr (by intro i hi; simp at hi; subst hi; exact .inr (by have := Ju.o; have := Gl.o; omega)))
  clear hb hrow hkr
  have c0 := Gf.o.cell (cell_head (o := 0) (v := .slice a N c) Gn.o rfl) (by simp)
  have c1 := Gf.o.cell (cell_head (o := 1) (v := .int .i64 r.thr) Gn.o rfl) (by simp)
  by_cases hlt : k < N
  ·have hltI : (k : Int) < N := by omega
   have Jf : Hid ((k : Int) < N) := qI hltI
   have hka : k < r.keys.length := by rw [← HN.o]; exact hlt
   obtain ⟨ga, oa, ea, q0⟩ := Texts.at (w := wr) (l := r.keys) (c := c) (a := a) (by rw [← HN.o]; exact H.o.kept0 Gf.o) hka
   subst ea
   have HZ := qI (texts_snoc r.keys k hka)
   have f3 := cell_head (o := 3) (v := .slice al k cl) HB.o rfl
   revert q0 HZ
   generalize r.keys[k] = key
   intro q0 HZ
   clear hka
   have Gp := qI hlt
   clear hlt
   go_upto_region 7 with fail
   refine wp_grows (n := 35) 9 [Fact.is (.pointer (some ⟨vb, 3, none⟩)),
    Fact.is (.slice al k cl),
    Fact.is (.pointer (some ⟨w.heap.size, 0, none⟩)),
    Fact.is (.slice (some ⟨ga, oa, none⟩) N c),
    Fact.is (.int .i64 k),
    Fact.is (.pointer (some ⟨ga, oa + k, none⟩)),
    Fact.is (.string key),
    Fact.is (.agg #[.int .i64 4, .int .i64 0, .string key, .slice none 0 0, .slice none 0 0]),
    pairFact [.int .i64 4, .int .i64 0, .string key, .slice none 0 0, .slice none 0 0] 1 5] (by kernel_rfl) rfl (by kernel_rfl) (fun x => by simp only [List.map, puts, Act.put, List.setIfInBounds_toArray, List.set_cons_zero, List.set_cons_succ]; rfl) ?_ ?_
   ·refine ⟨fun x w2 hkw b hd => ?_, fun x w2 hkw b hd => ?_, fun x w2 hkw b hd => ?_, fun x w2 hkw b hd => ?_, fun x w2 hkw b hd => ?_, fun x w2 hkw b hd => ?_, fun x w2 hkw b hd => ?_, fun x w2 hkw b hd => ?_, fun x w2 hkw b hd => ?_, trivial⟩
    ·go_wp2_with fail
     exact ⟨rfl, Kept.refl _ _⟩
    ·have d0 : x 0 = _ := hd 0 (by kernel_rfl)
     have y0 := hkw.cell f3 (by simp)
     go_wp2_with fail
     exact ⟨rfl, Kept.refl _ _⟩
    ·go_wp2_with fail
     exact ⟨rfl, Kept.refl _ _⟩
    ·have d2 : x 2 = _ := hd 2 (by kernel_rfl)
     have y0 := hkw.cell c0 (by simp)
     go_wp2_with fail
     exact ⟨rfl, Kept.refl _ _⟩
    ·go_wp2_with fail
     exact ⟨rfl, Kept.refl _ _⟩
    ·have d3 : x 3 = _ := hd 3 (by kernel_rfl)
     have d4 : x 4 = _ := hd 4 (by kernel_rfl)
     have hkN := Jf.o
     go_wp2_with fail
     exact ⟨rfl, Kept.refl _ _⟩
    ·have d5 : x 5 = _ := hd 5 (by kernel_rfl)
     have y0 := hkw.cell q0 (by simp)
     go_wp2_with fail
     exact ⟨rfl, Kept.refl _ _⟩
    ·have d6 : x 6 = _ := hd 6 (by kernel_rfl)
     have CX := refText_any key w2
     go_wp2_with (go_at_call 56; refine CX.mono ?_; rintro e w5 ⟨rfl, hk5⟩; have Gi := qI hk5; clear hk5)
     exact ⟨rfl, Gi.o⟩
    ·have d7 : x 7 = _ := hd 7 (by kernel_rfl)
     go_wp2_with fail
     exact ⟨⟨w2.heap.size, rfl, Nat.le_refl _, by simp, slc_new w2 [.int .i64 4, .int .i64 0, .string key, .slice none 0 0, .slice none 0 0] 5 1 _ _ rfl rfl (by decide)⟩, (Kept.refl _ _).alloc _⟩
   ·intro x w7 hkw b7 hd hwin
    have d1 : x 1 = _ := hd 1 (by decide)
    obtain ⟨g9, d8, -, -, hsl⟩ := hd 8 (by decide)
    have Jq := qI hsl
    have Gg := qI hkw
    have Jr := qI (hkw.heap HB.o (by simp))
    have Ja := qI Ga.o.lt
    have Js : Hid (vb ∉ (Value.slice al k cl).ownBlock.toList) := qI (fun hx => by have h1 := (Ja.o _ (Option.mem_toList.1 hx)).1; have h3 := Ju.o; omega)
    clear hd hwin hkw hsl
    change wpList _ _ _ [_, _, _] _ _
    go_wp2_with (at_builtin; refine wpList_append_slc tyVals (v := .slice al k cl) (n := k) (row_kept Ga.o Gg.o (by simp)) Jq.o (by simp [Value.oneCell']) (by simp only [maxLen]; have := Gp.o; omega) (by have := Gp.o; omega) (by have := Gj.o.size; have := Gg.o.size; omega) rfl _ _ rfl d1 d8 ?_; intro v5 w8 hown hk5 _ hb5; obtain ⟨a5, c5, rfl, -, -⟩ := (Slc.of_row hown).form; have Ge := qI hown; have Gi := qI hk5; have Gt := qI (hk5.heap Jr.o Js.o); have u0 := cell_head (o := 3) (v := .slice al k cl) Gt.o rfl; have uf := free_head (o := 3) Gt.o; clear hown hk5 hb5)
    case roundEnd =>
     have hst : Kept [vb] w8 (w8.setCell ⟨vb, 3, none⟩ (.slice a5 (k + 1) c5)) := (Kept.refl _ _).setCell (.inl (by simp)) _
     have hX5 : ∀ i, i ∈ (Value.slice al k cl).ownBlock.toList → W1.heap.size ≤ i := fun i hi => (Ja.o i (Option.mem_toList.1 hi)).1
     refine ⟨⟨k + 1, c5, a5, by go_num, by have := Gp.o; omega, block_setCell Gt.o rfl, ?_, ((Gj.o.then Gg.o).trans Gi.o (fun i hi => .inr (hX5 i hi))).trans hst (fun i hi => .inl hi)⟩, by have := Gp.o; simp [intOf]; omega⟩
     rw [HZ.o]
     exact row_kept Ge.o hst (fun g hg => by have := (Ge.o.lt g hg).1; have := Ju.o; simp; omega)
  ·obtain rfl : k = N := by omega
   have hge : ¬ k < k := by omega
   have hrow := Ga.o
   rw [List.take_of_length_le (by have := HN.o; omega)] at hrow
   have Mu : Hid (W0.heap.size ≤ wr.heap.size) := qI Gf.o.size
   have Mv : Hid (∀ w2, Kept [] wr w2 → Rep 2 (fun g => W0.heap.size ≤ g) w2 [.int .i64 5, .int .i64 0, .string ⟨#[]⟩, .slice al k cl, .slice none 0 0] (keysV 0 r.keys)) := qI (fun w2 hk2 => rep_listR (n := 1) ((Slc.of_row hrow).kept0 hk2) (rep_texts _ w2 r.keys) (by rw [List.length_map]; exact HN.o.symm) (fun g hg => by have := (hrow.lt g (own_of_vblk hg)).1; have := Mg.o.size; omega))
   have Gk := qI (Gf.o.heap Je.o (by simp))
   obtain ⟨b0, b1, b2, b3, b4⟩ := box_of HB.o
   clear hrow
   go_upto_region 8 with fail
   refine wp_grows (n := 35) 7 [pairFact [.string ⟨#[107, 101, 121, 105, 100, 115]⟩, .string ⟨#[116, 104, 114, 101, 115, 104, 111, 108, 100]⟩] 2 1,
    Fact.is (.agg #[.int .i64 5, .int .i64 0, .string ⟨#[]⟩, .slice al k cl, .slice none 0 0]),
    Fact.is (.pointer (some ⟨w.heap.size, 1, none⟩)),
    Fact.is (.int .i64 r.thr),
    Fact.is (.agg #[.int .i64 3, .int .i64 r.thr, .string ⟨#[]⟩, .slice none 0 0, .slice none 0 0]),
    pairFact [.int .i64 5, .int .i64 0, .string ⟨#[]⟩, .slice al k cl, .slice none 0 0, .int .i64 3, .int .i64 r.thr, .string ⟨#[]⟩, .slice none 0 0, .slice none 0 0] 2 5,
    repFact (fun g => W0.heap.size ≤ g) 3 (roleV r)] (by kernel_rfl) rfl (by kernel_rfl) (fun x => by simp only [List.map, puts, Act.put, List.setIfInBounds_toArray, List.set_cons_zero, List.set_cons_succ]; rfl) ?_ ?_
   ·refine ⟨fun x w2 hkw b hd => ?_, fun x w2 hkw b hd => ?_, fun x w2 hkw b hd => ?_, fun x w2 hkw b hd => ?_, fun x w2 hkw b hd => ?_, fun x w2 hkw b hd => ?_, fun x w2 hkw b hd => ?_, trivial⟩
    ·go_wp2_with fail
     exact ⟨⟨w2.heap.size, rfl, Nat.le_refl _, by simp, slc_new w2 [.string ⟨#[107, 101, 121, 105, 100, 115]⟩, .string ⟨#[116, 104, 114, 101, 115, 104, 111, 108, 100]⟩] 1 2 _ _ rfl rfl (by decide)⟩, (Kept.refl _ _).alloc _⟩
    ·have y0 := hkw.cell b0 (by simp)
     have y1 := hkw.cell b1 (by simp)
     have y2 := hkw.cell b2 (by simp)
     have y3 := hkw.cell b3 (by simp)
     have y4 := hkw.cell b4 (by simp)
     go_wp2_with fail
     exact ⟨rfl, Kept.refl _ _⟩
    ·go_wp2_with fail
     exact ⟨rfl, Kept.refl _ _⟩
    ·have d2 : x 2 = _ := hd 2 (by kernel_rfl)
     have y0 := hkw.cell c1 (by simp)
     go_wp2_with fail
     exact ⟨rfl, Kept.refl _ _⟩
    ·have d3 : x 3 = _ := hd 3 (by kernel_rfl)
     have CX := refInt_any r.thr w2
     go_wp2_with (go_at_call 55; refine CX.mono ?_; rintro e w5 ⟨rfl, hk5⟩; have Gi := qI hk5; clear hk5)
     exact ⟨rfl, Gi.o⟩
    ·have d1 : x 1 = _ := hd 1 (by kernel_rfl)
     have d4 : x 4 = _ := hd 4 (by kernel_rfl)
     go_wp2_with fail
     exact ⟨⟨w2.heap.size, rfl, Nat.le_refl _, by simp, slc_new w2 [.int .i64 5, .int .i64 0, .string ⟨#[]⟩, .slice al k cl, .slice none 0 0, .int .i64 3, .int .i64 r.thr, .string ⟨#[]⟩, .slice none 0 0, .slice none 0 0] 5 2 _ _ rfl rfl (by decide)⟩, (Kept.refl _ _).alloc _⟩
    ·obtain ⟨g0, d0, -, -, hs0⟩ := hd 0 (by kernel_rfl)
     obtain ⟨g5, d5, -, -, hs5⟩ := hd 5 (by kernel_rfl)
     have CX := refMap_any (n := 2) (N := 2) (ks := [⟨#[107, 101, 121, 105, 100, 115]⟩, ⟨#[116, 104, 114, 101, 115, 104, 111, 108, 100]⟩]) (lcs := [[.int .i64 5, .int .i64 0, .string ⟨#[]⟩, .slice al k cl, .slice none 0 0], [.int .i64 3, .int .i64 r.thr, .string ⟨#[]⟩, .slice none 0 0, .slice none 0 0]]) (vs := [(keysV 0 r.keys : V 2), iV 1 r.thr]) (S := fun g => W0.heap.size ≤ g) hs0 hs5 (All2.cons (Mv.o _ hkw) (All2.cons (rep_int (n := 1) _ _ _ Ms.o) (All2.nil _))) rfl rfl (by decide)
     clear hs0 hs5
     go_wp2_with (go_at_call 54; refine CX.mono ?_; rintro e w5 ⟨⟨cs5, rfl, hr5⟩, hk5⟩; obtain ⟨k3, m3, s3, p3, i3, c3, q3, j3, e3, rfl⟩ := hr5.conv; have Mw := qI (hr5.mono (T := fun g => W0.heap.size ≤ g) (fun g _ h => by have := Mu.o; have := hkw.size; rcases h with h | h <;> omega)); have Gi := qI hk5; clear hk5 hr5)
     exact ⟨⟨_, _, _, _, _, _, _, _, _, rfl, Mw.o⟩, Gi.o⟩
   ·intro x w7 hkw b7 hd hwin
    obtain ⟨k6, m6, s6, p6, i6, c6, q6, j6, e6, d6, hr6⟩ := hd 6 (by decide)
    have Mx := qI hr6
    have Gg := qI hkw
    have Jv := qI (hkw.heap Gk.o (by simp))
    clear hd hwin hkw hr6
    obtain ⟨r0, r1, r2, r3, r4⟩ := box_of Jv.o
    have z : ∀ j, w7.frozen? ⟨w.heap.size + 1, j, none⟩ = false := fun j => free_head Jv.o
    change wpList _ _ _ [_] _ _
    go_wp2_with fail
    change bodyPost _ _ _ _ _ (put5 w7 (w.heap.size + 1) k6 m6 s6 (.slice p6 i6 c6) (.slice q6 j6 e6))
    have Gb := put5_kept w7 (w.heap.size + 1) k6 m6 s6 (.slice p6 i6 c6) (.slice q6 j6 e6)
    obtain ⟨y0, y1, y2, y3, y4⟩ := box_of (put5_at Jv.o k6 m6 s6 (.slice p6 i6 c6) (.slice q6 j6 e6))
    revert Gb y0 y1 y2 y3 y4
    generalize put5 w7 (w.heap.size + 1) k6 m6 s6 (.slice p6 i6 c6) (.slice q6 j6 e6) = WF
    intro Gb y0 y1 y2 y3 y4
    refine bodyPost_ret (v := .agg #[.int .i64 k6, .int .i64 m6, .string s6, .slice p6 i6 c6, .slice q6 j6 e6]) (by simp [results, Tryz.results21, go_sem, y0, y1, y2, y3, y4]) rfl ?_
    rw [HA.o]
    have Gx : Kept [] w WF := ((Gm.o.then Gf.o).then Gg.o).trans Gb (by intro i hi; simp at hi; subst hi; exact .inr (by omega))
    refine ⟨⟨_, rfl, ?_⟩, Gx⟩
    exact (Mx.o.kept Gb (by intro i hi; simp at hi; subst hi; have := Gl.o; omega)).mono (fun g _ h => by have := Gl.o; omega)
def badK {n : Nat} (xs : List (V n)) : Bool := xs.any (fun x => decide (kindV n x ≠ 4))
def strC {n : Nat} (x : V n) : Value := .string (strV n x)
theorem badK_snoc {n : Nat} (xs : List (V n)) (k : Nat) (h : k < xs.length) : badK (xs.take (k + 1)) = (badK (xs.take k) || decide (kindV n xs[k] ≠ 4)) := by
 unfold badK
 rw [List.take_succ_eq_append_getElem h, List.any_append]
 simp
def put2 (w : World) (g : Nat) (a b : Value) : World := (w.setCell ⟨g, 0, none⟩ a).setCell ⟨g, 1, none⟩ b
theorem put2_kept (w : World) (g : Nat) (a b : Value) : Kept [g] w (put2 w g a b) := ((Kept.refl [g] w).setCell (.inl (by simp)) _).setCell (.inl (by simp)) _
theorem put2_at {w : World} {g : Nat} {c0 c1 : Value} {t : Nat} {f : Nat × Nat} (h : w.heap[g]? = some (.cells #[c0, c1] t f)) (a b : Value) : (put2 w g a b).heap[g]? = some (.cells #[a, b] t f) := by
 unfold put2
 have h1 := block_setCell (i := 0) (v := a) (d := #[a, c1]) h rfl
 exact block_setCell (i := 1) (v := b) (d := #[a, b]) h1 rfl
theorem readRole_any {n : Nat} {S : Nat → Prop} {w : World} {cs : List Value} {v : VS (V (n + 1))} (h : Rep (n + 2) S w cs v) (hs : Small (n + 2) v) :
  Calls Tryz.prog 17 #[.agg cs.toArray] w fun e w' => RRAns w' e (readRoleV v) ∧ Kept [] w w' := by
 obtain ⟨kd, nm, st, pa, la, ca, pb, lb, cb, rfl⟩ := h.conv
 obtain ⟨W0, Gc⟩ : ∃ W0, Hid (W0 = (w.alloc (.cells #[.int .i64 kd, .int .i64 nm, .string st, .slice pa la ca, .slice pb lb cb] 28)).alloc (.cells #[.slice none 0 0, .int .i64 0] 43)) := ⟨_, qI rfl⟩
 have Gm : Hid (Kept [] w W0) := qI (by rw [Gc.o]; exact ((Kept.refl _ w).alloc _).alloc _)
 have Gn : Hid (BoxAt W0 w.heap.size kd nm st (.slice pa la ca) (.slice pb lb cb)) := qI (by rw [Gc.o]; exact (box_at _ _ _ _ _ _ _).kept0 ((Kept.refl [] _).alloc _))
 have Jw : Hid (W0.heap[w.heap.size + 1]? = some (.cells #[.slice none 0 0, .int .i64 0] 43 (0, 0))) := qI (by rw [Gc.o]; exact block_alloc (by simp))
 have Gl : Hid (W0.heap.size = w.heap.size + 2) := qI (by rw [Gc.o]; simp)
 have COF := qI (roleOf_any (h.kept0 Gm.o))
 have Mh := qI hs
 obtain ⟨⟨th, tb⟩, HT⟩ : ∃ x, Hid (fint v (decide (v.kind ≠ 6)) ⟨#[116, 104, 114, 101, 115, 104, 111, 108, 100]⟩ 1 16 = x) := ⟨_, qI rfl⟩
 obtain ⟨⟨l1, lbd⟩, Ji⟩ : ∃ x, Hid (flist v tb ⟨#[107, 101, 121, 105, 100, 115]⟩ 16 = x) := ⟨_, qI rfl⟩
 obtain ⟨xs, Jj⟩ : ∃ xs, Hid (xs = itemsV l1) := ⟨_, qI rfl⟩
 have Jx : Hid (xs.length ≤ 16) := qI (by have := flist_le v tb ⟨#[107, 101, 121, 105, 100, 115]⟩ 16; rw [show ((16 : Nat) : Int) = 16 from rfl, Ji.o] at this; rw [Jj.o]; exact this)
 have Mi : Hid (∀ x, x ∈ xs → (strV n x).size ≤ 400000) := qI (fun x hx => by
  have := flist_small (v := v) (bad := tb) (s := ⟨#[107, 101, 121, 105, 100, 115]⟩) (lo := 16) hs
  rw [Ji.o] at this
  exact (this x (by rw [Jj.o] at hx; exact hx)).2)
 have Gq : Hid (readRoleV v = if (lbd || badK xs) = false ∧ mayRole ⟨xs.map (strV n), th⟩ = true then some ⟨xs.map (strV n), th⟩ else none) := qI (by
  unfold readRoleV
  simp only [HT.o, Ji.o, ← Jj.o]
  rfl)
 clear h hs
 go_enter Tryz.func17, Tryz.ntmps17
 go_upto_region 1 with fail
 rw [← Gc.o]
 obtain ⟨c0, c1, c2, c3, c4⟩ := Gn.o
 go_upto_region 2 with (go_at_call 37; refine COF.o.mono ?_; rintro e w1 ⟨⟨g1, hg1, rfl, hf⟩, hk⟩; have My := qI hg1; have Mz := qI hf; have Gy := qI hk; clear hg1 hf hk c0 c1 c2 c3 c4)
 have CI : Hid _ := qI (fint_any Mz.o Mh.o ⟨#[116, 104, 114, 101, 115, 104, 111, 108, 100]⟩ 1 16)
 rw [HT.o] at CI
 go_upto_region 3 with (go_at_call 23; refine CI.o.mono ?_; rintro e w2 ⟨rfl, hf, hk⟩; simp only at hf ⊢; have Mj := qI hf; have Ya : Hid (Kept [g1] W0 w2) := qI ((Gy.o.mono (by simp)).trans' hk); clear hf hk)
 obtain ⟨w3, Jk⟩ : ∃ w3, Hid (w3 = w2.alloc (.cells #[.slice none 0 0, .int .i64 th] 43)) := ⟨_, qI rfl⟩
 have Mk : Hid (Kept [] w2 w3) := qI (by rw [Jk.o]; exact (Kept.refl _ _).alloc _)
 have Yb : Hid (w3.heap[w2.heap.size]? = some (.cells #[.slice none 0 0, .int .i64 th] 43 (0, 0))) := qI (by rw [Jk.o]; exact block_alloc rfl)
 have Jl : Hid (w3.heap.size = w2.heap.size + 1) := qI (by rw [Jk.o]; simp)
 rw [← Jk.o]
 have Gu : Hid (g1 < w2.heap.size ∧ w.heap.size + 2 ≤ g1) := qI ⟨Mj.o.lt, by have := My.o; have := Gl.o; omega⟩
 have CL : Hid _ := qI (flist_any (Mj.o.kept0 Mk.o) Mh.o ⟨#[107, 101, 121, 105, 100, 115]⟩ 16)
 rw [Ji.o] at CL
 go_wp2_with (go_at_call 27; refine CL.o.mono ?_; rintro e w4 ⟨hl, hf, hk⟩; obtain ⟨ia, ic, lcs, rfl, hit⟩ := ListAns.items hl; simp only at hf; rw [← Jj.o] at hit ⊢; have Yc := qI hit; have Yd := qI hf; have Jy := qI hk; clear hl hf hk hit)
 have Jz := qI (Jy.o.heap Yb.o (by have := Gu.o; simp; omega))
 have Gr : Hid (w3.heap.size ≤ w4.heap.size) := qI Jy.o.size
 have hxl : (xs.length : Int) ≤ 16 := by have := Jx.o; omega
 go_loopw [7, 16] (fun _ i wr => ∃ (k : Nat) (a3 : Option Addr) (c3 : Nat), i = .int .i64 k ∧ k ≤ xs.length ∧ Fld (n + 1) wr g1 v (lbd || badK (xs.take k)) ∧ wr.heap[w2.heap.size]? = some (.cells #[.slice a3 k c3, .int .i64 th] 43 (0, 0)) ∧ wr.ownsRow w4.heap.size 9 1 (.slice a3 k c3) k ((xs.take k).map strC) ∧ ItemsIn (fun g => w3.heap.size ≤ g ∧ g < w4.heap.size) wr ia ic xs lcs ∧ Kept [g1, w2.heap.size] w4 wr) (fun _ i _ => xs.length - (intOf i).toNat)
 case atStart => exact ⟨0, none, 0, rfl, Nat.zero_le _, by simpa [badK] using Yd.o, Jz.o, World.ownsRow_nil _ _ _ _, Yc.o, Kept.refl _ _⟩
 case round =>
  obtain ⟨k, a3, c3, rfl, hk, hf, hb, hrow, hit, hkr⟩ := hrel
  have HF := qI hf
  have HB := qI hb
  have Ga := qI hrow
  have Jb := qI hit
  have Gj := qI hkr
  clear hf hb hrow hit hkr
  by_cases hlt : k < xs.length
  ·have hltI : (k : Int) < xs.length := by omega
   obtain ⟨g, o, s, p, cl, q, m, d, rfl, q0, q1, q2, q3, q4, hst⟩ := Jb.o.at hlt
   have Yj : Hid (s.size ≤ 400000) := qI (by rw [hst]; exact Mi.o _ (List.getElem_mem hlt))
   have Jm := qI (badK_snoc xs k hlt)
   have Ye : Hid ((xs.take (k + 1)).map (strC (n := n)) = (xs.take k).map strC ++ [.string s]) := qI (by rw [List.take_succ_eq_append_getElem hlt, List.map_append, hst]; rfl)
   revert hst Jm q0 q1 q3
   generalize hkd9 : kindV n xs[k] = kd9
   generalize hnm9 : numV n xs[k] = nm9
   generalize hln9 : lenV n xs[k] = ln9
   clear hkd9 hnm9 hln9
   intro q0 q1 q3 hst Jm
   clear hst
   obtain ⟨wb, Jn⟩ : ∃ wb, Hid (wb = wr.alloc (.cells #[.int .i64 kd9, .int .i64 nm9, .string s, .slice p ln9 cl, .slice q m d] 28)) := ⟨_, qI rfl⟩
   have Gz : Hid (Kept [] wr wb) := qI (by rw [Jn.o]; exact (Kept.refl _ _).alloc _)
   have Ml : Hid (BoxAt wb wr.heap.size kd9 nm9 s (.slice p ln9 cl) (.slice q m d)) := qI (by rw [Jn.o]; exact box_at _ _ _ _ _ _ _)
   have Yf : Hid (wb.heap.size = wr.heap.size + 1) := qI (by rw [Jn.o]; simp)
   go_upto_region 6 with fail
   rw [← Jn.o]
   clear q0 q1 q2 q3 q4
   obtain ⟨y0, y1, y2, y3, y4⟩ := Ml.o
   have CSP := qI (spoil_any (HF.o.kept0 Gz.o))
   by_cases k4 : kd9 = 4
   case' pos =>
    have f1 := (int_eq k4).2
    have hbn : (lbd || badK (xs.take (k + 1))) = (lbd || badK (xs.take k)) := by rw [Jm.o, k4]; simp
    obtain ⟨wS, Ma⟩ : ∃ wS, Hid (wS = wb) := ⟨_, qI rfl⟩
    have Mm : Hid (Fld (n + 1) wS g1 v (lbd || badK (xs.take (k + 1)))) := qI (by rw [Ma.o, hbn]; exact HF.o.kept0 Gz.o)
    have Gv : Hid (Kept [g1] wb wS) := qI (by rw [Ma.o]; exact Kept.refl _ _)
    clear k4 hbn
    go_upto_region 8 with fail
    rw [← Ma.o]
   case' neg =>
    have f1 := (int_ne k4).2
    have hbn : (lbd || badK (xs.take (k + 1))) = true := by rw [Jm.o, decide_eq_true k4]; simp
    have Yg := qI hbn
    clear k4 hbn
    go_upto_region 8 with (go_at_call 28; refine CSP.o.mono ?_; rintro e wS ⟨rfl, hf, hk⟩; have Mm : Hid (Fld (n + 1) wS g1 v (lbd || badK (xs.take (k + 1)))) := qI (by rw [Yg.o]; exact hf); have Gv : Hid (Kept [g1] wb wS) := qI hk; clear hf hk)
   all_goals
    clear y0 y1 y2 y3 y4 f1
    have hgr := Gu.o
    have hs3 := Jl.o
    have hs4 := Gr.o
    have hsr := Gj.o.size
    have Mn := qI (Gv.o.heap (Gz.o.heap HB.o (by simp)) (by simp; omega))
    have Mb : Hid (wS.ownsRow w4.heap.size 9 1 (.slice a3 k c3) k ((xs.take k).map strC)) := qI (row_kept (row_kept Ga.o Gz.o (by simp)) Gv.o (fun g hg => by have := (Ga.o.lt g hg).1; simp; omega))
    obtain ⟨-, -, z2, -, -⟩ := Ml.o.kept Gv.o (by simp; omega)
    have z0 := cell_head (o := 0) (v := .slice a3 k c3) Mn.o rfl
    have Jc := Jx
    have Mc := qI Gv.o.size
    have Md := Yf
    clear hgr hs3 hs4 hsr
    go_wp2_with (at_builtin; refine wpList_append_slc tyStrs (v := .slice a3 k c3) (n := k) (row_kept Mb.o ((Kept.refl [] wS).alloc _) (by simp)) (slc_one wS (.string s) _ _ rfl) (by simp [Value.oneCell']) (by have := Jc.o; simp only [maxLen]; omega) (by have := Jc.o; omega) (by have := Mc.o; have := Md.o; have := Gj.o.size; simp; omega) rfl _ _ rfl rfl rfl ?_; intro v5 w5 hown hk5 _ hb5; obtain ⟨a5, c5, rfl, -, -⟩ := (Slc.of_row hown).form; have Ge := qI hown; have Gi := qI hk5; have Jo : Hid (Kept [] wS (wS.alloc (.cells #[.string s] 9))) := qI ((Kept.refl _ _).alloc _); have Me := qI (hk5.heap (Jo.o.heap Mn.o (by simp)) (by intro hmem; have h1 := (Mb.o.lt _ (Option.mem_toList.1 hmem)).1; have := Gu.o; have := Jl.o; have := Gr.o; omega)); have u0 := cell_head (o := 0) (v := .slice a3 k c3) Me.o rfl; have uf := free_head (o := 0) Me.o; clear hown hk5 hb5 z0 z2)
    case roundEnd =>
     have hgr := Gu.o
     have hs3 := Jl.o
     have hs4 := Gr.o
     have hsr := Gj.o.size
     have hst : Kept [w2.heap.size] w5 (w5.setCell ⟨w2.heap.size, 0, none⟩ (.slice a5 (k + 1) c5)) := (Kept.refl _ _).setCell (.inl (by simp)) _
     have hX5 : ∀ i, i ∈ (Value.slice a3 k c3).ownBlock.toList → w4.heap.size ≤ i := fun i hi => (Mb.o.lt i (Option.mem_toList.1 hi)).1
     have hb5 := Ge.o
     have hown5 : ∀ g, (Value.slice a5 (k + 1) c5).ownBlock = some g → w4.heap.size ≤ g := fun g hg => (hb5.lt g hg).1
     refine ⟨⟨k + 1, a5, c5, by go_num, by omega, (((Mm.o.kept0 Jo.o).kept Gi.o (fun i hi => by have := hX5 i hi; omega)).kept hst (fun i hi => by simp at hi; subst hi; omega)), block_setCell Me.o rfl, ?_, ?_, ?_⟩, by simp [intOf]; omega⟩
     ·rw [Ye.o]
      exact row_kept hb5 hst (fun g hg => by have := hown5 g hg; simp; omega)
     ·exact ((((Jb.o.kept Gz.o (by simp)).kept Gv.o (fun i hi hS => by simp at hi; subst hi; omega)).kept Jo.o (by simp)).kept Gi.o (fun i hi hS => by have := hX5 i hi; omega)).kept hst (fun i hi hS => by simp at hi; subst hi; omega)
     ·refine (((Gj.o.then Gz.o).trans (Gv.o.mono (Y := [g1, w2.heap.size]) (by simp)) (fun i hi => .inl hi)).then Jo.o |>.trans Gi.o (fun i hi => .inr (hX5 i hi))).trans (hst.mono (Y := [g1, w2.heap.size]) (by simp)) (fun i hi => .inl hi)
  ·obtain rfl : k = xs.length := by omega
   have Yh : Hid (xs.take xs.length = xs) := qI List.take_length
   rw [Yh.o] at HF Ga
   have Jp : Hid (Texts wr (.slice a3 (xs.map (strV n)).length c3) (xs.map (strV n))) := qI (by
    have h1 := Slc.of_row Ga.o
    unfold Texts
    rw [List.length_map, List.map_map]
    exact h1)
   have Gx : Hid (∀ t, t ∈ xs.map (strV n) → t.size ≤ 140737488355328) := qI (fun t ht => by
    obtain ⟨x, hx, rfl⟩ := List.mem_map.1 ht
    have := Mi.o x hx
    omega)
   have Gf : Hid (Kept [g1, w2.heap.size] W0 wr) := qI ((((Ya.o.mono (Y := [g1, w2.heap.size]) (by simp)).then Mk.o).trans' (Jy.o.mono (by simp))).trans' Gj.o)
   have Yi := qI (show w.heap.size + 1 ≠ g1 ∧ w.heap.size + 1 ≠ w2.heap.size by have := Gu.o; omega)
   have Gk := qI (Gf.o.heap Jw.o (by have := Yi.o; simp; omega))
   have Gw : Hid (Kept [] w wr) := qI (Gm.o.trans Gf.o (by have := Gu.o; intro i hi; simp at hi; rcases hi with rfl | rfl <;> exact .inr (by omega)))
   have CM0 := mayRole_any (r := ⟨xs.map (strV n), th⟩) Jp.o Gx.o (by simp only [List.length_map]; have := Jx.o; omega)
   simp only [List.length_map] at CM0
   have CM := qI CM0
   have Gs := qI (fdone_any HF.o)
   revert CM Gs Gq Jp
   generalize hkq : xs.map (strV n) = ks
   intro Gq Jp CM Gs
   have Mo : Hid (ks.length = xs.length) := qI (by rw [← hkq]; simp)
   clear hkq CM0
   revert CM Gq
   generalize hmq : mayRole ⟨ks, th⟩ = mr
   intro Gq CM
   clear hmq
   revert Gs Gq
   generalize (lbd || badK xs) = bd
   intro Gs Gq
   have b0 := cell_head (o := 0) (v := .slice a3 xs.length c3) HB.o rfl
   have b1 := cell_head (o := 1) (v := .int .i64 th) HB.o rfl
   have r0 := cell_head (o := 0) (v := .slice none 0 0) Gk.o rfl
   have r1 := cell_head (o := 1) (v := .int .i64 0) Gk.o rfl
   have z : ∀ j, wr.frozen? ⟨w.heap.size + 1, j, none⟩ = false := fun j => free_head Gk.o
   cases bd with
   | true =>
    have Jd : Hid (readRoleV v = none) := qI (by rw [Gq.o, if_neg (by rintro ⟨h, -⟩; cases h)])
    simp only [doneZ, if_true] at Gs
    go_wp2_with (go_at_call 30; refine Gs.o.mono ?_; rintro e w6 ⟨rfl, rfl⟩)
    change bodyPost _ _ _ _ _ (put2 wr (w.heap.size + 1) (.slice none 0 0) (.int .i64 0))
    have Gb := put2_kept wr (w.heap.size + 1) (.slice none 0 0) (.int .i64 0)
    have Gh := put2_at Gk.o (.slice none 0 0) (.int .i64 0)
    revert Gb Gh
    generalize put2 wr (w.heap.size + 1) (.slice none 0 0) (.int .i64 0) = WF
    intro Gb Gh
    have v0 := cell_head (o := 0) (v := .slice none 0 0) Gh rfl
    have v1 := cell_head (o := 1) (v := .int .i64 0) Gh rfl
    refine bodyPost_ret (v := .tuple #[.agg #[.slice none 0 0, .int .i64 0], .int .i64 130]) (by simp [results, Tryz.results17, go_sem, v0, v1]) rfl ?_
    rw [Jd.o]
    exact ⟨rfl, Gw.o.trans Gb (by intro i hi; simp at hi; subst hi; exact .inr (by simp))⟩
   | false =>
    simp only [doneZ, if_false, Bool.false_eq_true] at Gs
    cases mr with
    | false =>
     have Jd : Hid (readRoleV v = none) := qI (by rw [Gq.o, if_neg (by rintro ⟨-, h⟩; cases h)])
     go_wp2_with first
      | (go_at_call 30; refine Gs.o.mono ?_; rintro e w6 ⟨rfl, rfl⟩)
      | (go_at_call 19; refine CM.o.mono ?_; rintro e w7 ⟨rfl, hk7⟩; have Gg := qI hk7; have Gd := qI (hk7.heap Gk.o (by simp)); clear r0 r1 z; have r0 := cell_head (o := 0) (v := .slice none 0 0) Gd.o rfl; have r1 := cell_head (o := 1) (v := .int .i64 0) Gd.o rfl; have z : ∀ j, w7.frozen? ⟨w.heap.size + 1, j, none⟩ = false := fun j => free_head Gd.o; have b0' := cell_head (o := 0) (v := .slice a3 xs.length c3) (hk7.heap HB.o (by simp)) rfl; have b1' := cell_head (o := 1) (v := .int .i64 th) (hk7.heap HB.o (by simp)) rfl; clear hk7)
     change bodyPost _ _ _ _ _ (put2 w7 (w.heap.size + 1) (.slice none 0 0) (.int .i64 0))
     have Gb := put2_kept w7 (w.heap.size + 1) (.slice none 0 0) (.int .i64 0)
     have Gh := put2_at Gd.o (.slice none 0 0) (.int .i64 0)
     revert Gb Gh
     generalize put2 w7 (w.heap.size + 1) (.slice none 0 0) (.int .i64 0) = WF
     intro Gb Gh
     have v0 := cell_head (o := 0) (v := .slice none 0 0) Gh rfl
     have v1 := cell_head (o := 1) (v := .int .i64 0) Gh rfl
     refine bodyPost_ret (v := .tuple #[.agg #[.slice none 0 0, .int .i64 0], .int .i64 130]) (by simp [results, Tryz.results17, go_sem, v0, v1]) rfl ?_
     rw [Jd.o]
     exact ⟨rfl, (Gw.o.then Gg.o).trans Gb (by intro i hi; simp at hi; subst hi; exact .inr (by simp))⟩
    | true =>
     have Jd : Hid (readRoleV v = some ⟨ks, th⟩) := qI (by rw [Gq.o, if_pos ⟨rfl, rfl⟩])
     go_wp2_with first
      | (go_at_call 30; refine Gs.o.mono ?_; rintro e w6 ⟨rfl, rfl⟩)
      | (go_at_call 19; refine CM.o.mono ?_; rintro e w7 ⟨rfl, hk7⟩; have Gg := qI hk7; have Gd := qI (hk7.heap Gk.o (by simp)); clear r0 r1 z; have r0 := cell_head (o := 0) (v := .slice none 0 0) Gd.o rfl; have r1 := cell_head (o := 1) (v := .int .i64 0) Gd.o rfl; have z : ∀ j, w7.frozen? ⟨w.heap.size + 1, j, none⟩ = false := fun j => free_head Gd.o; have b0' := cell_head (o := 0) (v := .slice a3 xs.length c3) (hk7.heap HB.o (by simp)) rfl; have b1' := cell_head (o := 1) (v := .int .i64 th) (hk7.heap HB.o (by simp)) rfl; clear hk7)
     change bodyPost _ _ _ _ _ (put2 w7 (w.heap.size + 1) (.slice a3 xs.length c3) (.int .i64 th))
     have Gb := put2_kept w7 (w.heap.size + 1) (.slice a3 xs.length c3) (.int .i64 th)
     have Gh := put2_at Gd.o (.slice a3 xs.length c3) (.int .i64 th)
     revert Gb Gh
     generalize put2 w7 (w.heap.size + 1) (.slice a3 xs.length c3) (.int .i64 th) = WF
     intro Gb Gh
     have v0 := cell_head (o := 0) (v := .slice a3 xs.length c3) Gh rfl
     have v1 := cell_head (o := 1) (v := .int .i64 th) Gh rfl
     refine bodyPost_ret (v := .tuple #[.agg #[.slice a3 xs.length c3, .int .i64 th], .int .i64 0]) (by simp [results, Tryz.results17, go_sem, v0, v1]) rfl ?_
     rw [Jd.o]
     exact ⟨⟨a3, c3, by rw [Mo.o], by have h1 := ((Jp.o.kept0 Gg.o)); exact Slc.kept h1 Gb (fun g hg => by have h2 := Ga.o.lt g (by rw [Mo.o] at hg; exact own_of_vblk hg); have := Gu.o; have := Jl.o; have := Gr.o; simp; omega)⟩, (Gw.o.then Gg.o).trans Gb (by intro i hi; simp at hi; subst hi; exact .inr (by simp))⟩
end Go.Proofs.YtckbnjipecclaaaGreatDoor

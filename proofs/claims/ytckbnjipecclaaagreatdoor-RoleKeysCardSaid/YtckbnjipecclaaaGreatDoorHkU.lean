/- Parts of one proof, merged: XIK XIL XGA XGB. -/
import Derived.Test.YtckbnjipecclaaaGreatDoorHkT
set_option linter.all false
set_option maxHeartbeats 12800000
set_option maxRecDepth 10000
set_option linter.unusedVariables false
set_option linter.unusedSimpArgs false
set_option linter.unnecessarySimpa false
namespace Go.Proofs.YtckbnjipecclaaaGreatDoor
open Go.RowKit
def RoleAns (w w' : World) (e : Ending) (r : RoleS) : Prop := if mayRole r = true then New 3 w w' e (roleV r) else e = .returned zero5
theorem texts_snoc (l : List ByteArray) (k : Nat) (h : k < l.length) : ((l.take (k + 1)).map textC).flatten = ((l.take k).map textC).flatten ++ textC l[k] := by
 rw [List.take_succ_eq_append_getElem h, List.map_append, List.flatten_append]
 simp
theorem roleValue_any {w : World} {r : RoleS} {a : Option Addr} {c : Nat} (h : Texts w (.slice a r.keys.length c) r.keys) (hz : ∀ k, k ∈ r.keys → k.size ≤ 140737488355328) (hlen : r.keys.length ≤ 1000000000000) :
  Calls Tryz.prog 16 #[.agg #[.slice a r.keys.length c, .int .i64 r.thr]] w fun e w' => RoleAns w w' e r ∧ Kept [] w w' := by
 obtain ⟨W0, Gb⟩ : ∃ W0, Hid (W0 = (w.alloc (.cells #[.slice a r.keys.length c, .int .i64 r.thr] 43)).alloc (.cells #[.int .i64 0, .int .i64 0, .string ⟨#[]⟩, .slice none 0 0, .slice none 0 0] 28)) := ⟨_, qI rfl⟩
 have Gc : Hid (Kept [] w W0) := qI (by rw [Gb.o]; exact ((Kept.refl _ w).alloc _).alloc _)
 have Gw : Hid (W0.heap[w.heap.size]? = some (.cells #[.slice a r.keys.length c, .int .i64 r.thr] 43 (0, 0))) := qI (by rw [Gb.o]; exact ((Kept.refl [] _).alloc _).heap (block_alloc rfl) (by simp))
 have Gh : Hid (W0.heap[w.heap.size + 1]? = some (.cells #[.int .i64 0, .int .i64 0, .string ⟨#[]⟩, .slice none 0 0, .slice none 0 0] 28 (0, 0))) := qI (by rw [Gb.o]; exact block_alloc (by simp))
 have Jk : Hid (W0.heap.size = w.heap.size + 2) := qI (by rw [Gb.o]; simp)
 have H := qI (h.kept0 Gc.o)
 have CM := qI (mayRole_any (h.kept0 Gc.o) hz hlen)
 have HI : Hid (mayRole r = true → r.keys.length ≤ 16 ∧ 1 ≤ r.thr ∧ r.thr ≤ 16 ∧ r.thr ≤ r.keys.length ∧ ∀ s, s ∈ r.keys → isIdB s = true ∧ s.size = 64) := qI mayRole_ids
 have c0 := cell_head (o := 0) (v := .slice a r.keys.length c) Gw.o rfl
 have c1 := cell_head (o := 1) (v := .int .i64 r.thr) Gw.o rfl
 clear h hz hlen
 by_cases hm : mayRole r = true
 rotate_left
 ·have HA : Hid (∀ w' e, RoleAns w w' e r = (e = .returned zero5)) := qI (fun w' e => by unfold RoleAns; rw [if_neg hm])
  have hm2 : mayRole r = false := by simpa using hm
  rw [hm2] at CM
  clear hm hm2
  go_enter Tryz.func16, Tryz.ntmps16
  go_upto_region 1 with fail
  rw [← Gb.o]
  go_wp2_with (go_at_call 19; refine CM.o.mono ?_; rintro e w1 ⟨rfl, hk1⟩; have Gx := qI hk1; have Gy := qI (hk1.heap Gh.o (by simp)); obtain ⟨r0, r1, r2, r3, r4⟩ := box_of Gy.o; have z : ∀ j, w1.frozen? ⟨w.heap.size + 1, j, none⟩ = false := fun j => free_head Gy.o; clear hk1)
  change bodyPost _ _ _ _ _ (put5 w1 (w.heap.size + 1) 0 0 ⟨#[]⟩ (.slice none 0 0) (.slice none 0 0))
  have Ga := put5_kept w1 (w.heap.size + 1) 0 0 ⟨#[]⟩ (.slice none 0 0) (.slice none 0 0)
  obtain ⟨y0, y1, y2, y3, y4⟩ := box_of (put5_at Gy.o 0 0 ⟨#[]⟩ (.slice none 0 0) (.slice none 0 0))
  revert Ga y0 y1 y2 y3 y4
  generalize put5 w1 (w.heap.size + 1) 0 0 ⟨#[]⟩ (.slice none 0 0) (.slice none 0 0) = WF
  intro Ga y0 y1 y2 y3 y4
  refine bodyPost_ret (v := zero5) (by simp [results, Tryz.results16, go_sem, y0, y1, y2, y3, y4, zero5]) rfl ?_
  rw [HA.o]
  exact ⟨rfl, (Gc.o.then Gx.o).trans Ga (by intro i hi; simp at hi; subst hi; exact .inr (by simp))⟩
 have HA : Hid (∀ w' e, RoleAns w w' e r = New 3 w w' e (roleV r)) := qI (fun w' e => by unfold RoleAns; rw [if_pos hm])
 have Jl := qI (small_keys hm)
 have Jm := qI (small_role hm)
 have Jg := qI (HI.o hm)
 have Jn : Hid (wf64I r.thr) := qI (by have := Jg.o; exact ⟨by omega, by omega⟩)
 have hkl : (r.keys.length : Int) ≤ 16 := by have := Jg.o.1; omega
 rw [hm] at CM
 clear hm
 go_enter Tryz.func16, Tryz.ntmps16
 go_upto_region 1 with fail
 rw [← Gb.o]
 go_wp2_with (go_at_call 19; refine CM.o.mono ?_; rintro e w1 ⟨rfl, hk1⟩; have Gx := qI hk1; clear hk1 c0 c1; have c0 := Gx.o.cell (cell_head (o := 0) (v := .slice a r.keys.length c) Gw.o rfl) (by simp))
 clear c0
 go_loopw [3, 5, 13] (fun q _ i wr => ∃ (k : Nat) (la : Option Addr) (lc : Nat), i = .int .i64 k ∧ k ≤ r.keys.length ∧ q = .slice la k lc ∧ wr.ownsRow W0.heap.size 28 5 (.slice la k lc) k (((r.keys.take k).map textC).flatten) ∧ Kept [] W0 wr) (fun _ _ i _ => r.keys.length - (intOf i).toNat)
 case atStart => exact ⟨0, none, 0, rfl, Nat.zero_le _, rfl, World.ownsRow_nil _ _ _ _, Gx.o⟩
 case round =>
  obtain ⟨k, la, lc, rfl, hk, rfl, hrow, hkr⟩ := hrel
  have Gf := qI hrow
  have Gk := qI hkr
  clear hrow hkr
  by_cases hlt : k < r.keys.length
  ·have hltI : (k : Int) < r.keys.length := by omega
   obtain ⟨g, o, rfl, q0⟩ := (H.o.kept0 Gk.o).at hlt
   have Gz := qI (texts_snoc r.keys k hlt)
   revert q0 Gz
   generalize r.keys[k] = key
   intro q0 Gz
   have CT := qI (valText_any key wr)
   have Jh := qI hkl
   go_wp2_with first
    | (go_at_call 43; refine CT.o.mono ?_; rintro e w2 ⟨rfl, hk2⟩; have Gi := qI hk2; clear hk2)
    | (at_builtin; refine wpList_append_slc tyVals (v := .slice la k lc) (n := k) (row_kept Gf.o (Gi.o.alloc _) (by simp)) (slc_new w2 (textC key) 5 1 _ _ rfl rfl (by decide)) (by simp [textC, Value.oneCell']) (by have := Jh.o; simp only [maxLen]; omega) (by have := Jh.o; omega) (by have := Gk.o.size; have := Gi.o.size; simp; omega) rfl _ _ rfl rfl rfl ?_; intro v3 w4 hown hk4 _ hb4; obtain ⟨a3, c3, rfl, -, -⟩ := (Slc.of_row hown).form; have Ja := qI hown; have Jo := qI hk4; clear hown hk4 hb4)
   case roundEnd =>
    refine ⟨⟨k + 1, _, _, by go_num, by omega, rfl, by rw [Gz.o]; exact Ja.o, ((Gk.o.then Gi.o).alloc _).trans Jo.o (fun i hi => .inr (Gf.o.lt i (Option.mem_toList.1 hi)).1)⟩, by simp [intOf]; omega⟩
  ·obtain rfl : k = r.keys.length := by omega
   have Jp : Hid (r.keys.take r.keys.length = r.keys) := qI List.take_length
   rw [Jp.o] at Gf
   have CL : Hid (∀ w2, Kept [] wr w2 → Calls Tryz.prog 65 #[.slice la r.keys.length lc] w2 fun e w' => New 2 w2 w' e (keysV 0 r.keys) ∧ Kept [] w2 w') := qI (fun w2 hk2 => by
    have h1 := valList_any (n := 1) (S := fun _ => True) (w := w2) (l := r.keys.map (tV 0)) (lcs := r.keys.map textC) (a := la) (c := lc) (by rw [List.length_map]; exact (Slc.of_row Gf.o).kept0 hk2) (rep_texts _ _ _) Jl.o
    rw [List.length_map] at h1
    exact h1)
   have hcr := cell_head (o := 1) (v := .int .i64 r.thr) Gw.o rfl
   go_upto_region 9 with fail
   refine wp_grows (n := 32) 9 [Fact.is (.slice la r.keys.length lc),
    newFact 2 (keysV 0 r.keys),
    pairRepFact 2 ⟨#[107, 101, 121, 105, 100, 115]⟩ (keysV 0 r.keys),
    Fact.is (.pointer (some ⟨w.heap.size, 1, none⟩)),
    Fact.is (.int .i64 r.thr),
    Fact.is (.agg #[.int .i64 3, .int .i64 r.thr, .string ⟨#[]⟩, .slice none 0 0, .slice none 0 0]),
    Fact.is (.agg #[.string ⟨#[116, 104, 114, 101, 115, 104, 111, 108, 100]⟩, .int .i64 3, .int .i64 r.thr, .string ⟨#[]⟩, .slice none 0 0, .slice none 0 0]),
    pairsFact 2 (VS.m (α := V 2) (roleV r)),
    newFact 3 (roleV r)] (by kernel_rfl) rfl (by kernel_rfl) (fun x => by simp only [List.map, puts, Act.put, List.setIfInBounds_toArray, List.set_cons_zero, List.set_cons_succ]; rfl) ?_ ?_
   ·refine ⟨fun x w2 hkw b hd => ?_, fun x w2 hkw b hd => ?_, fun x w2 hkw b hd => ?_, fun x w2 hkw b hd => ?_, fun x w2 hkw b hd => ?_, fun x w2 hkw b hd => ?_, fun x w2 hkw b hd => ?_, fun x w2 hkw b hd => ?_, fun x w2 hkw b hd => ?_, trivial⟩
    ·go_wp2_with fail
     exact ⟨rfl, Kept.refl _ _⟩
    ·have d0 : x 0 = _ := hd 0 (by kernel_rfl)
     have CX := CL.o _ hkw
     go_wp2_with (go_at_call 65; refine CX.mono ?_; rintro e w5 ⟨hn5, hk5⟩; obtain ⟨k3, m3, s3, p3, i3, c3, q3, j3, e3, rfl, ho3⟩ := new_fact hn5; have Gm := qI ho3; have Gd := qI hk5; clear hk5 ho3 hn5)
     exact ⟨⟨_, _, _, _, _, _, _, _, _, rfl, Gm.o⟩, Gd.o⟩
    ·obtain ⟨k3, m3, s3, p3, i3, c3, q3, j3, e3, d1, ho1⟩ := hd 1 (by kernel_rfl)
     have Jq := qI (Rep.mono (T := fun _ => True) ho1.rep (fun _ _ _ => trivial))
     have CX := pair_any ⟨#[107, 101, 121, 105, 100, 115]⟩ k3 m3 s3 p3 i3 c3 q3 j3 e3 w2
     clear ho1
     go_wp2_with (go_at_call 41; refine CX.mono ?_; rintro e w5 ⟨rfl, hk5⟩; have Gd := qI hk5; clear hk5)
     exact ⟨⟨_, _, _, _, _, _, _, _, _, rfl, Jq.o.kept0 Gd.o⟩, Gd.o⟩
    ·go_wp2_with fail
     exact ⟨rfl, Kept.refl _ _⟩
    ·have d3 : x 3 = _ := hd 3 (by kernel_rfl)
     have y1 := Gk.o.cell hcr (by simp)
     have y1 := hkw.cell y1 (by simp)
     go_wp2_with fail
     exact ⟨rfl, Kept.refl _ _⟩
    ·have d4 : x 4 = _ := hd 4 (by kernel_rfl)
     have CX := valInt_any r.thr w2
     go_wp2_with (go_at_call 42; refine CX.mono ?_; rintro e w5 ⟨rfl, hk5⟩; have Gd := qI hk5; clear hk5)
     exact ⟨rfl, Gd.o⟩
    ·have d5 : x 5 = _ := hd 5 (by kernel_rfl)
     have CX := pair_any ⟨#[116, 104, 114, 101, 115, 104, 111, 108, 100]⟩ 3 r.thr ⟨#[]⟩ none 0 0 none 0 0 w2
     go_wp2_with (go_at_call 41; refine CX.mono ?_; rintro e w5 ⟨rfl, hk5⟩; have Gd := qI hk5; clear hk5)
     exact ⟨rfl, Gd.o⟩
    ·obtain ⟨k3, m3, s3, p3, i3, c3, q3, j3, e3, d2, ho2⟩ := hd 2 (by kernel_rfl)
     have d6 : x 6 = _ := hd 6 (by kernel_rfl)
     have Jb := qI ho2
     clear ho2
     go_wp2_with fail
     have hka := (Kept.refl [] w2).alloc (.cells #[.string ⟨#[107, 101, 121, 105, 100, 115]⟩, .int .i64 k3, .int .i64 m3, .string s3, .slice p3 i3 c3, .slice q3 j3 e3, .string ⟨#[116, 104, 114, 101, 115, 104, 111, 108, 100]⟩, .int .i64 3, .int .i64 r.thr, .string ⟨#[]⟩, .slice none 0 0, .slice none 0 0] 78)
     refine ⟨⟨w2.heap.size, [(⟨#[107, 101, 121, 105, 100, 115]⟩, [.int .i64 k3, .int .i64 m3, .string s3, .slice p3 i3 c3, .slice q3 j3 e3]), (⟨#[116, 104, 114, 101, 115, 104, 111, 108, 100]⟩, [.int .i64 3, .int .i64 r.thr, .string ⟨#[]⟩, .slice none 0 0, .slice none 0 0])], rfl, Nat.le_refl _, by simp, slc_new w2 [.string ⟨#[107, 101, 121, 105, 100, 115]⟩, .int .i64 k3, .int .i64 m3, .string s3, .slice p3 i3 c3, .slice q3 j3 e3, .string ⟨#[116, 104, 114, 101, 115, 104, 111, 108, 100]⟩, .int .i64 3, .int .i64 r.thr, .string ⟨#[]⟩, .slice none 0 0, .slice none 0 0] 6 2 _ _ rfl rfl (by decide), ?_⟩, hka⟩
     exact All2.cons ⟨rfl, Jb.o.kept0 hka⟩ (All2.cons ⟨rfl, rep_int (n := 1) _ _ _ Jn.o⟩ (All2.nil _))
    ·obtain ⟨gx, mcs, d7, -, -, hs7, hm7⟩ := hd 7 (by kernel_rfl)
     have CX := valMap_any (n := 2) (S := fun _ => True) (m := VS.m (α := V 2) (roleV r)) hs7 hm7 Jm.o
     change x 7 = .slice (some ⟨gx, 0, none⟩) 2 2 at d7
     change Calls _ _ #[.slice (some ⟨gx, 0, none⟩) 2 2] _ _ at CX
     clear hs7 hm7
     go_wp2_with (go_at_call 40; refine CX.mono ?_; rintro e w5 ⟨hn5, hk5⟩; obtain ⟨k3, m3, s3, p3, i3, c3, q3, j3, e3, rfl, ho3⟩ := new_fact hn5; have Gm := qI ho3; have Gd := qI hk5; clear hk5 ho3 hn5)
     exact ⟨⟨_, _, _, _, _, _, _, _, _, rfl, Gm.o⟩, Gd.o⟩
   ·intro x w5 hkw b hd hwin
    obtain ⟨k6, m6, s6, p6, i6, c6, q6, j6, e6, d8, ho8⟩ := hd 8 (by decide)
    have hw8 := hwin.1 8 (by decide)
    have Jr := qI ho8
    have Gn := qI (Gk.o.then hkw)
    have Js := qI hw8
    have Jc := qI Gk.o.size
    have Jd := qI (Gn.o.heap Gh.o (by simp))
    obtain ⟨r0, r1, r2, r3, r4⟩ := box_of Jd.o
    have z : ∀ j, w5.frozen? ⟨w.heap.size + 1, j, none⟩ = false := fun j => free_head Jd.o
    clear hd hwin hw8 hkw ho8
    change wpList _ _ _ [_] _ _
    go_wp2_with fail
    change bodyPost _ _ _ _ _ (put5 w5 (w.heap.size + 1) k6 m6 s6 (.slice p6 i6 c6) (.slice q6 j6 e6))
    have Ga := put5_kept w5 (w.heap.size + 1) k6 m6 s6 (.slice p6 i6 c6) (.slice q6 j6 e6)
    obtain ⟨y0, y1, y2, y3, y4⟩ := box_of (put5_at Jd.o k6 m6 s6 (.slice p6 i6 c6) (.slice q6 j6 e6))
    revert Ga y0 y1 y2 y3 y4
    generalize put5 w5 (w.heap.size + 1) k6 m6 s6 (.slice p6 i6 c6) (.slice q6 j6 e6) = WF
    intro Ga y0 y1 y2 y3 y4
    refine bodyPost_ret (v := .agg #[.int .i64 k6, .int .i64 m6, .string s6, .slice p6 i6 c6, .slice q6 j6 e6]) (by simp [results, Tryz.results16, go_sem, y0, y1, y2, y3, y4]) rfl ?_
    rw [HA.o]
    have hw := Js.o
    have hs0 := Jk.o
    have hsr := Jc.o
    refine ⟨⟨_, rfl, (Jr.o.kept Ga (by intro k hk; simp at hk; subst hk; omega)).mono (fun g' ⟨h5, h6⟩ => ⟨by omega, Nat.lt_of_lt_of_le (Nat.lt_of_lt_of_le h6 hw.2.2) Ga.size⟩)⟩, (Gc.o.then Gn.o).trans Ga (by intro i hi; simp at hi; subst hi; exact .inr (by simp))⟩
theorem tyStrs : SliceTy Tryz.prog 41 9 1 16 (.string ⟨#[]⟩) := ⟨Tryz.underlying41, by kernel_rfl, rfl, by decide⟩
def itemsV {n : Nat} : Option (V (n + 1)) → List (V n)
 | none => []
 | some x => VS.l (α := V n) x
def readRoleV {n : Nat} (v : VS (V (n + 1))) : Option RoleS :=
 let t := fint v (decide (v.kind ≠ 6)) ⟨#[116, 104, 114, 101, 115, 104, 111, 108, 100]⟩ 1 16
 let l := flist v t.2 ⟨#[107, 101, 121, 105, 100, 115]⟩ 16
 let r : RoleS := ⟨(itemsV l.1).map (strV n), t.1⟩
 if (l.2 || (itemsV l.1).any (fun x => decide (kindV n x ≠ 4))) = false ∧ mayRole r = true then some r else none
def RRAns (w' : World) (e : Ending) : Option RoleS → Prop
 | none => e = .returned (.tuple #[.agg #[.slice none 0 0, .int .i64 0], .int .i64 130])
 | some r => ∃ a c, e = .returned (.tuple #[.agg #[.slice a r.keys.length c, .int .i64 r.thr], .int .i64 0]) ∧ Texts w' (.slice a r.keys.length c) r.keys
theorem flist_le {n : Nat} (v : VS (V (n + 1))) (bad : Bool) (s : ByteArray) (lo : Nat) : (itemsV (flist v bad s lo).1).length ≤ lo := by
 unfold flist
 cases h : fget v bad s 5 (fun x => decide ((lenV (n + 1) x : Int) ≤ lo)) with
 | mk r b =>
  cases r with
  | none => exact Nat.zero_le _
  | some x =>
   have := (fget_kid h).2.1
   simp only [decide_eq_true_eq] at this
   show (VS.l (α := V n) x).length ≤ lo
   have e : lenV (n + 1) x = (VS.l (α := V n) x).length := rfl
   omega
theorem flist_small {n : Nat} {v : VS (V (n + 1))} {bad : Bool} {s : ByteArray} {lo : Int} (hs : Small (n + 2) v) : ∀ x, x ∈ itemsV (flist v bad s lo).1 → Small n x ∧ (strV n x).size ≤ 400000 := by
 unfold flist
 cases h : fget v bad s 5 (fun x => decide ((lenV (n + 1) x : Int) ≤ lo)) with
 | mk r b =>
  cases r with
  | none => intro x hx; cases hx
  | some x =>
   intro y hy
   have h1 : Small (n + 1) x := hs.kid (fget_kid h).1
   have h2 := Small.kid (v := x) h1 (mem_l hy)
   refine ⟨h2, ?_⟩
   cases n with
   | zero => exact nomatch y
   | succ n =>
    have h3 := h2.2
    have e : bytesV (n + 1) y = (VS.s (α := V n) y).size + VS.keyBytes (α := V n) y + ((VS.kids (α := V n) y).map (bytesV n)).sum := rfl
    show (VS.s (α := V n) y).size ≤ 400000
    omega
def ItemsIn {n : Nat} (S : Nat → Prop) (w : World) (a : Option Addr) (c : Nat) (xs : List (V n)) (lcs : List (List Value)) : Prop := Slc w 5 (.slice a xs.length c) xs.length lcs.flatten ∧ All2 (Rep n S w) lcs xs ∧ ∀ g, vblk (.slice a xs.length c) = some g → S g
theorem ItemsIn.kept {n : Nat} {S : Nat → Prop} {X : List Nat} {w w' : World} {a : Option Addr} {c : Nat} {xs : List (V n)} {lcs : List (List Value)} (h : ItemsIn S w a c xs lcs) (k : Kept X w w') (hX : ∀ i, i ∈ X → ¬ S i) : ItemsIn S w' a c xs lcs :=
 ⟨h.1.kept k (fun g hg hx => hX g hx (h.2.2 g hg)), h.2.1.mono (fun _ _ _ r => r.kept k hX), h.2.2⟩
theorem ItemsIn.at {n : Nat} {S : Nat → Prop} {w : World} {a : Option Addr} {c : Nat} {xs : List (V n)} {lcs : List (List Value)} (h : ItemsIn S w a c xs lcs) {j : Nat} (hj : j < xs.length) : ∃ g o s p cl q m d, a = some ⟨g, o, none⟩ ∧ w.cell? ⟨g, o + j * 5, none⟩ = some (.int .i64 (kindV n xs[j])) ∧ w.cell? ⟨g, o + j * 5 + 1, none⟩ = some (.int .i64 (numV n xs[j])) ∧ w.cell? ⟨g, o + j * 5 + 2, none⟩ = some (.string s) ∧
  w.cell? ⟨g, o + j * 5 + 3, none⟩ = some (.slice p (lenV n xs[j]) cl) ∧ w.cell? ⟨g, o + j * 5 + 4, none⟩ = some (.slice q m d) ∧ s = strV n xs[j] := by
 obtain ⟨h1, h2, h3⟩ := h
 have hlen := h2.1
 have hj' : j < lcs.length := by omega
 have hr := h2.2 j _ _ (List.getElem?_eq_getElem hj') (List.getElem?_eq_getElem hj)
 obtain ⟨s, p, cl, q, m, d, e, hs⟩ := hr.gone
 have hfive : ∀ c, c ∈ lcs → c.length = 5 := by
  intro c hc
  obtain ⟨i, hi, rfl⟩ := List.getElem_of_mem hc
  exact (h2.2 i _ _ (List.getElem?_eq_getElem hi) (List.getElem?_eq_getElem (by omega))).len
 rcases h1.2 with ⟨_, h0⟩ | ⟨h0, _⟩ | ⟨g, o, cap, hsv, _, _, hrow⟩
 ·omega
 ·omega
 simp only [Value.slice.injEq] at hsv
 have hc : ∀ i, i < 5 → lcs.flatten[j * 5 + i]? = lcs[j][i]? := fun i hi => flat_get lcs j i hfive hj' hi
 rw [e] at hc
 refine ⟨g, o, s, p, cl, q, m, d, hsv.1, hrow.cells (j * 5 + 0) _ (hc 0 (by decide)), ?_, ?_, ?_, ?_, hs⟩
 all_goals rw [Nat.add_assoc]
 ·exact hrow.cells (j * 5 + 1) _ (hc 1 (by decide))
 ·exact hrow.cells (j * 5 + 2) _ (hc 2 (by decide))
 ·exact hrow.cells (j * 5 + 3) _ (hc 3 (by decide))
 ·exact hrow.cells (j * 5 + 4) _ (hc 4 (by decide))
theorem ListAns.items {n : Nat} {w w' : World} {e : Ending} {r : Option (V (n + 1))} (h : ListAns (n + 1) w w' e r) : ∃ a c lcs, e = .returned (.slice a (itemsV r).length c) ∧ ItemsIn (fun g => w.heap.size ≤ g ∧ g < w'.heap.size) w' a c (itemsV r) lcs := by
 cases r with
 | none => exact ⟨none, 0, [], h, slc_nil _ _, All2.nil _, by simp [itemsV, vblk]⟩
 | some x =>
  obtain ⟨s, p, c, q, j, d, rfl, ho⟩ := h
  obtain ⟨vl, vm, lcs, mcs, h2⟩ := Rep.open_ (v := (x : VS (V n))) ho.rep
  have e := h2.cells
  simp only [List.cons.injEq, and_true] at e
  obtain ⟨-, -, -, rfl, -⟩ := e
  exact ⟨p, c, lcs, rfl, h2.slcl, h2.alll, h2.inl⟩
def GotE (n : Nat) (S : Nat → Prop) (w' : World) (e : Ending) : Option (V n) → Prop
 | none => e = .returned (.tuple #[zero5, .bool false])
 | some x => ∃ cs, e = .returned (.tuple #[.agg cs.toArray, .bool true]) ∧ Rep n S w' cs x
theorem find_drop {α : Type} {m : List (ByteArray × α)} {s : ByteArray} {k : Nat} (h : k < m.length) : (m.drop k).find? (fun p => decide (p.1 = s)) = if m[k].1 = s then some m[k] else (m.drop (k + 1)).find? (fun p => decide (p.1 = s)) := by
 rw [List.drop_eq_getElem_cons h, List.find?_cons]
 by_cases e : m[k].1 = s <;> simp [e]
section
variable {n : Nat} {v : VS (V n)} {S : Nat → Prop} {w : World} {cs : List Value}
theorem refGet_any (h : Rep (n + 1) S w cs v) (hl : v.m.length ≤ 1000000) (s : ByteArray) :
  Calls Tryz.prog 129 #[.agg cs.toArray, .string s] w fun e w' => GotE n S w' e (getV v s) ∧ Kept [] w w' := by
 obtain ⟨vl, vm, lcs, mcs, h⟩ := h
 obtain ⟨pa, pc, pb, pd, rfl, rfl, rfl⟩ := h.forms
 obtain ⟨W0, Gb⟩ : ∃ W0, Hid (W0 = (w.alloc (.cells #[.int .i64 v.kind, .int .i64 v.num, .string v.s, .slice pa v.l.length pc, .slice pb v.m.length pd] 28)).alloc (.cells #[.int .i64 0, .int .i64 0, .string ⟨#[]⟩, .slice none 0 0, .slice none 0 0] 28)) := ⟨_, qI rfl⟩
 have Gc : Hid (Kept [] w W0) := qI (by rw [Gb.o]; exact ((Kept.refl _ w).alloc _).alloc _)
 have HB : Hid (W0.heap[w.heap.size]? = some (.cells #[.int .i64 v.kind, .int .i64 v.num, .string v.s, .slice pa v.l.length pc, .slice pb v.m.length pd] 28 (0, 0))) := qI (by rw [Gb.o]; exact ((Kept.refl [] _).alloc _).heap (block_alloc rfl) (by simp))
 have HR : Hid (W0.heap[w.heap.size + 1]? = some (.cells #[.int .i64 0, .int .i64 0, .string ⟨#[]⟩, .slice none 0 0, .slice none 0 0] 28 (0, 0))) := qI (by rw [Gb.o]; exact block_alloc (by simp))
 obtain ⟨m, HM⟩ : ∃ m, Hid (m = v.m.length) := ⟨_, qI rfl⟩
 have c0 := cell_head (o := 0) (v := .int .i64 v.kind) HB.o rfl
 have c4 := cell_head (o := 4) (v := .slice pb v.m.length pd) HB.o rfl
 rw [← HM.o] at c4 hl
 have H := qI h
 have z : ∀ j, W0.frozen? ⟨w.heap.size + 1, j, none⟩ = false := fun j => free_head HR.o
 obtain ⟨r0, r1, r2, r3, r4⟩ := box_of HR.o
 obtain ⟨kd, Gl⟩ : ∃ kd, Hid (kd = v.kind) := ⟨_, qI rfl⟩
 rw [← Gl.o] at c0
 clear h
 have hmI : (m : Int) ≤ 1000000 := by omega
 clear hl
 by_cases k6 : kd = 6
 rotate_left
 ·have f1 := (int_ne k6).1
  have f2 := (int_ne k6).2
  have HG : Hid (getV v s = none) := qI (by unfold getV; rw [if_neg (by rw [← Gl.o]; exact k6)])
  clear k6
  go_enter Tryz.func129, Tryz.ntmps129
  go_upto_region 1 with fail
  rw [← Gb.o]
  go_wp2_with fail
  go_loopw [6] (fun i wr => i = .int .i64 0 ∧ W0 = wr) (fun _ _ => 0)
  case atStart => exact ⟨rfl, rfl⟩
  case round =>
   obtain ⟨rfl, rfl⟩ := hrel
   go_wp2_with fail
   all_goals
    change bodyPost _ _ _ _ _ (put5 W0 (w.heap.size + 1) 0 0 ⟨#[]⟩ (.slice none 0 0) (.slice none 0 0))
    have Ga := Gc.o.trans (put5_kept W0 (w.heap.size + 1) 0 0 ⟨#[]⟩ (.slice none 0 0) (.slice none 0 0)) (by intro i hi; simp at hi; subst hi; exact .inr (by omega))
    obtain ⟨y0, y1, y2, y3, y4⟩ := box_of (put5_at HR.o 0 0 ⟨#[]⟩ (.slice none 0 0) (.slice none 0 0))
    revert Ga y0 y1 y2 y3 y4
    generalize put5 W0 (w.heap.size + 1) 0 0 ⟨#[]⟩ (.slice none 0 0) (.slice none 0 0) = WF
    intro Ga y0 y1 y2 y3 y4
    refine bodyPost_ret (v := .tuple #[zero5, .bool false]) (by simp [results, Tryz.results129, go_sem, y0, y1, y2, y3, y4, zero5]) rfl ?_
    rw [HG.o]
    exact ⟨rfl, Ga⟩
 have f1 := (int_eq k6).1
 have f2 := (int_eq k6).2
 have HG : Hid (getV v s = (v.m.find? (fun p => decide (p.1 = s))).map (fun p => p.2)) := qI (by unfold getV; rw [if_pos (by rw [← Gl.o]; exact k6)])
 clear k6
 go_enter Tryz.func129, Tryz.ntmps129
 go_upto_region 1 with fail
 rw [← Gb.o]
 go_wp2_with fail
 go_loopw [6] (fun i wr => ∃ k : Nat, i = .int .i64 k ∧ k ≤ m ∧ Hid ((v.m.drop k).find? (fun p => decide (p.1 = s)) = v.m.find? (fun p => decide (p.1 = s))) ∧ W0 = wr) (fun i _ => m - (intOf i).toNat)
 case atStart => exact ⟨0, rfl, Nat.zero_le _, qI rfl, rfl⟩
 case round =>
  obtain ⟨k, rfl, hk, hf, rfl⟩ := hrel
  by_cases hlt : k < m
  ·have hltI : (k : Int) < m := by omega
   have hkm : k < v.m.length := by rw [← HM.o]; exact hlt
   obtain ⟨g, o, cap, kk, nm, st, a, b, hvm, p0, p1, p2, p3, p4, p5, hrep⟩ := H.o.at_m (Kept.refl _ _) k hkm
   have q0 := Gc.o.cell p0 (by simp)
   have q1 := Gc.o.cell p1 (by simp)
   have q2 := Gc.o.cell p2 (by simp)
   have q3 := Gc.o.cell p3 (by simp)
   have q4 := Gc.o.cell p4 (by simp)
   have q5 := Gc.o.cell p5 (by simp)
   rw [← HM.o] at hvm
   clear p0 p1 p2 p3 p4 p5
   simp only [Value.slice.injEq, true_and] at hvm
   obtain ⟨rfl, rfl⟩ := hvm
   obtain ⟨pa2, i2, c2', pb2, j2, d2', rfl, rfl⟩ := hrep.sl
   have HD := qI (find_drop (s := s) hkm)
   have Gg := qI hrep
   have Ji := qI hlt
   revert q0 HD Gg
   generalize v.m[k] = kv
   intro q0 HD Gg
   obtain ⟨key, val⟩ := kv
   simp only at q0 HD Gg
   clear hrep hkm hlt hk
   by_cases e : key = s
   ·obtain ⟨g1, g2⟩ := str_eq e
    have Gp : Hid (v.m.find? (fun p => decide (p.1 = s)) = some (key, val)) := qI (by rw [← hf.o, HD.o, if_pos e])
    clear e
    go_wp2_with fail
    change bodyPost _ _ _ _ _ (put5 W0 (w.heap.size + 1) kk nm st (.slice pa2 i2 c2') (.slice pb2 j2 d2'))
    have Ga := put5_kept W0 (w.heap.size + 1) kk nm st (.slice pa2 i2 c2') (.slice pb2 j2 d2')
    obtain ⟨y0, y1, y2, y3, y4⟩ := box_of (put5_at HR.o kk nm st (.slice pa2 i2 c2') (.slice pb2 j2 d2'))
    revert Ga y0 y1 y2 y3 y4
    generalize put5 W0 (w.heap.size + 1) kk nm st (.slice pa2 i2 c2') (.slice pb2 j2 d2') = WF
    intro Ga y0 y1 y2 y3 y4
    refine bodyPost_ret (v := .tuple #[.agg #[.int .i64 kk, .int .i64 nm, .string st, .slice pa2 i2 c2', .slice pb2 j2 d2'], .bool true]) (by simp [results, Tryz.results129, go_sem, y0, y1, y2, y3, y4]) rfl ?_
    rw [HG.o, Gp.o]
    have Jj := Gc.o.trans Ga (by intro i hi; simp at hi; subst hi; exact .inr (by omega))
    exact ⟨⟨_, rfl, Gg.o.kept0 Jj⟩, Jj⟩
   ·obtain ⟨g1, g2⟩ := str_ne e
    have Gp : Hid ((v.m.drop (k + 1)).find? (fun p => decide (p.1 = s)) = v.m.find? (fun p => decide (p.1 = s))) := qI (by rw [← hf.o, HD.o, if_neg e])
    clear e
    go_wp2_with fail
    case roundEnd => exact ⟨⟨k + 1, by go_num, by have := Ji.o; omega, Gp, by first | rfl | trivial⟩, by have := Ji.o; simp [intOf]; omega⟩
  ·obtain rfl : k = m := by omega
   have Gp : Hid (v.m.find? (fun p => decide (p.1 = s)) = none) := qI (by rw [← hf.o, HM.o, List.drop_length]; rfl)
   go_wp2_with fail
   change bodyPost _ _ _ _ _ (put5 W0 (w.heap.size + 1) 0 0 ⟨#[]⟩ (.slice none 0 0) (.slice none 0 0))
   have Ga := Gc.o.trans (put5_kept W0 (w.heap.size + 1) 0 0 ⟨#[]⟩ (.slice none 0 0) (.slice none 0 0)) (by intro i hi; simp at hi; subst hi; exact .inr (by omega))
   obtain ⟨y0, y1, y2, y3, y4⟩ := box_of (put5_at HR.o 0 0 ⟨#[]⟩ (.slice none 0 0) (.slice none 0 0))
   revert Ga y0 y1 y2 y3 y4
   generalize put5 W0 (w.heap.size + 1) 0 0 ⟨#[]⟩ (.slice none 0 0) (.slice none 0 0) = WF
   intro Ga y0 y1 y2 y3 y4
   refine bodyPost_ret (v := .tuple #[zero5, .bool false]) (by simp [results, Tryz.results129, go_sem, y0, y1, y2, y3, y4, zero5]) rfl ?_
   rw [HG.o, Gp.o]
   exact ⟨rfl, Ga⟩
end
def FldR (n : Nat) (w : World) (g : Nat) (v : VS (V n)) (bad : Bool) : Prop :=
 ∃ p c q d, w.heap[g]? = some (.cells #[.int .i64 v.kind, .int .i64 v.num, .string v.s, .slice p v.l.length c, .slice q v.m.length d, .bool bad] 90 (0, 0)) ∧
  Rep (n + 1) (fun k => k < g) w [.int .i64 v.kind, .int .i64 v.num, .string v.s, .slice p v.l.length c, .slice q v.m.length d] v
theorem FldR.kept {n : Nat} {X : List Nat} {w w' : World} {g : Nat} {v : VS (V n)} {bad : Bool} (h : FldR n w g v bad) (k : Kept X w w') (hX : ∀ i, i ∈ X → g < i) : FldR n w' g v bad := by
 obtain ⟨p, c, q, d, h1, h2⟩ := h
 exact ⟨p, c, q, d, k.heap h1 (fun e => by have := hX g e; omega), h2.kept k (fun i hi => by have := hX i hi; omega)⟩
theorem FldR.kept0 {n : Nat} {w w' : World} {g : Nat} {v : VS (V n)} {bad : Bool} (h : FldR n w g v bad) (k : Kept [] w w') : FldR n w' g v bad := h.kept k (by simp)
theorem FldR.lt {n : Nat} {w : World} {g : Nat} {v : VS (V n)} {bad : Bool} (h : FldR n w g v bad) : g < w.heap.size := by
 obtain ⟨p, c, q, d, h1, h2⟩ := h
 exact lt_of_block h1
theorem FldR.put {n : Nat} {w : World} {g : Nat} {v : VS (V n)} {bad : Bool} (h : FldR n w g v bad) (b : Bool) : FldR n (w.setCell ⟨g, 5, none⟩ (.bool b)) g v b := by
 obtain ⟨p, c, q, d, h1, h2⟩ := h
 exact ⟨p, c, q, d, block_setCell h1 rfl, h2.kept ((Kept.refl [g] w).setCell (.inl (by simp)) _) (fun i hi => by simp at hi; omega)⟩
theorem FldR.c5 {n : Nat} {w : World} {g : Nat} {v : VS (V n)} {bad : Bool} (h : FldR n w g v bad) : w.cell? ⟨g, 5, none⟩ = some (.bool bad) ∧ w.frozen? ⟨g, 5, none⟩ = false := by
 obtain ⟨p, c, q, d, h1, h2⟩ := h
 exact ⟨cell_head h1 rfl, free_head h1⟩
theorem refOf_any {n : Nat} {S : Nat → Prop} {w : World} {cs : List Value} {v : VS (V n)} (h : Rep (n + 1) S w cs v) : Calls Tryz.prog 46 #[.agg cs.toArray] w fun e w' => (∃ g, w.heap.size ≤ g ∧ e = .returned (.pointer (some ⟨g, 0, none⟩)) ∧ FldR n w' g v (decide (v.kind ≠ 6))) ∧ Kept [] w w' := by
 obtain ⟨vl, vm, lcs, mcs, ho⟩ := Rep.open_ h
 obtain ⟨p, c, q, d, rfl, rfl, rfl⟩ := ho.forms
 have H := qI h
 obtain ⟨W0, Gb⟩ : ∃ W0, Hid (W0 = w.alloc (.cells #[.int .i64 v.kind, .int .i64 v.num, .string v.s, .slice p v.l.length c, .slice q v.m.length d] 28)) := ⟨_, qI rfl⟩
 have Gc : Hid (Kept [] w W0) := qI (by rw [Gb.o]; exact (Kept.refl _ w).alloc _)
 have HB : Hid (BoxAt W0 w.heap.size v.kind v.num v.s (.slice p v.l.length c) (.slice q v.m.length d)) := qI (by rw [Gb.o]; exact box_at _ _ _ _ _ _ _)
 have HS : Hid (W0.heap.size = w.heap.size + 1) := qI (by rw [Gb.o]; simp)
 obtain ⟨c0, c1, c2, c3, c4⟩ := HB.o
 have HE : Hid (decide (v.kind ≠ 6) = (v.kind != 6)) := qI (by by_cases k : v.kind = 6 <;> simp [k])
 clear h ho
 go_enter Tryz.func46, Tryz.ntmps46
 go_upto_region 1 with fail
 rw [← Gb.o]
 go_wp2_with fail
 go_ret
 rw [HE.o]
 have hk := (Kept.refl [] W0).alloc (.cells #[.int .i64 v.kind, .int .i64 v.num, .string v.s, .slice p v.l.length c, .slice q v.m.length d, .bool (v.kind != 6)] 90)
 refine ⟨⟨W0.heap.size, by have := HS.o; omega, rfl, p, c, q, d, block_alloc rfl, Rep.kept0 (Rep.kept0 (Rep.mono H.o (T := fun k => k < W0.heap.size) (fun k hk _ => by have := HS.o; omega)) Gc.o) hk⟩, Gc.o.then hk⟩
def GivenR (n : Nat) (g : Nat) (w' : World) (e : Ending) : Option (V n) → Prop
 | none => e = .returned zero5
 | some x => ∃ cs, e = .returned (.agg cs.toArray) ∧ Rep n (fun k => k < g) w' cs x
def rget {n : Nat} (v : VS (V n)) (bad : Bool) (s : ByteArray) (kind : Int) : Option (V n) × Bool := fget v bad s kind (fun _ => true)
theorem rget_two {n : Nat} (v : VS (V n)) (bad : Bool) (s : ByteArray) (kind : Int) : rget v bad s kind = (none, true) ∨ ∃ x, rget v bad s kind = (some x, false) := by
 unfold rget fget
 cases bad with
 | true => exact .inl rfl
 | false =>
  cases getV v s with
  | none => exact .inl rfl
  | some x =>
   by_cases h : kindV n x = kind
   ·exact .inr ⟨x, by simp [h]⟩
   ·exact .inl (by simp [h])
theorem fget_rget {n : Nat} (v : VS (V n)) (bad : Bool) (s : ByteArray) (kind : Int) (may : V n → Bool) : fget v bad s kind may = match rget v bad s kind with
  | (none, _) => (none, true)
  | (some x, _) => if may x = true then (some x, false) else (none, true) := by
 unfold rget fget
 cases bad with
 | true => rfl
 | false =>
  cases getV v s with
  | none => rfl
  | some x =>
   simp only [Bool.false_eq_true, if_false]
   by_cases h : kindV n x = kind
   ·simp [h]
   ·simp [h]
section
variable {n : Nat} {w : World} {g : Nat} {v : VS (V n)} {bad : Bool}
theorem rget_any (h : FldR n w g v bad) (hl : v.m.length ≤ 1000000) (s : ByteArray) (kind : Int) :
  Calls Tryz.prog 93 #[.pointer (some ⟨g, 0, none⟩), .string s, .int .i64 kind] w fun e w' => GivenR n g w' e (rget v bad s kind).1 ∧ FldR n w' g v (rget v bad s kind).2 ∧ Kept [g] w w' := by
 obtain ⟨W0, Gb⟩ : ∃ W0, Hid (W0 = w.alloc (.cells #[.int .i64 0, .int .i64 0, .string ⟨#[]⟩, .slice none 0 0, .slice none 0 0] 28)) := ⟨_, qI rfl⟩
 have Gc : Hid (Kept [] w W0) := qI (by rw [Gb.o]; exact (Kept.refl _ w).alloc _)
 have Gh : Hid (W0.heap[w.heap.size]? = some (.cells #[.int .i64 0, .int .i64 0, .string ⟨#[]⟩, .slice none 0 0, .slice none 0 0] 28 (0, 0))) := qI (by rw [Gb.o]; exact block_alloc rfl)
 have HG : Hid (g < w.heap.size) := qI h.lt
 have Gq := qI (h.kept0 Gc.o)
 have Gr : Hid (rget v bad s kind = if bad then (none, true) else match getV v s with
  | none => (none, true)
  | some x => if kindV n x = kind ∧ true = true then (some x, false) else (none, true)) := qI rfl
 clear h
 obtain ⟨p, c, q, d, h1, h2⟩ := Gq.o
 have CG := qI (refGet_any h2 hl s)
 have c0 := cell_head (o := 0) (v := .int .i64 v.kind) h1 rfl
 have c1 := cell_head (o := 1) (v := .int .i64 v.num) h1 rfl
 have c2 := cell_head (o := 2) (v := .string v.s) h1 rfl
 have c3 := cell_head (o := 3) (v := .slice p v.l.length c) h1 rfl
 have c4 := cell_head (o := 4) (v := .slice q v.m.length d) h1 rfl
 clear h1 h2 hl
 revert CG Gr
 generalize getV v s = r
 intro Gr CG
 have Gs : Hid (∀ w3 : World, Kept [] W0 w3 → ∃ WF, Hid (WF = put5 (w3.setCell ⟨g, 5, none⟩ (.bool true)) w.heap.size 0 0 ⟨#[]⟩ (.slice none 0 0) (.slice none 0 0)) ∧ BoxAt WF w.heap.size 0 0 ⟨#[]⟩ (.slice none 0 0) (.slice none 0 0) ∧ Hid (FldR n WF g v true ∧ Kept [g] w WF)) := qI (fun w3 hk => by
  have hf := (Gq.o.kept0 hk).put true
  have hk2 := (Kept.refl [g] w3).setCell (p := ⟨g, 5, none⟩) (.inl (by simp)) (.bool true)
  have hr := hk2.heap (hk.heap Gh.o (by simp)) (by have := HG.o; simp; omega)
  have hk3 := put5_kept (w3.setCell ⟨g, 5, none⟩ (.bool true)) w.heap.size 0 0 ⟨#[]⟩ (.slice none 0 0) (.slice none 0 0)
  exact ⟨_, qI rfl, box_of (put5_at hr _ _ _ _ _), qI ⟨hf.kept hk3 (by intro i hi; simp at hi; subst hi; exact HG.o), (((Gc.o.then hk).mono (by simp)).trans' hk2).trans hk3 (by intro i hi; simp at hi; subst hi; exact .inr (Nat.le_refl _))⟩⟩)
 cases r with
 | none =>
  have Gt : Hid (rget v bad s kind = (none, true)) := qI (by rw [Gr.o]; cases bad <;> rfl)
  cases bad
  all_goals
   go_enter Tryz.func93, Tryz.ntmps93
   go_upto_region 1 with fail
   rw [← Gb.o]
   go_upto_region 2 with (go_at_call 129; refine CG.o.mono ?_; rintro e w2 ⟨he, hk2⟩; change e = _ at he; subst he; unfold zero5; have Gi := qI hk2; clear hk2 c0 c1 c2 c3 c4)
   obtain ⟨w3, Gj⟩ : ∃ w3, Hid (w3 = w2.alloc (.cells #[.int .i64 0, .int .i64 0, .string ⟨#[]⟩, .slice none 0 0, .slice none 0 0] 28)) := ⟨_, qI rfl⟩
   have Ge : Hid (Kept [] W0 w3) := qI (by rw [Gj.o]; exact Gi.o.alloc _)
   rw [← Gj.o]
   obtain ⟨c5, f5⟩ := (Gq.o.kept0 Ge.o).c5
   have Gu := qI (((Kept.refl [g] w3).setCell (p := ⟨g, 5, none⟩) (.inl (by simp)) (.bool true)).heap (Ge.o.heap Gh.o (by simp)) (by have := HG.o; simp; omega))
   obtain ⟨r0, r1, r2, r3, r4⟩ := box_of Gu.o
   have z : ∀ j, (w3.setCell ⟨g, 5, none⟩ (.bool true)).frozen? ⟨w.heap.size, j, none⟩ = false := fun j => free_head Gu.o
   obtain ⟨WF, Je, ⟨y0, y1, y2, y3, y4⟩, Gv⟩ := Gs.o w3 Ge.o
   go_wp2_with fail
   change bodyPost _ _ _ _ _ (put5 (w3.setCell ⟨g, 5, none⟩ (.bool true)) w.heap.size 0 0 ⟨#[]⟩ (.slice none 0 0) (.slice none 0 0))
   rw [← Je.o]
   refine bodyPost_ret (v := zero5) (by simp [results, Tryz.results93, go_sem, y0, y1, y2, y3, y4, zero5]) rfl ?_
   rw [Gt.o]
   exact ⟨rfl, Gv.o.1, Gv.o.2⟩
 | some x =>
  obtain ⟨W2, Jt⟩ : ∃ W2 : World → Prop, W2 = fun _ => True := ⟨_, rfl⟩
  clear W2 Jt
  go_enter Tryz.func93, Tryz.ntmps93
  go_upto_region 1 with fail
  rw [← Gb.o]
  go_upto_region 2 with (go_at_call 129; refine CG.o.mono ?_; rintro e w2 ⟨⟨cs2, he, ho2⟩, hk2⟩; obtain ⟨k3, m3, s3, p3, i3, c3', q3, j3, e3, rfl⟩ := ho2.conv; subst he; have Gl : Hid (k3 = kindV n x) := qI ho2.heads.1; have Jb := qI ho2; have Gi := qI hk2; clear hk2 ho2 c0 c1 c2 c3 c4)
  obtain ⟨w3, Gj⟩ : ∃ w3, Hid (w3 = w2.alloc (.cells #[.int .i64 k3, .int .i64 m3, .string s3, .slice p3 i3 c3', .slice q3 j3 e3] 28)) := ⟨_, qI rfl⟩
  have Ge : Hid (Kept [] W0 w3) := qI (by rw [Gj.o]; exact Gi.o.alloc _)
  have Ju : Hid (BoxAt w3 w2.heap.size k3 m3 s3 (.slice p3 i3 c3') (.slice q3 j3 e3)) := qI (by rw [Gj.o]; exact box_at _ _ _ _ _ _ _)
  have Gm := qI (Jb.o.kept0 (show Kept [] w2 w3 by rw [Gj.o]; exact (Kept.refl _ _).alloc _))
  rw [← Gj.o]
  obtain ⟨b0, b1, b2, b3, b4⟩ := Ju.o
  obtain ⟨c5, f5⟩ := (Gq.o.kept0 Ge.o).c5
  have Gu := qI (((Kept.refl [g] w3).setCell (p := ⟨g, 5, none⟩) (.inl (by simp)) (.bool true)).heap (Ge.o.heap Gh.o (by simp)) (by have := HG.o; simp; omega))
  by_cases hg : bad = false ∧ k3 = kind
  ·obtain ⟨rfl, hkd⟩ := hg
   obtain ⟨f1, f2⟩ := int_eq hkd
   have Gt : Hid (rget v false s kind = (some x, false)) := qI (by rw [Gr.o]; simp only [Bool.false_eq_true, if_false]; rw [if_pos ⟨by rw [← Gl.o, hkd], by first | rfl | trivial⟩])
   clear hkd
   have Jf := qI (Ge.o.heap Gh.o (by simp))
   obtain ⟨r0, r1, r2, r3, r4⟩ := box_of Jf.o
   have z : ∀ j, w3.frozen? ⟨w.heap.size, j, none⟩ = false := fun j => free_head Jf.o
   go_wp2_with fail
   change bodyPost _ _ _ _ _ (put5 w3 w.heap.size k3 m3 s3 (.slice p3 i3 c3') (.slice q3 j3 e3))
   have Ga := put5_kept w3 w.heap.size k3 m3 s3 (.slice p3 i3 c3') (.slice q3 j3 e3)
   obtain ⟨y0, y1, y2, y3, y4⟩ := box_of (put5_at Jf.o k3 m3 s3 (.slice p3 i3 c3') (.slice q3 j3 e3))
   revert Ga y0 y1 y2 y3 y4
   generalize put5 w3 w.heap.size k3 m3 s3 (.slice p3 i3 c3') (.slice q3 j3 e3) = WF
   intro Ga y0 y1 y2 y3 y4
   refine bodyPost_ret (v := .agg #[.int .i64 k3, .int .i64 m3, .string s3, .slice p3 i3 c3', .slice q3 j3 e3]) (by simp [results, Tryz.results93, go_sem, y0, y1, y2, y3, y4]) rfl ?_
   rw [Gt.o]
   exact ⟨⟨_, rfl, Gm.o.kept Ga (by intro i hi; have := HG.o; simp at hi; omega)⟩, (Gq.o.kept0 Ge.o).kept Ga (by intro i hi; simp at hi; subst hi; exact HG.o), ((Gc.o.then Ge.o).mono (by simp)).trans Ga (by intro i hi; simp at hi; subst hi; exact .inr (Nat.le_refl _))⟩
  ·have Gt : Hid (rget v bad s kind = (none, true)) := qI (by
    rw [Gr.o]
    cases bad with
    | true => rfl
    | false => simp only [Bool.false_eq_true, if_false]; rw [if_neg (fun h => hg ⟨rfl, by rw [Gl.o]; exact h.1⟩)])
   obtain ⟨r0, r1, r2, r3, r4⟩ := box_of Gu.o
   have z : ∀ j, (w3.setCell ⟨g, 5, none⟩ (.bool true)).frozen? ⟨w.heap.size, j, none⟩ = false := fun j => free_head Gu.o
   obtain ⟨WF, Je, ⟨y0, y1, y2, y3, y4⟩, Gv⟩ := Gs.o w3 Ge.o
   have hbk : bad = true ∨ (bad = false ∧ ((k3 == kind) = false ∧ (k3 != kind) = true)) := by
    cases bad with
    | true => exact .inl rfl
    | false => exact .inr ⟨rfl, by have h9 : k3 ≠ kind := fun e => hg ⟨rfl, e⟩; simp [h9]⟩
   clear hg
   rcases hbk with rfl | ⟨rfl, f1, f2⟩
   all_goals
    go_wp2_with fail
    change bodyPost _ _ _ _ _ (put5 (w3.setCell ⟨g, 5, none⟩ (.bool true)) w.heap.size 0 0 ⟨#[]⟩ (.slice none 0 0) (.slice none 0 0))
    rw [← Je.o]
    refine bodyPost_ret (v := zero5) (by simp [results, Tryz.results93, go_sem, y0, y1, y2, y3, y4, zero5]) rfl ?_
    rw [Gt.o]
    exact ⟨rfl, Gv.o.1, Gv.o.2⟩
end
end Go.Proofs.YtckbnjipecclaaaGreatDoor

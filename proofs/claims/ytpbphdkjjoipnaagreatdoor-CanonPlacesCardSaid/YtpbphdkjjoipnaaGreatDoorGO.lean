/- Parts of one proof, merged: XYO XYP. -/
import Derived.Test.YtpbphdkjjoipnaaGreatDoorGP
import Derived.Test.YtpbphdkjjoipnaaGreatDoorGZ
import Derived.Test.YtpbphdkjjoipnaaGreatDoorFL
import Derived.Test.YtpbphdkjjoipnaaGreatDoorFD
set_option linter.all false
set_option maxHeartbeats 12800000
set_option maxRecDepth 10000
set_option linter.unusedVariables false
set_option linter.unusedSimpArgs false
set_option linter.unnecessarySimpa false
namespace Go.Proofs.YtpbphdkjjoipnaaGreatDoor
open Go.RowKit
theorem at_small : ∀ (n : Nat) (v : V n) (q : List (List UInt8)) (u : Sigma V), atV n v q = some u → zU n v → zU u.1 u.2
 | 0, v, _, _, _, _ => nomatch v
 | n + 1, v, [], u, h, hs => by
  have e : u = ⟨n + 1, v⟩ := (Option.some.inj (show some (⟨n + 1, v⟩ : Sigma V) = some u from h)).symm
  subst e; exact hs
 | n + 1, (v : VS (V n)), s :: r, u, h, hs => by
  cases hk : jz (α := V n) v s with
  | none => rw [at_none hk] at h; cases h
  | some x =>
   rw [bD hk] at h
   exact at_small n x r u h (hs.kid (kid_mem hk))
def leaf0 : VS (V 0) := ⟨0, 0, ⟨#[]⟩, [], []⟩
theorem leaf0_rep (S : Nat → Prop) (w : World) : Rep 1 S w [.int .i64 0, .int .i64 0, .string ⟨#[]⟩, .slice none 0 0, .slice none 0 0] (leaf0 : V 1) := rep_leaf S w leaf0 rfl rfl rfl rfl
theorem vK : zU 1 (leaf0 : V 1) := ⟨by decide, by decide⟩
def outV (r : Option (Sigma V) × Int) : Sigma V := match r.1 with
 | none => ⟨1, leaf0⟩
 | some u => u
theorem JD.o {r : Option (Sigma V) × Int} {e : Ending} {w' : World} (h : JD r e w') : ∃ k i s p a b q c d, ∃ S : Nat → Prop, e = .returned (.tuple #[.agg #[.int .i64 k, .int .i64 i, .string s, .slice p a b, .slice q c d], .int .i64 r.2]) ∧ Rep (outV r).1 S w' [.int .i64 k, .int .i64 i, .string s, .slice p a b, .slice q c d] (outV r).2 := by
 obtain ⟨x, y⟩ := r
 cases x with
 | none => exact ⟨0, 0, ⟨#[]⟩, none, 0, 0, none, 0, 0, fun _ => True, h, leaf0_rep _ _⟩
 | some u => exact h
theorem out_small {n : Nat} {v : V n} {p : List UInt8} (h : zU n v) : zU (outV (atR n v p)).1 (outV (atR n v p)).2 := by
 by_cases hc : zz n v = 0
 ·cases hp : yq p with
  | none => rw [QR hc hp]; exact vK
  | some L =>
   cases ha : atV n v L with
   | none => rw [Qw hc hp ha]; exact vK
   | some u => rw [Zs hc hp ha]; exact at_small n v L u ha h
 ·rw [J0 hc]; exact vK
theorem Ki : ∀ (n : Nat) (v : V n) (q : List (List UInt8)), q ∈ yG n v → zU n v → (zH q).length ≤ n * 30 + 2 * zW n v
 | 0, v, _, _, _ => nomatch v
 | n + 1, (v : VS (V n)), q, hq, hs => by
  by_cases h0 : v.l.length + v.m.length = 0
  ·rw [Qc h0] at hq
   simp only [List.mem_cons, List.not_mem_nil, or_false] at hq
   subst hq
   simp [zH]
  have e : yG (n + 1) v = lvL (yG n) Lib.decDigits 0 v.l ++ v.m.flatMap (fun p => (yG n p.2).map (p.1.data.toList :: ·)) := by
   show (if v.l.length + v.m.length = 0 then [[]] else _) = _
   rw [if_neg h0]
  rw [e] at hq
  rcases List.mem_append.1 hq with hq | hq
  ·obtain ⟨k, hk, r, hr, rfl⟩ := lvL_mem hq
   have hkid := xr (List.getElem_mem hk)
   have ih := Ki n v.l[k] r hr (hs.kid hkid)
   have hb := Kc hkid
   have hf := jO hs
   have hd := qS (0 + k) (by omega)
   rw [show zH (Lib.decDigits (0 + k) :: r) = (47 :: yo (Lib.decDigits (0 + k))) ++ zH r from rfl, Kj, List.length_append, List.length_cons]
   omega
  ·obtain ⟨y, hy, hq⟩ := List.mem_flatMap.1 hq
   obtain ⟨r, hr, rfl⟩ := List.mem_map.1 hq
   have hkid := xh hy
   have ih := Ki n y.2 r hr (hs.kid hkid)
   have h1 := Qb y.1.data.toList
   rw [kS] at h1
   have hb : y.1.size + zW n y.2 ≤ zW (n + 1) v := by
    have h2 := jW (List.mem_map.2 ⟨y, hy, rfl⟩ : y.1.size ∈ v.m.map (fun p => p.1.size))
    have h3 := jW (List.mem_map.2 ⟨y.2, hkid, rfl⟩ : zW n y.2 ∈ v.kids.map (zW n))
    show _ ≤ v.s.size + v.keyBytes + (v.kids.map (zW n)).sum
    unfold VS.keyBytes
    omega
   rw [show zH (y.1.data.toList :: r) = (47 :: yo y.1.data.toList) ++ zH r from rfl, List.length_append, List.length_cons]
   omega
theorem leaf_told {n : Nat} {v : V n} {s : ByteArray} (hs : zU n v) (hn : n ≤ 21) (h : s ∈ y6 n v) : s.size ≤ 900000 ∧ ∃ (m : Nat) (u : VS (V m)), atR n v s.data.toList = (some ⟨m + 1, u⟩, 0) ∧ u.l.length + u.m.length = 0 := by
 unfold y6 at h
 by_cases hc : zz n v = 0
 ·rw [if_pos hc] at h
  obtain ⟨q, hq, rfl⟩ := List.mem_map.1 h
  have he : (xF ⟨#[]⟩ q).data.toList = zH q := by
   unfold xF
   rw [ByteArray.data_append, Array.toList_append, zo]; rfl
  obtain ⟨-, -, hr⟩ := xS.1 hc
  obtain ⟨m, u, hu, h0⟩ := leaf_at n v q hr hq
  refine ⟨?_, m, u, ?_, h0⟩
  ·rw [← kS, he]
   have h1 := Ki n v q hq hs
   have h2 := hs.2
   omega
  ·rw [he]
   exact Zs hc (Kv q) hu
 ·rw [if_neg hc] at h; cases h
theorem incomingP {n : Nat} {v : V n} {S : Nat → Prop} {w : World} {cs : List Value} (h : vo n BB S w cs v) :
  (∀ w1, zc [] w w1 → Calls Tryz.prog 11 #[.agg cs.toArray] w1 fun e w' => e = .returned (.bool true) ∧ zc [] w1 w') ∨
  ((∀ w1, zc [] w w1 → Calls Tryz.prog 11 #[.agg cs.toArray] w1 fun e w' => e = .returned (.bool false) ∧ zc [] w1 w') ∧
   ∃ v' : V 21, Rep 21 S w cs v' ∧ zU 21 v') := by
 have hl : ∀ {d : Nat} {u : V d} {b : Bool}, vo d BB S w cs u → decide (6000 < zK d 0 u) = b → ∀ w1, zc [] w w1 → Calls Tryz.prog 11 #[.agg cs.toArray] w1 fun e w' => e = .returned (.bool b) ∧ zc [] w1 w' := fun hu hb w1 k => by
  subst hb
  exact J9 (hu.1.kept0 k) hu.2
 by_cases hd : zJ n v ≤ 21
 ·obtain ⟨u, hu⟩ := vo.fit n 21 h hd
  by_cases hq : zK 21 0 u ≤ 6000
  ·exact .inr ⟨hl hu (decide_eq_false (by omega)), u, hu.1, small_of hq⟩
  ·exact .inl (hl hu (decide_eq_true (by omega)))
 ·refine .inl (hl h (decide_eq_true ?_))
  rcases Nat.lt_or_ge 6000 (zK n 0 v) with h1 | h1
  ·exact h1
  ·exfalso
   rcases (bi n 0 v h1).2.2 with rfl | h2
   ·exact nomatch v
   ·omega
section
variable {S : Nat → Prop} {w : World} {ca : List Value}
set_option maxRecDepth 100000 in
theorem places_any {n : Nat} {v : V n} (ha : vo n BB S w ca v) (p : ByteArray) (hm : Zv w) (ht : yU w) (he : jt w) :
  Calls Tryz.prog 10 #[.agg ca.toArray, .string p] w fun e w' => e = .returned (.bool true) ∧ zc [] w w' := by
 obtain ⟨kd, nm, st, a, la, ea, b, lb, eb, rfl⟩ := ha.1.conv
 obtain ⟨W0, Gh⟩ : ∃ W0, Hid (W0 = w.alloc (.cells #[.int .i64 kd, .int .i64 nm, .string st, .slice a la ea, .slice b lb eb] 25)) := ⟨_, qI rfl⟩
 have Ga : Hid (zc [] w W0) := qI (by rw [Gh.o]; exact (zc.refl [] w).alloc _)
 have HA : Hid (z8 W0 w.heap.size kd nm st (.slice a la ea) (.slice b lb eb)) := qI (by rw [Gh.o]; exact yg _ _ _ _ _ _ _)
 have HT := qI (ht.kept0 Ga.o)
 have HE := qI (he.kept0 Ga.o)
 have HM := qI (hm.kept0 Ga.o)
 have ia := incomingP ha
 have CL : Hid (∀ w1, zc [] W0 w1 → Calls Tryz.prog 12 #[] w1 fun e w' => e = .returned (.bool true) ∧ zc [] w1 w') := qI (fun w1 k => lives_any (HT.o.kept0 k))
 have hA0 := HA.o
 rw [Gh.o] at hA0
 obtain ⟨a0, a1, a2, a3, a4⟩ := hA0
 clear ha hm ht he
 rcases ia with LA | ⟨LA, ia⟩
 ·have LA := qI LA
  go_enter Tryz.func10, Tryz.ntmps10
  go_wp2_with fail
  rw [← Gh.o]
  clear a0 a1 a2 a3 a4
  refine (LA.o _ Ga.o).mono ?_
  rintro e w1 ⟨rfl, hk1⟩
  have Ge := qI hk1
  clear hk1
  go_wp2_with fail
  refine (CL.o _ Ge.o).mono ?_
  rintro e w2 ⟨rfl, hk2⟩
  go_wp2_with fail
  go_ret
  exact ⟨rfl, (Ga.o.then Ge.o).then hk2⟩
 have LA := qI LA
 by_cases hp : p.size ≤ 1000
 rotate_left
 ·have hpI : (1000 : Int) < p.size := by omega
  clear hp ia
  go_enter Tryz.func10, Tryz.ntmps10
  go_wp2_with fail
  rw [← Gh.o]
  clear a0 a1 a2 a3 a4
  refine (LA.o _ Ga.o).mono ?_
  rintro e w1 ⟨rfl, hk1⟩
  have Ge := qI hk1
  clear hk1
  go_wp2_with fail
  refine (CL.o _ Ge.o).mono ?_
  rintro e w2 ⟨rfl, hk2⟩
  go_wp2_with fail
  go_ret
  exact ⟨rfl, (Ga.o.then Ge.o).then hk2⟩
 have hpI : ¬ (1000 : Int) < p.size := by omega
 have HP := qI hp
 obtain ⟨u, hru, hsu⟩ := ia
 have Gr := qI (hru.kept0 Ga.o)
 have Gs := qI hsu
 have CAT : Hid (∀ w1 (q : ByteArray), zc [] W0 w1 → q.size ≤ 900000 → Calls Tryz.prog 33 #[.agg #[.int .i64 kd, .int .i64 nm, .string st, .slice a la ea, .slice b lb eb], .string q] w1 fun e w' => JD (atR 21 u q.data.toList) e w' ∧ zc [] w1 w') := qI (fun w1 q k hq => at_any (Gr.o.kept0 k) Gs.o (by decide) q hq (HM.o.kept0 k) (HT.o.kept0 k) (HE.o.kept0 k))
 have CRT : Hid (∀ w1, zc [] W0 w1 → Calls Tryz.prog 34 #[.agg #[.int .i64 kd, .int .i64 nm, .string st, .slice a la ea, .slice b lb eb], .string p] w1 fun e w' => JD (atR 21 u p.data.toList) e w' ∧ zc [] w1 w') := qI (fun w1 k => refAt_any (Gr.o.kept0 k) Gs.o (by decide) p (by have := HP.o; omega))
 have CLV : Hid (∀ w1, zc [] W0 w1 → Calls Tryz.prog 35 #[.agg #[.int .i64 kd, .int .i64 nm, .string st, .slice a la ea, .slice b lb eb]] w1 fun e w' => YQ w1.heap.size (y6 21 u) e w' ∧ zc [] w1 w') := qI (fun w1 k => leaves_any (Gr.o.kept0 k) Gs.o (by decide) (HT.o.kept0 k))
 have CRL : Hid (∀ w1, zc [] W0 w1 → Calls Tryz.prog 36 #[.agg #[.int .i64 kd, .int .i64 nm, .string st, .slice a la ea, .slice b lb eb]] w1 fun e w' => YQ w1.heap.size (y6 21 u) e w' ∧ zc [] w1 w') := qI (fun w1 k => KI (Gr.o.kept0 k) Gs.o (by decide))
 have Ji := qI (out_small (p := p.data.toList) hsu)
 have Gb : Hid (∀ s, s ∈ y6 21 u → s.size ≤ 900000 ∧ ∃ (m : Nat) (x : VS (V m)), atR 21 u s.data.toList = (some ⟨m + 1, x⟩, 0) ∧ x.l.length + x.m.length = 0) := qI (fun s hs => leaf_told hsu (by decide) hs)
 have Gi : Hid ((y6 21 u).length ≤ 20000) := qI (by
  unfold y6
  split
  ·unfold lvS
   rw [List.length_map]
   exact Nat.le_trans (ZT 21 u) hsu.1
  ·exact Nat.zero_le _)
 clear hru hsu hp
 revert CLV CRL Gb Gi
 generalize y6 21 u = TL
 intro CLV CRL Gb Gi
 go_enter Tryz.func10, Tryz.ntmps10
 go_wp2_with fail
 rw [← Gh.o]
 clear a0 a1 a2 a3 a4
 refine (LA.o _ Ga.o).mono ?_
 rintro e w1 ⟨rfl, hk1⟩
 have Ge := qI hk1
 obtain ⟨a0, a1, a2, a3, a4⟩ := HA.o.kept0 hk1
 clear hk1
 go_wp2_with fail
 clear a0 a1 a2 a3 a4
 refine (CAT.o _ p Ge.o (by have := HP.o; omega)).mono ?_
 rintro e w2 ⟨ha2, hk2⟩
 obtain ⟨k2, i2, s2, p2, n2, c2, q2, m2, d2, S2, rfl, hr2⟩ := ha2.o
 obtain ⟨W3, Gx⟩ : ∃ W3, Hid (W3 = w2.alloc (.cells #[.int .i64 k2, .int .i64 i2, .string s2, .slice p2 n2 c2, .slice q2 m2 d2] 25)) := ⟨_, qI rfl⟩
 have Gj : Hid (zc [] w2 W3) := qI (by rw [Gx.o]; exact (zc.refl [] w2).alloc _)
 have Gy : Hid (zc [] W0 W3) := qI ((Ge.o.then hk2).then Gj.o)
 have Jj : Hid (z8 W3 w2.heap.size k2 i2 s2 (.slice p2 n2 c2) (.slice q2 m2 d2)) := qI (by rw [Gx.o]; exact yg _ _ _ _ _ _ _)
 have Jk := qI (hr2.kept0 Gj.o)
 obtain ⟨a0, a1, a2, a3, a4⟩ := HA.o.kept0 Gy.o
 clear ha2 hr2 hk2
 go_upto_region 4 with fail
 rw [← Gx.o]
 go_wp2_with fail
 clear a0 a1 a2 a3 a4
 refine (CRT.o _ Gy.o).mono ?_
 rintro e w4 ⟨ha4, hk4⟩
 obtain ⟨k4, i4, s4, p4, n4, c4, q4, m4, d4, S4, rfl, hr4⟩ := ha4.o
 obtain ⟨W5, Gz⟩ : ∃ W5, Hid (W5 = w4.alloc (.cells #[.int .i64 k4, .int .i64 i4, .string s4, .slice p4 n4 c4, .slice q4 m4 d4] 25)) := ⟨_, qI rfl⟩
 have Gk : Hid (zc [] w4 W5) := qI (by rw [Gz.o]; exact (zc.refl [] w4).alloc _)
 have Gf : Hid (zc [] W3 W5) := qI (hk4.then Gk.o)
 have Ja : Hid (zc [] W0 W5) := qI (Gy.o.then Gf.o)
 have Jl : Hid (z8 W5 w4.heap.size k4 i4 s4 (.slice p4 n4 c4) (.slice q4 m4 d4)) := qI (by rw [Gz.o]; exact yg _ _ _ _ _ _ _)
 have Jm := qI (Jj.o.kept0 Gf.o)
 have Jn := qI (hr4.kept0 Gk.o)
 have Jo := qI (Jk.o.kept0 Gf.o)
 obtain ⟨a0, a1, a2, a3, a4⟩ := HA.o.kept0 Ja.o
 clear ha4 hr4 hk4
 go_upto_region 5 with fail
 rw [← Gz.o]
 go_wp2_with fail
 clear a0 a1 a2 a3 a4
 refine (CLV.o _ Ja.o).mono ?_
 rintro e w6 ⟨⟨p6, c6, rfl, hrow6⟩, hk6⟩
 have Jb := qI (Slc.of_row hrow6)
 have Jh := qI (Ja.o.then hk6)
 have Jc := qI hk6
 clear hrow6 hk6
 go_wp2_with fail
 refine (CL.o _ Jh.o).mono ?_
 rintro e w7 ⟨rfl, hk7⟩
 have Jp := qI (Jh.o.then hk7)
 have Gc := qI (Jc.o.then hk7)
 have Jd := qI (Jb.o.kept0 hk7)
 clear hk7
 obtain ⟨a0, a1, a2, a3, a4⟩ := Jm.o.kept0 Gc.o
 obtain ⟨b0, b1, b2, b3, b4⟩ := Jl.o.kept0 Gc.o
 have CE := qI (exact_any _ _ _ (Jo.o.kept0 Gc.o) (Jn.o.kept0 Gc.o) Ji.o)
 rw [(eqV_iff _ _ _).2 rfl] at CE
 go_wp2_with fail
 clear a0 a1 a2 a3 a4 b0 b1 b2 b3 b4
 refine CE.o.mono ?_
 rintro e w8 ⟨rfl, hk8⟩
 have Je := qI (Jp.o.then hk8)
 have Gg := qI (Jd.o.kept0 hk8)
 obtain ⟨a0, a1, a2, a3, a4⟩ := HA.o.kept0 Je.o
 clear hk8
 revert Gg
 generalize hcode : (atR 21 u p.data.toList).2 = code
 intro Gg
 go_wp2_with fail
 clear a0 a1 a2 a3 a4
 refine (CRL.o _ Je.o).mono ?_
 rintro e w9 ⟨⟨p9, c9, rfl, hrow9⟩, hk9⟩
 have Jq := qI (Je.o.then hk9)
 have Gl := qI (Gg.o.kept0 hk9)
 have CST := qI (KE Gl.o (Slc.of_row hrow9) (by have := Gi.o; omega) (by have := Gi.o; omega))
 rw [decide_eq_true rfl] at CST
 clear hrow9 hk9
 go_wp2_with fail
 refine CST.o.mono ?_
 rintro e w10 ⟨rfl, hk10⟩
 have Jf := qI (Jq.o.then hk10)
 have Gm := qI (Gl.o.kept0 hk10)
 clear hk10
 go_wp2_with fail
 have hTLI : (TL.length : Int) ≤ 20000 := by have := Gi.o; omega
 go_loopw [10, 11, 12] (fun i _ _ wr => ∃ k : Nat, i = .int .i64 k ∧ k ≤ TL.length ∧ k ≤ 30 ∧ zc [] w10 wr) (fun i _ _ _ => TL.length - (intOf i).toNat)
 case atStart => exact ⟨0, rfl, Nat.zero_le _, by decide, zc.refl _ _⟩
 case round =>
  obtain ⟨k, rfl, hk, hk30, hkw⟩ := hrel
  have HK_R := qI hkw
  have Gn := qI (Jf.o.then hkw)
  by_cases hlt : k < TL.length
  rotate_left
  ·have hltI : ¬ (k : Int) < TL.length := by omega
   clear hlt hk hk30 hkw
   go_wp2_with fail
   go_ret
   exact ⟨rfl, Ga.o.then Gn.o⟩
  have hltI : (k : Int) < TL.length := by omega
  by_cases hl30 : k < 30
  rotate_left
  ·have hl3I : ¬ (k : Int) < 30 := by omega
   clear hlt hk hk30 hkw hl30
   go_wp2_with fail
   go_ret
   exact ⟨rfl, Ga.o.then Gn.o⟩
  have hl3I : (k : Int) < 30 := by omega
  obtain ⟨g, o, rfl, q0⟩ := qW (Gm.o.kept0 hkw) hlt
  obtain ⟨hts, m, x, hat, hx0⟩ := Gb.o _ (List.getElem_mem hlt)
  have Gt := qI hts
  have Gu := qI hat
  have Gv := qI hx0
  have Gw := qI hlt
  have Gp := qI hl30
  obtain ⟨a0, a1, a2, a3, a4⟩ := HA.o.kept0 Gn.o
  clear hts hat hx0 hk hk30 hkw hl30
  revert q0 Gt Gu
  generalize TL[k] = s
  intro q0 Gt Gu
  clear hlt
  go_upto_region 11 with fail
  refine kt (n := 12) (fun w' : World => zc [] wr w') 11 (by kernel_rfl) (by kernel_rfl) ?_
  change yp _ _ _ _ _ _ _ _ _ wr.drew
  have hSS : (fun w' : World => zc [] wr w') wr.drew := (zc.refl _ wr).drew
  revert hSS
  generalize wr.drew = WD
  intro hSS
  refine qL ?_
  intro O R hO hR
  have hQp : ∀ c a (d : Nat) v w, R (.panic c) (a.put (some d) v) w → R (.panic c) a w := by subst hR; exact fun _ _ _ _ _ h => h
  refine zw (i := 0) (v := ?_) hO rfl rfl (by kernel_rfl) (by kernel_rfl) (by kernel_rfl) (by kernel_rfl) (by decide) (by kernel_rfl) hQp (Or.inl ⟨by kernel_rfl, fun w hSw => ?_⟩) hSS ?_
  rotate_left
  ·have s0 := hSw.cell a0 (by simp); have s1 := hSw.cell a1 (by simp); have s2 := hSw.cell a2 (by simp); have s3 := hSw.cell a3 (by simp); have s4 := hSw.cell a4 (by simp); go_simp; try with_reducible rfl
  try simp only [zA,zN,zB,zC,zD]
  refine zw (i := 1) (v := ?_) hO rfl rfl (by kernel_rfl) (by kernel_rfl) (by kernel_rfl) (by kernel_rfl) (by decide) (by kernel_rfl) hQp (Or.inl ⟨by kernel_rfl, fun w hSw => ?_⟩) hSS ?_
  rotate_left
  ·go_simp; try with_reducible rfl
  try simp only [zA,zN,zB,zC,zD]
  refine zw (i := 2) (v := ?_) hO rfl rfl (by kernel_rfl) (by kernel_rfl) (by kernel_rfl) (by kernel_rfl) (by decide) (by kernel_rfl) hQp (Or.inl ⟨by kernel_rfl, fun w hSw => ?_⟩) hSS ?_
  rotate_left
  ·go_simp; try with_reducible rfl
  try simp only [zA,zN,zB,zC,zD]
  refine zw (i := 3) (v := ?_) hO rfl rfl (by kernel_rfl) (by kernel_rfl) (by kernel_rfl) (by kernel_rfl) (by decide) (by kernel_rfl) hQp (Or.inl ⟨by kernel_rfl, fun w hSw => ?_⟩) hSS ?_
  rotate_left
  ·go_simp; try with_reducible rfl
  try simp only [zA,zN,zB,zC,zD]
  refine zw (i := 4) (v := ?_) hO rfl rfl (by kernel_rfl) (by kernel_rfl) (by kernel_rfl) (by kernel_rfl) (by decide) (by kernel_rfl) hQp (Or.inl ⟨by kernel_rfl, fun w hSw => ?_⟩) hSS ?_
  rotate_left
  ·have s0 := hSw.cell q0 (by simp); go_simp; try with_reducible rfl
  try simp only [zA,zN,zB,zC,zD]
  clear a0 a1 a2 a3 a4 q0
  refine yR (i := 5) (j := 9) hO rfl rfl (by kernel_rfl) (by kernel_rfl) (by kernel_rfl) (fun K hK => ?_) (fun K hK => ?_)
  ·go_simp
   refine Calls.mono (CAT.o _ s (Gn.o.then hSS) Gt.o) ?_
   rintro e w3' ⟨ha3, hk3⟩
   rw [Gu.o] at ha3
   obtain ⟨k3, i3, s3, p3, n3, c3, q3, m3, d3, S3, rfl, hr3⟩ := ha3
   obtain ⟨vl3, vm3, l3, ms3, ho3⟩ := (show Rep (m + 1) S3 w3' [.int .i64 k3, .int .i64 i3, .string s3, .slice p3 n3 c3, .slice q3 m3 d3] x from hr3).open_
   obtain ⟨pl3, cl3, pm3, cm3, e1, e2, e3⟩ := ho3.forms
   simp only [List.cons.injEq, Value.slice.injEq, and_true, true_and, Value.int.injEq, Value.string.injEq] at e3
   obtain ⟨-, -, -, ⟨-, rfl, -⟩, -, rfl, -⟩ := e3
   have hx1 : x.l.length = 0 := by have := Gv.o; omega
   have hx2 : x.m.length = 0 := by have := Gv.o; omega
   rw [hx1, hx2]
   have hS1 : (fun w' : World => zc [] wr w') w3' := hSS.then hk3
   clear hr3 ho3 e1 e2 hx1 hx2 hk3
   refine hK _ _ (.inr (.inr hS1)) ?_
   clear hK K
   try simp only [zA,zN,zB,zC,zD]
   clear hSS
   have hSS := hS1
   clear hS1
   refine zw (i := 6) (v := ?_) hO rfl rfl (by kernel_rfl) (by kernel_rfl) (by kernel_rfl) (by kernel_rfl) (by decide) (by kernel_rfl) hQp (Or.inl ⟨by kernel_rfl, fun w hSw => ?_⟩) hSS ?_
   rotate_left
   ·go_simp; try with_reducible rfl
   try simp only [zA,zN,zB,zC,zD]
   refine zw (i := 7) (v := ?_) hO rfl rfl (by kernel_rfl) (by kernel_rfl) (by kernel_rfl) (by kernel_rfl) (by decide) (by kernel_rfl) hQp (Or.inl ⟨by kernel_rfl, fun w hSw => ?_⟩) hSS ?_
   rotate_left
   ·go_simp; try with_reducible rfl
   try simp only [zA,zN,zB,zC,zD]
   refine zw (i := 8) (v := ?_) hO rfl rfl (by kernel_rfl) (by kernel_rfl) (by kernel_rfl) (by kernel_rfl) (by decide) (by kernel_rfl) hQp (Or.inl ⟨by kernel_rfl, fun w hSw => ?_⟩) hSS ?_
   rotate_left
   ·go_simp; try with_reducible rfl
   try simp only [zA,zN,zB,zC,zD]
   refine zF (i := 9) hO rfl (by kernel_rfl) (by kernel_rfl) (fun K hK => ?_)
   go_simp
   have hS1 : (fun w' : World => zc [] wr w') (w3'.alloc (.cells #[.int .i64 0, .int .i64 0, .string ⟨#[]⟩, .slice none 0 0, .slice none 0 0] 25)) := hSS.alloc _
   have Gd : Hid (xf (w3'.alloc (.cells #[.int .i64 0, .int .i64 0, .string ⟨#[]⟩, .slice none 0 0, .slice none 0 0] 25)) w3'.heap.size) := qI (yM w3')
   have hsz : wr.heap.size ≤ w3'.heap.size := hSS.size
   refine hK _ _ (.inr (.inr hS1)) ?_
   clear hK K
   try simp only [zA,zN,zB,zC,zD]
   clear hSS
   revert Gd hS1 hsz
   generalize w3'.alloc (.cells #[.int .i64 0, .int .i64 0, .string ⟨#[]⟩, .slice none 0 0, .slice none 0 0] 25) = w4x
   generalize w3'.heap.size = R
   intro hS1 Gd hsz
   have hSS := hS1
   clear hS1
   obtain ⟨⟨d0, d1, d2, d3', d4⟩, f0, f1, f2, f3', f4⟩ := Gd.o.facts
   refine zF (i := 10) hO rfl (by kernel_rfl) (by kernel_rfl) (fun K hK => ?_)
   go_simp
   obtain ⟨WF, e⟩ : ∃ WF, WF = zQ w4x R (.int .i64 k3) (.int .i64 i3) (.string s3) (.slice p3 0 c3) (.slice q3 0 d3) := ⟨_, rfl⟩
   obtain ⟨KF, y0, y1, y2, y3, y4⟩ := Gd.o.stored e
   unfold zQ at e
   rw [← e]
   have hS1 : (fun w' : World => zc [] wr w') WF := hSS.trans KF (fun g hg => by simp at hg; subst hg; exact .inr hsz)
   refine hK _ _ (.inr (.inr hS1)) ?_
   clear hK K
   try simp only [zA,zN,zB,zC,zD]
   clear hSS d0 d1 d2 d3' d4 f0 f1 f2 f3' f4 e KF y0 y1 y2
   have Jg := qI hS1
   clear hS1
   refine zF (i := 11) hO rfl (by kernel_rfl) (by kernel_rfl) (fun K hK => ?_)
   go_simp
   refine hK _ _ (.inl rfl) ?_
   clear hK K
   try simp only [zA,zN,zB,zC,zD]
   refine ye hO (by kernel_rfl) ?_ _
   subst hR
   try clear hQp hO O
   go_wp2_with fail
   case roundEnd => exact ⟨⟨k + 1, by go_num, by have := Gw.o; omega, by have := Gp.o; omega, HK_R.o.then Jg.o⟩, by have := Gw.o; simp [intOf]; omega⟩
  ·go_simp
   have hS1 : (fun w' : World => zc [] wr w') (WD.alloc (.cells #[.int .i64 0, .int .i64 0, .string ⟨#[]⟩, .slice none 0 0, .slice none 0 0] 25)) := hSS.alloc _
   have Gd : Hid (xf (WD.alloc (.cells #[.int .i64 0, .int .i64 0, .string ⟨#[]⟩, .slice none 0 0, .slice none 0 0] 25)) WD.heap.size) := qI (yM WD)
   have hsz : wr.heap.size ≤ WD.heap.size := hSS.size
   refine hK _ _ (.inr (.inr hS1)) ?_
   clear hK K
   try simp only [zA,zN,zB,zC,zD]
   clear hSS
   revert Gd hS1 hsz
   generalize WD.alloc (.cells #[.int .i64 0, .int .i64 0, .string ⟨#[]⟩, .slice none 0 0, .slice none 0 0] 25) = w4x
   generalize WD.heap.size = R
   intro hS1 Gd hsz
   have hSS := hS1
   clear hS1
   have Jr := qI (And.intro Gd.o hSS)
   have Js := qI hSS
   refine zF (i := 5) hO rfl (by kernel_rfl) (by kernel_rfl) (fun K hK => ?_)
   go_simp
   refine Calls.mono (CAT.o _ s (Gn.o.then hSS) Gt.o) ?_
   rintro e w3' ⟨ha3, hk3⟩
   rw [Gu.o] at ha3
   obtain ⟨k3, i3, s3, p3, n3, c3, q3, m3, d3, S3, rfl, hr3⟩ := ha3
   obtain ⟨vl3, vm3, l3, ms3, ho3⟩ := (show Rep (m + 1) S3 w3' [.int .i64 k3, .int .i64 i3, .string s3, .slice p3 n3 c3, .slice q3 m3 d3] x from hr3).open_
   obtain ⟨pl3, cl3, pm3, cm3, e1, e2, e3⟩ := ho3.forms
   simp only [List.cons.injEq, Value.slice.injEq, and_true, true_and, Value.int.injEq, Value.string.injEq] at e3
   obtain ⟨-, -, -, ⟨-, rfl, -⟩, -, rfl, -⟩ := e3
   have hx1 : x.l.length = 0 := by have := Gv.o; omega
   have hx2 : x.m.length = 0 := by have := Gv.o; omega
   rw [hx1, hx2]
   have hS1 : (fun w' : World => zc [] wr w') w3' := hSS.then hk3
   clear hr3 ho3 e1 e2 hx1 hx2
   have Gq := qI (Gd.o.kept hk3 (by simp))
   refine hK _ _ (.inr (.inr hS1)) ?_
   clear hK K
   try simp only [zA,zN,zB,zC,zD]
   clear hSS hk3
   have hSS := hS1
   clear hS1
   refine zw (i := 6) (v := ?_) hO rfl rfl (by kernel_rfl) (by kernel_rfl) (by kernel_rfl) (by kernel_rfl) (by decide) (by kernel_rfl) hQp (Or.inl ⟨by kernel_rfl, fun w hSw => ?_⟩) hSS ?_
   rotate_left
   ·go_simp; try with_reducible rfl
   try simp only [zA,zN,zB,zC,zD]
   refine zw (i := 7) (v := ?_) hO rfl rfl (by kernel_rfl) (by kernel_rfl) (by kernel_rfl) (by kernel_rfl) (by decide) (by kernel_rfl) hQp (Or.inl ⟨by kernel_rfl, fun w hSw => ?_⟩) hSS ?_
   rotate_left
   ·go_simp; try with_reducible rfl
   try simp only [zA,zN,zB,zC,zD]
   refine zw (i := 8) (v := ?_) hO rfl rfl (by kernel_rfl) (by kernel_rfl) (by kernel_rfl) (by kernel_rfl) (by decide) (by kernel_rfl) hQp (Or.inl ⟨by kernel_rfl, fun w hSw => ?_⟩) hSS ?_
   rotate_left
   ·go_simp; try with_reducible rfl
   try simp only [zA,zN,zB,zC,zD]
   obtain ⟨⟨d0, d1, d2, d3', d4⟩, f0, f1, f2, f3', f4⟩ := Gq.o.facts
   refine zF (i := 10) hO rfl (by kernel_rfl) (by kernel_rfl) (fun K hK => ?_)
   go_simp
   obtain ⟨WF, e⟩ : ∃ WF, WF = zQ w3' R (.int .i64 k3) (.int .i64 i3) (.string s3) (.slice p3 0 c3) (.slice q3 0 d3) := ⟨_, rfl⟩
   obtain ⟨KF, y0, y1, y2, y3, y4⟩ := Gq.o.stored e
   unfold zQ at e
   rw [← e]
   have hS1 : (fun w' : World => zc [] wr w') WF := hSS.trans KF (fun g hg => by simp at hg; subst hg; exact .inr hsz)
   refine hK _ _ (.inr (.inr hS1)) ?_
   clear hK K
   try simp only [zA,zN,zB,zC,zD]
   clear hSS d0 d1 d2 d3' d4 f0 f1 f2 f3' f4 e KF y0 y1 y2
   have Jg := qI hS1
   clear hS1
   refine zF (i := 11) hO rfl (by kernel_rfl) (by kernel_rfl) (fun K hK => ?_)
   go_simp
   refine hK _ _ (.inl rfl) ?_
   clear hK K
   try simp only [zA,zN,zB,zC,zD]
   refine ye hO (by kernel_rfl) ?_ _
   subst hR
   try clear hQp hO O
   go_wp2_with fail
   case roundEnd => exact ⟨⟨k + 1, by go_num, by have := Gw.o; omega, by have := Gp.o; omega, HK_R.o.then Jg.o⟩, by have := Gw.o; simp [intOf]; omega⟩
end
end Go.Proofs.YtpbphdkjjoipnaaGreatDoor

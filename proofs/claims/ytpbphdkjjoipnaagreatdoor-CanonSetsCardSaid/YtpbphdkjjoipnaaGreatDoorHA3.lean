/- Parts of one proof, merged: XWG. -/
import Derived.Test.YtpbphdkjjoipnaaGreatDoorHA2
set_option linter.all false
set_option maxHeartbeats 12800000
set_option maxRecDepth 10000
set_option linter.unusedVariables false
set_option linter.unusedSimpArgs false
set_option linter.unnecessarySimpa false
namespace Go.Proofs.YtpbphdkjjoipnaaGreatDoor
open Go.Proofs.Tryz
open Go.RowKit
section
variable {n k : Nat} {v : V n} {x : V k} {S T : Nat → Prop} {w : World} {g : Nat} {pa : Option Addr} {na ca : Nat} {la : List ByteArray} {k0 m0 kx mx : Int} {s0 sx : ByteArray} {p0 q0 px qx : Option Addr} {i0 c0 j0 d0 ix cx jx dx : Nat}
set_option maxRecDepth 100000 in
theorem cput_any (hb : w.heap[g]? = some (.cells #[.int .i64 k0, .int .i64 m0, .string s0, .slice p0 i0 c0, .slice q0 j0 d0] 25 (0, 0))) (hown : xb n S w [.int .i64 k0, .int .i64 m0, .string s0, .slice p0 i0 c0, .slice q0 j0 d0] v) (hg : ¬ S g)
  (hx : Rep k T w [.int .i64 kx, .int .i64 mx, .string sx, .slice px ix cx, .slice qx jx dx] x) (hTS : ∀ b, T b → ¬ S b ∧ b ≠ g ∧ b < w.heap.size) (ha : Slc w 1 (.slice pa na ca) na (zL la)) (hn : na ≤ 1000000) (hs : ∀ x, x ∈ la → x.size ≤ 1000000) (hsm : zZ n v) (hSl : ∀ b, S b → b < w.heap.size) (ht : yK w) (he : qB w) :
  Calls Tryz.prog 61 #[.pointer (some ⟨g, 0, none⟩), .slice pa na ca, .agg #[.int .i64 kx, .int .i64 mx, .string sx, .slice px ix cx, .slice qx jx dx]] w fun e w' => vJ S T w g v x (la.map (·.data.toList)) e w' := by
 obtain ⟨W0, Gy⟩ : ∃ W0, Hid (W0 = w.alloc (.cells #[.int .i64 kx, .int .i64 mx, .string sx, .slice px ix cx, .slice qx jx dx] 25)) := ⟨_, qI rfl⟩
 have Gz : Hid (zb [] w W0) := qI (by rw [Gy.o]; exact (zb.refl [] w).alloc _)
 have Jh : Hid (z6 W0 w.heap.size kx mx sx (.slice px ix cx) (.slice qx jx dx)) := qI (by rw [Gy.o]; exact yb _ _ _ _ _ _ _)
 have Jm : Hid (g < w.heap.size) := qI (lt_of_block hb)
 have HB := qI hb
 have Jn := qI hsm
 have Ja := qI hSl
 have Jo := qI hown
 have HG := qI hg
 have HX := qI hx
 have Gt := qI hTS
 have HA := qI ha
 have Jb := qI (bc ha)
 have Jp := qI hs
 have Ji := qI hn
 have Jc : Hid (∀ w1, zb [] w w1 → qy n S w1 g 0 v ∧ Row w1 g 0 [.int .i64 k0, .int .i64 m0, .string s0, .slice p0 i0 c0, .slice q0 j0 d0] ∧ w1.heap[g]? = some (.cells #[.int .i64 k0, .int .i64 m0, .string s0, .slice p0 i0 c0, .slice q0 j0 d0] 25 (0, 0))) := qI (fun w1 q => by
  have h1 := q.heap hb (by simp)
  exact ⟨⟨k0, m0, s0, _, _, za (o := 0) h1 rfl, za (o := 1) h1 rfl, za (o := 2) h1 rfl, za (o := 3) h1 rfl, za (o := 4) h1 rfl, (hown.kept0 q).rep⟩, ⟨fun j u hu => za (o := 0 + j) h1 (by rw [Nat.zero_add]; simpa using hu), lt_of_block h1⟩, h1⟩)
 have Jj : Hid (∀ w1 L g1 o1 m u, zb [] w w1 → xw n w1 g 0 v L g1 o1 → atV n v L = some ⟨m, u⟩ → ∃ S' k1 m1 s1 vl vm cur e, Place n S w1 g v L g1 o1 m u S' k1 m1 s1 vl vm cur e) := qI (fun w1 L g1 o1 m u q hp hat => place_of (focus (hown.kept0 q) (Jc.o w1 q).2.1 ⟨_, _, (Jc.o w1 q).2.2⟩ hg hp hat))
 have CW : Hid (∀ w1 (b : Option Addr) (nb cb : Nat) (lb : List ByteArray), zb [] w w1 → Slc w1 1 (.slice b nb cb) nb (zL lb) → nb ≤ 1000000 → (∀ x, x ∈ lb → x.size ≤ 1000000) → Calls Tryz.prog 63 #[.pointer (some ⟨g, 0, none⟩), .slice b nb cb] w1 fun e w' => ko S g 0 v (lb.map (·.data.toList)) e w' ∧ zb [] w1 w') := qI (fun w1 b nb cb lb q hsl hnb hsz => walkP_any (Jc.o w1 q).1 hsl hnb hsz hsm (ht.kept0 q) (he.kept0 q))
 have CW1 := qI (CW.o W0 pa na ca la Gz.o (ha.kept0 Gz.o) hn hs)
 clear hb hown hg hx hTS ha hn hs hsm hSl ht he
 go_enter func61, ntmps61
 go_upto_region 1 with fail
 rw [← Gy.o]
 go_wp2_with fail
 refine CW1.o.mono ?_
 rintro e w1 ⟨hgo, hk1⟩
 have Gs := qI (Gz.o.then hk1)
 have Gu := qI hk1
 rcases go_path hgo with ⟨hat, rfl⟩ | ⟨m, u, g1, o1, hat, rfl, hpath⟩
 rotate_left
 ·obtain ⟨S', k1, m1, s1, vl, vm, cur, e, hP⟩ := Jj.o w1 _ g1 o1 m u Gs.o hpath hat
  obtain ⟨l1, l2, l3, l4, l5, l6, rfl, rfl⟩ := hP.own.rep.sl
  obtain ⟨y0, y1, y2, y3, y4⟩ := Z4 hP.row
  have z0 := zc (o := o1) hP.blk
  have z1 := zc (o := o1 + 1) hP.blk
  have z2 := zc (o := o1 + 2) hP.blk
  have z3 := zc (o := o1 + 3) hP.blk
  have z4 := zc (o := o1 + 4) hP.blk
  have Jd := qI hat
  have HP := qI hP
  obtain ⟨x0, x1, x2, x3, x4⟩ := Jh.o.kept0 Gu.o
  clear hgo hk1 hat hpath hP
  go_wp2_with fail
  go_ret
  exact put_x HP.o HX.o Gt.o Gs.o Jd.o
 have Jd := qI hat
 obtain ⟨q, rfl⟩ : ∃ q, na = q + 1 := by
  cases na with
  | zero =>
   exfalso
   have h1 : la = [] := List.eq_nil_of_length_eq_zero (Jb.o)
   subst h1
   rw [List.map_nil, at_nil v] at hat
   cases hat
  | succ q => exact ⟨q, rfl⟩
 have hql : q < la.length := by rw [Jb.o]; exact Nat.lt_succ_self _
 obtain ⟨gp, op, rfl, qs⟩ := jQ (HA.o.kept0 Gs.o) hql
 obtain ⟨a2, c2, hsc, hsl⟩ := slc_front bx (HA.o.kept0 Gs.o) q (Nat.le_succ _)
 have hsc2 : ∀ W, (Instr.slice 39 (.slice (some ⟨gp, op, none⟩) (q + 1) ca) none (some (.int .i64 q)) none).run Tryz.prog W = .ok (.slice a2 q c2) W := hsc
 have htk : (zL la).take (q * 1) = zL (la.take q) := by unfold zL; rw [Nat.mul_one, List.map_take]
 rw [htk] at hsl
 have Jq := qI hsl
 have HL : Hid (la.map (·.data.toList) = (la.take q).map (·.data.toList) ++ [la[q].data.toList]) := qI (by
  conv => lhs; rw [← List.take_append_drop q la, List.drop_eq_getElem_cons hql, List.drop_eq_nil_of_le (by rw [Jb.o]; exact Nat.le_refl _)]
  rw [List.map_append]; rfl)
 have CW2 := qI (CW.o w1 a2 q c2 (la.take q) Gs.o hsl (by have := Ji.o; omega) (fun x hx => Jp.o x (List.mem_of_mem_take hx)))
 have hq0 : (0 : Int) ≤ q := by omega
 have hq1 : (q : Int) < (q : Int) + 1 := by omega
 have hq2 : (q : Int) ≤ 1000000 := by have := Ji.o; omega
 revert qs HL
 generalize la[q] = X
 intro qs HL
 clear hgo hk1 hat hsc hsl htk hql
 go_wp2_with fail
 refine CW2.o.mono ?_
 rintro e w2 ⟨hgo, hk2⟩
 have Gl := qI (Gs.o.then hk2)
 have Je := qI (Gu.o.then hk2)
 rcases go_path hgo with ⟨hat2, rfl⟩ | ⟨m', u, g2, o2, hat2, rfl, hpath⟩
 ·have HN : Hid (yZ x n v (la.map (·.data.toList)) = none) := qI (by rw [HL.o]; exact set_none n v _ hat2)
  clear hgo hk2 hat2 qs
  go_wp2_with fail
  go_ret
  exact bg HN.o Gl.o
 cases m' with
 | zero => exact nomatch u
 | succ m =>
 change VS (V m) at u
 obtain ⟨S', k1, m1, s1, vl, vm, cur, et, hP⟩ := Jj.o w2 _ g2 o2 (m + 1) u Gl.o hpath hat2
 obtain ⟨vl', vm', lcs, mcs, e1, h2, h3, h4, h5, h6, h7, h8, h9, h10⟩ := hP.own
 simp only [List.cons.injEq, Value.int.injEq, true_and, Value.string.injEq, and_true] at e1
 obtain ⟨rfl, rfl, rfl, rfl, rfl⟩ := e1
 obtain ⟨al, cl, rfl, -, hcl⟩ := (Slc.of_row h2).form
 obtain ⟨am, cm, rfl, -, hcm⟩ := (Slc.of_row h3).form
 have HP := qI hP
 have H2 := qI h2
 have H3 := qI h3
 have H4 := qI h4
 have H5 := qI h5
 have H6 := qI h6
 have H7 := qI h7
 have H8 := qI h8
 have H9 := qI h9
 have H10 := qI h10
 have Gc := qI hat2
 have Gh : Hid (atV n v ((la.take q).map (·.data.toList) ++ [X.data.toList]) = none) := qI (by rw [← HL.o]; exact Jd.o)
 have Gm := qI (jM (JS n v _ _ hat2 Jn.o))
 obtain ⟨y0, y1, y2, y3, y4⟩ := Z4 hP.row
 have Gv := qI (Jh.o.kept0 Je.o)
 have Jk : Hid (g2 < w.heap.size) := qI (by
  rcases hP.at_ with h | h
  ·rw [h]; exact Jm.o
  ·exact Ja.o _ h)
 clear hgo hk2 hat2 hpath hP h2 h3 h4 h5 h6 h7 h8 h9 h10 qs hcl hcm y1 y2
 by_cases k6 : u.kind = 6
 ·obtain ⟨f1, f2⟩ := yg (a := u.kind) (b := 6) k6
  have Gw := qI k6
  clear k6
  go_upto_region 11 with fail
  refine xX (n := 15) (fun w' : World => w'.cell? ⟨g2, o2 + 4, none⟩ = some (.slice am u.m.length cm) ∧ z6 w' w.heap.size kx mx sx (.slice px ix cx) (.slice qx jx dx)) 9 (by kernel_rfl) (by kernel_rfl) ?_
  change yl _ _ _ _ _ _ _ _ _ w2.drew
  have hSS : (fun w' : World => w'.cell? ⟨g2, o2 + 4, none⟩ = some (.slice am u.m.length cm) ∧ z6 w' w.heap.size kx mx sx (.slice px ix cx) (.slice qx jx dx)) w2.drew := ⟨y4, Gv.o.kept0 (zb.refl _ _).drew⟩
  have Gn : Hid (zb [] w2 w2.drew) := qI (zb.refl _ _).drew
  clear y0 y3 y4
  revert hSS Gn
  generalize w2.drew = WD
  intro hSS Gn
  refine xC ?_
  intro O R hO hR
  have hQp : ∀ c a (d : Nat) v w, R (.panic c) (a.put (some d) v) w → R (.panic c) a w := by subst hR; exact fun _ _ _ _ _ h => h
  refine qU 0 ?_ hO rfl rfl (by kernel_rfl) hQp (fun w hSw => ?_) hSS ?_
  rotate_left
  ·go_simp; try with_reducible rfl
  try simp only [zA,zN,zB,zC,zD]
  refine qU 1 ?_ hO rfl rfl (by kernel_rfl) hQp (fun w hSw => ?_) hSS ?_
  rotate_left
  ·go_simp; try with_reducible rfl
  try simp only [zA,zN,zB,zC,zD]
  refine qU 2 ?_ hO rfl rfl (by kernel_rfl) hQp (fun w hSw => ?_) hSS ?_
  rotate_left
  ·go_simp; try with_reducible rfl
  try simp only [zA,zN,zB,zC,zD]
  refine qU 3 ?_ hO rfl rfl (by kernel_rfl) hQp (fun w hSw => ?_) hSS ?_
  rotate_left
  ·have s4 := hSw.1; go_simp; try with_reducible rfl
  try simp only [zA,zN,zB,zC,zD]
  refine qU 4 ?_ hO rfl rfl (by kernel_rfl) hQp (fun w hSw => ?_) hSS ?_
  rotate_left
  ·go_simp; try with_reducible rfl
  try simp only [zA,zN,zB,zC,zD]
  refine qU 5 ?_ hO rfl rfl (by kernel_rfl) hQp (fun w hSw => ?_) hSS ?_
  rotate_left
  ·obtain ⟨s0, s1, s2, s3, s4⟩ := hSw.2; go_simp; try with_reducible rfl
  try simp only [zA,zN,zB,zC,zD]
  refine qU 6 ?_ hO rfl rfl (by kernel_rfl) hQp (fun w hSw => ?_) hSS ?_
  rotate_left
  ·go_simp; try with_reducible rfl
  try simp only [zA,zN,zB,zC,zD]
  refine qU 7 ?_ hO rfl rfl (by kernel_rfl) hQp (fun w hSw => ?_) hSS ?_
  rotate_left
  ·go_simp; try with_reducible rfl
  try simp only [zA,zN,zB,zC,zD]
  refine qV 8 hO rfl (by kernel_rfl) (fun K hK => ?_)
  go_simp
  have Gi : Hid (zb [] WD (WD.alloc (.cells #[.string ⟨#[]⟩, .int .i64 0, .int .i64 0, .string ⟨#[]⟩, .slice none 0 0, .slice none 0 0] 60))) := qI ((zb.refl [] WD).alloc _)
  have Gd := qI (yL WD [.string ⟨#[]⟩, .int .i64 0, .int .i64 0, .string ⟨#[]⟩, .slice none 0 0, .slice none 0 0] 6 1 60 WD.heap.size rfl rfl (by decide))
  have hS4 : (fun w' : World => w'.cell? ⟨g2, o2 + 4, none⟩ = some (.slice am u.m.length cm) ∧ z6 w' w.heap.size kx mx sx (.slice px ix cx) (.slice qx jx dx)) (WD.alloc (.cells #[.string ⟨#[]⟩, .int .i64 0, .int .i64 0, .string ⟨#[]⟩, .slice none 0 0, .slice none 0 0] 60)) := ⟨Gi.o.cell hSS.1 (by simp), hSS.2.kept0 Gi.o⟩
  refine hK _ _ (.inr (.inr hS4)) ?_
  clear hK K
  try simp only [zA,zN,zB,zC,zD]
  clear hSS
  have hSS := hS4
  clear hS4
  revert hSS Gi Gd
  generalize WD.alloc (.cells #[.string ⟨#[]⟩, .int .i64 0, .int .i64 0, .string ⟨#[]⟩, .slice none 0 0, .slice none 0 0] 60) = w5
  intro Gi Gd hSS
  have Gb := qI (Gn.o.then Gi.o)
  have hrow5 := zh H3.o Gb.o (by simp)
  refine qV 9 hO rfl (by kernel_rfl) (fun K hK => ?_)
  refine yp kD hrow5 Gd.o (by intro z hz; simp only [List.mem_cons, List.not_mem_nil, or_false] at hz; rcases hz with rfl | rfl | rfl | rfl | rfl | rfl <;> rfl) (by have := Gm.o; simp only [maxLen]; omega) (by have := Gm.o; omega) (Nat.zero_le _) (.tmp 43) (.tmp 48) rfl rfl rfl ?_
  intro b6 d6 w6 hown6 hk6 hg6
  obtain ⟨g6, rfl⟩ : ∃ g6, b6 = some ⟨g6, 0, none⟩ := by
   rcases hown6.2 with ⟨h, h1⟩ | ⟨g, cap, cur, hv, _⟩
   ·omega
   ·simp only [Value.slice.injEq] at hv; exact ⟨g, hv.1⟩
  have Gj := qI hk6
  have Gp : Hid ((Value.slice am u.m.length cm).ownBlock = some g6 ∨ g6 = w5.heap.size) := qI (by
   rcases hg6 with h | h
   ·exact .inl (by rw [← h]; rfl)
   ·exact .inr (by simpa [Value.ownBlock] using h))
  have Jf : Hid (g2 ≠ g6) := qI (by
   intro h
   subst h
   rcases Gp.o with h | h
   ·exact HP.o.no (H7.o _ h)
   ·have h1 := Jk.o
    have h2 := Gl.o.size
    have h3 := Gb.o.size
    omega)
  have Gq := qI (hk6.heap (Gb.o.heap HP.o.blk (by simp)) (fun hx => HP.o.no (H7.o _ (Option.mem_toList.1 hx))))
  have Jg : Hid (∀ z, z ∈ mcs.map zM → z.length = 6) := qI (fun z hz => by
   obtain ⟨p, hp, rfl⟩ := List.mem_map.1 hz
   simp [zM, mcs_five H4.o H5.o H8.o p hp])
  have Gr : Hid ((mcs.map zM).length = u.m.length) := qI (by rw [List.length_map]; exact jg H5.o)
  have hlen6 : ∀ z, z ∈ mcs.map zM ++ [zp6] → z.length = 6 := fun z hz => by
   rcases List.mem_append.1 hz with hz | hz
   ·exact Jg.o z hz
   ·simp at hz; subst hz; rfl
  have hlen7 : (mcs.map zM ++ [zp6]).length = u.m.length + 1 := by rw [List.length_append, Gr.o]; rfl
  have hrow6 : w6.ownsRow 0 60 6 (.slice (some ⟨g6, 0, none⟩) (u.m.length + 1) d6) (u.m.length + 1) (mcs.map zM ++ [zp6]).flatten := by
   have h9 := hown6
   rw [List.flatten_append]
   simp only [List.flatten_cons, List.flatten_nil, List.append_nil]
   rw [zP] at h9
   exact h9
  have Ga := qI (KH (p := o2 + 4) (c := [.string X, .int .i64 kx, .int .i64 mx, .string sx, .slice px ix cx, .slice qx jx dx]) (u := .slice (some ⟨g6, 0, none⟩) (u.m.length + 1) d6) Gq.o hrow6 hlen6 hlen7 rfl Jf.o)
  have Gk : Hid (((mcs.map zM ++ [zp6]).set u.m.length [.string X, .int .i64 kx, .int .i64 mx, .string sx, .slice px ix cx, .slice qx jx dx]).flatten = zQ (mcs ++ [(X, [.int .i64 kx, .int .i64 mx, .string sx, .slice px ix cx, .slice qx jx dx])])) := qI (by
   rw [List.set_append_right _ _ (by have := Gr.o; omega), Gr.o, Nat.sub_self, zP, List.map_append]
   rfl)
  have hcellS : w6.cell? ⟨g2, o2 + 4, none⟩ = some (.slice am u.m.length cm) := hk6.cell hSS.1 (fun hx => HP.o.no (H7.o _ (Option.mem_toList.1 hx)))
  have Gx := qI hcellS
  clear hrow5 hown6 hk6 hg6 hSS hlen6 hlen7 hrow6 hcellS
  refine hK _ _ (.inl rfl) ?_
  clear hK K
  try simp only [zA,zN,zB,zC,zD]
  have hnI : (u.m.length : Int) < (u.m.length : Int) + 1 := by omega
  refine qW 10 ?_ hO rfl rfl (by kernel_rfl) hQp (fun w _ => ?_) ?_
  rotate_left
  ·go_simp; try with_reducible rfl
  try simp only [zA,zN,zB,zC,zD]
  refine qW 12 ?_ hO rfl rfl (by kernel_rfl) hQp (fun w _ => ?_) ?_
  rotate_left
  ·go_simp; try with_reducible rfl
  try simp only [zA,zN,zB,zC,zD]
  refine qW 13 ?_ hO rfl rfl (by kernel_rfl) hQp (fun w _ => ?_) ?_
  rotate_left
  ·go_simp; try with_reducible rfl
  try simp only [zA,zN,zB,zC,zD]
  refine yz (i := 11) (j := 14) hO rfl rfl (by kernel_rfl) (by kernel_rfl) (by kernel_rfl) (fun K hK => ?_) (fun K hK => ?_)
  ·refine wp_store_mid 60 (.tmp 50) (.tmp 46) rfl g6 (u.m.length * 6) [.string X, .int .i64 kx, .int .i64 mx, .string sx, .slice px ix cx, .slice qx jx dx].toArray rfl rfl Ga.o.1.1 (by kernel_rfl) (Qy (by intro z hz; simp only [List.mem_cons, List.not_mem_nil, or_false] at hz; rcases hz with rfl | rfl | rfl | rfl | rfl | rfl <;> rfl)) ?_
   refine hK _ _ (.inr (.inl (by kernel_rfl))) ?_
   clear hK K
   try simp only [zA,zN,zB,zC,zD]
   have c3 := xP Ga.o.1.2.1 (o2 + 4)
   rw [← xP Gq.o, Gx.o] at c3
   have z3 := zc (o := o2 + 4) Ga.o.1.2.1
   refine qV 14 hO rfl (by kernel_rfl) (fun K hK => ?_)
   go_simp
   refine hK _ _ (.inr (.inl (by kernel_rfl))) ?_
   clear hK K
   try simp only [zA,zN,zB,zC,zD]
   refine zS hO (by kernel_rfl) ?_ _
   subst hR
   try clear hQp hO O
   clear c3 z3
   obtain ⟨kF, bF, rF⟩ := Ga.o.2 _ (.inl rfl)
   rw [Gk.o] at rF
   have Ge := qI kF
   have Gf := qI bF
   have Gg := qI rF
   clear kF bF rF
   revert Ge Gf Gg
   generalize World.setCell _ ⟨g2, o2 + 4, none⟩ _ = wF
   intro Ge Gf Gg
   go_wp2_with fail
   go_ret
   rw [HL.o]
   exact put_m (s := X.data.toList) HP.o Gw.o H2.o H3.o H4.o H5.o H6.o H7.o H8.o H9.o H10.o HX.o Gt.o Gl.o Gb.o Gj.o Ge.o Gp.o Gf.o Gg.o Gc.o Gh.o
  ·have c3 := Gx.o
   have z3 := zc (o := o2 + 4) Gq.o
   go_simp
   refine hK _ _ (.inr (.inl (by kernel_rfl))) ?_
   clear hK K
   try simp only [zA,zN,zB,zC,zD]
   clear c3 z3
   refine qV 11 hO rfl (by kernel_rfl) (fun K hK => ?_)
   refine wp_store_mid 60 (.tmp 50) (.tmp 46) rfl g6 (u.m.length * 6) [.string X, .int .i64 kx, .int .i64 mx, .string sx, .slice px ix cx, .slice qx jx dx].toArray rfl rfl Ga.o.1.2.2 (by kernel_rfl) (Qy (by intro z hz; simp only [List.mem_cons, List.not_mem_nil, or_false] at hz; rcases hz with rfl | rfl | rfl | rfl | rfl | rfl <;> rfl)) ?_
   refine hK _ _ (.inr (.inl (by kernel_rfl))) ?_
   clear hK K
   try simp only [zA,zN,zB,zC,zD]
   refine zS hO (by kernel_rfl) ?_ _
   subst hR
   try clear hQp hO O
   obtain ⟨kF, bF, rF⟩ := Ga.o.2 _ (.inr rfl)
   rw [Gk.o] at rF
   have Ge := qI kF
   have Gf := qI bF
   have Gg := qI rF
   clear kF bF rF
   revert Ge Gf Gg
   generalize World.setCells _ g6 _ _ = wF
   intro Ge Gf Gg
   go_wp2_with fail
   go_ret
   rw [HL.o]
   exact put_m (s := X.data.toList) HP.o Gw.o H2.o H3.o H4.o H5.o H6.o H7.o H8.o H9.o H10.o HX.o Gt.o Gl.o Gb.o Gj.o Ge.o Gp.o Gf.o Gg.o Gc.o Gh.o
 obtain ⟨f1, f2⟩ := zt (a := u.kind) (b := 6) k6
 have Gw := qI k6
 clear k6
 by_cases k5 : u.kind = 5
 rotate_left
 ·obtain ⟨f3, f4⟩ := zt (a := u.kind) (b := 5) k5
  have HN : Hid (yZ x n v (la.map (·.data.toList)) = none) := qI (by
   rw [HL.o, ZJ n v _ Gc.o Gh.o]
   refine Kz n v _ Gc.o ?_
   show (if u.kind = 6 then _ else if u.kind = 5 ∧ X.data.toList = [45] then _ else _) = none
   rw [if_neg Gw.o, if_neg (fun h => k5 h.1)])
  clear k5
  go_wp2_with fail
  go_ret
  exact bg HN.o Gl.o
 obtain ⟨f3, f4⟩ := yg (a := u.kind) (b := 5) k5
 have Jl := qI k5
 clear k5
 by_cases hd : X = ⟨#[45]⟩
 rotate_left
 ·obtain ⟨d1, d2⟩ := xM hd
  have d3 : (X.toList == [45]) = false := by rw [ByteArray.toList_eq, beq_eq_false_iff_ne]; exact fun h => hd (qR h)
  have d4 : (X.data.toList == [45]) = false := by rw [beq_eq_false_iff_ne]; exact fun h => hd (qR h)
  have d5 : ¬ X.toList = [45] := by rw [ByteArray.toList_eq]; exact fun h => hd (qR h)
  have HN : Hid (yZ x n v (la.map (·.data.toList)) = none) := qI (by
   rw [HL.o, ZJ n v _ Gc.o Gh.o]
   refine Kz n v _ Gc.o ?_
   show (if u.kind = 6 then _ else if u.kind = 5 ∧ X.data.toList = [45] then _ else _) = none
   rw [if_neg Gw.o, if_neg (fun h => hd (qR h.2))])
  clear hd
  go_wp2_with fail
  go_ret
  exact bg HN.o Gl.o
 subst hd
 go_upto_region 13 with fail
 refine xX (n := 13) (fun w' : World => w'.cell? ⟨g2, o2 + 3, none⟩ = some (.slice al u.l.length cl) ∧ z6 w' w.heap.size kx mx sx (.slice px ix cx) (.slice qx jx dx)) 7 (by kernel_rfl) (by kernel_rfl) ?_
 change yl _ _ _ _ _ _ _ _ _ w2.drew
 have hSS : (fun w' : World => w'.cell? ⟨g2, o2 + 3, none⟩ = some (.slice al u.l.length cl) ∧ z6 w' w.heap.size kx mx sx (.slice px ix cx) (.slice qx jx dx)) w2.drew := ⟨y3, Gv.o.kept0 (zb.refl _ _).drew⟩
 have Gn : Hid (zb [] w2 w2.drew) := qI (zb.refl _ _).drew
 clear y0 y3 y4
 revert hSS Gn
 generalize w2.drew = WD
 intro hSS Gn
 refine xC ?_
 intro O R hO hR
 have hQp : ∀ c a (d : Nat) v w, R (.panic c) (a.put (some d) v) w → R (.panic c) a w := by subst hR; exact fun _ _ _ _ _ h => h
 refine qU 0 ?_ hO rfl rfl (by kernel_rfl) hQp (fun w hSw => ?_) hSS ?_
 rotate_left
 ·go_simp; try with_reducible rfl
 try simp only [zA,zN,zB,zC,zD]
 refine qU 1 ?_ hO rfl rfl (by kernel_rfl) hQp (fun w hSw => ?_) hSS ?_
 rotate_left
 ·go_simp; try with_reducible rfl
 try simp only [zA,zN,zB,zC,zD]
 refine qU 2 ?_ hO rfl rfl (by kernel_rfl) hQp (fun w hSw => ?_) hSS ?_
 rotate_left
 ·go_simp; try with_reducible rfl
 try simp only [zA,zN,zB,zC,zD]
 refine qU 3 ?_ hO rfl rfl (by kernel_rfl) hQp (fun w hSw => ?_) hSS ?_
 rotate_left
 ·have s3 := hSw.1; go_simp; try with_reducible rfl
 try simp only [zA,zN,zB,zC,zD]
 refine qU 4 ?_ hO rfl rfl (by kernel_rfl) hQp (fun w hSw => ?_) hSS ?_
 rotate_left
 ·obtain ⟨s0, s1, s2, s3, s4⟩ := hSw.2; go_simp; try with_reducible rfl
 try simp only [zA,zN,zB,zC,zD]
 refine qU 5 ?_ hO rfl rfl (by kernel_rfl) hQp (fun w hSw => ?_) hSS ?_
 rotate_left
 ·go_simp; try with_reducible rfl
 try simp only [zA,zN,zB,zC,zD]
 refine qV 6 hO rfl (by kernel_rfl) (fun K hK => ?_)
 go_simp
 have Gi : Hid (zb [] WD (WD.alloc (.cells #[.int .i64 0, .int .i64 0, .string ⟨#[]⟩, .slice none 0 0, .slice none 0 0] 25))) := qI ((zb.refl [] WD).alloc _)
 have Gd := qI (yL WD [.int .i64 0, .int .i64 0, .string ⟨#[]⟩, .slice none 0 0, .slice none 0 0] 5 1 25 WD.heap.size rfl rfl (by decide))
 have hS4 : (fun w' : World => w'.cell? ⟨g2, o2 + 3, none⟩ = some (.slice al u.l.length cl) ∧ z6 w' w.heap.size kx mx sx (.slice px ix cx) (.slice qx jx dx)) (WD.alloc (.cells #[.int .i64 0, .int .i64 0, .string ⟨#[]⟩, .slice none 0 0, .slice none 0 0] 25)) := ⟨Gi.o.cell hSS.1 (by simp), hSS.2.kept0 Gi.o⟩
 refine hK _ _ (.inr (.inr hS4)) ?_
 clear hK K
 try simp only [zA,zN,zB,zC,zD]
 clear hSS
 have hSS := hS4
 clear hS4
 revert hSS Gi Gd
 generalize WD.alloc (.cells #[.int .i64 0, .int .i64 0, .string ⟨#[]⟩, .slice none 0 0, .slice none 0 0] 25) = w5
 intro Gi Gd hSS
 have Gb := qI (Gn.o.then Gi.o)
 have hrow5 := zh H2.o Gb.o (by simp)
 refine qV 7 hO rfl (by kernel_rfl) (fun K hK => ?_)
 refine yp bj hrow5 Gd.o (by intro z hz; simp only [List.mem_cons, List.not_mem_nil, or_false] at hz; rcases hz with rfl | rfl | rfl | rfl | rfl <;> rfl) (by have := Gm.o; simp only [maxLen]; omega) (by have := Gm.o; omega) (Nat.zero_le _) (.tmp 66) (.tmp 69) rfl rfl rfl ?_
 intro b6 d6 w6 hown6 hk6 hg6
 obtain ⟨g6, rfl⟩ : ∃ g6, b6 = some ⟨g6, 0, none⟩ := by
  rcases hown6.2 with ⟨h, h1⟩ | ⟨g, cap, cur, hv, _⟩
  ·omega
  ·simp only [Value.slice.injEq] at hv; exact ⟨g, hv.1⟩
 have Gj := qI hk6
 have Gp : Hid ((Value.slice al u.l.length cl).ownBlock = some g6 ∨ g6 = w5.heap.size) := qI (by
  rcases hg6 with h | h
  ·exact .inl (by rw [← h]; rfl)
  ·exact .inr (by simpa [Value.ownBlock] using h))
 have Jf : Hid (g2 ≠ g6) := qI (by
  intro h
  subst h
  rcases Gp.o with h | h
  ·exact HP.o.no (H6.o _ h)
  ·have h1 := Jk.o
   have h2 := Gl.o.size
   have h3 := Gb.o.size
   omega)
 have Gq := qI (hk6.heap (Gb.o.heap HP.o.blk (by simp)) (fun hx => HP.o.no (H6.o _ (Option.mem_toList.1 hx))))
 have Jg : Hid (∀ z, z ∈ lcs → z.length = 5) := qI (fun z hz => lcs_five H4.o H8.o z hz)
 have Gr : Hid ((lcs).length = u.l.length) := qI (H4.o)
 have hlen6 : ∀ z, z ∈ lcs ++ [zv5] → z.length = 5 := fun z hz => by
  rcases List.mem_append.1 hz with hz | hz
  ·exact Jg.o z hz
  ·simp at hz; subst hz; rfl
 have hlen7 : (lcs ++ [zv5]).length = u.l.length + 1 := by rw [List.length_append, Gr.o]; rfl
 have hrow6 : w6.ownsRow 0 25 5 (.slice (some ⟨g6, 0, none⟩) (u.l.length + 1) d6) (u.l.length + 1) (lcs ++ [zv5]).flatten := by
  have h9 := hown6
  rw [List.flatten_append]
  simp only [List.flatten_cons, List.flatten_nil, List.append_nil]
  exact h9
 have Ga := qI (KH (p := o2 + 3) (c := [.int .i64 kx, .int .i64 mx, .string sx, .slice px ix cx, .slice qx jx dx]) (u := .slice (some ⟨g6, 0, none⟩) (u.l.length + 1) d6) Gq.o hrow6 hlen6 hlen7 rfl Jf.o)
 have Gk : Hid (((lcs ++ [zv5]).set u.l.length [.int .i64 kx, .int .i64 mx, .string sx, .slice px ix cx, .slice qx jx dx]).flatten = (lcs ++ [([.int .i64 kx, .int .i64 mx, .string sx, .slice px ix cx, .slice qx jx dx] : List Value)]).flatten) := qI (by
  rw [List.set_append_right _ _ (by have := Gr.o; omega), Gr.o, Nat.sub_self]
  rfl)
 have hcellS : w6.cell? ⟨g2, o2 + 3, none⟩ = some (.slice al u.l.length cl) := hk6.cell hSS.1 (fun hx => HP.o.no (H6.o _ (Option.mem_toList.1 hx)))
 have Gx := qI hcellS
 clear hrow5 hown6 hk6 hg6 hSS hlen6 hlen7 hrow6 hcellS
 refine hK _ _ (.inl rfl) ?_
 clear hK K
 try simp only [zA,zN,zB,zC,zD]
 have hnI : (u.l.length : Int) < (u.l.length : Int) + 1 := by omega
 refine qW 8 ?_ hO rfl rfl (by kernel_rfl) hQp (fun w _ => ?_) ?_
 rotate_left
 ·go_simp; try with_reducible rfl
 try simp only [zA,zN,zB,zC,zD]
 refine qW 10 ?_ hO rfl rfl (by kernel_rfl) hQp (fun w _ => ?_) ?_
 rotate_left
 ·go_simp; try with_reducible rfl
 try simp only [zA,zN,zB,zC,zD]
 refine qW 11 ?_ hO rfl rfl (by kernel_rfl) hQp (fun w _ => ?_) ?_
 rotate_left
 ·go_simp; try with_reducible rfl
 try simp only [zA,zN,zB,zC,zD]
 refine yz (i := 9) (j := 12) hO rfl rfl (by kernel_rfl) (by kernel_rfl) (by kernel_rfl) (fun K hK => ?_) (fun K hK => ?_)
 ·refine wp_store_mid 25 (.tmp 71) (.tmp 67) rfl g6 (u.l.length * 5) [.int .i64 kx, .int .i64 mx, .string sx, .slice px ix cx, .slice qx jx dx].toArray rfl rfl Ga.o.1.1 (by kernel_rfl) (Qy (by intro z hz; simp only [List.mem_cons, List.not_mem_nil, or_false] at hz; rcases hz with rfl | rfl | rfl | rfl | rfl <;> rfl)) ?_
  refine hK _ _ (.inr (.inl (by kernel_rfl))) ?_
  clear hK K
  try simp only [zA,zN,zB,zC,zD]
  have c3 := xP Ga.o.1.2.1 (o2 + 3)
  rw [← xP Gq.o, Gx.o] at c3
  have z3 := zc (o := o2 + 3) Ga.o.1.2.1
  refine qV 12 hO rfl (by kernel_rfl) (fun K hK => ?_)
  go_simp
  refine hK _ _ (.inr (.inl (by kernel_rfl))) ?_
  clear hK K
  try simp only [zA,zN,zB,zC,zD]
  refine zS hO (by kernel_rfl) ?_ _
  subst hR
  try clear hQp hO O
  clear c3 z3
  obtain ⟨kF, bF, rF⟩ := Ga.o.2 _ (.inl rfl)
  rw [Gk.o] at rF
  have Ge := qI kF
  have Gf := qI bF
  have Gg := qI rF
  clear kF bF rF
  revert Ge Gf Gg
  generalize World.setCell _ ⟨g2, o2 + 3, none⟩ _ = wF
  intro Ge Gf Gg
  go_wp2_with fail
  go_ret
  rw [HL.o]
  exact put_l (s := [45]) HP.o Jl.o rfl H2.o H3.o H4.o H5.o H6.o H7.o H8.o H9.o H10.o HX.o Gt.o Gl.o Gb.o Gj.o Ge.o Gp.o Gf.o Gg.o Gc.o Gh.o
 ·have c3 := Gx.o
  have z3 := zc (o := o2 + 3) Gq.o
  go_simp
  refine hK _ _ (.inr (.inl (by kernel_rfl))) ?_
  clear hK K
  try simp only [zA,zN,zB,zC,zD]
  clear c3 z3
  refine qV 9 hO rfl (by kernel_rfl) (fun K hK => ?_)
  refine wp_store_mid 25 (.tmp 71) (.tmp 67) rfl g6 (u.l.length * 5) [.int .i64 kx, .int .i64 mx, .string sx, .slice px ix cx, .slice qx jx dx].toArray rfl rfl Ga.o.1.2.2 (by kernel_rfl) (Qy (by intro z hz; simp only [List.mem_cons, List.not_mem_nil, or_false] at hz; rcases hz with rfl | rfl | rfl | rfl | rfl <;> rfl)) ?_
  refine hK _ _ (.inr (.inl (by kernel_rfl))) ?_
  clear hK K
  try simp only [zA,zN,zB,zC,zD]
  refine zS hO (by kernel_rfl) ?_ _
  subst hR
  try clear hQp hO O
  obtain ⟨kF, bF, rF⟩ := Ga.o.2 _ (.inr rfl)
  rw [Gk.o] at rF
  have Ge := qI kF
  have Gf := qI bF
  have Gg := qI rF
  clear kF bF rF
  revert Ge Gf Gg
  generalize World.setCells _ g6 _ _ = wF
  intro Ge Gf Gg
  go_wp2_with fail
  go_ret
  rw [HL.o]
  exact put_l (s := [45]) HP.o Jl.o rfl H2.o H3.o H4.o H5.o H6.o H7.o H8.o H9.o H10.o HX.o Gt.o Gl.o Gb.o Gj.o Ge.o Gp.o Gf.o Gg.o Gc.o Gh.o
end
end Go.Proofs.YtpbphdkjjoipnaaGreatDoor

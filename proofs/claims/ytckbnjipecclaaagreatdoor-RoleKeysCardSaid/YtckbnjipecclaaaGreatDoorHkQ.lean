/- Parts of one proof, merged: XKU XKV XKW XIB. -/
import Derived.Test.YtckbnjipecclaaaGreatDoorHkO
import Derived.Test.YtckbnjipecclaaaGreatDoorHkP
import Derived.Laws.IdiomStrings
import Derived.Test.YtckbnjipecclaaaGreatDoorHkK
set_option linter.all false
set_option maxHeartbeats 12800000
set_option maxRecDepth 10000
set_option linter.unusedVariables false
set_option linter.unusedSimpArgs false
set_option linter.unnecessarySimpa false
namespace Go.Proofs.YtckbnjipecclaaaGreatDoor
open Go.RowKit
def PutKnown (n : Nat) : Prop := ∀ (v : V n) {S : Nat → Prop} {W w : World} {cs : List Value} {b : Nat} {l : List UInt8}, Rep n S W cs v → (∀ g, S g → g ≠ b) → rightV n v = true → Small n v → TabsB b W → BW 172 W b w l → l.length + (writeV n v).length ≤ 50000000 →
 Calls Tryz.prog 132 #[.pointer (some ⟨b, 0, none⟩), .agg cs.toArray] w fun e w' => e = .returned (.tuple #[]) ∧ BW 172 W b w' (l ++ writeV n v) ∧ KeptB b w w'
structure PutCap (b b2 b3 : Nat) (cs : List Value) (w : World) : Prop where
 ptr : w.heap[b2]? = some (.cells #[.pointer (some ⟨b, 0, none⟩)] 170 (0, 0))
 val : w.heap[b3]? = some (.cells cs.toArray 28 (0, 0))
theorem PutCap.kept {b b2 b3 : Nat} {cs : List Value} {w w' : World} (h : PutCap b b2 b3 cs w) (h2 : b2 ≠ b) (h3 : b3 ≠ b) (k : KeptB b w w') : PutCap b b2 b3 cs w' :=
 ⟨k.heap h.ptr h2 (by rw [kind_cells h.ptr]; decide), k.heap h.val h3 (by rw [kind_cells h.val]; decide)⟩
section
variable {n : Nat} {v : VS (V n)} {S : Nat → Prop} {W w : World} {cs : List Value} {b b2 b3 k : Nat} {l : List UInt8} {a d : Option Addr} {c e : Nat} {lcs : List (List Value)} {mcs : List (ByteArray × List Value)}
theorem put1_any (IH : PutKnown n) (H : RepOne (Rep n S W) S W cs v (.slice a v.l.length c) (.slice d v.m.length e) lcs mcs) (hS : ∀ g, S g → g ≠ b) (hr : rightV (n + 1) v = true) (hs : Small (n + 1) v) (ht : TabsB b W) (h23 : b2 ≠ b ∧ b3 ≠ b)
  (hc : PutCap b b2 b3 [.int .i64 v.kind, .int .i64 v.num, .string v.s, .slice a v.l.length c, .slice d v.m.length e] w) (hb : BW 172 W b w l) (hk : k < v.l.length) (hl : l.length + (writeV n v.l[k]).length ≤ 50000000) :
  Calls Tryz.prog 175 #[.int .i64 k, .pointer (some ⟨b2, 0, none⟩), .pointer (some ⟨b3, 0, none⟩)] w fun r w2 => r = .returned (.tuple #[]) ∧ BW 172 W b w2 (l ++ writeV n v.l[k]) ∧ KeptB b w w2 := by
 obtain ⟨g, o, cap, kd, nm, st, a1, b1, he, q0, q1, q2, q3, q4, hrk⟩ := H.at_l (Kept.refl _ _) k hk
 simp only [Value.slice.injEq] at he
 obtain ⟨rfl, -, rfl⟩ := he
 have hg : g ≠ b := hS g (H.inl g (vblk_mk (by omega)))
 obtain ⟨p1, i1, d1, p2, i2, d2, rfl, rfl⟩ := hrk.sl
 have hgb : g ∉ [b] := by simpa using hg
 have Gb : Hid (∀ w1, Kept [b] W w1 → w1.cell? ⟨g, o + k * 5, none⟩ = some (.int .i64 kd) ∧ w1.cell? ⟨g, o + k * 5 + 1, none⟩ = some (.int .i64 nm) ∧ w1.cell? ⟨g, o + k * 5 + 2, none⟩ = some (.string st) ∧ w1.cell? ⟨g, o + k * 5 + 3, none⟩ = some (.slice p1 i1 d1) ∧ w1.cell? ⟨g, o + k * 5 + 4, none⟩ = some (.slice p2 i2 d2)) :=
  qI fun w1 k1 => ⟨k1.cell q0 hgb, k1.cell q1 hgb, k1.cell q2 hgb, k1.cell q3 hgb, k1.cell q4 hgb⟩
 have Gd : Hid (∀ w1, KeptB b w w1 → w1.cell? ⟨b2, 0, none⟩ = some (.pointer (some ⟨b, 0, none⟩)) ∧ w1.cell? ⟨b3, 3, none⟩ = some (.slice (some ⟨g, o, none⟩) v.l.length c)) :=
  qI fun w1 k1 => ⟨cell_head (o := 0) (v := .pointer (some ⟨b, 0, none⟩)) (hc.kept h23.1 h23.2 k1).ptr rfl, cell_head (o := 3) (v := .slice (some ⟨g, o, none⟩) v.l.length c) (hc.kept h23.1 h23.2 k1).val rfl⟩
 obtain ⟨r0, r1, r2, r3, r4⟩ := Gb.o w hb.kept
 obtain ⟨c2, c3⟩ := Gd.o w (KeptB.refl _ _)
 have hkI : (k : Int) < v.l.length := by omega
 have CL : Hid (∀ w1, BW 172 W b w1 l → _) := qI (fun w1 (h1 : BW 172 W b w1 l) => IH v.l[k] hrk hS (right_kid hr (mem_l (List.getElem_mem hk))) (hs.kid (mem_l (List.getElem_mem hk))) ht h1 hl)
 have HB := qI hb
 have Gq : Hid (v.l.length ≤ 20000) := qI (by have := hs.few; omega)
 have HK : Hid (k < v.l.length) := qI hk
 clear H hS hr hs ht hc hb q0 q1 q2 q3 q4 hrk hg hgb IH
 revert CL
 generalize writeV n v.l[k] = T
 intro CL
 clear hl hk
 go_enter Tryz.func175, Tryz.ntmps175
 refine wp_region_last' (n := 7) (fun w' : World => w'.cell? ⟨b2, 0, none⟩ = some (.pointer (some ⟨b, 0, none⟩)) ∧ w'.cell? ⟨b3, 3, none⟩ = some (.slice (some ⟨g, o, none⟩) v.l.length c) ∧ w'.cell? ⟨g, o + k * 5, none⟩ = some (.int .i64 kd) ∧ w'.cell? ⟨g, o + k * 5 + 1, none⟩ = some (.int .i64 nm) ∧ w'.cell? ⟨g, o + k * 5 + 2, none⟩ = some (.string st) ∧ w'.cell? ⟨g, o + k * 5 + 3, none⟩ = some (.slice p1 i1 d1) ∧ w'.cell? ⟨g, o + k * 5 + 4, none⟩ = some (.slice p2 i2 d2)) 7 (by kernel_rfl) (by kernel_rfl) ?_
 change wpAnyT _ _ _ _ _ _ _ _ _ w.drew
 have hSS : (fun w' : World => w'.cell? ⟨b2, 0, none⟩ = some (.pointer (some ⟨b, 0, none⟩)) ∧ w'.cell? ⟨b3, 3, none⟩ = some (.slice (some ⟨g, o, none⟩) v.l.length c) ∧ w'.cell? ⟨g, o + k * 5, none⟩ = some (.int .i64 kd) ∧ w'.cell? ⟨g, o + k * 5 + 1, none⟩ = some (.int .i64 nm) ∧ w'.cell? ⟨g, o + k * 5 + 2, none⟩ = some (.string st) ∧ w'.cell? ⟨g, o + k * 5 + 3, none⟩ = some (.slice p1 i1 d1) ∧ w'.cell? ⟨g, o + k * 5 + 4, none⟩ = some (.slice p2 i2 d2)) w.drew := ⟨c2, c3, r0, r1, r2, r3, r4⟩
 have Ge : Hid (Kept [] w w.drew) := qI (Kept.refl _ _).drew
 clear c2 c3 r0 r1 r2 r3 r4
 revert hSS Ge
 generalize w.drew = WD
 intro hSS Ge
 refine wpAnyT_start ?_
 intro O R hO hR
 have hQp : ∀ c a (d : Nat) v w, R (.panic c) (a.put (some d) v) w → R (.panic c) a w := by subst hR; exact fun _ _ _ _ _ h => h
 refine wpAnyT_take' (i := 0) (v := ?_) hO rfl rfl (by kernel_rfl) (by kernel_rfl) (by kernel_rfl) (by kernel_rfl) hQp (Or.inl ⟨by kernel_rfl, fun w hSw => ?_⟩) hSS ?_
 rotate_left
 ·obtain ⟨s0, s1, s2, s3, s4, s5, s6⟩ := hSw; go_simp; try with_reducible rfl
 try simp only [zA,zN,zB,zC,zD]
 refine wpAnyT_take' (i := 1) (v := ?_) hO rfl rfl (by kernel_rfl) (by kernel_rfl) (by kernel_rfl) (by kernel_rfl) hQp (Or.inl ⟨by kernel_rfl, fun w hSw => ?_⟩) hSS ?_
 rotate_left
 ·obtain ⟨s0, s1, s2, s3, s4, s5, s6⟩ := hSw; go_simp; try with_reducible rfl
 try simp only [zA,zN,zB,zC,zD]
 refine wpAnyT_take' (i := 2) (v := ?_) hO rfl rfl (by kernel_rfl) (by kernel_rfl) (by kernel_rfl) (by kernel_rfl) hQp (Or.inl ⟨by kernel_rfl, fun w hSw => ?_⟩) hSS ?_
 rotate_left
 ·obtain ⟨s0, s1, s2, s3, s4, s5, s6⟩ := hSw; go_simp; try with_reducible rfl
 try simp only [zA,zN,zB,zC,zD]
 refine wpAnyT_take' (i := 3) (v := ?_) hO rfl rfl (by kernel_rfl) (by kernel_rfl) (by kernel_rfl) (by kernel_rfl) hQp (Or.inl ⟨by kernel_rfl, fun w hSw => ?_⟩) hSS ?_
 rotate_left
 ·obtain ⟨s0, s1, s2, s3, s4, s5, s6⟩ := hSw; go_simp; try with_reducible rfl
 try simp only [zA,zN,zB,zC,zD]
 refine wpAnyT_take' (i := 4) (v := ?_) hO rfl rfl (by kernel_rfl) (by kernel_rfl) (by kernel_rfl) (by kernel_rfl) hQp (Or.inl ⟨by kernel_rfl, fun w hSw => ?_⟩) hSS ?_
 rotate_left
 ·obtain ⟨s0, s1, s2, s3, s4, s5, s6⟩ := hSw; go_simp; try with_reducible rfl
 try simp only [zA,zN,zB,zC,zD]
 refine wpAnyT_take' (i := 5) (v := ?_) hO rfl rfl (by kernel_rfl) (by kernel_rfl) (by kernel_rfl) (by kernel_rfl) hQp (Or.inl ⟨by kernel_rfl, fun w hSw => ?_⟩) hSS ?_
 rotate_left
 ·obtain ⟨s0, s1, s2, s3, s4, s5, s6⟩ := hSw; go_simp; try with_reducible rfl
 try simp only [zA,zN,zB,zC,zD]
 refine wpAnyT_one' (i := 6) hO rfl (by kernel_rfl) (by kernel_rfl) (fun K hK => ?_)
 go_simp
 refine Calls.mono (CL.o _ (HB.o.stay Ge.o)) ?_
 rintro e w3 ⟨rfl, hb3, hk3⟩
 have Gm := qI hb3
 have Gf := qI ((KeptB.of0 Ge.o).trans hk3)
 clear hb3 hk3
 refine hK _ _ (.inr ⟨(Gd.o w3 Gf.o).1, (Gd.o w3 Gf.o).2, Gb.o w3 Gm.o.kept⟩) ?_
 clear hK K
 try simp only [zA,zN,zB,zC,zD]
 refine wpAnyT_done' hO (by kernel_rfl) ?_ _
 subst hR
 try clear hQp hO O
 go_wp2_with fail
 go_end0
 exact ⟨rfl, Gm.o, Gf.o⟩
theorem put2_any (IH : PutKnown n) (H : RepOne (Rep n S W) S W cs v (.slice a v.l.length c) (.slice d v.m.length e) lcs mcs) (hS : ∀ g, S g → g ≠ b) (hr : rightV (n + 1) v = true) (hs : Small (n + 1) v) (ht : TabsB b W) (hkey : v.kind = 6) (h23 : b2 ≠ b ∧ b3 ≠ b)
  (hc : PutCap b b2 b3 [.int .i64 v.kind, .int .i64 v.num, .string v.s, .slice a v.l.length c, .slice d v.m.length e] w) (hb : BW 172 W b w l) (hk : k < v.m.length) (hl : l.length + (quoteL v.m[k].1.data.toList ++ (58 :: writeV n v.m[k].2)).length ≤ 50000000) :
  Calls Tryz.prog 176 #[.int .i64 k, .pointer (some ⟨b2, 0, none⟩), .pointer (some ⟨b3, 0, none⟩)] w fun r w2 => r = .returned (.tuple #[]) ∧ BW 172 W b w2 (l ++ (quoteL v.m[k].1.data.toList ++ (58 :: writeV n v.m[k].2))) ∧ KeptB b w w2 := by
 obtain ⟨g, o, cap, kd, nm, st, a1, b1, he, qk, q0, q1, q2, q3, q4, hrk⟩ := H.at_m (Kept.refl _ _) k hk
 simp only [Value.slice.injEq] at he
 obtain ⟨rfl, -, rfl⟩ := he
 have hg : g ≠ b := hS g (H.inm g (vblk_mk (by omega)))
 obtain ⟨p1, i1, d1, p2, i2, d2, rfl, rfl⟩ := hrk.sl
 have hgb : g ∉ [b] := by simpa using hg
 have Gb : Hid (∀ w1, Kept [b] W w1 → w1.cell? ⟨g, o + k * 6, none⟩ = some (.string v.m[k].1) ∧ w1.cell? ⟨g, o + k * 6 + 1, none⟩ = some (.int .i64 kd) ∧ w1.cell? ⟨g, o + k * 6 + 2, none⟩ = some (.int .i64 nm) ∧ w1.cell? ⟨g, o + k * 6 + 3, none⟩ = some (.string st) ∧ w1.cell? ⟨g, o + k * 6 + 4, none⟩ = some (.slice p1 i1 d1) ∧ w1.cell? ⟨g, o + k * 6 + 5, none⟩ = some (.slice p2 i2 d2)) :=
  qI fun w1 k1 => ⟨k1.cell qk hgb, k1.cell q0 hgb, k1.cell q1 hgb, k1.cell q2 hgb, k1.cell q3 hgb, k1.cell q4 hgb⟩
 have Gd : Hid (∀ w1, KeptB b w w1 → w1.cell? ⟨b2, 0, none⟩ = some (.pointer (some ⟨b, 0, none⟩)) ∧ w1.cell? ⟨b3, 4, none⟩ = some (.slice (some ⟨g, o, none⟩) v.m.length e)) :=
  qI fun w1 k1 => ⟨cell_head (o := 0) (v := .pointer (some ⟨b, 0, none⟩)) (hc.kept h23.1 h23.2 k1).ptr rfl, cell_head (o := 4) (v := .slice (some ⟨g, o, none⟩) v.m.length e) (hc.kept h23.1 h23.2 k1).val rfl⟩
 have hkI : (k : Int) < v.m.length := by omega
 have hkz : (v.m[k].1).size ≤ 400000 := Nat.le_trans (key_le (List.getElem_mem hk)) hs.2
 have hok : keysOk v.m = true := by
  rcases own_cases (right_own hr) with h | h | h | h | h | h
  ·rw [hkey] at h; exact absurd h.1 (by decide)
  ·rw [hkey] at h; exact absurd h.1 (by decide)
  ·rw [hkey] at h; exact absurd h.1 (by decide)
  ·rw [hkey] at h; exact absurd h.1 (by decide)
  ·rw [hkey] at h; exact absurd h.1 (by decide)
  ·exact h.2.2.2.2
 have hkv : bytesOk v.m[k].1 = true := by
  unfold keysOk at hok
  rw [Bool.and_eq_true, List.all_eq_true] at hok
  exact hok.1 _ (List.getElem_mem hk)
 have hlen : l.length + (quoteL v.m[k].1.data.toList).length + 1 + (writeV n v.m[k].2).length ≤ 50000000 := by
  rw [List.length_append, List.length_cons] at hl
  omega
 have CL : Hid (∀ w1 l1, BW 172 W b w1 l1 → l1.length + (writeV n v.m[k].2).length ≤ 50000000 → _) := qI (fun w1 l1 (h1 : BW 172 W b w1 l1) hl1 => IH v.m[k].2 hrk hS (right_kid hr (mem_m (List.getElem_mem hk))) (hs.kid (mem_m (List.getElem_mem hk))) ht h1 hl1)
 have HB := qI hb
 have HT := qI ht
 have Gq : Hid (v.m.length ≤ 20000) := qI (by have := hs.few; omega)
 have HA : Hid (∀ x y : List UInt8, l ++ x ++ [58] ++ y = l ++ (x ++ (58 :: y))) := qI (by intro x y; simp)
 clear H hS hr hs ht hc hb qk q0 q1 q2 q3 q4 hrk hg hgb IH hok hl
 revert CL Gb hkz hkv hlen
 generalize writeV n v.m[k].2 = T
 generalize v.m[k].1 = key
 intro Gb hkz hkv hlen CL
 clear hk
 obtain ⟨r0, r1, r2, r3, r4, r5⟩ := Gb.o w HB.o.kept
 obtain ⟨c2, c3⟩ := Gd.o w (KeptB.refl _ _)
 go_enter Tryz.func176, Tryz.ntmps176
 go_wp2_with fail
 refine wp_region_last' (n := 8) (fun w' : World => w'.cell? ⟨b2, 0, none⟩ = some (.pointer (some ⟨b, 0, none⟩)) ∧ w'.cell? ⟨b3, 4, none⟩ = some (.slice (some ⟨g, o, none⟩) v.m.length e) ∧ w'.cell? ⟨g, o + k * 6, none⟩ = some (.string key)) 8 (by kernel_rfl) (by kernel_rfl) ?_
 change wpAnyT _ _ _ _ _ _ _ _ _ w.drew
 have hSS : (fun w' : World => w'.cell? ⟨b2, 0, none⟩ = some (.pointer (some ⟨b, 0, none⟩)) ∧ w'.cell? ⟨b3, 4, none⟩ = some (.slice (some ⟨g, o, none⟩) v.m.length e) ∧ w'.cell? ⟨g, o + k * 6, none⟩ = some (.string key)) w.drew := ⟨c2, c3, r0⟩
 have Ge : Hid (Kept [] w w.drew) := qI (Kept.refl _ _).drew
 clear c2 c3 r0 r1 r2 r3 r4 r5
 revert hSS Ge
 generalize w.drew = WD
 intro hSS Ge
 refine wpAnyT_start ?_
 intro O R hO hR
 have hQp : ∀ c a (d : Nat) v w, R (.panic c) (a.put (some d) v) w → R (.panic c) a w := by subst hR; exact fun _ _ _ _ _ h => h
 refine wpAnyT_take' (i := 0) (v := ?_) hO rfl rfl (by kernel_rfl) (by kernel_rfl) (by kernel_rfl) (by kernel_rfl) hQp (Or.inl ⟨by kernel_rfl, fun w hSw => ?_⟩) hSS ?_
 rotate_left
 ·obtain ⟨s0, s1, s2⟩ := hSw; go_simp; try with_reducible rfl
 try simp only [zA,zN,zB,zC,zD]
 refine wpAnyT_take' (i := 1) (v := ?_) hO rfl rfl (by kernel_rfl) (by kernel_rfl) (by kernel_rfl) (by kernel_rfl) hQp (Or.inl ⟨by kernel_rfl, fun w hSw => ?_⟩) hSS ?_
 rotate_left
 ·obtain ⟨s0, s1, s2⟩ := hSw; go_simp; try with_reducible rfl
 try simp only [zA,zN,zB,zC,zD]
 refine wpAnyT_take' (i := 2) (v := ?_) hO rfl rfl (by kernel_rfl) (by kernel_rfl) (by kernel_rfl) (by kernel_rfl) hQp (Or.inl ⟨by kernel_rfl, fun w hSw => ?_⟩) hSS ?_
 rotate_left
 ·obtain ⟨s0, s1, s2⟩ := hSw; go_simp; try with_reducible rfl
 try simp only [zA,zN,zB,zC,zD]
 refine wpAnyT_take' (i := 3) (v := ?_) hO rfl rfl (by kernel_rfl) (by kernel_rfl) (by kernel_rfl) (by kernel_rfl) hQp (Or.inl ⟨by kernel_rfl, fun w hSw => ?_⟩) hSS ?_
 rotate_left
 ·obtain ⟨s0, s1, s2⟩ := hSw; go_simp; try with_reducible rfl
 try simp only [zA,zN,zB,zC,zD]
 refine wpAnyT_take' (i := 4) (v := ?_) hO rfl rfl (by kernel_rfl) (by kernel_rfl) (by kernel_rfl) (by kernel_rfl) hQp (Or.inl ⟨by kernel_rfl, fun w hSw => ?_⟩) hSS ?_
 rotate_left
 ·obtain ⟨s0, s1, s2⟩ := hSw; go_simp; try with_reducible rfl
 try simp only [zA,zN,zB,zC,zD]
 refine wpAnyT_take' (i := 5) (v := ?_) hO rfl rfl (by kernel_rfl) (by kernel_rfl) (by kernel_rfl) (by kernel_rfl) hQp (Or.inl ⟨by kernel_rfl, fun w hSw => ?_⟩) hSS ?_
 rotate_left
 ·obtain ⟨s0, s1, s2⟩ := hSw; go_simp; try with_reducible rfl
 try simp only [zA,zN,zB,zC,zD]
 refine wpAnyT_take' (i := 6) (v := ?_) hO rfl rfl (by kernel_rfl) (by kernel_rfl) (by kernel_rfl) (by kernel_rfl) hQp (Or.inl ⟨by kernel_rfl, fun w hSw => ?_⟩) hSS ?_
 rotate_left
 ·obtain ⟨s0, s1, s2⟩ := hSw; go_simp; try with_reducible rfl
 try simp only [zA,zN,zB,zC,zD]
 refine wpAnyT_one' (i := 7) hO rfl (by kernel_rfl) (by kernel_rfl) (fun K hK => ?_)
 go_simp
 refine Calls.mono (wquote_any (HB.o.stay Ge.o) HT.o (by omega) key (by omega) hkv) ?_
 rintro e1 w3 ⟨rfl, hb3, hk3⟩
 have Gm := qI hb3
 have Gf := qI ((KeptB.of0 Ge.o).trans hk3)
 clear hb3 hk3
 refine hK _ _ (.inr ⟨(Gd.o w3 Gf.o).1, (Gd.o w3 Gf.o).2, (Gb.o w3 Gm.o.kept).1⟩) ?_
 clear hK K
 try simp only [zA,zN,zB,zC,zD]
 refine wpAnyT_done' hO (by kernel_rfl) ?_ _
 subst hR
 try clear hQp hO O
 clear hSS
 obtain ⟨c2, c3⟩ := Gd.o w3 Gf.o
 go_wp2_with (go_at_call 88; refine (wbyte_58 lies_writer Gm.o (by rw [List.length_append]; omega)).mono ?_; rintro e2 w4 ⟨rfl, hb4, hk4⟩; have Gr := qI hb4; have Gs := qI (Gf.o.trans hk4); clear hb4 hk4)
 clear c2 c3
 obtain ⟨r0, r1, r2, r3, r4, r5⟩ := Gb.o w4 Gr.o.kept
 obtain ⟨c2, c3⟩ := Gd.o w4 Gs.o
 refine wp_region_last' (n := 8) (fun w' : World => w'.cell? ⟨b2, 0, none⟩ = some (.pointer (some ⟨b, 0, none⟩)) ∧ w'.cell? ⟨b3, 4, none⟩ = some (.slice (some ⟨g, o, none⟩) v.m.length e) ∧ w'.cell? ⟨g, o + k * 6 + 1, none⟩ = some (.int .i64 kd) ∧ w'.cell? ⟨g, o + k * 6 + 2, none⟩ = some (.int .i64 nm) ∧ w'.cell? ⟨g, o + k * 6 + 3, none⟩ = some (.string st) ∧ w'.cell? ⟨g, o + k * 6 + 4, none⟩ = some (.slice p1 i1 d1) ∧ w'.cell? ⟨g, o + k * 6 + 5, none⟩ = some (.slice p2 i2 d2)) 8 (by kernel_rfl) (by kernel_rfl) ?_
 change wpAnyT _ _ _ _ _ _ _ _ _ w4.drew
 have hSS : (fun w' : World => w'.cell? ⟨b2, 0, none⟩ = some (.pointer (some ⟨b, 0, none⟩)) ∧ w'.cell? ⟨b3, 4, none⟩ = some (.slice (some ⟨g, o, none⟩) v.m.length e) ∧ w'.cell? ⟨g, o + k * 6 + 1, none⟩ = some (.int .i64 kd) ∧ w'.cell? ⟨g, o + k * 6 + 2, none⟩ = some (.int .i64 nm) ∧ w'.cell? ⟨g, o + k * 6 + 3, none⟩ = some (.string st) ∧ w'.cell? ⟨g, o + k * 6 + 4, none⟩ = some (.slice p1 i1 d1) ∧ w'.cell? ⟨g, o + k * 6 + 5, none⟩ = some (.slice p2 i2 d2)) w4.drew := ⟨c2, c3, r1, r2, r3, r4, r5⟩
 have Gt : Hid (Kept [] w4 w4.drew) := qI (Kept.refl _ _).drew
 clear c2 c3 r0 r1 r2 r3 r4 r5
 revert hSS Gt
 generalize w4.drew = WE
 intro hSS Gt
 refine wpAnyT_start ?_
 intro O R hO hR
 have hQp : ∀ c a (d : Nat) v w, R (.panic c) (a.put (some d) v) w → R (.panic c) a w := by subst hR; exact fun _ _ _ _ _ h => h
 refine wpAnyT_take' (i := 0) (v := ?_) hO rfl rfl (by kernel_rfl) (by kernel_rfl) (by kernel_rfl) (by kernel_rfl) hQp (Or.inl ⟨by kernel_rfl, fun w hSw => ?_⟩) hSS ?_
 rotate_left
 ·obtain ⟨s0, s1, s2, s3, s4, s5, s6⟩ := hSw; go_simp; try with_reducible rfl
 try simp only [zA,zN,zB,zC,zD]
 refine wpAnyT_take' (i := 1) (v := ?_) hO rfl rfl (by kernel_rfl) (by kernel_rfl) (by kernel_rfl) (by kernel_rfl) hQp (Or.inl ⟨by kernel_rfl, fun w hSw => ?_⟩) hSS ?_
 rotate_left
 ·obtain ⟨s0, s1, s2, s3, s4, s5, s6⟩ := hSw; go_simp; try with_reducible rfl
 try simp only [zA,zN,zB,zC,zD]
 refine wpAnyT_take' (i := 2) (v := ?_) hO rfl rfl (by kernel_rfl) (by kernel_rfl) (by kernel_rfl) (by kernel_rfl) hQp (Or.inl ⟨by kernel_rfl, fun w hSw => ?_⟩) hSS ?_
 rotate_left
 ·obtain ⟨s0, s1, s2, s3, s4, s5, s6⟩ := hSw; go_simp; try with_reducible rfl
 try simp only [zA,zN,zB,zC,zD]
 refine wpAnyT_take' (i := 3) (v := ?_) hO rfl rfl (by kernel_rfl) (by kernel_rfl) (by kernel_rfl) (by kernel_rfl) hQp (Or.inl ⟨by kernel_rfl, fun w hSw => ?_⟩) hSS ?_
 rotate_left
 ·obtain ⟨s0, s1, s2, s3, s4, s5, s6⟩ := hSw; go_simp; try with_reducible rfl
 try simp only [zA,zN,zB,zC,zD]
 refine wpAnyT_take' (i := 4) (v := ?_) hO rfl rfl (by kernel_rfl) (by kernel_rfl) (by kernel_rfl) (by kernel_rfl) hQp (Or.inl ⟨by kernel_rfl, fun w hSw => ?_⟩) hSS ?_
 rotate_left
 ·obtain ⟨s0, s1, s2, s3, s4, s5, s6⟩ := hSw; go_simp; try with_reducible rfl
 try simp only [zA,zN,zB,zC,zD]
 refine wpAnyT_take' (i := 5) (v := ?_) hO rfl rfl (by kernel_rfl) (by kernel_rfl) (by kernel_rfl) (by kernel_rfl) hQp (Or.inl ⟨by kernel_rfl, fun w hSw => ?_⟩) hSS ?_
 rotate_left
 ·obtain ⟨s0, s1, s2, s3, s4, s5, s6⟩ := hSw; go_simp; try with_reducible rfl
 try simp only [zA,zN,zB,zC,zD]
 refine wpAnyT_take' (i := 6) (v := ?_) hO rfl rfl (by kernel_rfl) (by kernel_rfl) (by kernel_rfl) (by kernel_rfl) hQp (Or.inl ⟨by kernel_rfl, fun w hSw => ?_⟩) hSS ?_
 rotate_left
 ·obtain ⟨s0, s1, s2, s3, s4, s5, s6⟩ := hSw; go_simp; try with_reducible rfl
 try simp only [zA,zN,zB,zC,zD]
 refine wpAnyT_one' (i := 7) hO rfl (by kernel_rfl) (by kernel_rfl) (fun K hK => ?_)
 go_simp
 refine Calls.mono (CL.o _ _ (Gr.o.stay Gt.o) (by simp only [List.length_append, List.length_cons, List.length_nil]; omega)) ?_
 rintro e3 w5 ⟨rfl, hb5, hk5⟩
 rw [HA.o] at hb5
 have Gz := qI hb5
 have Gv := qI ((Gs.o.trans (KeptB.of0 Gt.o)).trans hk5)
 clear hb5 hk5
 refine hK _ _ (.inr ⟨(Gd.o w5 Gv.o).1, (Gd.o w5 Gv.o).2, (Gb.o w5 Gz.o.kept).2⟩) ?_
 clear hK K
 try simp only [zA,zN,zB,zC,zD]
 refine wpAnyT_done' hO (by kernel_rfl) ?_ _
 subst hR
 try clear hQp hO O
 go_wp2_with fail
 go_end0
 exact ⟨rfl, Gz.o, Gv.o⟩
end
theorem fb_true : Lib.formatBool true = [116, 114, 117, 101] := by decide +kernel
theorem fb_false : Lib.formatBool false = [102, 97, 108, 115, 101] := by decide +kernel
theorem between1_list {W w : World} {b b2 b3 n : Nat} {l : List UInt8} {J : World → Prop} {it : Nat → List UInt8}
  (HJ : ∀ w1 w2, J w1 → KeptB b w1 w2 → J w2)
  (HC : ∀ k w1 l1, k < n → J w1 → BW 172 W b w1 l1 → l1.length + (it k).length ≤ 50000000 → Calls Tryz.prog 175 #[.int .i64 k, .pointer (some ⟨b2, 0, none⟩), .pointer (some ⟨b3, 0, none⟩)] w1 fun r w2 => r = .returned (.tuple #[]) ∧ BW 172 W b w2 (l1 ++ it k) ∧ KeptB b w1 w2)
  (hJ : J w) (hb : BW 172 W b w l) (hn : n ≤ 20000) (hl : l.length + (preC it n).length ≤ 49999998) :
  Calls Tryz.prog 174 #[.pointer (some ⟨b, 0, none⟩), .int .u8 91, .int .i64 n, .func (.func 175) #[] #[.pointer (some ⟨b2, 0, none⟩), .pointer (some ⟨b3, 0, none⟩)], .int .u8 93] w
   fun r w' => r = .returned (.tuple #[]) ∧ BW 172 W b w' (l ++ (91 :: (preC it n ++ [93]))) ∧ KeptB b w w' := between1_any (o := 91) (c := 93) HJ HC hJ hb hn hl
theorem between2_map {W w : World} {b b2 b3 n : Nat} {l : List UInt8} {J : World → Prop} {it : Nat → List UInt8}
  (HJ : ∀ w1 w2, J w1 → KeptB b w1 w2 → J w2)
  (HC : ∀ k w1 l1, k < n → J w1 → BW 172 W b w1 l1 → l1.length + (it k).length ≤ 50000000 → Calls Tryz.prog 176 #[.int .i64 k, .pointer (some ⟨b2, 0, none⟩), .pointer (some ⟨b3, 0, none⟩)] w1 fun r w2 => r = .returned (.tuple #[]) ∧ BW 172 W b w2 (l1 ++ it k) ∧ KeptB b w1 w2)
  (hJ : J w) (hb : BW 172 W b w l) (hn : n ≤ 20000) (hl : l.length + (preC it n).length ≤ 49999998) :
  Calls Tryz.prog 174 #[.pointer (some ⟨b, 0, none⟩), .int .u8 123, .int .i64 n, .func (.func 176) #[] #[.pointer (some ⟨b2, 0, none⟩), .pointer (some ⟨b3, 0, none⟩)], .int .u8 125] w
   fun r w' => r = .returned (.tuple #[]) ∧ BW 172 W b w' (l ++ (123 :: (preC it n ++ [125]))) ∧ KeptB b w w' := between2_any (o := 123) (c := 125) HJ HC hJ hb hn hl
theorem write_1 {n : Nat} {v : VS (V n)} (h : v.kind = 1) : writeV (n + 1) v = [110, 117, 108, 108] := by
 show (if v.kind = 1 then _ else _) = _
 rw [if_pos h]
theorem write_2 {n : Nat} {v : VS (V n)} (h : v.kind = 2) : writeV (n + 1) v = Lib.formatBool (v.num == 1) := by
 show (if v.kind = 1 then _ else if v.kind = 2 then _ else _) = _
 rw [if_neg (by omega), if_pos h]
 by_cases e : v.num = 1
 ·rw [if_pos e, e, show ((1 : Int) == 1) = true from rfl, fb_true]
 ·rw [if_neg e, show (v.num == 1) = false by simpa using e, fb_false]
theorem write_3 {n : Nat} {v : VS (V n)} (h : v.kind = 3) : writeV (n + 1) v = Lib.itoa v.num := by
 show (if v.kind = 1 then _ else if v.kind = 2 then _ else if v.kind = 3 then _ else _) = _
 rw [if_neg (by omega), if_neg (by omega), if_pos h]
theorem write_4 {n : Nat} {v : VS (V n)} (h : v.kind = 4) : writeV (n + 1) v = quoteL v.s.data.toList := by
 show (if v.kind = 1 then _ else if v.kind = 2 then _ else if v.kind = 3 then _ else if v.kind = 4 then _ else _) = _
 rw [if_neg (by omega), if_neg (by omega), if_neg (by omega), if_pos h]
theorem write_5 {n : Nat} {v : VS (V n)} (h : v.kind = 5) : writeV (n + 1) v = 91 :: (preC (fun k => (v.l.map (writeV n)).getD k []) v.l.length ++ [93]) := by
 show (if v.kind = 1 then _ else if v.kind = 2 then _ else if v.kind = 3 then _ else if v.kind = 4 then _ else if v.kind = 5 then _ else _) = _
 rw [if_neg (by omega), if_neg (by omega), if_neg (by omega), if_neg (by omega), if_pos h, preC_all]
theorem write_6 {n : Nat} {v : VS (V n)} (h : v.kind = 6) : writeV (n + 1) v = 123 :: (preC (fun k => (v.m.map (fun p => quoteL p.1.data.toList ++ (58 :: writeV n p.2))).getD k []) v.m.length ++ [125]) := by
 show (if v.kind = 1 then _ else if v.kind = 2 then _ else if v.kind = 3 then _ else if v.kind = 4 then _ else if v.kind = 5 then _ else _) = _
 rw [if_neg (by omega), if_neg (by omega), if_neg (by omega), if_neg (by omega), if_neg (by omega), preC_all]
theorem put_any_step {n : Nat} (known : PutKnown n) : PutKnown (n + 1) := fun (v : VS (V n)) {S W w cs b l} h hS hr hs ht hb hl => by
  have IH := qI known
  obtain ⟨vl, vm, lcs, mcs, h⟩ := h
  obtain ⟨a, c, d, e, rfl, rfl, rfl⟩ := h.forms
  obtain ⟨W2, Gh⟩ : ∃ W2, Hid (W2 = (w.alloc (.cells #[.pointer (some ⟨b, 0, none⟩)] 170)).alloc (.cells #[.int .i64 v.kind, .int .i64 v.num, .string v.s, .slice a v.l.length c, .slice d v.m.length e] 28)) := ⟨_, qI rfl⟩
  have Ga : Hid (Kept [] w W2) := qI (by rw [Gh.o]; exact ((Kept.refl [] w).alloc _).alloc _)
  have Gj : Hid (PutCap b w.heap.size (w.heap.size + 1) [.int .i64 v.kind, .int .i64 v.num, .string v.s, .slice a v.l.length c, .slice d v.m.length e] W2) := qI (by
   rw [Gh.o]
   exact ⟨((Kept.refl [] _).alloc _).heap (block_alloc rfl) (by simp), block_alloc (by simp)⟩)
  have H23 : Hid (w.heap.size ≠ b ∧ w.heap.size + 1 ≠ b) := qI (by have := hb.lt; have := hb.kept.size; omega)
  have Gk : Hid (BW 172 W b W2 l) := qI (hb.stay Ga.o)
  have HL := qI hl
  have HS := qI hs
  have Ja := qI hS
  have Jb := qI hr
  have HT := qI ht
  have H := qI h
  have HC := qI (own_cases (right_own hr))
  have hll : l.length ≤ 50000000 := by omega
  have hkv : ∀ x : Int, v.kind = x → Hid (PutCap b w.heap.size (w.heap.size + 1) [.int .i64 x, .int .i64 v.num, .string v.s, .slice a v.l.length c, .slice d v.m.length e] W2) := fun x hx => qI (by rw [← hx]; exact Gj.o)
  clear h hS hr hs ht hb hl
  rcases HC.o with ⟨k1, -⟩ | ⟨k1, k2, -⟩ | ⟨k1, k2, -⟩ | ⟨k1, k2, k3, -⟩ | ⟨k1, -⟩ | ⟨k1, -⟩
  ·have HE := qI (write_1 k1)
   clear Gj HC hkv
   rw [k1] at Gh ⊢
   clear k1
   go_enter Tryz.func132, Tryz.ntmps132
   go_wp2_with fail
   rw [← Gh.o]
   refine (wstring_any lies_writer Gk.o (by omega) ⟨#[110, 117, 108, 108]⟩ (by decide)).mono ?_
   rintro e1 w2 ⟨rfl, hb2, hk2⟩
   go_wp2_with fail
   go_end0
   exact ⟨rfl, by rw [HE.o]; exact hb2, (KeptB.of0 Ga.o).trans hk2⟩
  ·have HE := qI (write_2 k1)
   have Gl := hkv 2 k1
   have hnI : 0 ≤ v.num ∧ v.num ≤ 1 := by omega
   clear Gj HC hkv
   rw [k1] at Gh ⊢
   clear k1 k2
   have c2 := cell_head (o := 0) (v := .pointer (some ⟨b, 0, none⟩)) Gl.o.ptr rfl
   have c3 := cell_head (o := 1) (v := .int .i64 v.num) Gl.o.val rfl
   go_enter Tryz.func132, Tryz.ntmps132
   go_wp2_with fail
   rw [← Gh.o]
   generalize v.num = num at *
   refine wp_region_last' (n := 8) (fun w' : World => w'.cell? ⟨w.heap.size, 0, none⟩ = some (.pointer (some ⟨b, 0, none⟩)) ∧ w'.cell? ⟨w.heap.size + 1, 1, none⟩ = some (.int .i64 num)) 8 (by kernel_rfl) (by kernel_rfl) ?_
   change wpAnyT _ _ _ _ _ _ _ _ _ W2.drew
   have hSS : (fun w' : World => w'.cell? ⟨w.heap.size, 0, none⟩ = some (.pointer (some ⟨b, 0, none⟩)) ∧ w'.cell? ⟨w.heap.size + 1, 1, none⟩ = some (.int .i64 num)) W2.drew := ⟨c2, c3⟩
   have Ge : Hid (Kept [] W2 W2.drew) := qI (Kept.refl _ _).drew
   clear c2 c3
   revert hSS Ge
   generalize W2.drew = WD
   intro hSS Ge
   refine wpAnyT_start ?_
   intro O R hO hR
   have hQp : ∀ c a (d : Nat) v w, R (.panic c) (a.put (some d) v) w → R (.panic c) a w := by subst hR; exact fun _ _ _ _ _ h => h
   refine wpAnyT_take' (i := 0) (v := ?_) hO rfl rfl (by kernel_rfl) (by kernel_rfl) (by kernel_rfl) (by kernel_rfl) hQp (Or.inl ⟨by kernel_rfl, fun w hSw => ?_⟩) hSS ?_
   rotate_left
   ·obtain ⟨s0, s1⟩ := hSw; go_simp; try with_reducible rfl
   try simp only [zA,zN,zB,zC,zD]
   refine wpAnyT_take' (i := 1) (v := ?_) hO rfl rfl (by kernel_rfl) (by kernel_rfl) (by kernel_rfl) (by kernel_rfl) hQp (Or.inl ⟨by kernel_rfl, fun w hSw => ?_⟩) hSS ?_
   rotate_left
   ·obtain ⟨s0, s1⟩ := hSw; go_simp; try with_reducible rfl
   try simp only [zA,zN,zB,zC,zD]
   refine wpAnyT_take' (i := 2) (v := ?_) hO rfl rfl (by kernel_rfl) (by kernel_rfl) (by kernel_rfl) (by kernel_rfl) hQp (Or.inl ⟨by kernel_rfl, fun w hSw => ?_⟩) hSS ?_
   rotate_left
   ·obtain ⟨s0, s1⟩ := hSw; go_simp; try with_reducible rfl
   try simp only [zA,zN,zB,zC,zD]
   refine wpAnyT_take' (i := 3) (v := ?_) hO rfl rfl (by kernel_rfl) (by kernel_rfl) (by kernel_rfl) (by kernel_rfl) hQp (Or.inl ⟨by kernel_rfl, fun w hSw => ?_⟩) hSS ?_
   rotate_left
   ·obtain ⟨s0, s1⟩ := hSw; go_simp; try with_reducible rfl
   try simp only [zA,zN,zB,zC,zD]
   refine wpAnyT_take' (i := 4) (v := ?_) hO rfl rfl (by kernel_rfl) (by kernel_rfl) (by kernel_rfl) (by kernel_rfl) hQp (Or.inl ⟨by kernel_rfl, fun w hSw => ?_⟩) hSS ?_
   rotate_left
   ·obtain ⟨s0, s1⟩ := hSw; go_simp; try with_reducible rfl
   try simp only [zA,zN,zB,zC,zD]
   refine wpAnyT_take' (i := 5) (v := ?_) hO rfl rfl (by kernel_rfl) (by kernel_rfl) (by kernel_rfl) (by kernel_rfl) hQp (Or.inl ⟨by kernel_rfl, fun w hSw => ?_⟩) hSS ?_
   rotate_left
   ·obtain ⟨s0, s1⟩ := hSw; go_simp; try with_reducible rfl
   try simp only [zA,zN,zB,zC,zD]
   refine wpAnyT_one' (i := 6) hO rfl (by kernel_rfl) (by kernel_rfl) (fun K hK => ?_)
   go_simp
   refine Calls.mono (libFormatBool (num == 1) WD) ?_
   rintro e1 w3 ⟨rfl, rfl⟩
   refine hK _ _ (.inr hSS) ?_
   clear hK K
   try simp only [zA,zN,zB,zC,zD]
   refine wpAnyT_one' (i := 7) hO rfl (by kernel_rfl) (by kernel_rfl) (fun K hK => ?_)
   go_simp
   refine Calls.mono (wstring_any lies_writer (Gk.o.stay Ge.o) (by omega) (strB (Lib.formatBool (num == 1))) (by rw [strB_size]; cases (num == 1) <;> decide +kernel)) ?_
   rintro e2 w4 ⟨rfl, hb4, hk4⟩
   rw [strB_list, ← HE.o] at hb4
   have Gr := qI hb4
   have Gs := qI (((KeptB.of0 Ga.o).trans (KeptB.of0 Ge.o)).trans hk4)
   have hcq := Gl.o.kept H23.o.1 H23.o.2 ((KeptB.of0 Ge.o : KeptB b _ _).trans hk4)
   have hS4 : (fun w' : World => w'.cell? ⟨w.heap.size, 0, none⟩ = some (.pointer (some ⟨b, 0, none⟩)) ∧ w'.cell? ⟨w.heap.size + 1, 1, none⟩ = some (.int .i64 num)) w4 := ⟨cell_head (o := 0) (v := .pointer (some ⟨b, 0, none⟩)) hcq.ptr rfl, cell_head (o := 1) (v := .int .i64 num) hcq.val rfl⟩
   clear hb4 hk4 hcq
   refine hK _ _ (.inr hS4) ?_
   clear hK K
   try simp only [zA,zN,zB,zC,zD]
   refine wpAnyT_done' hO (by kernel_rfl) ?_ _
   subst hR
   try clear hQp hO O
   go_wp2_with fail
   go_end0
   exact ⟨rfl, Gr.o, Gs.o⟩
  ·have HE := qI (write_3 k1)
   have Gl := hkv 3 k1
   have Gq : Hid ((Lib.itoa v.num).length ≤ 21) := qI (itoa_len v.num k2)
   have Je : Hid (Tabs W2) := qI (HT.o.at Gk.o.kept)
   clear Gj HC hkv
   rw [k1] at Gh ⊢
   clear k1
   have c2 := cell_head (o := 0) (v := .pointer (some ⟨b, 0, none⟩)) Gl.o.ptr rfl
   have c3 := cell_head (o := 1) (v := .int .i64 v.num) Gl.o.val rfl
   go_enter Tryz.func132, Tryz.ntmps132
   go_wp2_with fail
   rw [← Gh.o]
   generalize v.num = num at *
   refine wp_region_last' (n := 7) (fun w' : World => w'.cell? ⟨w.heap.size, 0, none⟩ = some (.pointer (some ⟨b, 0, none⟩)) ∧ w'.cell? ⟨w.heap.size + 1, 1, none⟩ = some (.int .i64 num)) 7 (by kernel_rfl) (by kernel_rfl) ?_
   change wpAnyT _ _ _ _ _ _ _ _ _ W2.drew
   have hSS : (fun w' : World => w'.cell? ⟨w.heap.size, 0, none⟩ = some (.pointer (some ⟨b, 0, none⟩)) ∧ w'.cell? ⟨w.heap.size + 1, 1, none⟩ = some (.int .i64 num)) W2.drew := ⟨c2, c3⟩
   have Ge : Hid (Kept [] W2 W2.drew) := qI (Kept.refl _ _).drew
   clear c2 c3
   revert hSS Ge
   generalize W2.drew = WD
   intro hSS Ge
   refine wpAnyT_start ?_
   intro O R hO hR
   have hQp : ∀ c a (d : Nat) v w, R (.panic c) (a.put (some d) v) w → R (.panic c) a w := by subst hR; exact fun _ _ _ _ _ h => h
   refine wpAnyT_take' (i := 0) (v := ?_) hO rfl rfl (by kernel_rfl) (by kernel_rfl) (by kernel_rfl) (by kernel_rfl) hQp (Or.inl ⟨by kernel_rfl, fun w hSw => ?_⟩) hSS ?_
   rotate_left
   ·obtain ⟨s0, s1⟩ := hSw; go_simp; try with_reducible rfl
   try simp only [zA,zN,zB,zC,zD]
   refine wpAnyT_take' (i := 1) (v := ?_) hO rfl rfl (by kernel_rfl) (by kernel_rfl) (by kernel_rfl) (by kernel_rfl) hQp (Or.inl ⟨by kernel_rfl, fun w hSw => ?_⟩) hSS ?_
   rotate_left
   ·obtain ⟨s0, s1⟩ := hSw; go_simp; try with_reducible rfl
   try simp only [zA,zN,zB,zC,zD]
   refine wpAnyT_take' (i := 2) (v := ?_) hO rfl rfl (by kernel_rfl) (by kernel_rfl) (by kernel_rfl) (by kernel_rfl) hQp (Or.inl ⟨by kernel_rfl, fun w hSw => ?_⟩) hSS ?_
   rotate_left
   ·obtain ⟨s0, s1⟩ := hSw; go_simp; try with_reducible rfl
   try simp only [zA,zN,zB,zC,zD]
   refine wpAnyT_take' (i := 3) (v := ?_) hO rfl rfl (by kernel_rfl) (by kernel_rfl) (by kernel_rfl) (by kernel_rfl) hQp (Or.inl ⟨by kernel_rfl, fun w hSw => ?_⟩) hSS ?_
   rotate_left
   ·obtain ⟨s0, s1⟩ := hSw; go_simp; try with_reducible rfl
   try simp only [zA,zN,zB,zC,zD]
   refine wpAnyT_take' (i := 4) (v := ?_) hO rfl rfl (by kernel_rfl) (by kernel_rfl) (by kernel_rfl) (by kernel_rfl) hQp (Or.inl ⟨by kernel_rfl, fun w hSw => ?_⟩) hSS ?_
   rotate_left
   ·obtain ⟨s0, s1⟩ := hSw; go_simp; try with_reducible rfl
   try simp only [zA,zN,zB,zC,zD]
   refine wpAnyT_one' (i := 5) hO rfl (by kernel_rfl) (by kernel_rfl) (fun K hK => ?_)
   go_simp
   refine Calls.mono (libItoa (Je.o.kept0 Ge.o) num (by omega) (by omega)) ?_
   rintro e1 w3 ⟨rfl, hk3⟩
   have Gf := qI (Ge.o.then hk3)
   have hS3 : (fun w' : World => w'.cell? ⟨w.heap.size, 0, none⟩ = some (.pointer (some ⟨b, 0, none⟩)) ∧ w'.cell? ⟨w.heap.size + 1, 1, none⟩ = some (.int .i64 num)) w3 := ⟨hk3.cell hSS.1 (by simp), hk3.cell hSS.2 (by simp)⟩
   clear hk3
   refine hK _ _ (.inr hS3) ?_
   clear hK K
   try simp only [zA,zN,zB,zC,zD]
   clear hSS
   have hSS := hS3
   clear hS3
   refine wpAnyT_one' (i := 6) hO rfl (by kernel_rfl) (by kernel_rfl) (fun K hK => ?_)
   go_simp
   refine Calls.mono (wstring_any lies_writer (Gk.o.stay Gf.o) (by omega) (strB (Lib.itoa num)) (by rw [strB_size]; have := Gq.o; omega)) ?_
   rintro e2 w4 ⟨rfl, hb4, hk4⟩
   rw [strB_list, ← HE.o] at hb4
   have Gr := qI hb4
   have Gs := qI (((KeptB.of0 Ga.o).trans (KeptB.of0 Gf.o)).trans hk4)
   have hcq := Gl.o.kept H23.o.1 H23.o.2 ((KeptB.of0 Gf.o : KeptB b _ _).trans hk4)
   have hS4 : (fun w' : World => w'.cell? ⟨w.heap.size, 0, none⟩ = some (.pointer (some ⟨b, 0, none⟩)) ∧ w'.cell? ⟨w.heap.size + 1, 1, none⟩ = some (.int .i64 num)) w4 := ⟨cell_head (o := 0) (v := .pointer (some ⟨b, 0, none⟩)) hcq.ptr rfl, cell_head (o := 1) (v := .int .i64 num) hcq.val rfl⟩
   clear hb4 hk4 hcq
   refine hK _ _ (.inr hS4) ?_
   clear hK K
   try simp only [zA,zN,zB,zC,zD]
   refine wpAnyT_done' hO (by kernel_rfl) ?_ _
   subst hR
   try clear hQp hO O
   go_wp2_with fail
   go_end0
   exact ⟨rfl, Gr.o, Gs.o⟩
  ·have HE := qI (write_4 k1)
   have hsz : v.s.size ≤ 400000 := by
    have h1 := HS.o.2
    have h2 : v.s.size ≤ bytesV (n + 1) v := by
     show _ ≤ v.s.size + v.keyBytes + _
     omega
    omega
   clear Gj HC hkv
   rw [k1] at Gh ⊢
   clear k1 k2
   go_enter Tryz.func132, Tryz.ntmps132
   go_wp2_with fail
   rw [← Gh.o]
   refine (wquote_any Gk.o HT.o (by omega) v.s (by omega) k3).mono ?_
   rintro e1 w2 ⟨rfl, hb2, hk2⟩
   go_wp2_with fail
   go_end0
   exact ⟨rfl, by rw [HE.o]; exact hb2, (KeptB.of0 Ga.o).trans hk2⟩
  ·have HE := qI (write_5 k1)
   have Gl := hkv 5 k1
   have CB := qI (between1_list (n := v.l.length) (b2 := w.heap.size) (b3 := w.heap.size + 1) (it := fun k => (v.l.map (writeV n)).getD k []) (J := PutCap b w.heap.size (w.heap.size + 1) [.int .i64 v.kind, .int .i64 v.num, .string v.s, .slice a v.l.length c, .slice d v.m.length e])
    (fun _ _ h k => h.kept H23.o.1 H23.o.2 k) (fun k w1 l1 hk hc hb1 hl1 => by
     have e1 : (v.l.map (writeV n)).getD k [] = writeV n v.l[k] := by simp [hk]
     have hle : (writeV n v.l[k]).length + 1 ≤ (writeV (n + 1) v).length := by
      rw [HE.o]
      have h1 := preC_len (fun k => (v.l.map (writeV n)).getD k []) k
      have h2 := preC_le (fun k => (v.l.map (writeV n)).getD k []) (show k + 1 ≤ v.l.length from hk)
      simp only [e1] at h1
      simp only [List.length_cons, List.length_append]
      omega
     simp only [e1] at hl1 ⊢
     exact put1_any IH.o H.o Ja.o Jb.o HS.o HT.o H23.o hc hb1 hk hl1) Gj.o Gk.o (by have := HS.o.few; omega) (by
     have := HL.o
     rw [HE.o] at this
     simp only [List.length_cons, List.length_append] at this
     omega))
   clear Gj HC hkv
   rw [k1] at Gh ⊢
   clear k1
   go_enter Tryz.func132, Tryz.ntmps132
   go_wp2_with fail
   rw [← Gh.o]
   refine CB.o.mono ?_
   rintro e1 w2 ⟨rfl, hb2, hk2⟩
   go_wp2_with fail
   go_end0
   exact ⟨rfl, by rw [HE.o]; exact hb2, (KeptB.of0 Ga.o).trans hk2⟩
  ·have HE := qI (write_6 k1)
   have Gl := hkv 6 k1
   have CB := qI (between2_map (n := v.m.length) (b2 := w.heap.size) (b3 := w.heap.size + 1) (it := fun k => (v.m.map (fun p => quoteL p.1.data.toList ++ (58 :: writeV n p.2))).getD k []) (J := PutCap b w.heap.size (w.heap.size + 1) [.int .i64 v.kind, .int .i64 v.num, .string v.s, .slice a v.l.length c, .slice d v.m.length e])
    (fun _ _ h k => h.kept H23.o.1 H23.o.2 k) (fun k w1 l1 hk hc hb1 hl1 => by
     have e1 : (v.m.map (fun p => quoteL p.1.data.toList ++ (58 :: writeV n p.2))).getD k [] = quoteL v.m[k].1.data.toList ++ (58 :: writeV n v.m[k].2) := by simp [hk]
     simp only [e1] at hl1 ⊢
     exact put2_any IH.o H.o Ja.o Jb.o HS.o HT.o k1 H23.o hc hb1 hk hl1) Gj.o Gk.o (by have := HS.o.few; omega) (by
     have := HL.o
     rw [HE.o] at this
     simp only [List.length_cons, List.length_append] at this
     omega))
   clear Gj HC hkv
   rw [k1] at Gh ⊢
   clear k1
   go_enter Tryz.func132, Tryz.ntmps132
   go_wp2_with fail
   rw [← Gh.o]
   refine CB.o.mono ?_
   rintro e1 w2 ⟨rfl, hb2, hk2⟩
   go_wp2_with fail
   go_end0
   exact ⟨rfl, by rw [HE.o]; exact hb2, (KeptB.of0 Ga.o).trans hk2⟩
theorem put_any : ∀ (n : Nat), PutKnown n
 | 0 => fun v => nomatch v
 | n + 1 => put_any_step (put_any n)
theorem str_bytes (w : World) (s : ByteArray) (hs : s.size ≤ 281474976710656) : ∃ a n c w', (convert 9 82 (.string s)).run Tryz.prog w = .ok (.slice a n c) w' ∧ n = s.data.toList.length ∧ Bytes w' (.slice a n c) s.data.toList ∧ Kept [] w w' := by
 refine ⟨_, _, _, _, run_bytes_of_string w 9 82 5 s Tryz.underlying9 Tryz.underlying82 Tryz.underlying5, by simp, ?_, ?_⟩
 ·have hl : s.data.toList.length = s.size := by simp
  refine ⟨by simp, .inr (.inr ⟨w.heap.size, 0, _, by rw [hl], by rw [hl]; exact grownCap_ge _ _ _ _, grownCap_le_maxLen _ _ _ _ (by simp only [maxLen]; omega), ⟨?_, ?_⟩⟩)⟩
  ·intro j u hu
   rw [List.getElem?_map, Option.map_eq_some_iff] at hu
   obtain ⟨b, hb, rfl⟩ := hu
   obtain ⟨hj, rfl⟩ := List.getElem?_eq_some_iff.1 hb
   have hj' : j < s.data.size := by simpa using hj
   rw [Nat.zero_add]
   refine cell_head (heap_alloc_new _ _) ?_
   rw [bytesRow_at s _ j hj']
   simp [bv]
  ·show w.heap.size < (w.drew.alloc _).heap.size
   simp
 ·exact (Kept.refl [] w).drew.alloc _
theorem write_ne {n : Nat} {v : VS (V n)} (h : rightV (n + 1) v = true) : writeV (n + 1) v ≠ [] := by
 rcases own_cases (right_own h) with k | k | k | k | k | k
 ·rw [write_1 k.1]; simp
 ·rw [write_2 k.1]
  cases (v.num == 1)
  ·rw [fb_false]; simp
  ·rw [fb_true]; simp
 ·rw [write_3 k.1]
  obtain ⟨d, t, e, -⟩ := itoa_head v.num
  rw [e]; simp
 ·rw [write_4 k.1]; simp [quoteL]
 ·rw [write_5 k.1]; simp
 ·rw [write_6 k.1]; simp
theorem write_ne' {n : Nat} {v : V n} (h : rightV n v = true) : writeV n v ≠ [] := by
 match n, v, h with
 | 0, v, _ => exact nomatch v
 | n + 1, v, h => exact write_ne h
theorem small_sort {n : Nat} {v : V n} (h : Small n v) : Small n (sortV n v) := ⟨by rw [count_sort]; exact h.1, by rw [bytes_sort]; exact h.2⟩
theorem write_small {n : Nat} {v : V n} (h : rightV n v = true) (hs : Small n v) : (writeV n v).length ≤ 3000000 := by
 have h1 := write_len n v h
 obtain ⟨h2, h3⟩ := hs
 omega
theorem text_any {n : Nat} {v : V n} {S : Nat → Prop} {w : World} {cs : List Value} (h : Rep n S w cs v) (hs : Small n v) (hn : n ≤ 100) (ht : Tabs w) (hc : checkV n v = 0) :
  Calls Tryz.prog 99 #[.agg cs.toArray] w fun e w' => e = .returned (.string (strB (writeV n (sortV n v)))) ∧ Kept [] w w' := by
 obtain ⟨kd, nm, st, a, ca, ea, b, cb, eb, rfl⟩ := h.conv
 obtain ⟨W0, Gc⟩ : ∃ W0, Hid (W0 = (w.alloc (.cells #[.int .i64 kd, .int .i64 nm, .string st, .slice a ca ea, .slice b cb eb] 28)).alloc (.cells #[.pointer none, .slice none 0 0] 172)) := ⟨_, qI rfl⟩
 have Gw : Hid (W0.heap.size = w.heap.size + 2) := qI (by rw [Gc.o]; simp)
 have Ga : Hid (Kept [] w W0) := qI (by rw [Gc.o]; exact ((Kept.refl [] w).alloc _).alloc _)
 have Jf : Hid (W0.heap[w.heap.size + 1]? = some (.cells #[.pointer none, .slice none 0 0] 172 (0, 0))) := qI (by
  rw [Gc.o]; exact block_alloc (by simp))
 have CS := qI (Sorted_any (h.kept0 Ga.o) hs hn (ht.kept0 Ga.o) hc)
 have HT := qI ht
 have Jc := qI (small_sort hs)
 have HR : Hid (rightV n (sortV n v) = true) := qI (by rw [right_sort]; exact check_right hc)
 have Gq := qI (write_small HR.o Jc.o)
 have Jg := qI (write_ne' HR.o)
 clear h hs ht hc
 go_enter Tryz.func99, Tryz.ntmps99
 go_wp2_with fail
 rw [← Gc.o]
 refine CS.o.mono ?_
 rintro e w1 ⟨⟨cs', rfl, hown⟩, hk1⟩
 have Jh : Hid (BW 172 w1 (w.heap.size + 1) w1 []) := qI (BW.new (hk1.heap Jf.o (by simp)))
 have CP := qI (put_any n (sortV n v) (hown.rep.kept0 (Kept.refl [] w1)) (fun g hg => by have := Gw.o; omega) HR.o Jc.o ⟨w, HT.o, Ga.o.then hk1, Nat.le_succ _⟩ Jh.o (by have := Gq.o; simp only [List.length_nil]; omega))
 have Gn := qI (Ga.o.then hk1)
 clear hown hk1
 go_wp2_with fail
 refine CP.o.mono ?_
 rintro e w2 ⟨rfl, hb2, -⟩
 rw [List.nil_append] at hb2
 have Gk := qI hb2
 clear hb2
 go_wp2_with (go_at_call 89; refine (bstring_any Gk.o (by have := Gq.o; omega) Jg.o).mono ?_; rintro e w3 ⟨rfl, hk3, -⟩)
 go_ret
 exact ⟨rfl, Gn.o.trans hk3 (by intro i hi; simp at hi; subst hi; exact .inr (Nat.le_succ _))⟩
theorem encV_bad {n : Nat} {v : V n} (h : checkV n v ≠ 0) : encV n v = ([], checkV n v) := if_pos h
theorem encV_long {n : Nat} {v : V n} (h : checkV n v = 0) (hl : 262144 < (writeV n (sortV n v)).length) : encV n v = ([], 3) := by
 unfold encV; rw [if_neg (by simp [h]), if_pos hl]
theorem encV_fine {n : Nat} {v : V n} (h : checkV n v = 0) (hl : (writeV n (sortV n v)).length ≤ 262144) : encV n v = (writeV n (sortV n v), 0) := by
 unfold encV; rw [if_neg (by simp [h]), if_neg (by omega)]
theorem encode_any {n : Nat} {v : V n} {S : Nat → Prop} {w : World} {cs : List Value} (h : Rep n S w cs v) (hs : Small n v) (hn : n ≤ 100) (ht : Tabs w) :
  Calls Tryz.prog 61 #[.agg cs.toArray] w fun e w' => (∃ a c, e = .returned (.tuple #[.slice a (encV n v).1.length c, .int .i64 (encV n v).2]) ∧ Bytes w' (.slice a (encV n v).1.length c) (encV n v).1) ∧ Kept [] w w' := by
 obtain ⟨kd, nm, st, a, ca, ea, b, cb, eb, rfl⟩ := h.conv
 obtain ⟨W0, Gc⟩ : ∃ W0, Hid (W0 = w.alloc (.cells #[.int .i64 kd, .int .i64 nm, .string st, .slice a ca ea, .slice b cb eb] 28)) := ⟨_, qI rfl⟩
 have Ga : Hid (Kept [] w W0) := qI (by rw [Gc.o]; exact (Kept.refl [] w).alloc _)
 have Jd : Hid (BoxAt W0 w.heap.size kd nm st (.slice a ca ea) (.slice b cb eb)) := qI (by rw [Gc.o]; exact box_at _ _ _ _ _ _ _)
 have CC := qI (check_any (h.kept0 Ga.o) hs hn (ht.kept0 Ga.o))
 have CT : Hid (∀ w1, Kept [] W0 w1 → checkV n v = 0 → _) := qI (fun w1 (k : Kept [] W0 w1) (hc : checkV n v = 0) => text_any ((h.kept0 Ga.o).kept0 k) hs hn ((ht.kept0 Ga.o).kept0 k) hc)
 clear h hs ht
 by_cases hc : checkV n v = 0
 rotate_left
 ·have HE := qI (encV_bad hc)
  have Ji : Hid (checkV n v ≠ 0) := qI hc
  obtain ⟨f1, f2⟩ := int_ne hc
  clear hc
  go_enter Tryz.func61, Tryz.ntmps61
  go_wp2_with fail
  rw [← Gc.o]
  refine CC.o.mono ?_
  rintro e w1 ⟨rfl, hk1⟩
  go_wp2_with fail
  go_ret2
  rw [HE.o]
  exact ⟨⟨_, _, rfl, slc_nil _ _⟩, Ga.o.then hk1⟩
 have HC := qI hc
 clear hc
 by_cases hl : 262144 < (writeV n (sortV n v)).length
 ·have HE := qI (encV_long HC.o hl)
  have hlI : (262144 : Int) < (writeV n (sortV n v)).length := by omega
  go_enter Tryz.func61, Tryz.ntmps61
  go_wp2_with fail
  rw [← Gc.o]
  refine CC.o.mono ?_
  rintro e w1 ⟨rfl, hk1⟩
  rw [HC.o]
  obtain ⟨c0, c1, c2, c3, c4⟩ := Jd.o.kept0 hk1
  have Gn := qI hk1
  have Gu : Hid ((strB (writeV n (sortV n v))).size = (writeV n (sortV n v)).length) := qI (strB_size _)
  clear hk1
  go_wp2_with fail
  refine (CT.o _ Gn.o HC.o).mono ?_
  rintro e w2 ⟨rfl, hk2⟩
  have Gx := qI hk2
  have hsb := Gu.o
  revert hsb
  generalize strB (writeV n (sortV n v)) = T
  intro hsb
  have hsI : (262144 : Int) < T.size := by omega
  clear hsb hk2 c0 c1 c2 c3 c4 hl hlI
  go_wp2_with fail
  go_ret2
  rw [HE.o]
  exact ⟨⟨_, _, rfl, slc_nil _ _⟩, (Ga.o.then Gn.o).then Gx.o⟩
 ·have HE := qI (encV_fine HC.o (by omega))
  go_enter Tryz.func61, Tryz.ntmps61
  go_wp2_with fail
  rw [← Gc.o]
  refine CC.o.mono ?_
  rintro e w1 ⟨rfl, hk1⟩
  rw [HC.o]
  obtain ⟨c0, c1, c2, c3, c4⟩ := Jd.o.kept0 hk1
  have Gn := qI hk1
  have Gu : Hid ((strB (writeV n (sortV n v))).size = (writeV n (sortV n v)).length ∧ (strB (writeV n (sortV n v))).data.toList = writeV n (sortV n v)) := qI ⟨strB_size _, strB_list _⟩
  clear hk1
  go_wp2_with fail
  refine (CT.o _ Gn.o HC.o).mono ?_
  rintro e w2 ⟨rfl, hk2⟩
  have Gx := qI hk2
  have hsb := Gu.o.1
  obtain ⟨a2, n2, c2', w3, hrun, hn2, hb3, hk3⟩ := str_bytes w2 (strB (writeV n (sortV n v))) (by omega)
  rw [Gu.o.2] at hn2 hb3
  subst hn2
  have Gm := qI hb3
  have Gf := qI hk3
  revert hsb hrun
  generalize strB (writeV n (sortV n v)) = T
  intro hsb hrun
  have hsI : (T.size : Int) ≤ 262144 := by omega
  clear hsb hk2 hk3 hb3 c0 c1 c2 c3 c4 hl
  go_wp2_with fail
  go_ret2
  rw [HE.o]
  exact ⟨⟨_, _, rfl, Gm.o⟩, ((Ga.o.then Gn.o).then Gx.o).then Gf.o⟩
structure KeyS where
 bits : Int
 height : Int
 root : List UInt8
def keyL (k : KeyS) : List Value := .int .i64 k.bits :: .int .i64 k.height :: k.root.map bv
def keyA (k : KeyS) : Array Value := (keyL k).toArray
theorem keyL_len {k : KeyS} (h : k.root.length = 32) : (keyL k).length = 34 := by simp [keyL, h]
def mayBits (b : Int) : Bool := decide (8 ≤ b) && (decide (b ≤ 256) && decide (b % 8 = 0))
def mayKey (k : KeyS) : Bool := mayBits k.bits && (decide (0 ≤ k.height) && decide (k.height ≤ 6))
def KeyAt (w : World) (g : Nat) (k : KeyS) : Prop := w.heap[g]? = some (.cells (keyA k) 24 (0, 0))
theorem KeyAt.kept0 {w w' : World} {g : Nat} {k : KeyS} (h : KeyAt w g k) (hk : Kept [] w w') : KeyAt w' g k := hk.heap h (by simp)
theorem KeyAt.c0 {w : World} {g : Nat} {k : KeyS} (h : KeyAt w g k) : w.cell? ⟨g, 0, none⟩ = some (.int .i64 k.bits) := cell_head h rfl
theorem KeyAt.c1 {w : World} {g : Nat} {k : KeyS} (h : KeyAt w g k) : w.cell? ⟨g, 1, none⟩ = some (.int .i64 k.height) := cell_head h rfl
theorem KeyAt.range {w : World} {g : Nat} {k : KeyS} (h : KeyAt w g k) : w.rangeAt g 0 (keyL k) := fun j v hv => by
 rw [Nat.zero_add]; exact cell_head h (by simpa [keyA] using hv)
theorem KeyAt.root {w : World} {g : Nat} {k : KeyS} (h : KeyAt w g k) (hl : k.root.length = 32) : Bytes w (.slice (some ⟨g, 2, none⟩) 32 32) k.root := by
 refine ⟨by simp, .inr (.inr ⟨g, 2, 32, by rw [hl], by omega, by decide, ⟨fun j u hu => ?_, lt_of_block h⟩⟩)⟩
 refine cell_head h ?_
 rw [keyA, List.getElem?_toArray, keyL, show 2 + j = j + 1 + 1 by omega, List.getElem?_cons_succ, List.getElem?_cons_succ]
 exact hu
theorem info34 : (Tryz.prog.info? 24).map (·.size) = some 34 := by kernel_rfl
theorem wpList_load34 {ops : Array Oper} {rest : List Oper} {op : Oper} {a : Act} {w : World} {Q : Exit → Act → World → Prop} (hgd : op.guard = none) (x : Operand) (ho : op.op = .load 24 x) {g : Nat} {k : KeyS} (h0 : KeyAt w g k) (hl : k.root.length = 32)
  (hx : a.eval x = .pointer (some ⟨g, 0, none⟩)) (h : wpList Tryz.prog ops Q rest (a.put op.dst (.agg (keyA k))) w) : wpList Tryz.prog ops Q (op :: rest) a w :=
 wpList_load_mid hgd 24 x ho g 0 hx (keyL k) _ h0.range Tryz.underlying24 rfl (by rw [keyL_len hl]; exact info34) h
theorem lamMay_any (b : Int) (h0 : -9223372036854775808 ≤ b) (h1 : b ≤ 9223372036854775807) (w : World) : Calls Tryz.prog 86 #[.int .i64 b] w fun e w' => e = .returned (.bool (mayBits b)) ∧ w = w' := by
 have HB : Hid (mayBits b = (decide (8 ≤ b) && (decide (b ≤ 256) && decide (b % 8 = 0)))) := qI rfl
 by_cases k1 : 8 ≤ b
 ·have d1 : decide (8 ≤ b) = true := decide_eq_true k1
  by_cases k2 : b ≤ 256
  ·have d2 : decide (b ≤ 256) = true := decide_eq_true k2
   by_cases k3 : b % 8 = 0
   all_goals
    go_enter Tryz.func86, Tryz.ntmps86
    go_wp2_with fail
    go_ret
    exact ⟨by rw [HB.o, d1, d2]; simp [k3], rfl⟩
  ·have d2 : decide (b ≤ 256) = false := decide_eq_false k2
   go_enter Tryz.func86, Tryz.ntmps86
   go_wp2_with fail
   go_ret
   exact ⟨by rw [HB.o, d1, d2]; rfl, rfl⟩
 ·have d1 : decide (8 ≤ b) = false := decide_eq_false k1
  go_enter Tryz.func86, Tryz.ntmps86
  go_wp2_with fail
  go_ret
  exact ⟨by rw [HB.o, d1]; rfl, rfl⟩
def wf64I (b : Int) : Prop := -9223372036854775808 ≤ b ∧ b ≤ 9223372036854775807
theorem signMay_any (k : KeyS) (hb : wf64I k.bits) (w : World) : Calls Tryz.prog 39 #[.agg (keyA k)] w fun e w' => e = .returned (.bool (mayKey k)) ∧ Kept [] w w' := by
 have HM : Hid (mayKey k = (mayBits k.bits && (decide (0 ≤ k.height) && decide (k.height ≤ 6)))) := qI rfl
 obtain ⟨W0, Gc⟩ : ∃ W0, Hid (W0 = w.alloc (.cells (keyA k) 24)) := ⟨_, qI rfl⟩
 have Ga : Hid (Kept [] w W0) := qI (by rw [Gc.o]; exact (Kept.refl _ w).alloc _)
 have HA : Hid (KeyAt W0 w.heap.size k) := qI (by rw [Gc.o]; exact block_alloc rfl)
 have CL := qI (fun w1 : World => lamMay_any k.bits hb.1 hb.2 w1)
 have c0 := HA.o.c0
 have c1 := HA.o.c1
 revert HM CL
 generalize mayBits k.bits = r
 intro HM CL
 cases r with
 | false =>
  go_enter Tryz.func39, Tryz.ntmps39
  go_upto_region 1 with fail
  rw [← Gc.o]
  go_wp2_with (go_at_call 86; refine (CL.o _).mono ?_; rintro e w2 ⟨rfl, rfl⟩)
  go_ret
  exact ⟨by rw [HM.o]; rfl, Ga.o⟩
 | true =>
  by_cases k1 : 0 ≤ k.height
  ·have d1 : decide (0 ≤ k.height) = true := decide_eq_true k1
   go_enter Tryz.func39, Tryz.ntmps39
   go_upto_region 1 with fail
   rw [← Gc.o]
   go_wp2_with (go_at_call 86; refine (CL.o _).mono ?_; rintro e w2 ⟨rfl, rfl⟩)
   go_ret
   exact ⟨by rw [HM.o, d1]; rfl, Ga.o⟩
  ·have d1 : decide (0 ≤ k.height) = false := decide_eq_false k1
   go_enter Tryz.func39, Tryz.ntmps39
   go_upto_region 1 with fail
   rw [← Gc.o]
   go_wp2_with (go_at_call 86; refine (CL.o _).mono ?_; rintro e w2 ⟨rfl, rfl⟩)
   go_ret
   exact ⟨by rw [HM.o, d1]; rfl, Ga.o⟩
theorem valInt_any (n : Int) (w : World) : Calls Tryz.prog 42 #[.int .i64 n] w fun e w' => e = .returned (.agg #[.int .i64 3, .int .i64 n, .string ⟨#[]⟩, .slice none 0 0, .slice none 0 0]) ∧ Kept [] w w' := by
 go_enter Tryz.func42, Tryz.ntmps42
 go_wp2_with fail
 exact bodyPost_ret (v := .agg #[.int .i64 3, .int .i64 n, .string ⟨#[]⟩, .slice none 0 0, .slice none 0 0]) (by simp [results, Tryz.results42, go_sem]) rfl ⟨rfl, (Kept.refl _ _).alloc _⟩
theorem valText_any (s : ByteArray) (w : World) : Calls Tryz.prog 43 #[.string s] w fun e w' => e = .returned (.agg #[.int .i64 4, .int .i64 0, .string s, .slice none 0 0, .slice none 0 0]) ∧ Kept [] w w' := by
 go_enter Tryz.func43, Tryz.ntmps43
 go_wp2_with fail
 exact bodyPost_ret (v := .agg #[.int .i64 4, .int .i64 0, .string s, .slice none 0 0, .slice none 0 0]) (by simp [results, Tryz.results43, go_sem]) rfl ⟨rfl, (Kept.refl _ _).alloc _⟩
theorem pair_any (key : ByteArray) (k m : Int) (s : ByteArray) (p : Option Addr) (i c : Nat) (q : Option Addr) (j d : Nat) (w : World) : Calls Tryz.prog 41 #[.string key, .agg #[.int .i64 k, .int .i64 m, .string s, .slice p i c, .slice q j d]] w fun e w' => e = .returned (.agg #[.string key, .int .i64 k, .int .i64 m, .string s, .slice p i c, .slice q j d]) ∧ Kept [] w w' := by
 go_enter Tryz.func41, Tryz.ntmps41
 go_wp2_with fail
 exact bodyPost_ret (v := .agg #[.string key, .int .i64 k, .int .i64 m, .string s, .slice p i c, .slice q j d]) (by simp [results, Tryz.results41, go_sem]) rfl ⟨rfl, ((Kept.refl _ _).alloc _).alloc _⟩
def mapV {α : Type} (m : List (ByteArray × α)) : VS α := ⟨6, 0, ⟨#[]⟩, [], m⟩
def listV {α : Type} (l : List α) : VS α := ⟨5, 0, ⟨#[]⟩, l, []⟩
def intV {α : Type} (n : Int) : VS α := ⟨3, n, ⟨#[]⟩, [], []⟩
def textV {α : Type} (s : ByteArray) : VS α := ⟨4, 0, s, [], []⟩
theorem rep_map {n : Nat} {S : Nat → Prop} {w : World} {m : List (ByteArray × V n)} {mcs : List (ByteArray × List Value)} {a : Option Addr} {c : Nat} (hs : Slc w 6 (.slice a m.length c) m.length (pairCs mcs)) (hm : All2 (pairR (Rep n S w)) mcs m) (hS : ∀ g, vblk (.slice a m.length c) = some g → S g) : Rep (n + 1) S w [.int .i64 6, .int .i64 0, .string ⟨#[]⟩, .slice none 0 0, .slice a m.length c] (mapV m) :=
 ⟨.slice none 0 0, _, [], mcs, { cells := rfl, slcl := slc_nil _ _, alll := All2.nil _, slcm := hs, allm := hm, inl := by simp [vblk], inm := hS, wfk := wf64 (i := 6) (by decide) (by decide), wfn := wf64 (i := 0) (by decide) (by decide) }⟩
theorem rep_list {n : Nat} {S : Nat → Prop} {w : World} {l : List (V n)} {lcs : List (List Value)} {a : Option Addr} {c : Nat} (hs : Slc w 5 (.slice a l.length c) l.length lcs.flatten) (hm : All2 (Rep n S w) lcs l) (hS : ∀ g, vblk (.slice a l.length c) = some g → S g) : Rep (n + 1) S w [.int .i64 5, .int .i64 0, .string ⟨#[]⟩, .slice a l.length c, .slice none 0 0] (listV l) :=
 ⟨_, .slice none 0 0, lcs, [], { cells := rfl, slcl := hs, alll := hm, slcm := slc_nil _ _, allm := All2.nil _, inl := hS, inm := by simp [vblk], wfk := wf64 (i := 5) (by decide) (by decide), wfn := wf64 (i := 0) (by decide) (by decide) }⟩
theorem rep_int {n : Nat} (S : Nat → Prop) (w : World) (z : Int) (h : wf64I z) : Rep (n + 1) S w [.int .i64 3, .int .i64 z, .string ⟨#[]⟩, .slice none 0 0, .slice none 0 0] (intV z) := rep_leaf S w (intV z) rfl rfl (wf64 (i := 3) (by decide) (by decide)) (wf64 h.1 h.2)
theorem rep_text {n : Nat} (S : Nat → Prop) (w : World) (s : ByteArray) : Rep (n + 1) S w [.int .i64 4, .int .i64 0, .string s, .slice none 0 0, .slice none 0 0] (textV s) := rep_leaf S w (textV s) rfl rfl (wf64 (i := 4) (by decide) (by decide)) (wf64 (i := 0) (by decide) (by decide))
def New (n : Nat) (w w' : World) (e : Ending) (v : V n) : Prop := ∃ cs : List Value, e = .returned (.agg cs.toArray) ∧ OwnD n (fun g => w.heap.size ≤ g ∧ g < w'.heap.size) w' cs v
theorem valMap_any {n : Nat} {S : Nat → Prop} {w : World} {m : List (ByteArray × V n)} {mcs : List (ByteArray × List Value)} {a : Option Addr} {c : Nat} (hs : Slc w 6 (.slice a m.length c) m.length (pairCs mcs)) (hm : All2 (pairR (Rep n S w)) mcs m) (hsm : Small (n + 1) (mapV m)) :
  Calls Tryz.prog 40 #[.slice a m.length c] w fun e w' => New (n + 1) w w' e (mapV m) ∧ Kept [] w w' := by
 obtain ⟨W0, Gc⟩ : ∃ W0, Hid (W0 = w.alloc (.cells #[.int .i64 0, .int .i64 0, .string ⟨#[]⟩, .slice none 0 0, .slice none 0 0] 28)) := ⟨_, qI rfl⟩
 have Ga : Hid (Kept [] w W0) := qI (by rw [Gc.o]; exact (Kept.refl _ w).alloc _)
 have HR : Hid (W0.heap[w.heap.size]? = some (.cells #[.int .i64 0, .int .i64 0, .string ⟨#[]⟩, .slice none 0 0, .slice none 0 0] 28 (0, 0))) := qI (by rw [Gc.o]; exact block_alloc rfl)
 have CC := qI (cloneD_any (n + 1) (mapV m) (rep_map (S := fun _ => True) (hs.kept0 Ga.o) (hm.mono fun _ _ _ r => ⟨r.1, (r.2.kept0 Ga.o).mono (fun _ _ _ => trivial)⟩) (fun _ _ => trivial)) hsm)
 clear hs hm hsm
 go_enter Tryz.func40, Tryz.ntmps40
 go_upto_region 1 with fail
 rw [← Gc.o]
 go_wp2_with (go_at_call 87; refine CC.o.mono ?_; rintro e w3 ⟨⟨cs3, rfl, ho3⟩, hk3⟩; obtain ⟨k3, m3, s3, x3, j3, c3, y3, l3, e3, rfl⟩ := ho3.rep.conv; have Gy := qI ho3; have Gf := qI hk3; have Gg := qI (hk3.heap HR.o (by simp)); have r0 := cell_head (o := 0) (v := .int .i64 0) Gg.o rfl; have r1 := cell_head (o := 1) (v := .int .i64 0) Gg.o rfl; have r2 := cell_head (o := 2) (v := .string ⟨#[]⟩) Gg.o rfl; have r3 := cell_head (o := 3) (v := .slice none 0 0) Gg.o rfl; have r4 := cell_head (o := 4) (v := .slice none 0 0) Gg.o rfl; have z : ∀ j, w3.frozen? ⟨w.heap.size, j, none⟩ = false := fun j => free_head Gg.o; clear ho3 hk3)
 change bodyPost _ _ _ _ _ (put5 w3 w.heap.size k3 m3 s3 (.slice x3 j3 c3) (.slice y3 l3 e3))
 have Gi := put5_kept w3 w.heap.size k3 m3 s3 (.slice x3 j3 c3) (.slice y3 l3 e3)
 have Gp := put5_at Gg.o k3 m3 s3 (.slice x3 j3 c3) (.slice y3 l3 e3)
 revert Gi Gp
 generalize put5 w3 w.heap.size k3 m3 s3 (.slice x3 j3 c3) (.slice y3 l3 e3) = WF
 intro Gi Gp
 obtain ⟨z0, z1, z2, z3, z4⟩ := box_of Gp
 refine bodyPost_ret (v := .agg #[.int .i64 k3, .int .i64 m3, .string s3, .slice x3 j3 c3, .slice y3 l3 e3]) (by simp [results, Tryz.results40, go_sem, z0, z1, z2, z3, z4]) rfl ⟨?_, (Ga.o.then Gf.o).trans Gi (by intro i hi; simp at hi; subst hi; exact .inr (Nat.le_refl _))⟩
 have hsz : W0.heap.size = w.heap.size + 1 := by rw [Gc.o]; simp
 exact ⟨_, rfl, (Gy.o.kept Gi (by intro k hk; simp at hk; subst hk; omega)).mono (fun g ⟨h5, h6⟩ => ⟨by omega, Nat.lt_of_lt_of_le h6 Gi.size⟩)⟩
theorem valList_any {n : Nat} {S : Nat → Prop} {w : World} {l : List (V n)} {lcs : List (List Value)} {a : Option Addr} {c : Nat} (hs : Slc w 5 (.slice a l.length c) l.length lcs.flatten) (hm : All2 (Rep n S w) lcs l) (hsm : Small (n + 1) (listV l)) :
  Calls Tryz.prog 65 #[.slice a l.length c] w fun e w' => New (n + 1) w w' e (listV l) ∧ Kept [] w w' := by
 obtain ⟨W0, Gc⟩ : ∃ W0, Hid (W0 = w.alloc (.cells #[.int .i64 0, .int .i64 0, .string ⟨#[]⟩, .slice none 0 0, .slice none 0 0] 28)) := ⟨_, qI rfl⟩
 have Ga : Hid (Kept [] w W0) := qI (by rw [Gc.o]; exact (Kept.refl _ w).alloc _)
 have HR : Hid (W0.heap[w.heap.size]? = some (.cells #[.int .i64 0, .int .i64 0, .string ⟨#[]⟩, .slice none 0 0, .slice none 0 0] 28 (0, 0))) := qI (by rw [Gc.o]; exact block_alloc rfl)
 have CC := qI (cloneD_any (n + 1) (listV l) (rep_list (S := fun _ => True) (hs.kept0 Ga.o) (hm.mono fun _ _ _ r => (r.kept0 Ga.o).mono (fun _ _ _ => trivial)) (fun _ _ => trivial)) hsm)
 clear hs hm hsm
 go_enter Tryz.func65, Tryz.ntmps65
 go_upto_region 1 with fail
 rw [← Gc.o]
 go_wp2_with (go_at_call 87; refine CC.o.mono ?_; rintro e w3 ⟨⟨cs3, rfl, ho3⟩, hk3⟩; obtain ⟨k3, m3, s3, x3, j3, c3, y3, l3, e3, rfl⟩ := ho3.rep.conv; have Gy := qI ho3; have Gf := qI hk3; have Gg := qI (hk3.heap HR.o (by simp)); have r0 := cell_head (o := 0) (v := .int .i64 0) Gg.o rfl; have r1 := cell_head (o := 1) (v := .int .i64 0) Gg.o rfl; have r2 := cell_head (o := 2) (v := .string ⟨#[]⟩) Gg.o rfl; have r3 := cell_head (o := 3) (v := .slice none 0 0) Gg.o rfl; have r4 := cell_head (o := 4) (v := .slice none 0 0) Gg.o rfl; have z : ∀ j, w3.frozen? ⟨w.heap.size, j, none⟩ = false := fun j => free_head Gg.o; clear ho3 hk3)
 change bodyPost _ _ _ _ _ (put5 w3 w.heap.size k3 m3 s3 (.slice x3 j3 c3) (.slice y3 l3 e3))
 have Gi := put5_kept w3 w.heap.size k3 m3 s3 (.slice x3 j3 c3) (.slice y3 l3 e3)
 have Gp := put5_at Gg.o k3 m3 s3 (.slice x3 j3 c3) (.slice y3 l3 e3)
 revert Gi Gp
 generalize put5 w3 w.heap.size k3 m3 s3 (.slice x3 j3 c3) (.slice y3 l3 e3) = WF
 intro Gi Gp
 obtain ⟨z0, z1, z2, z3, z4⟩ := box_of Gp
 refine bodyPost_ret (v := .agg #[.int .i64 k3, .int .i64 m3, .string s3, .slice x3 j3 c3, .slice y3 l3 e3]) (by simp [results, Tryz.results65, go_sem, z0, z1, z2, z3, z4]) rfl ⟨?_, (Ga.o.then Gf.o).trans Gi (by intro i hi; simp at hi; subst hi; exact .inr (Nat.le_refl _))⟩
 have hsz : W0.heap.size = w.heap.size + 1 := by rw [Gc.o]; simp
 exact ⟨_, rfl, (Gy.o.kept Gi (by intro k hk; simp at hk; subst hk; omega)).mono (fun g ⟨h5, h6⟩ => ⟨by omega, Nat.lt_of_lt_of_le h6 Gi.size⟩)⟩
end Go.Proofs.YtckbnjipecclaaaGreatDoor

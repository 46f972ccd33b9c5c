/- Parts of one proof, merged: XKU XKV XKW XIB. -/
import Derived.Test.YtibnfbglanpoiaaGreatDoorQcM
import Derived.Test.YtibnfbglanpoiaaGreatDoorQcN
import Derived.Laws.IdiomStrings
import Derived.Test.YtibnfbglanpoiaaGreatDoorQcH
import Derived.Test.YtibnfbglanpoiaaGreatDoorQcL
set_option linter.all false
set_option maxHeartbeats 12800000
set_option maxRecDepth 10000
set_option linter.unusedVariables false
set_option linter.unusedSimpArgs false
set_option linter.unnecessarySimpa false
namespace Go.Proofs.YtibnfbglanpoiaaGreatDoor
open Go.Proofs.Tryz
open Go.RowKit
def bT (n:Nat):Prop:=∀ (v:V n) {S:Nat→Prop}{W w:World}{cs:List Value}{b:Nat}{l:List UInt8},Rep n S W cs v→(∀ g,S g→g≠b)→zo n v=true→yk n v→JY b W→BW 200 W b w l→l.length + (zq n v).length≤50000000 →
 Calls Tryz.prog 149 #[.pointer (some ⟨b,0,none⟩),.agg cs.toArray] w fun e w'=>e = .returned (.tuple #[])∧BW 200 W b w' (l ++ zq n v)∧zU b w w'
structure bo (b b2 b3:Nat) (cs:List Value) (w:World):Prop where
 ptr:w.heap[b2]? = some (.cells #[.pointer (some ⟨b,0,none⟩)] 198 (0,0))
 val:w.heap[b3]? = some (.cells cs.toArray 25 (0,0))
theorem bo.kept {b b2 b3:Nat}{cs:List Value}{w w':World}(h:bo b b2 b3 cs w) (h2:b2≠b) (h3:b3≠b) (k:zU b w w'):bo b b2 b3 cs w':=
 ⟨k.heap h.ptr h2 (by rw [zH h.ptr];decide),k.heap h.val h3 (by rw [zH h.val];decide)⟩
section
variable {n : Nat} {v : VS (V n)} {S : Nat → Prop} {W w : World} {cs : List Value} {b b2 b3 k : Nat} {l : List UInt8} {a d : Option Addr} {c e : Nat} {lcs : List (List Value)} {mcs : List (ByteArray × List Value)}
theorem put1_any (IH:bT n) (H:yF (Rep n S W) S W cs v (.slice a v.l.length c) (.slice d v.m.length e) lcs mcs) (hS:∀ g,S g→g≠b) (hr:zo (n + 1) v=true) (hs:yk (n + 1) v) (ht:JY b W) (h23:b2≠b∧b3≠b)
  (hc:bo b b2 b3 [.int .i64 v.kind,.int .i64 v.num,.string v.s,.slice a v.l.length c,.slice d v.m.length e] w) (hb:BW 200 W b w l) (hk:k < v.l.length) (hl:l.length + (zq n v.l[k]).length≤50000000) :
  Calls Tryz.prog 187 #[.int .i64 k,.pointer (some ⟨b2,0,none⟩),.pointer (some ⟨b3,0,none⟩)] w fun r w2=>r = .returned (.tuple #[])∧BW 200 W b w2 (l ++ zq n v.l[k])∧zU b w w2:=by
 obtain⟨g,o,cap,kd,nm,st,a1,b1,he,q0,q1,q2,q3,q4,hrk⟩:=H.at_l (zb.refl _ _) k hk
 simp only [Value.slice.injEq] at he
 obtain⟨rfl,-,rfl⟩:=he
 have hg:g≠b:=hS g (H.inl g (jW (by omega)))
 obtain⟨p1,i1,d1,p2,i2,d2,rfl,rfl⟩:=hrk.sl
 have hgb:g ∉ [b]:=by simpa using hg
 have Ga:Hid (∀ w1,zb [b] W w1→w1.cell? ⟨g,o + k * 5,none⟩=some (.int .i64 kd)∧w1.cell? ⟨g,o + k * 5 + 1,none⟩=some (.int .i64 nm)∧w1.cell? ⟨g,o + k * 5 + 2,none⟩=some (.string st)∧w1.cell? ⟨g,o + k * 5 + 3,none⟩=some (.slice p1 i1 d1)∧w1.cell? ⟨g,o + k * 5 + 4,none⟩=some (.slice p2 i2 d2)):=
  qI fun w1 k1=>⟨k1.cell q0 hgb,k1.cell q1 hgb,k1.cell q2 hgb,k1.cell q3 hgb,k1.cell q4 hgb⟩
 have Gc:Hid (∀ w1,zU b w w1→w1.cell? ⟨b2,0,none⟩=some (.pointer (some ⟨b,0,none⟩))∧w1.cell? ⟨b3,3,none⟩=some (.slice (some ⟨g,o,none⟩) v.l.length c)):=
  qI fun w1 k1=>⟨za (o:=0) (v:=.pointer (some ⟨b,0,none⟩)) (hc.kept h23.1 h23.2 k1).ptr rfl,za (o:=3) (v:=.slice (some ⟨g,o,none⟩) v.l.length c) (hc.kept h23.1 h23.2 k1).val rfl⟩
 obtain⟨r0,r1,r2,r3,r4⟩:=Ga.o w hb.kept
 obtain⟨c2,c3⟩:=Gc.o w (zU.refl _ _)
 have hkI:(k:Int) < v.l.length:=by omega
 have CL:Hid (∀ w1,BW 200 W b w1 l→_):=qI (fun w1 (h1:BW 200 W b w1 l)=>IH v.l[k] hrk hS (qz hr (kE (List.getElem_mem hk))) (hs.kid (kE (List.getElem_mem hk))) ht h1 hl)
 have HB:=qI hb
 have Gn:Hid (v.l.length≤20000):=qI (by have:=hs.few;omega)
 have HK:Hid (k < v.l.length):=qI hk
 clear H hS hr hs ht hc hb q0 q1 q2 q3 q4 hrk hg hgb IH
 revert CL
 generalize zq n v.l[k]=T
 intro CL
 clear hl hk
 go_enter func187,ntmps187
 refine zr (n:=7) (fun w':World=>w'.cell? ⟨b2,0,none⟩=some (.pointer (some ⟨b,0,none⟩))∧w'.cell? ⟨b3,3,none⟩=some (.slice (some ⟨g,o,none⟩) v.l.length c)∧w'.cell? ⟨g,o + k * 5,none⟩=some (.int .i64 kd)∧w'.cell? ⟨g,o + k * 5 + 1,none⟩=some (.int .i64 nm)∧w'.cell? ⟨g,o + k * 5 + 2,none⟩=some (.string st)∧w'.cell? ⟨g,o + k * 5 + 3,none⟩=some (.slice p1 i1 d1)∧w'.cell? ⟨g,o + k * 5 + 4,none⟩=some (.slice p2 i2 d2)) 7 (by kernel_rfl) (by kernel_rfl) ?_
 change zM _ _ _ _ _ _ _ _ _ w.drew
 have hSS:(fun w':World=>w'.cell? ⟨b2,0,none⟩=some (.pointer (some ⟨b,0,none⟩))∧w'.cell? ⟨b3,3,none⟩=some (.slice (some ⟨g,o,none⟩) v.l.length c)∧w'.cell? ⟨g,o + k * 5,none⟩=some (.int .i64 kd)∧w'.cell? ⟨g,o + k * 5 + 1,none⟩=some (.int .i64 nm)∧w'.cell? ⟨g,o + k * 5 + 2,none⟩=some (.string st)∧w'.cell? ⟨g,o + k * 5 + 3,none⟩=some (.slice p1 i1 d1)∧w'.cell? ⟨g,o + k * 5 + 4,none⟩=some (.slice p2 i2 d2)) w.drew:=⟨c2,c3,r0,r1,r2,r3,r4⟩
 have Ge:Hid (zb [] w w.drew):=qI (zb.refl _ _).drew
 clear c2 c3 r0 r1 r2 r3 r4
 revert hSS Ge
 generalize w.drew=WD
 intro hSS Ge
 refine zG ?_
 intro O R hO hR
 have hQp:∀ c a (d:Nat) v w,R (.panic c) (a.put (some d) v) w→R (.panic c) a w:=by subst hR;exact fun _ _ _ _ _ h=>h
 refine qT 0 ?_ hO rfl rfl (by kernel_rfl) hQp (fun w hSw=>?_) hSS ?_
 rotate_left
 ·obtain⟨s0,s1,s2,s3,s4,s5,s6⟩:=hSw;go_simp;try with_reducible rfl
 try simp only [zA,zN,zB,zC,zD]
 refine qT 1 ?_ hO rfl rfl (by kernel_rfl) hQp (fun w hSw=>?_) hSS ?_
 rotate_left
 ·obtain⟨s0,s1,s2,s3,s4,s5,s6⟩:=hSw;go_simp;try with_reducible rfl
 try simp only [zA,zN,zB,zC,zD]
 refine qT 2 ?_ hO rfl rfl (by kernel_rfl) hQp (fun w hSw=>?_) hSS ?_
 rotate_left
 ·obtain⟨s0,s1,s2,s3,s4,s5,s6⟩:=hSw;go_simp;try with_reducible rfl
 try simp only [zA,zN,zB,zC,zD]
 refine qT 3 ?_ hO rfl rfl (by kernel_rfl) hQp (fun w hSw=>?_) hSS ?_
 rotate_left
 ·obtain⟨s0,s1,s2,s3,s4,s5,s6⟩:=hSw;go_simp;try with_reducible rfl
 try simp only [zA,zN,zB,zC,zD]
 refine qT 4 ?_ hO rfl rfl (by kernel_rfl) hQp (fun w hSw=>?_) hSS ?_
 rotate_left
 ·obtain⟨s0,s1,s2,s3,s4,s5,s6⟩:=hSw;go_simp;try with_reducible rfl
 try simp only [zA,zN,zB,zC,zD]
 refine qT 5 ?_ hO rfl rfl (by kernel_rfl) hQp (fun w hSw=>?_) hSS ?_
 rotate_left
 ·obtain⟨s0,s1,s2,s3,s4,s5,s6⟩:=hSw;go_simp;try with_reducible rfl
 try simp only [zA,zN,zB,zC,zD]
 refine qO 6 hO rfl (by kernel_rfl) (fun K hK=>?_)
 go_simp
 refine Calls.mono (CL.o _ (HB.o.stay Ge.o)) ?_
 rintro e w3 ⟨rfl,hb3,hk3⟩
 have Gk:=qI hb3
 have Gf:=qI ((zU.of0 Ge.o).trans hk3)
 clear hb3 hk3
 refine hK _ _ (.inr ⟨(Gc.o w3 Gf.o).1,(Gc.o w3 Gf.o).2,Ga.o w3 Gk.o.kept⟩) ?_
 clear hK K
 try simp only [zA,zN,zB,zC,zD]
 refine zE hO (by kernel_rfl) ?_ _
 subst hR
 try clear hQp hO O
 go_wp2_with fail
 go_end0
 exact⟨rfl,Gk.o,Gf.o⟩
theorem put2_any (IH:bT n) (H:yF (Rep n S W) S W cs v (.slice a v.l.length c) (.slice d v.m.length e) lcs mcs) (hS:∀ g,S g→g≠b) (hr:zo (n + 1) v=true) (hs:yk (n + 1) v) (ht:JY b W) (hkey:v.kind=6) (h23:b2≠b∧b3≠b)
  (hc:bo b b2 b3 [.int .i64 v.kind,.int .i64 v.num,.string v.s,.slice a v.l.length c,.slice d v.m.length e] w) (hb:BW 200 W b w l) (hk:k < v.m.length) (hl:l.length + (yr v.m[k].1.data.toList ++ (58 :: zq n v.m[k].2)).length≤50000000) :
  Calls Tryz.prog 188 #[.int .i64 k,.pointer (some ⟨b2,0,none⟩),.pointer (some ⟨b3,0,none⟩)] w fun r w2=>r = .returned (.tuple #[])∧BW 200 W b w2 (l ++ (yr v.m[k].1.data.toList ++ (58 :: zq n v.m[k].2)))∧zU b w w2:=by
 obtain⟨g,o,cap,kd,nm,st,a1,b1,he,qk,q0,q1,q2,q3,q4,hrk⟩:=H.at_m (zb.refl _ _) k hk
 simp only [Value.slice.injEq] at he
 obtain⟨rfl,-,rfl⟩:=he
 have hg:g≠b:=hS g (H.inm g (jW (by omega)))
 obtain⟨p1,i1,d1,p2,i2,d2,rfl,rfl⟩:=hrk.sl
 have hgb:g ∉ [b]:=by simpa using hg
 have Ga:Hid (∀ w1,zb [b] W w1→w1.cell? ⟨g,o + k * 6,none⟩=some (.string v.m[k].1)∧w1.cell? ⟨g,o + k * 6 + 1,none⟩=some (.int .i64 kd)∧w1.cell? ⟨g,o + k * 6 + 2,none⟩=some (.int .i64 nm)∧w1.cell? ⟨g,o + k * 6 + 3,none⟩=some (.string st)∧w1.cell? ⟨g,o + k * 6 + 4,none⟩=some (.slice p1 i1 d1)∧w1.cell? ⟨g,o + k * 6 + 5,none⟩=some (.slice p2 i2 d2)):=
  qI fun w1 k1=>⟨k1.cell qk hgb,k1.cell q0 hgb,k1.cell q1 hgb,k1.cell q2 hgb,k1.cell q3 hgb,k1.cell q4 hgb⟩
 have Gc:Hid (∀ w1,zU b w w1→w1.cell? ⟨b2,0,none⟩=some (.pointer (some ⟨b,0,none⟩))∧w1.cell? ⟨b3,4,none⟩=some (.slice (some ⟨g,o,none⟩) v.m.length e)):=
  qI fun w1 k1=>⟨za (o:=0) (v:=.pointer (some ⟨b,0,none⟩)) (hc.kept h23.1 h23.2 k1).ptr rfl,za (o:=4) (v:=.slice (some ⟨g,o,none⟩) v.m.length e) (hc.kept h23.1 h23.2 k1).val rfl⟩
 have hkI:(k:Int) < v.m.length:=by omega
 have hkz:(v.m[k].1).size≤400000:=Nat.le_trans (key_le (List.getElem_mem hk)) hs.2
 have hok:yY v.m=true:=by
  rcases kK (kM hr) with h | h | h | h | h | h
  ·rw [hkey] at h;exact absurd h.1 (by decide)
  ·rw [hkey] at h;exact absurd h.1 (by decide)
  ·rw [hkey] at h;exact absurd h.1 (by decide)
  ·rw [hkey] at h;exact absurd h.1 (by decide)
  ·rw [hkey] at h;exact absurd h.1 (by decide)
  ·exact h.2.2.2.2
 have hkv:zJ v.m[k].1=true:=by
  unfold yY at hok
  rw [Bool.and_eq_true,List.all_eq_true] at hok
  exact hok.1 _ (List.getElem_mem hk)
 have hlen:l.length + (yr v.m[k].1.data.toList).length + 1 + (zq n v.m[k].2).length≤50000000:=by
  rw [List.length_append,List.length_cons] at hl
  omega
 have CL:Hid (∀ w1 l1,BW 200 W b w1 l1→l1.length + (zq n v.m[k].2).length≤50000000→_):=qI (fun w1 l1 (h1:BW 200 W b w1 l1) hl1=>IH v.m[k].2 hrk hS (qz hr (kD (List.getElem_mem hk))) (hs.kid (kD (List.getElem_mem hk))) ht h1 hl1)
 have HB:=qI hb
 have HT:=qI ht
 have Gn:Hid (v.m.length≤20000):=qI (by have:=hs.few;omega)
 have HA:Hid (∀ x y:List UInt8,l ++ x ++ [58] ++ y=l ++ (x ++ (58 :: y))):=qI (by intro x y;simp)
 clear H hS hr hs ht hc hb qk q0 q1 q2 q3 q4 hrk hg hgb IH hok hl
 revert CL Ga hkz hkv hlen
 generalize zq n v.m[k].2=T
 generalize v.m[k].1=key
 intro Ga hkz hkv hlen CL
 clear hk
 obtain⟨r0,r1,r2,r3,r4,r5⟩:=Ga.o w HB.o.kept
 obtain⟨c2,c3⟩:=Gc.o w (zU.refl _ _)
 go_enter func188,ntmps188
 go_wp2_with fail
 refine zr (n:=8) (fun w':World=>w'.cell? ⟨b2,0,none⟩=some (.pointer (some ⟨b,0,none⟩))∧w'.cell? ⟨b3,4,none⟩=some (.slice (some ⟨g,o,none⟩) v.m.length e)∧w'.cell? ⟨g,o + k * 6,none⟩=some (.string key)) 8 (by kernel_rfl) (by kernel_rfl) ?_
 change zM _ _ _ _ _ _ _ _ _ w.drew
 have hSS:(fun w':World=>w'.cell? ⟨b2,0,none⟩=some (.pointer (some ⟨b,0,none⟩))∧w'.cell? ⟨b3,4,none⟩=some (.slice (some ⟨g,o,none⟩) v.m.length e)∧w'.cell? ⟨g,o + k * 6,none⟩=some (.string key)) w.drew:=⟨c2,c3,r0⟩
 have Ge:Hid (zb [] w w.drew):=qI (zb.refl _ _).drew
 clear c2 c3 r0 r1 r2 r3 r4 r5
 revert hSS Ge
 generalize w.drew=WD
 intro hSS Ge
 refine zG ?_
 intro O R hO hR
 have hQp:∀ c a (d:Nat) v w,R (.panic c) (a.put (some d) v) w→R (.panic c) a w:=by subst hR;exact fun _ _ _ _ _ h=>h
 refine qT 0 ?_ hO rfl rfl (by kernel_rfl) hQp (fun w hSw=>?_) hSS ?_
 rotate_left
 ·obtain⟨s0,s1,s2⟩:=hSw;go_simp;try with_reducible rfl
 try simp only [zA,zN,zB,zC,zD]
 refine qT 1 ?_ hO rfl rfl (by kernel_rfl) hQp (fun w hSw=>?_) hSS ?_
 rotate_left
 ·obtain⟨s0,s1,s2⟩:=hSw;go_simp;try with_reducible rfl
 try simp only [zA,zN,zB,zC,zD]
 refine qT 2 ?_ hO rfl rfl (by kernel_rfl) hQp (fun w hSw=>?_) hSS ?_
 rotate_left
 ·obtain⟨s0,s1,s2⟩:=hSw;go_simp;try with_reducible rfl
 try simp only [zA,zN,zB,zC,zD]
 refine qT 3 ?_ hO rfl rfl (by kernel_rfl) hQp (fun w hSw=>?_) hSS ?_
 rotate_left
 ·obtain⟨s0,s1,s2⟩:=hSw;go_simp;try with_reducible rfl
 try simp only [zA,zN,zB,zC,zD]
 refine qT 4 ?_ hO rfl rfl (by kernel_rfl) hQp (fun w hSw=>?_) hSS ?_
 rotate_left
 ·obtain⟨s0,s1,s2⟩:=hSw;go_simp;try with_reducible rfl
 try simp only [zA,zN,zB,zC,zD]
 refine qT 5 ?_ hO rfl rfl (by kernel_rfl) hQp (fun w hSw=>?_) hSS ?_
 rotate_left
 ·obtain⟨s0,s1,s2⟩:=hSw;go_simp;try with_reducible rfl
 try simp only [zA,zN,zB,zC,zD]
 refine qT 6 ?_ hO rfl rfl (by kernel_rfl) hQp (fun w hSw=>?_) hSS ?_
 rotate_left
 ·obtain⟨s0,s1,s2⟩:=hSw;go_simp;try with_reducible rfl
 try simp only [zA,zN,zB,zC,zD]
 refine qO 7 hO rfl (by kernel_rfl) (fun K hK=>?_)
 go_simp
 refine Calls.mono (Kw (HB.o.stay Ge.o) HT.o (by omega) key (by omega) hkv) ?_
 rintro e1 w3 ⟨rfl,hb3,hk3⟩
 have Gk:=qI hb3
 have Gf:=qI ((zU.of0 Ge.o).trans hk3)
 clear hb3 hk3
 refine hK _ _ (.inr ⟨(Gc.o w3 Gf.o).1,(Gc.o w3 Gf.o).2,(Ga.o w3 Gk.o.kept).1⟩) ?_
 clear hK K
 try simp only [zA,zN,zB,zC,zD]
 refine zE hO (by kernel_rfl) ?_ _
 subst hR
 try clear hQp hO O
 clear hSS
 obtain⟨c2,c3⟩:=Gc.o w3 Gf.o
 go_wp2_with (go_at_call 83;refine (wbyte_58 yX Gk.o (by rw [List.length_append];omega)).mono ?_;rintro e2 w4 ⟨rfl,hb4,hk4⟩;have Gp:=qI hb4;have Gq:=qI (Gf.o.trans hk4);clear hb4 hk4)
 clear c2 c3
 obtain⟨r0,r1,r2,r3,r4,r5⟩:=Ga.o w4 Gp.o.kept
 obtain⟨c2,c3⟩:=Gc.o w4 Gq.o
 refine zr (n:=8) (fun w':World=>w'.cell? ⟨b2,0,none⟩=some (.pointer (some ⟨b,0,none⟩))∧w'.cell? ⟨b3,4,none⟩=some (.slice (some ⟨g,o,none⟩) v.m.length e)∧w'.cell? ⟨g,o + k * 6 + 1,none⟩=some (.int .i64 kd)∧w'.cell? ⟨g,o + k * 6 + 2,none⟩=some (.int .i64 nm)∧w'.cell? ⟨g,o + k * 6 + 3,none⟩=some (.string st)∧w'.cell? ⟨g,o + k * 6 + 4,none⟩=some (.slice p1 i1 d1)∧w'.cell? ⟨g,o + k * 6 + 5,none⟩=some (.slice p2 i2 d2)) 8 (by kernel_rfl) (by kernel_rfl) ?_
 change zM _ _ _ _ _ _ _ _ _ w4.drew
 have hSS:(fun w':World=>w'.cell? ⟨b2,0,none⟩=some (.pointer (some ⟨b,0,none⟩))∧w'.cell? ⟨b3,4,none⟩=some (.slice (some ⟨g,o,none⟩) v.m.length e)∧w'.cell? ⟨g,o + k * 6 + 1,none⟩=some (.int .i64 kd)∧w'.cell? ⟨g,o + k * 6 + 2,none⟩=some (.int .i64 nm)∧w'.cell? ⟨g,o + k * 6 + 3,none⟩=some (.string st)∧w'.cell? ⟨g,o + k * 6 + 4,none⟩=some (.slice p1 i1 d1)∧w'.cell? ⟨g,o + k * 6 + 5,none⟩=some (.slice p2 i2 d2)) w4.drew:=⟨c2,c3,r1,r2,r3,r4,r5⟩
 have Gs:Hid (zb [] w4 w4.drew):=qI (zb.refl _ _).drew
 clear c2 c3 r0 r1 r2 r3 r4 r5
 revert hSS Gs
 generalize w4.drew=WE
 intro hSS Gs
 refine zG ?_
 intro O R hO hR
 have hQp:∀ c a (d:Nat) v w,R (.panic c) (a.put (some d) v) w→R (.panic c) a w:=by subst hR;exact fun _ _ _ _ _ h=>h
 refine qT 0 ?_ hO rfl rfl (by kernel_rfl) hQp (fun w hSw=>?_) hSS ?_
 rotate_left
 ·obtain⟨s0,s1,s2,s3,s4,s5,s6⟩:=hSw;go_simp;try with_reducible rfl
 try simp only [zA,zN,zB,zC,zD]
 refine qT 1 ?_ hO rfl rfl (by kernel_rfl) hQp (fun w hSw=>?_) hSS ?_
 rotate_left
 ·obtain⟨s0,s1,s2,s3,s4,s5,s6⟩:=hSw;go_simp;try with_reducible rfl
 try simp only [zA,zN,zB,zC,zD]
 refine qT 2 ?_ hO rfl rfl (by kernel_rfl) hQp (fun w hSw=>?_) hSS ?_
 rotate_left
 ·obtain⟨s0,s1,s2,s3,s4,s5,s6⟩:=hSw;go_simp;try with_reducible rfl
 try simp only [zA,zN,zB,zC,zD]
 refine qT 3 ?_ hO rfl rfl (by kernel_rfl) hQp (fun w hSw=>?_) hSS ?_
 rotate_left
 ·obtain⟨s0,s1,s2,s3,s4,s5,s6⟩:=hSw;go_simp;try with_reducible rfl
 try simp only [zA,zN,zB,zC,zD]
 refine qT 4 ?_ hO rfl rfl (by kernel_rfl) hQp (fun w hSw=>?_) hSS ?_
 rotate_left
 ·obtain⟨s0,s1,s2,s3,s4,s5,s6⟩:=hSw;go_simp;try with_reducible rfl
 try simp only [zA,zN,zB,zC,zD]
 refine qT 5 ?_ hO rfl rfl (by kernel_rfl) hQp (fun w hSw=>?_) hSS ?_
 rotate_left
 ·obtain⟨s0,s1,s2,s3,s4,s5,s6⟩:=hSw;go_simp;try with_reducible rfl
 try simp only [zA,zN,zB,zC,zD]
 refine qT 6 ?_ hO rfl rfl (by kernel_rfl) hQp (fun w hSw=>?_) hSS ?_
 rotate_left
 ·obtain⟨s0,s1,s2,s3,s4,s5,s6⟩:=hSw;go_simp;try with_reducible rfl
 try simp only [zA,zN,zB,zC,zD]
 refine qO 7 hO rfl (by kernel_rfl) (fun K hK=>?_)
 go_simp
 refine Calls.mono (CL.o _ _ (Gp.o.stay Gs.o) (by simp only [List.length_append,List.length_cons,List.length_nil];omega)) ?_
 rintro e3 w5 ⟨rfl,hb5,hk5⟩
 rw [HA.o] at hb5
 have Gy:=qI hb5
 have Gu:=qI ((Gq.o.trans (zU.of0 Gs.o)).trans hk5)
 clear hb5 hk5
 refine hK _ _ (.inr ⟨(Gc.o w5 Gu.o).1,(Gc.o w5 Gu.o).2,(Ga.o w5 Gy.o.kept).2⟩) ?_
 clear hK K
 try simp only [zA,zN,zB,zC,zD]
 refine zE hO (by kernel_rfl) ?_ _
 subst hR
 try clear hQp hO O
 go_wp2_with fail
 go_end0
 exact⟨rfl,Gy.o,Gu.o⟩
end
theorem fb_true:Lib.formatBool true=[116,114,117,101]:=by decide +kernel
theorem fb_false:Lib.formatBool false=[102,97,108,115,101]:=by decide +kernel
theorem K7 {W w:World}{b b2 b3 n:Nat}{l:List UInt8}{J:World→Prop}{it:Nat→List UInt8}
  (HJ:∀ w1 w2,J w1→zU b w1 w2→J w2)
  (HC:∀ k w1 l1,k < n→J w1→BW 200 W b w1 l1→l1.length + (it k).length≤50000000→Calls Tryz.prog 187 #[.int .i64 k,.pointer (some ⟨b2,0,none⟩),.pointer (some ⟨b3,0,none⟩)] w1 fun r w2=>r = .returned (.tuple #[])∧BW 200 W b w2 (l1 ++ it k)∧zU b w1 w2)
  (hJ:J w) (hb:BW 200 W b w l) (hn:n≤20000) (hl:l.length + (yG it n).length≤49999998) :
  Calls Tryz.prog 186 #[.pointer (some ⟨b,0,none⟩),.int .u8 91,.int .i64 n,.func (.func 187) #[] #[.pointer (some ⟨b2,0,none⟩),.pointer (some ⟨b3,0,none⟩)],.int .u8 93] w
   fun r w'=>r = .returned (.tuple #[])∧BW 200 W b w' (l ++ (91 :: (yG it n ++ [93])))∧zU b w w':=between1_any (o:=91) (c:=93) HJ HC hJ hb hn hl
theorem between2_map {W w:World}{b b2 b3 n:Nat}{l:List UInt8}{J:World→Prop}{it:Nat→List UInt8}
  (HJ:∀ w1 w2,J w1→zU b w1 w2→J w2)
  (HC:∀ k w1 l1,k < n→J w1→BW 200 W b w1 l1→l1.length + (it k).length≤50000000→Calls Tryz.prog 188 #[.int .i64 k,.pointer (some ⟨b2,0,none⟩),.pointer (some ⟨b3,0,none⟩)] w1 fun r w2=>r = .returned (.tuple #[])∧BW 200 W b w2 (l1 ++ it k)∧zU b w1 w2)
  (hJ:J w) (hb:BW 200 W b w l) (hn:n≤20000) (hl:l.length + (yG it n).length≤49999998) :
  Calls Tryz.prog 186 #[.pointer (some ⟨b,0,none⟩),.int .u8 123,.int .i64 n,.func (.func 188) #[] #[.pointer (some ⟨b2,0,none⟩),.pointer (some ⟨b3,0,none⟩)],.int .u8 125] w
   fun r w'=>r = .returned (.tuple #[])∧BW 200 W b w' (l ++ (123 :: (yG it n ++ [125])))∧zU b w w':=between2_any (o:=123) (c:=125) HJ HC hJ hb hn hl
theorem write_1 {n:Nat}{v:VS (V n)}(h:v.kind=1):zq (n + 1) v=[110,117,108,108]:=by
 show (if v.kind=1 then _ else _)=_
 rw [if_pos h]
theorem write_2 {n:Nat}{v:VS (V n)}(h:v.kind=2):zq (n + 1) v=Lib.formatBool (v.num == 1):=by
 show (if v.kind=1 then _ else if v.kind=2 then _ else _)=_
 rw [if_neg (by omega),if_pos h]
 by_cases e:v.num=1
 ·rw [if_pos e,e,show ((1:Int) == 1)=true from rfl,fb_true]
 ·rw [if_neg e,show (v.num == 1)=false by simpa using e,fb_false]
theorem write_3 {n:Nat}{v:VS (V n)}(h:v.kind=3):zq (n + 1) v=Lib.itoa v.num:=by
 show (if v.kind=1 then _ else if v.kind=2 then _ else if v.kind=3 then _ else _)=_
 rw [if_neg (by omega),if_neg (by omega),if_pos h]
theorem write_4 {n:Nat}{v:VS (V n)}(h:v.kind=4):zq (n + 1) v=yr v.s.data.toList:=by
 show (if v.kind=1 then _ else if v.kind=2 then _ else if v.kind=3 then _ else if v.kind=4 then _ else _)=_
 rw [if_neg (by omega),if_neg (by omega),if_neg (by omega),if_pos h]
theorem write_5 {n:Nat}{v:VS (V n)}(h:v.kind=5):zq (n + 1) v=91 :: (yG (fun k=>(v.l.map (zq n)).getD k []) v.l.length ++ [93]):=by
 show (if v.kind=1 then _ else if v.kind=2 then _ else if v.kind=3 then _ else if v.kind=4 then _ else if v.kind=5 then _ else _)=_
 rw [if_neg (by omega),if_neg (by omega),if_neg (by omega),if_neg (by omega),if_pos h,preC_all]
theorem write_6 {n:Nat}{v:VS (V n)}(h:v.kind=6):zq (n + 1) v=123 :: (yG (fun k=>(v.m.map (fun p=>yr p.1.data.toList ++ (58 :: zq n p.2))).getD k []) v.m.length ++ [125]):=by
 show (if v.kind=1 then _ else if v.kind=2 then _ else if v.kind=3 then _ else if v.kind=4 then _ else if v.kind=5 then _ else _)=_
 rw [if_neg (by omega),if_neg (by omega),if_neg (by omega),if_neg (by omega),if_neg (by omega),preC_all]
theorem put_any_step {n:Nat}(known:bT n):bT (n + 1):=fun (v:VS (V n)) {S W w cs b l} h hS hr hs ht hb hl=>by
  have IH:=qI known
  obtain⟨vl,vm,lcs,mcs,h⟩:=h
  obtain⟨a,c,d,e,rfl,rfl,rfl⟩:=h.forms
  obtain⟨W2,Gg⟩:∃ W2,Hid (W2=(w.alloc (.cells #[.pointer (some ⟨b,0,none⟩)] 198)).alloc (.cells #[.int .i64 v.kind,.int .i64 v.num,.string v.s,.slice a v.l.length c,.slice d v.m.length e] 25)):=⟨_,qI rfl⟩
  have Gb:Hid (zb [] w W2):=qI (by rw [Gg.o];exact ((zb.refl [] w).alloc _).alloc _)
  have Gh:Hid (bo b w.heap.size (w.heap.size + 1) [.int .i64 v.kind,.int .i64 v.num,.string v.s,.slice a v.l.length c,.slice d v.m.length e] W2):=qI (by
   rw [Gg.o]
   exact⟨((zb.refl [] _).alloc _).heap (zd rfl) (by simp),zd (by simp)⟩)
  have H23:Hid (w.heap.size≠b∧w.heap.size + 1≠b):=qI (by have:=hb.lt;have:=hb.kept.size;omega)
  have Gi:Hid (BW 200 W b W2 l):=qI (hb.stay Gb.o)
  have HL:=qI hl
  have HS:=qI hs
  have Gz:=qI hS
  have Ja:=qI hr
  have HT:=qI ht
  have H:=qI h
  have HC:=qI (kK (kM hr))
  have hll:l.length≤50000000:=by omega
  have hkv:∀ x:Int,v.kind=x→Hid (bo b w.heap.size (w.heap.size + 1) [.int .i64 x,.int .i64 v.num,.string v.s,.slice a v.l.length c,.slice d v.m.length e] W2):=fun x hx=>qI (by rw [← hx];exact Gh.o)
  clear h hS hr hs ht hb hl
  rcases HC.o with ⟨k1,-⟩ | ⟨k1,k2,-⟩ | ⟨k1,k2,-⟩ | ⟨k1,k2,k3,-⟩ | ⟨k1,-⟩ | ⟨k1,-⟩
  ·have HE:=qI (write_1 k1)
   clear Gh HC hkv
   rw [k1] at Gg ⊢
   clear k1
   go_enter func149,ntmps149
   go_wp2_with fail
   rw [← Gg.o]
   refine (kZ yX Gi.o (by omega) ⟨#[110,117,108,108]⟩ (by decide)).mono ?_
   rintro e1 w2 ⟨rfl,hb2,hk2⟩
   go_wp2_with fail
   go_end0
   exact⟨rfl,by rw [HE.o];exact hb2,(zU.of0 Gb.o).trans hk2⟩
  ·have HE:=qI (write_2 k1)
   have Gj:=hkv 2 k1
   have hnI:0≤v.num∧v.num≤1:=by omega
   clear Gh HC hkv
   rw [k1] at Gg ⊢
   clear k1 k2
   have c2:=za (o:=0) (v:=.pointer (some ⟨b,0,none⟩)) Gj.o.ptr rfl
   have c3:=za (o:=1) (v:=.int .i64 v.num) Gj.o.val rfl
   go_enter func149,ntmps149
   go_wp2_with fail
   rw [← Gg.o]
   generalize v.num=num at *
   refine zr (n:=8) (fun w':World=>w'.cell? ⟨w.heap.size,0,none⟩=some (.pointer (some ⟨b,0,none⟩))∧w'.cell? ⟨w.heap.size + 1,1,none⟩=some (.int .i64 num)) 8 (by kernel_rfl) (by kernel_rfl) ?_
   change zM _ _ _ _ _ _ _ _ _ W2.drew
   have hSS:(fun w':World=>w'.cell? ⟨w.heap.size,0,none⟩=some (.pointer (some ⟨b,0,none⟩))∧w'.cell? ⟨w.heap.size + 1,1,none⟩=some (.int .i64 num)) W2.drew:=⟨c2,c3⟩
   have Ge:Hid (zb [] W2 W2.drew):=qI (zb.refl _ _).drew
   clear c2 c3
   revert hSS Ge
   generalize W2.drew=WD
   intro hSS Ge
   refine zG ?_
   intro O R hO hR
   have hQp:∀ c a (d:Nat) v w,R (.panic c) (a.put (some d) v) w→R (.panic c) a w:=by subst hR;exact fun _ _ _ _ _ h=>h
   refine qT 0 ?_ hO rfl rfl (by kernel_rfl) hQp (fun w hSw=>?_) hSS ?_
   rotate_left
   ·obtain⟨s0,s1⟩:=hSw;go_simp;try with_reducible rfl
   try simp only [zA,zN,zB,zC,zD]
   refine qT 1 ?_ hO rfl rfl (by kernel_rfl) hQp (fun w hSw=>?_) hSS ?_
   rotate_left
   ·obtain⟨s0,s1⟩:=hSw;go_simp;try with_reducible rfl
   try simp only [zA,zN,zB,zC,zD]
   refine qT 2 ?_ hO rfl rfl (by kernel_rfl) hQp (fun w hSw=>?_) hSS ?_
   rotate_left
   ·obtain⟨s0,s1⟩:=hSw;go_simp;try with_reducible rfl
   try simp only [zA,zN,zB,zC,zD]
   refine qT 3 ?_ hO rfl rfl (by kernel_rfl) hQp (fun w hSw=>?_) hSS ?_
   rotate_left
   ·obtain⟨s0,s1⟩:=hSw;go_simp;try with_reducible rfl
   try simp only [zA,zN,zB,zC,zD]
   refine qT 4 ?_ hO rfl rfl (by kernel_rfl) hQp (fun w hSw=>?_) hSS ?_
   rotate_left
   ·obtain⟨s0,s1⟩:=hSw;go_simp;try with_reducible rfl
   try simp only [zA,zN,zB,zC,zD]
   refine qT 5 ?_ hO rfl rfl (by kernel_rfl) hQp (fun w hSw=>?_) hSS ?_
   rotate_left
   ·obtain⟨s0,s1⟩:=hSw;go_simp;try with_reducible rfl
   try simp only [zA,zN,zB,zC,zD]
   refine qO 6 hO rfl (by kernel_rfl) (fun K hK=>?_)
   go_simp
   refine Calls.mono (JG (num == 1) WD) ?_
   rintro e1 w3 ⟨rfl,rfl⟩
   refine hK _ _ (.inr hSS) ?_
   clear hK K
   try simp only [zA,zN,zB,zC,zD]
   refine qO 7 hO rfl (by kernel_rfl) (fun K hK=>?_)
   go_simp
   refine Calls.mono (kZ yX (Gi.o.stay Ge.o) (by omega) (yc (Lib.formatBool (num == 1))) (by rw [xA];cases (num == 1) <;> decide +kernel)) ?_
   rintro e2 w4 ⟨rfl,hb4,hk4⟩
   rw [xR,← HE.o] at hb4
   have Gp:=qI hb4
   have Gq:=qI (((zU.of0 Gb.o).trans (zU.of0 Ge.o)).trans hk4)
   have hcq:=Gj.o.kept H23.o.1 H23.o.2 ((zU.of0 Ge.o:zU b _ _).trans hk4)
   have hS4:(fun w':World=>w'.cell? ⟨w.heap.size,0,none⟩=some (.pointer (some ⟨b,0,none⟩))∧w'.cell? ⟨w.heap.size + 1,1,none⟩=some (.int .i64 num)) w4:=⟨za (o:=0) (v:=.pointer (some ⟨b,0,none⟩)) hcq.ptr rfl,za (o:=1) (v:=.int .i64 num) hcq.val rfl⟩
   clear hb4 hk4 hcq
   refine hK _ _ (.inr hS4) ?_
   clear hK K
   try simp only [zA,zN,zB,zC,zD]
   refine zE hO (by kernel_rfl) ?_ _
   subst hR
   try clear hQp hO O
   go_wp2_with fail
   go_end0
   exact⟨rfl,Gp.o,Gq.o⟩
  ·have HE:=qI (write_3 k1)
   have Gj:=hkv 3 k1
   have Gn:Hid ((Lib.itoa v.num).length≤21):=qI (itoa_len v.num k2)
   have Jd:Hid (ql W2):=qI (HT.o.at Gi.o.kept)
   clear Gh HC hkv
   rw [k1] at Gg ⊢
   clear k1
   have c2:=za (o:=0) (v:=.pointer (some ⟨b,0,none⟩)) Gj.o.ptr rfl
   have c3:=za (o:=1) (v:=.int .i64 v.num) Gj.o.val rfl
   go_enter func149,ntmps149
   go_wp2_with fail
   rw [← Gg.o]
   generalize v.num=num at *
   refine zr (n:=7) (fun w':World=>w'.cell? ⟨w.heap.size,0,none⟩=some (.pointer (some ⟨b,0,none⟩))∧w'.cell? ⟨w.heap.size + 1,1,none⟩=some (.int .i64 num)) 7 (by kernel_rfl) (by kernel_rfl) ?_
   change zM _ _ _ _ _ _ _ _ _ W2.drew
   have hSS:(fun w':World=>w'.cell? ⟨w.heap.size,0,none⟩=some (.pointer (some ⟨b,0,none⟩))∧w'.cell? ⟨w.heap.size + 1,1,none⟩=some (.int .i64 num)) W2.drew:=⟨c2,c3⟩
   have Ge:Hid (zb [] W2 W2.drew):=qI (zb.refl _ _).drew
   clear c2 c3
   revert hSS Ge
   generalize W2.drew=WD
   intro hSS Ge
   refine zG ?_
   intro O R hO hR
   have hQp:∀ c a (d:Nat) v w,R (.panic c) (a.put (some d) v) w→R (.panic c) a w:=by subst hR;exact fun _ _ _ _ _ h=>h
   refine qT 0 ?_ hO rfl rfl (by kernel_rfl) hQp (fun w hSw=>?_) hSS ?_
   rotate_left
   ·obtain⟨s0,s1⟩:=hSw;go_simp;try with_reducible rfl
   try simp only [zA,zN,zB,zC,zD]
   refine qT 1 ?_ hO rfl rfl (by kernel_rfl) hQp (fun w hSw=>?_) hSS ?_
   rotate_left
   ·obtain⟨s0,s1⟩:=hSw;go_simp;try with_reducible rfl
   try simp only [zA,zN,zB,zC,zD]
   refine qT 2 ?_ hO rfl rfl (by kernel_rfl) hQp (fun w hSw=>?_) hSS ?_
   rotate_left
   ·obtain⟨s0,s1⟩:=hSw;go_simp;try with_reducible rfl
   try simp only [zA,zN,zB,zC,zD]
   refine qT 3 ?_ hO rfl rfl (by kernel_rfl) hQp (fun w hSw=>?_) hSS ?_
   rotate_left
   ·obtain⟨s0,s1⟩:=hSw;go_simp;try with_reducible rfl
   try simp only [zA,zN,zB,zC,zD]
   refine qT 4 ?_ hO rfl rfl (by kernel_rfl) hQp (fun w hSw=>?_) hSS ?_
   rotate_left
   ·obtain⟨s0,s1⟩:=hSw;go_simp;try with_reducible rfl
   try simp only [zA,zN,zB,zC,zD]
   refine qO 5 hO rfl (by kernel_rfl) (fun K hK=>?_)
   go_simp
   refine Calls.mono (libItoa (Jd.o.kept0 Ge.o) num (by omega) (by omega)) ?_
   rintro e1 w3 ⟨rfl,hk3⟩
   have Gf:=qI (Ge.o.then hk3)
   have hS3:(fun w':World=>w'.cell? ⟨w.heap.size,0,none⟩=some (.pointer (some ⟨b,0,none⟩))∧w'.cell? ⟨w.heap.size + 1,1,none⟩=some (.int .i64 num)) w3:=⟨hk3.cell hSS.1 (by simp),hk3.cell hSS.2 (by simp)⟩
   clear hk3
   refine hK _ _ (.inr hS3) ?_
   clear hK K
   try simp only [zA,zN,zB,zC,zD]
   clear hSS
   have hSS:=hS3
   clear hS3
   refine qO 6 hO rfl (by kernel_rfl) (fun K hK=>?_)
   go_simp
   refine Calls.mono (kZ yX (Gi.o.stay Gf.o) (by omega) (yc (Lib.itoa num)) (by rw [xA];have:=Gn.o;omega)) ?_
   rintro e2 w4 ⟨rfl,hb4,hk4⟩
   rw [xR,← HE.o] at hb4
   have Gp:=qI hb4
   have Gq:=qI (((zU.of0 Gb.o).trans (zU.of0 Gf.o)).trans hk4)
   have hcq:=Gj.o.kept H23.o.1 H23.o.2 ((zU.of0 Gf.o:zU b _ _).trans hk4)
   have hS4:(fun w':World=>w'.cell? ⟨w.heap.size,0,none⟩=some (.pointer (some ⟨b,0,none⟩))∧w'.cell? ⟨w.heap.size + 1,1,none⟩=some (.int .i64 num)) w4:=⟨za (o:=0) (v:=.pointer (some ⟨b,0,none⟩)) hcq.ptr rfl,za (o:=1) (v:=.int .i64 num) hcq.val rfl⟩
   clear hb4 hk4 hcq
   refine hK _ _ (.inr hS4) ?_
   clear hK K
   try simp only [zA,zN,zB,zC,zD]
   refine zE hO (by kernel_rfl) ?_ _
   subst hR
   try clear hQp hO O
   go_wp2_with fail
   go_end0
   exact⟨rfl,Gp.o,Gq.o⟩
  ·have HE:=qI (write_4 k1)
   have hsz:v.s.size≤400000:=by
    have h1:=HS.o.2
    have h2:v.s.size≤ya (n + 1) v:=by
     show _≤v.s.size + v.keyBytes + _
     omega
    omega
   clear Gh HC hkv
   rw [k1] at Gg ⊢
   clear k1 k2
   go_enter func149,ntmps149
   go_wp2_with fail
   rw [← Gg.o]
   refine (Kw Gi.o HT.o (by omega) v.s (by omega) k3).mono ?_
   rintro e1 w2 ⟨rfl,hb2,hk2⟩
   go_wp2_with fail
   go_end0
   exact⟨rfl,by rw [HE.o];exact hb2,(zU.of0 Gb.o).trans hk2⟩
  ·have HE:=qI (write_5 k1)
   have Gj:=hkv 5 k1
   have CB:=qI (K7 (n:=v.l.length) (b2:=w.heap.size) (b3:=w.heap.size + 1) (it:=fun k=>(v.l.map (zq n)).getD k []) (J:=bo b w.heap.size (w.heap.size + 1) [.int .i64 v.kind,.int .i64 v.num,.string v.s,.slice a v.l.length c,.slice d v.m.length e])
    (fun _ _ h k=>h.kept H23.o.1 H23.o.2 k) (fun k w1 l1 hk hc hb1 hl1=>by
     have e1:(v.l.map (zq n)).getD k []=zq n v.l[k]:=by simp [hk]
     have hle:(zq n v.l[k]).length + 1≤(zq (n + 1) v).length:=by
      rw [HE.o]
      have h1:=vJ (fun k=>(v.l.map (zq n)).getD k []) k
      have h2:=jj (fun k=>(v.l.map (zq n)).getD k []) (show k + 1≤v.l.length from hk)
      simp only [e1] at h1
      simp only [List.length_cons,List.length_append]
      omega
     simp only [e1] at hl1 ⊢
     exact put1_any IH.o H.o Gz.o Ja.o HS.o HT.o H23.o hc hb1 hk hl1) Gh.o Gi.o (by have:=HS.o.few;omega) (by
     have:=HL.o
     rw [HE.o] at this
     simp only [List.length_cons,List.length_append] at this
     omega))
   clear Gh HC hkv
   rw [k1] at Gg ⊢
   clear k1
   go_enter func149,ntmps149
   go_wp2_with fail
   rw [← Gg.o]
   refine CB.o.mono ?_
   rintro e1 w2 ⟨rfl,hb2,hk2⟩
   go_wp2_with fail
   go_end0
   exact⟨rfl,by rw [HE.o];exact hb2,(zU.of0 Gb.o).trans hk2⟩
  ·have HE:=qI (write_6 k1)
   have Gj:=hkv 6 k1
   have CB:=qI (between2_map (n:=v.m.length) (b2:=w.heap.size) (b3:=w.heap.size + 1) (it:=fun k=>(v.m.map (fun p=>yr p.1.data.toList ++ (58 :: zq n p.2))).getD k []) (J:=bo b w.heap.size (w.heap.size + 1) [.int .i64 v.kind,.int .i64 v.num,.string v.s,.slice a v.l.length c,.slice d v.m.length e])
    (fun _ _ h k=>h.kept H23.o.1 H23.o.2 k) (fun k w1 l1 hk hc hb1 hl1=>by
     have e1:(v.m.map (fun p=>yr p.1.data.toList ++ (58 :: zq n p.2))).getD k []=yr v.m[k].1.data.toList ++ (58 :: zq n v.m[k].2):=by simp [hk]
     simp only [e1] at hl1 ⊢
     exact put2_any IH.o H.o Gz.o Ja.o HS.o HT.o k1 H23.o hc hb1 hk hl1) Gh.o Gi.o (by have:=HS.o.few;omega) (by
     have:=HL.o
     rw [HE.o] at this
     simp only [List.length_cons,List.length_append] at this
     omega))
   clear Gh HC hkv
   rw [k1] at Gg ⊢
   clear k1
   go_enter func149,ntmps149
   go_wp2_with fail
   rw [← Gg.o]
   refine CB.o.mono ?_
   rintro e1 w2 ⟨rfl,hb2,hk2⟩
   go_wp2_with fail
   go_end0
   exact⟨rfl,by rw [HE.o];exact hb2,(zU.of0 Gb.o).trans hk2⟩
theorem put_any:∀ (n:Nat),bT n
 | 0=>fun v=>nomatch v
 | n + 1=>put_any_step (put_any n)
theorem JZ (w:World) (s:ByteArray) (hs:s.size≤281474976710656):∃ a n c w',(convert 9 53 (.string s)).run Tryz.prog w = .ok (.slice a n c) w'∧n=s.data.toList.length∧zp w' (.slice a n c) s.data.toList∧zb [] w w':=by
 refine⟨_,_,_,_,run_bytes_of_string w 9 53 5 s underlying9 underlying53 underlying5,by simp,?_,?_⟩
 ·have hl:s.data.toList.length=s.size:=by simp
  refine⟨by simp,.inr (.inr ⟨w.heap.size,0,_,by rw [hl],by rw [hl];exact grownCap_ge _ _ _ _,grownCap_le_maxLen _ _ _ _ (by simp only [maxLen];omega),⟨?_,?_⟩⟩)⟩
  ·intro j u hu
   rw [List.getElem?_map,Option.map_eq_some_iff] at hu
   obtain⟨b,hb,rfl⟩:=hu
   obtain⟨hj,rfl⟩:=List.getElem?_eq_some_iff.1 hb
   have hj':j < s.data.size:=by simpa using hj
   rw [Nat.zero_add]
   refine za (heap_alloc_new _ _) ?_
   rw [bytesRow_at s _ j hj']
   simp [bv]
  ·show w.heap.size < (w.drew.alloc _).heap.size
   simp
 ·exact (zb.refl [] w).drew.alloc _
theorem write_ne {n:Nat}{v:VS (V n)}(h:zo (n + 1) v=true):zq (n + 1) v≠[]:=by
 rcases kK (kM h) with k | k | k | k | k | k
 ·rw [write_1 k.1];simp
 ·rw [write_2 k.1]
  cases (v.num == 1)
  ·rw [fb_false];simp
  ·rw [fb_true];simp
 ·rw [write_3 k.1]
  obtain⟨d,t,e,-⟩:=itoa_head v.num
  rw [e];simp
 ·rw [write_4 k.1];simp [yr]
 ·rw [write_5 k.1];simp
 ·rw [write_6 k.1];simp
theorem write_ne' {n:Nat}{v:V n}(h:zo n v=true):zq n v≠[]:=by
 match n,v,h with
 | 0,v,_=>exact nomatch v
 | n + 1,v,h=>exact write_ne h
theorem small_sort {n:Nat}{v:V n}(h:yk n v):yk n (zz n v):=⟨by rw [jI];exact h.1,by rw [jB];exact h.2⟩
theorem Qh {n:Nat}{v:V n}(h:zo n v=true) (hs:yk n v):(zq n v).length≤3000000:=by
 have h1:=Zs n v h
 obtain⟨h2,h3⟩:=hs
 omega
theorem text_any {n:Nat}{v:V n}{S:Nat→Prop}{w:World}{cs:List Value}(h:Rep n S w cs v) (hs:yk n v) (hn:n≤100) (ht:ql w) (hc:yC n v=0) :
  Calls Tryz.prog 110 #[.agg cs.toArray] w fun e w'=>e = .returned (.string (yc (zq n (zz n v))))∧zb [] w w':=by
 obtain⟨kd,nm,st,a,ca,ea,b,cb,eb,rfl⟩:=h.conv
 obtain⟨W0,Gd⟩:∃ W0,Hid (W0=(w.alloc (.cells #[.int .i64 kd,.int .i64 nm,.string st,.slice a ca ea,.slice b cb eb] 25)).alloc (.cells #[.pointer none,.slice none 0 0] 200)):=⟨_,qI rfl⟩
 have Gv:Hid (W0.heap.size=w.heap.size + 2):=qI (by rw [Gd.o];simp)
 have Gb:Hid (zb [] w W0):=qI (by rw [Gd.o];exact ((zb.refl [] w).alloc _).alloc _)
 have Je:Hid (W0.heap[w.heap.size + 1]? = some (.cells #[.pointer none,.slice none 0 0] 200 (0,0))):=qI (by
  rw [Gd.o];exact zd (by simp))
 have CS:=qI (Sorted_any (h.kept0 Gb.o) hs hn (ht.kept0 Gb.o) hc)
 have HT:=qI ht
 have Jb:=qI (small_sort hs)
 have HR:Hid (zo n (zz n v)=true):=qI (by rw [jy];exact Qg hc)
 have Gn:=qI (Qh HR.o Jb.o)
 have Jf:=qI (write_ne' HR.o)
 clear h hs ht hc
 go_enter func110,ntmps110
 go_wp2_with fail
 rw [← Gd.o]
 refine CS.o.mono ?_
 rintro e w1 ⟨⟨cs',rfl,hown⟩,hk1⟩
 have Jg:Hid (BW 200 w1 (w.heap.size + 1) w1 []):=qI (BW.new (hk1.heap Je.o (by simp)))
 have CP:=qI (put_any n (zz n v) (hown.rep.kept0 (zb.refl [] w1)) (fun g hg=>by have:=Gv.o;omega) HR.o Jb.o ⟨w,HT.o,Gb.o.then hk1,Nat.le_succ _⟩ Jg.o (by have:=Gn.o;simp only [List.length_nil];omega))
 have Gl:=qI (Gb.o.then hk1)
 clear hown hk1
 go_wp2_with fail
 refine CP.o.mono ?_
 rintro e w2 ⟨rfl,hb2,-⟩
 rw [List.nil_append] at hb2
 have Gi:=qI hb2
 clear hb2
 go_wp2_with (go_at_call 84;refine (bM Gi.o (by have:=Gn.o;omega) Jf.o).mono ?_;rintro e w3 ⟨rfl,hk3,-⟩)
 go_ret
 exact⟨rfl,Gl.o.trans hk3 (by intro i hi;simp at hi;subst hi;exact .inr (Nat.le_succ _))⟩
theorem encV_bad {n:Nat}{v:V n}(h:yC n v≠0):kG n v=([],yC n v):=if_pos h
theorem zad {n:Nat}{v:V n}(h:yC n v=0) (hl:262144 < (zq n (zz n v)).length):kG n v=([],3):=by
 unfold kG;rw [if_neg (by simp [h]),if_pos hl]
theorem Zp {n:Nat}{v:V n}(h:yC n v=0) (hl:(zq n (zz n v)).length≤262144):kG n v=(zq n (zz n v),0):=by
 unfold kG;rw [if_neg (by simp [h]),if_neg (by omega)]
theorem ZQ {n:Nat}{v:V n}{S:Nat→Prop}{w:World}{cs:List Value}(h:Rep n S w cs v) (hs:yk n v) (hn:n≤100) (ht:ql w) :
  Calls Tryz.prog 78 #[.agg cs.toArray] w fun e w'=>(∃ a c,e = .returned (.tuple #[.slice a (kG n v).1.length c,.int .i64 (kG n v).2])∧zp w' (.slice a (kG n v).1.length c) (kG n v).1)∧zb [] w w':=by
 obtain⟨kd,nm,st,a,ca,ea,b,cb,eb,rfl⟩:=h.conv
 obtain⟨W0,Gd⟩:∃ W0,Hid (W0=w.alloc (.cells #[.int .i64 kd,.int .i64 nm,.string st,.slice a ca ea,.slice b cb eb] 25)):=⟨_,qI rfl⟩
 have Gb:Hid (zb [] w W0):=qI (by rw [Gd.o];exact (zb.refl [] w).alloc _)
 have Jc:Hid (qf W0 w.heap.size kd nm st (.slice a ca ea) (.slice b cb eb)):=qI (by rw [Gd.o];exact yQ _ _ _ _ _ _ _)
 have CC:=qI (Y2 (h.kept0 Gb.o) hs hn (ht.kept0 Gb.o))
 have CT:Hid (∀ w1,zb [] W0 w1→yC n v=0→_):=qI (fun w1 (k:zb [] W0 w1) (hc:yC n v=0)=>text_any ((h.kept0 Gb.o).kept0 k) hs hn ((ht.kept0 Gb.o).kept0 k) hc)
 clear h hs ht
 by_cases hc:yC n v=0
 rotate_left
 ·have HE:=qI (encV_bad hc)
  have Ji:Hid (yC n v≠0):=qI hc
  obtain⟨f1,f2⟩:=yx hc
  clear hc
  go_enter func78,ntmps78
  go_wp2_with fail
  rw [← Gd.o]
  refine CC.o.mono ?_
  rintro e w1 ⟨rfl,hk1⟩
  go_wp2_with fail
  go_ret2
  rw [HE.o]
  exact⟨⟨_,_,rfl,xn _ _⟩,Gb.o.then hk1⟩
 have HC:=qI hc
 clear hc
 by_cases hl:262144 < (zq n (zz n v)).length
 ·have HE:=qI (zad HC.o hl)
  have hlI:(262144:Int) < (zq n (zz n v)).length:=by omega
  go_enter func78,ntmps78
  go_wp2_with fail
  rw [← Gd.o]
  refine CC.o.mono ?_
  rintro e w1 ⟨rfl,hk1⟩
  rw [HC.o]
  obtain⟨c0,c1,c2,c3,c4⟩:=Jc.o.kept0 hk1
  have Gl:=qI hk1
  have Gt:Hid ((yc (zq n (zz n v))).size=(zq n (zz n v)).length):=qI (xA _)
  clear hk1
  go_wp2_with fail
  refine (CT.o _ Gl.o HC.o).mono ?_
  rintro e w2 ⟨rfl,hk2⟩
  have Gw:=qI hk2
  have hsb:=Gt.o
  revert hsb
  generalize yc (zq n (zz n v))=T
  intro hsb
  have hsI:(262144:Int) < T.size:=by omega
  clear hsb hk2 c0 c1 c2 c3 c4 hl hlI
  go_wp2_with fail
  go_ret2
  rw [HE.o]
  exact⟨⟨_,_,rfl,xn _ _⟩,(Gb.o.then Gl.o).then Gw.o⟩
 ·have HE:=qI (Zp HC.o (by omega))
  go_enter func78,ntmps78
  go_wp2_with fail
  rw [← Gd.o]
  refine CC.o.mono ?_
  rintro e w1 ⟨rfl,hk1⟩
  rw [HC.o]
  obtain⟨c0,c1,c2,c3,c4⟩:=Jc.o.kept0 hk1
  have Gl:=qI hk1
  have Gt:Hid ((yc (zq n (zz n v))).size=(zq n (zz n v)).length∧(yc (zq n (zz n v))).data.toList=zq n (zz n v)):=qI ⟨xA _,xR _⟩
  clear hk1
  go_wp2_with fail
  refine (CT.o _ Gl.o HC.o).mono ?_
  rintro e w2 ⟨rfl,hk2⟩
  have Gw:=qI hk2
  have hsb:=Gt.o.1
  obtain⟨a2,n2,c2',w3,hrun,hn2,hb3,hk3⟩:=JZ w2 (yc (zq n (zz n v))) (by omega)
  rw [Gt.o.2] at hn2 hb3
  subst hn2
  have Gk:=qI hb3
  have Gf:=qI hk3
  revert hsb hrun
  generalize yc (zq n (zz n v))=T
  intro hsb hrun
  have hsI:(T.size:Int)≤262144:=by omega
  clear hsb hk2 hk3 hb3 c0 c1 c2 c3 c4 hl
  go_wp2_with fail
  go_ret2
  rw [HE.o]
  exact⟨⟨_,_,rfl,Gk.o⟩,((Gb.o.then Gl.o).then Gw.o).then Gf.o⟩
structure zP where
 bits:Int
 height:Int
 root:List UInt8
def kT (k:zP):List Value:=.int .i64 k.bits :: .int .i64 k.height :: k.root.map bv
def yi (k:zP):Array Value:=(kT k).toArray
theorem xe {k:zP}(h:k.root.length=32):(kT k).length=34:=by simp [kT,h]
def yA (b:Int):Bool:=decide (8≤b) && (decide (b≤256) && decide (b % 8=0))
def zK (k:zP):Bool:=yA k.bits && (decide (0≤k.height) && decide (k.height≤6))
def yt (w:World) (g:Nat) (k:zP):Prop:=w.heap[g]? = some (.cells (yi k) 47 (0,0))
theorem yt.kept0 {w w':World}{g:Nat}{k:zP}(h:yt w g k) (hk:zb [] w w'):yt w' g k:=hk.heap h (by simp)
theorem yt.c0 {w:World}{g:Nat}{k:zP}(h:yt w g k):w.cell? ⟨g,0,none⟩=some (.int .i64 k.bits):=za h rfl
theorem yt.c1 {w:World}{g:Nat}{k:zP}(h:yt w g k):w.cell? ⟨g,1,none⟩=some (.int .i64 k.height):=za h rfl
theorem yt.range {w:World}{g:Nat}{k:zP}(h:yt w g k):w.rangeAt g 0 (kT k):=fun j v hv=>by
 rw [Nat.zero_add];exact za h (by simpa [yi] using hv)
theorem yt.root {w:World}{g:Nat}{k:zP}(h:yt w g k) (hl:k.root.length=32):zp w (.slice (some ⟨g,2,none⟩) 32 32) k.root:=by
 refine⟨by simp,.inr (.inr ⟨g,2,32,by rw [hl],by omega,by decide,⟨fun j u hu=>?_,lt_of_block h⟩⟩)⟩
 refine za h ?_
 rw [yi,List.getElem?_toArray,kT,show 2 + j=j + 1 + 1 by omega,List.getElem?_cons_succ,List.getElem?_cons_succ]
 exact hu
theorem Y0:(Tryz.prog.info? 47).map (·.size)=some 34:=by kernel_rfl
theorem zT {ops:Array Oper}{rest:List Oper}{op:Oper}{a:Act}{w:World}{Q:Exit→Act→World→Prop}(hgd:op.guard=none) (x:Operand) (ho:op.op = .load 47 x) {g:Nat}{k:zP}(h0:yt w g k) (hl:k.root.length=32)
  (hx:a.eval x = .pointer (some ⟨g,0,none⟩)) (h:wpList Tryz.prog ops Q rest (a.put op.dst (.agg (yi k))) w):wpList Tryz.prog ops Q (op :: rest) a w:=
 wpList_load_mid hgd 47 x ho g 0 hx (kT k) _ h0.range underlying47 rfl (by rw [xe hl];exact Y0) h
theorem jM (b:Int) (h0:-9223372036854775808≤b) (h1:b≤9223372036854775807) (w:World):Calls Tryz.prog 68 #[.int .i64 b] w fun e w'=>e = .returned (.bool (yA b))∧w=w':=by
 have HB:Hid (yA b=(decide (8≤b) && (decide (b≤256) && decide (b % 8=0)))):=qI rfl
 by_cases k1:8≤b
 ·have d1:decide (8≤b)=true:=decide_eq_true k1
  by_cases k2:b≤256
  ·have d2:decide (b≤256)=true:=decide_eq_true k2
   by_cases k3:b % 8=0
   all_goals
    go_enter func68,ntmps68
    go_wp2_with fail
    go_ret
    exact⟨by rw [HB.o,d1,d2];simp [k3],rfl⟩
  ·have d2:decide (b≤256)=false:=decide_eq_false k2
   go_enter func68,ntmps68
   go_wp2_with fail
   go_ret
   exact⟨by rw [HB.o,d1,d2];rfl,rfl⟩
 ·have d1:decide (8≤b)=false:=decide_eq_false k1
  go_enter func68,ntmps68
  go_wp2_with fail
  go_ret
  exact⟨by rw [HB.o,d1];rfl,rfl⟩
def kx (b:Int):Prop:=-9223372036854775808≤b∧b≤9223372036854775807
theorem j0 (k:zP) (hb:kx k.bits) (w:World):Calls Tryz.prog 35 #[.agg (yi k)] w fun e w'=>e = .returned (.bool (zK k))∧zb [] w w':=by
 have HM:Hid (zK k=(yA k.bits && (decide (0≤k.height) && decide (k.height≤6)))):=qI rfl
 obtain⟨W0,Gd⟩:∃ W0,Hid (W0=w.alloc (.cells (yi k) 47)):=⟨_,qI rfl⟩
 have Gb:Hid (zb [] w W0):=qI (by rw [Gd.o];exact (zb.refl _ w).alloc _)
 have HA:Hid (yt W0 w.heap.size k):=qI (by rw [Gd.o];exact zd rfl)
 have CL:=qI (fun w1:World=>jM k.bits hb.1 hb.2 w1)
 have c0:=HA.o.c0
 have c1:=HA.o.c1
 revert HM CL
 generalize yA k.bits=r
 intro HM CL
 cases r with
 | false=>
  go_enter func35,ntmps35
  go_upto_region 1 with fail
  rw [← Gd.o]
  go_wp2_with (go_at_call 68;refine (CL.o _).mono ?_;rintro e w2 ⟨rfl,rfl⟩)
  go_ret
  exact⟨by rw [HM.o];rfl,Gb.o⟩
 | true=>
  by_cases k1:0≤k.height
  ·have d1:decide (0≤k.height)=true:=decide_eq_true k1
   go_enter func35,ntmps35
   go_upto_region 1 with fail
   rw [← Gd.o]
   go_wp2_with (go_at_call 68;refine (CL.o _).mono ?_;rintro e w2 ⟨rfl,rfl⟩)
   go_ret
   exact⟨by rw [HM.o,d1];rfl,Gb.o⟩
  ·have d1:decide (0≤k.height)=false:=decide_eq_false k1
   go_enter func35,ntmps35
   go_upto_region 1 with fail
   rw [← Gd.o]
   go_wp2_with (go_at_call 68;refine (CL.o _).mono ?_;rintro e w2 ⟨rfl,rfl⟩)
   go_ret
   exact⟨by rw [HM.o,d1];rfl,Gb.o⟩
theorem KZ (n:Int) (w:World):Calls Tryz.prog 114 #[.int .i64 n] w fun e w'=>e = .returned (.agg #[.int .i64 3,.int .i64 n,.string ⟨#[]⟩,.slice none 0 0,.slice none 0 0])∧zb [] w w':=by
 go_enter func114,ntmps114
 go_wp2_with fail
 exact bodyPost_ret (v:=.agg #[.int .i64 3,.int .i64 n,.string ⟨#[]⟩,.slice none 0 0,.slice none 0 0]) (by simp [results,results114,go_sem]) rfl ⟨rfl,(zb.refl _ _).alloc _⟩
theorem bJ (s:ByteArray) (w:World):Calls Tryz.prog 115 #[.string s] w fun e w'=>e = .returned (.agg #[.int .i64 4,.int .i64 0,.string s,.slice none 0 0,.slice none 0 0])∧zb [] w w':=by
 go_enter func115,ntmps115
 go_wp2_with fail
 exact bodyPost_ret (v:=.agg #[.int .i64 4,.int .i64 0,.string s,.slice none 0 0,.slice none 0 0]) (by simp [results,results115,go_sem]) rfl ⟨rfl,(zb.refl _ _).alloc _⟩
theorem vC (key:ByteArray) (k m:Int) (s:ByteArray) (p:Option Addr) (i c:Nat) (q:Option Addr) (j d:Nat) (w:World):Calls Tryz.prog 113 #[.string key,.agg #[.int .i64 k,.int .i64 m,.string s,.slice p i c,.slice q j d]] w fun e w'=>e = .returned (.agg #[.string key,.int .i64 k,.int .i64 m,.string s,.slice p i c,.slice q j d])∧zb [] w w':=by
 go_enter func113,ntmps113
 go_wp2_with fail
 exact bodyPost_ret (v:=.agg #[.string key,.int .i64 k,.int .i64 m,.string s,.slice p i c,.slice q j d]) (by simp [results,results113,go_sem]) rfl ⟨rfl,((zb.refl _ _).alloc _).alloc _⟩
def Ze {α:Type}(m:List (ByteArray × α)):VS α:=⟨6,0,⟨#[]⟩,[],m⟩
def YA {α:Type}(n:Int):VS α:=⟨3,n,⟨#[]⟩,[],[]⟩
def qE {α:Type}(s:ByteArray):VS α:=⟨4,0,s,[],[]⟩
theorem rep_map {n:Nat}{S:Nat→Prop}{w:World}{m:List (ByteArray × V n)}{mcs:List (ByteArray × List Value)}{a:Option Addr}{c:Nat}(hs:Slc w 6 (.slice a m.length c) m.length (zX mcs)) (hm:zI (jY (Rep n S w)) mcs m) (hS:∀ g,yq (.slice a m.length c)=some g→S g):Rep (n + 1) S w [.int .i64 6,.int .i64 0,.string ⟨#[]⟩,.slice none 0 0,.slice a m.length c] (Ze m):=
 ⟨.slice none 0 0,_,[],mcs,{ cells:=rfl,slcl:=xn _ _,alll:=zI.nil _,slcm:=hs,allm:=hm,inl:=by simp [yq],inm:=hS,wfk:=Qy (i:=6) (by decide) (by decide),wfn:=Qy (i:=0) (by decide) (by decide) }⟩
theorem QL {n:Nat}(S:Nat→Prop) (w:World) (z:Int) (h:kx z):Rep (n + 1) S w [.int .i64 3,.int .i64 z,.string ⟨#[]⟩,.slice none 0 0,.slice none 0 0] (YA z):=YC S w (YA z) rfl rfl (Qy (i:=3) (by decide) (by decide)) (Qy h.1 h.2)
theorem vf {n:Nat}(S:Nat→Prop) (w:World) (s:ByteArray):Rep (n + 1) S w [.int .i64 4,.int .i64 0,.string s,.slice none 0 0,.slice none 0 0] (qE s):=YC S w (qE s) rfl rfl (Qy (i:=4) (by decide) (by decide)) (Qy (i:=0) (by decide) (by decide))
def New (n:Nat) (w w':World) (e:Ending) (v:V n):Prop:=∃ cs:List Value,e = .returned (.agg cs.toArray)∧kW n (fun g=>w.heap.size≤g∧g < w'.heap.size) w' cs v
theorem Kb {n:Nat}{S:Nat→Prop}{w:World}{m:List (ByteArray × V n)}{mcs:List (ByteArray × List Value)}{a:Option Addr}{c:Nat}(hs:Slc w 6 (.slice a m.length c) m.length (zX mcs)) (hm:zI (jY (Rep n S w)) mcs m) (hsm:yk (n + 1) (Ze m)) :
  Calls Tryz.prog 112 #[.slice a m.length c] w fun e w'=>New (n + 1) w w' e (Ze m)∧zb [] w w':=by
 obtain⟨W0,Gd⟩:∃ W0,Hid (W0=w.alloc (.cells #[.int .i64 0,.int .i64 0,.string ⟨#[]⟩,.slice none 0 0,.slice none 0 0] 25)):=⟨_,qI rfl⟩
 have Gb:Hid (zb [] w W0):=qI (by rw [Gd.o];exact (zb.refl _ w).alloc _)
 have HR:Hid (W0.heap[w.heap.size]? = some (.cells #[.int .i64 0,.int .i64 0,.string ⟨#[]⟩,.slice none 0 0,.slice none 0 0] 25 (0,0))):=qI (by rw [Gd.o];exact zd rfl)
 have CC:=qI (Ko (n + 1) (Ze m) (rep_map (S:=fun _=>True) (hs.kept0 Gb.o) (hm.mono fun _ _ _ r=>⟨r.1,(r.2.kept0 Gb.o).mono (fun _ _ _=>trivial)⟩) (fun _ _=>trivial)) hsm)
 clear hs hm hsm
 go_enter func112,ntmps112
 go_upto_region 1 with fail
 rw [← Gd.o]
 go_wp2_with (go_at_call 45;refine CC.o.mono ?_;rintro e w3 ⟨⟨cs3,rfl,ho3⟩,hk3⟩;obtain⟨k3,m3,s3,x3,j3,c3,y3,l3,e3,rfl⟩:=ho3.rep.conv;have Jh:=qI ho3;have Gf:=qI hk3;have Gm:=qI (hk3.heap HR.o (by simp));have r0:=za (o:=0) (v:=.int .i64 0) Gm.o rfl;have r1:=za (o:=1) (v:=.int .i64 0) Gm.o rfl;have r2:=za (o:=2) (v:=.string ⟨#[]⟩) Gm.o rfl;have r3:=za (o:=3) (v:=.slice none 0 0) Gm.o rfl;have r4:=za (o:=4) (v:=.slice none 0 0) Gm.o rfl;have z:∀ j,w3.frozen? ⟨w.heap.size,j,none⟩=false:=fun j=>zh Gm.o;clear ho3 hk3)
 change bodyPost _ _ _ _ _ (vG w3 w.heap.size k3 m3 s3 (.slice x3 j3 c3) (.slice y3 l3 e3))
 have Gr:=kN w3 w.heap.size k3 m3 s3 (.slice x3 j3 c3) (.slice y3 l3 e3)
 have Gx:=jU Gm.o k3 m3 s3 (.slice x3 j3 c3) (.slice y3 l3 e3)
 revert Gr Gx
 generalize vG w3 w.heap.size k3 m3 s3 (.slice x3 j3 c3) (.slice y3 l3 e3)=WF
 intro Gr Gx
 obtain⟨z0,z1,z2,z3,z4⟩:=k7 Gx
 refine bodyPost_ret (v:=.agg #[.int .i64 k3,.int .i64 m3,.string s3,.slice x3 j3 c3,.slice y3 l3 e3]) (by simp [results,results112,go_sem,z0,z1,z2,z3,z4]) rfl ⟨?_,(Gb.o.then Gf.o).trans Gr (by intro i hi;simp at hi;subst hi;exact .inr (Nat.le_refl _))⟩
 have hsz:W0.heap.size=w.heap.size + 1:=by rw [Gd.o];simp
 exact⟨_,rfl,(Jh.o.kept Gr (by intro k hk;simp at hk;subst hk;omega)).mono (fun g ⟨h5,h6⟩=>⟨by omega,Nat.lt_of_lt_of_le h6 Gr.size⟩)⟩
end Go.Proofs.YtibnfbglanpoiaaGreatDoor

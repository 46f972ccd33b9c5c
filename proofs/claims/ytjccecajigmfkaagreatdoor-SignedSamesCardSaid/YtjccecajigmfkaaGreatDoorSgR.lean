/- Parts of one proof, merged: XIB XIC XID XIE. -/
import Derived.Test.YtjccecajigmfkaaGreatDoorSgO
import Derived.Test.YtjccecajigmfkaaGreatDoorSgQ
set_option linter.all false
set_option maxHeartbeats 12800000
set_option maxRecDepth 10000
namespace Go.Proofs.YtjccecajigmfkaaGreatDoor
open Go.Proofs.Tryz
open Go.RowKit
variable {S:Nat→Prop}{a:Option Addr}{lcs:List (List Value)}{mcs:List (ByteArray×List Value)}{w':World}
structure yX where
 bits:Int
 height:Int
 root:List UInt8
def bl (k:yX):List Value:=.int .i64 k.bits :: .int .i64 k.height::k.root.map bv
def yU (k:yX):Array Value:=(bl k).toArray
theorem xS {k:yX}(h:k.root.length=32):(bl k).length=34:=by simp [bl,h]
def xu (b:Int):Bool:=decide (8≤b)&&(decide (b≤256)&&decide (b%8=0))
def yr (k:yX):Bool:=xu k.bits&&(decide (0≤k.height)&&decide (k.height≤6))
def yR (w:World)(g:Nat)(k:yX):Prop:=w.heap[g]? = some (.cells (yU k) 51 (0,0))
theorem yR.k0 {w:World}{g:Nat}{k:yX}(h:yR w g k)(a:zb [] w w'):yR w' g k:=a.heap h Wz
theorem yR.c0 {w:World}{g:Nat}{k:yX}(h:yR w g k):w.cell? ⟨g,0,none⟩=some (.int .i64 k.bits):=za h rfl
theorem yR.c1 {w:World}{g:Nat}{k:yX}(h:yR w g k):w.cell? ⟨g,1,none⟩=some (.int .i64 k.height):=za h rfl
theorem yR.range {w:World}{g:Nat}{k:yX}(h:yR w g k):w.rangeAt g 0 (bl k):=fun j v hv=>by
 rw [Nat.zero_add];exact za h (by simpa [yU] using hv)
theorem yR.root {w:World}{g:Nat}{k:yX}(h:yR w g k)(b:k.root.length=32):zp w (.slice (some ⟨g,2,none⟩) 32 32) k.root:=by
 refine⟨Wz,.inr (.inr ⟨g,2,32,by rw [b],Ws,Wo,⟨fun j u a=>?_,lt_of_block h⟩⟩)⟩;refine za h ?_;rw [yU,List.getElem?_toArray,bl,show 2+j=j+1+1 by omega,List.getElem?_cons_succ,List.getElem?_cons_succ];exact a
theorem K6:(Tryz.prog.info? 51).map (·.size)=some 34:=Wr
theorem yM {b:Array Oper}{rest:List Oper}{op:Oper}{a:Act}{w:World}{Q:Exit→Act→World→Prop}(d:op.guard=none)(x:Operand)(f:op.op = .load 51 x){g:Nat}{k:yX}(i:yR w g k)(j:k.root.length=32)(e:a.eval x = .pointer (some ⟨g,0,none⟩))(h:wpList prog b Q rest (a.put op.dst (.agg (yU k))) w):wpList prog b Q (op::rest) a w:=
 wpList_load_mid d 51 x f g 0 e (bl k) _ i.range underlying51 rfl (by rw [xS j];exact K6) h
theorem vR (b:Int)(k:-9223372036854775808≤b)(l:b≤9223372036854775807)(w:World):Calls prog 85 #[.int .i64 b] w fun e w'=>e = .returned (.bool (xu b))∧w=w':=by
 have d:Hid (xu b=(decide (8≤b)&&(decide (b≤256)&&decide (b%8=0)))):=qI rfl;by_cases i:8≤b
 ·have a:decide (8≤b)=true:=decide_eq_true i;by_cases h:b≤256
  ·have f:decide (b≤256)=true:=decide_eq_true h;by_cases j:b%8=0;all_goals
    go_enter func85,ntmps85;go_wp2;go_ret;exact⟨by rw [d.o,a,f];simp [j],rfl⟩
  ·have f:decide (b≤256)=false:=decide_eq_false h;go_enter func85,ntmps85;go_wp2;go_ret;exact⟨by rw [d.o,a,f];rfl,rfl⟩
 ·have a:decide (8≤b)=false:=decide_eq_false i;go_enter func85,ntmps85;go_wp2;go_ret;exact⟨by rw [d.o,a];rfl,rfl⟩
def Z1 (b:Int):Prop:=-9223372036854775808≤b∧b≤9223372036854775807
theorem bw (k:yX)(j:Z1 k.bits)(w:World):zJ w 44 #[.agg (yU k)] (.bool (yr k)):=by
 have d:Hid (yr k=(xu k.bits&&(decide (0≤k.height)&&decide (k.height≤6)))):=qI rfl;obtain⟨l,b⟩:=XE (w.alloc (.cells (yU k) 51));have f:Hid (zb [] w l):=qI (kA1 b.o);have i:Hid (yR l w.heap.size k):=qI (by rw [b.o];exact ze rfl);have a:=qI (fun w1:World=>vR k.bits j.1 j.2 w1);have c0:=i.o.c0;have c1:=i.o.c1;revert d a;generalize xu k.bits=r;intro d a;cases r with
 | false=>go_enter func44,ntmps44;go_upto_region 1 with fail;rw [← b.o];go_wp2_with (go_at_call 85;refine (a.o _).mono ?_;rintro e w2 ⟨rfl,rfl⟩);go_ret;exact⟨by rw [d.o];rfl,f.o⟩
 | true=>
  by_cases m:0≤k.height;·have h:decide (0≤k.height)=true:=decide_eq_true m;go_enter func44,ntmps44;go_upto_region 1 with fail;rw [← b.o];go_wp2_with (go_at_call 85;refine (a.o _).mono ?_;rintro e w2 ⟨rfl,rfl⟩);go_ret;exact⟨by rw [d.o,h];rfl,f.o⟩
  ·have h:decide (0≤k.height)=false:=decide_eq_false m;go_enter func44,ntmps44;go_upto_region 1 with fail;rw [← b.o];go_wp2_with (go_at_call 85;refine (a.o _).mono ?_;rintro e w2 ⟨rfl,rfl⟩);go_ret;exact⟨by rw [d.o,h];rfl,f.o⟩
theorem zbC (n:Int)(w:World):zJ w 143 #[.int .i64 n] (.agg #[.int .i64 3,.int .i64 n,.string ⟨#[]⟩,.slice none 0 0,.slice none 0 0]):=by
 go_enter func143,ntmps143;go_wp2;exact bodyPost_ret (v:=.agg #[.int .i64 3,.int .i64 n,.string ⟨#[]⟩,.slice none 0 0,.slice none 0 0]) (by simp [results,results143,go_sem]) rfl ⟨rfl,Wd.alloc _⟩
theorem j9 (s:ByteArray)(w:World):zJ w 55 #[.string s] (.agg #[.int .i64 4,.int .i64 0,.string s,.slice none 0 0,.slice none 0 0]):=by
 go_enter func55,ntmps55;go_wp2;exact bodyPost_ret (v:=.agg #[.int .i64 4,.int .i64 0,.string s,.slice none 0 0,.slice none 0 0]) (by simp [results,results55,go_sem]) rfl ⟨rfl,Wd.alloc _⟩
theorem bW (key:ByteArray)(k m:Int)(s:ByteArray)(p:Option Addr)(i c:Nat)(q:Option Addr)(j d:Nat)(w:World):zJ w 142 #[.string key,.agg #[.int .i64 k,.int .i64 m,.string s,.slice p i c,.slice q j d]] (.agg #[.string key,.int .i64 k,.int .i64 m,.string s,.slice p i c,.slice q j d]):=by
 go_enter func142,ntmps142;go_wp2;exact bodyPost_ret (v:=.agg #[.string key,.int .i64 k,.int .i64 m,.string s,.slice p i c,.slice q j d]) (by simp [results,results142,go_sem]) rfl ⟨rfl,(Wd.alloc _).alloc _⟩
def vf {α:Type}(m:List (ByteArray×α)):VS α:=⟨6,0,⟨#[]⟩,[],m⟩
def ju {α:Type}(l:List α):VS α:=⟨5,0,⟨#[]⟩,l,[]⟩
def intV {α:Type}(n:Int):VS α:=⟨3,n,⟨#[]⟩,[],[]⟩
def q8 {α:Type}(s:ByteArray):VS α:=⟨4,0,s,[],[]⟩
theorem rep_map {n:Nat}{w:World}{m:List (ByteArray×V n)}{c:Nat}(d:Slc w 6 (.slice a m.length c) m.length (zZ mcs))(hm:zM (bh (Rep n S w)) mcs m)(b:∀ g,yx (.slice a m.length c)=some g→S g):Rep (n+1) S w [.int .i64 6,.int .i64 0,.string ⟨#[]⟩,.slice none 0 0,.slice a m.length c] (vf m):=
 ⟨.slice none 0 0,_,[],mcs,{ cells:=rfl,slcl:=xX _ _,alll:=zM.nil _,slcm:=d,allm:=hm,inl:=by simp [yx],inm:=b,wfk:=zbo (i:=6) Wo Wo,wfn:=zbo (i:=0) Wo Wo }⟩
theorem rep_list {n:Nat}{w:World}{l:List (V n)}{c:Nat}(d:Slc w 5 (.slice a l.length c) l.length lcs.flatten)(hm:zM (Rep n S w) lcs l)(b:∀ g,yx (.slice a l.length c)=some g→S g):Rep (n+1) S w [.int .i64 5,.int .i64 0,.string ⟨#[]⟩,.slice a l.length c,.slice none 0 0] (ju l):=
 ⟨_,.slice none 0 0,lcs,[],{ cells:=rfl,slcl:=d,alll:=hm,slcm:=xX _ _,allm:=zM.nil _,inl:=b,inm:=by simp [yx],wfk:=zbo (i:=5) Wo Wo,wfn:=zbo (i:=0) Wo Wo }⟩
theorem rep_int {n:Nat}(S:Nat→Prop)(w:World)(z:Int)(h:Z1 z):Rep (n+1) S w [.int .i64 3,.int .i64 z,.string ⟨#[]⟩,.slice none 0 0,.slice none 0 0] (intV z):=zbz S w (intV z) rfl rfl (zbo (i:=3) Wo Wo) (zbo h.1 h.2)
theorem bS {n:Nat}(S:Nat→Prop)(w:World)(s:ByteArray):Rep (n+1) S w [.int .i64 4,.int .i64 0,.string s,.slice none 0 0,.slice none 0 0] (q8 s):=zbz S w (q8 s) rfl rfl (zbo (i:=4) Wo Wo) (zbo (i:=0) Wo Wo)
def New (n:Nat)(w w':World)(e:Ending)(v:V n):Prop:=∃ cs:List Value,e = .returned (.agg cs.toArray)∧jr n (fun g=>w.heap.size≤g∧g<w'.heap.size) w' cs v
theorem ZG {n:Nat}{w:World}{m:List (ByteArray×V n)}{c:Nat}(x:Slc w 6 (.slice a m.length c) m.length (zZ mcs))(hm:zM (bh (Rep n S w)) mcs m)(l:zP (n+1) (vf m)) : Calls prog 54 #[.slice a m.length c] w fun e w'=>New (n+1) w w' e (vf m)∧zb [] w w':=by
 obtain⟨t,q⟩:=XE (w.alloc (.cells #[.int .i64 0,.int .i64 0,.string ⟨#[]⟩,.slice none 0 0,.slice none 0 0] 25));have s:Hid (zb [] w t):=qI (kA1 q.o);have B:Hid (t.heap[w.heap.size]? = some (.cells #[.int .i64 0,.int .i64 0,.string ⟨#[]⟩,.slice none 0 0,.slice none 0 0] 25 (0,0))):=qI (by rw [q.o];exact ze rfl);have G:=qI (ZJ (n+1) (vf m) (rep_map (S:=fun _=>True) (x.k0 s.o) (hm.mono fun _ _ _ r=>⟨r.1,(r.2.k0 s.o).mono (fun _ _ _=>trivial)⟩) (fun _ _=>trivial)) l);clear x hm l;go_enter func54,ntmps54;go_upto_region 1 with fail;rw [← q.o];go_wp2_with (go_at_call 53;refine G.o.mono ?_;rintro e p ⟨⟨F,rfl,b⟩,d⟩;obtain⟨k3,m3,s3,x3,j3,c3,y3,l3,e3,rfl⟩:=b.rep.conv;have J:=qI b;have E:=qI d;have f:=qI (d.heap B.o Wz);have Q:=za (o:=0) (v:=.int .i64 0) f.o rfl;have P:=za (o:=1) (v:=.int .i64 0) f.o rfl;have N:=za (o:=2) (v:=.string ⟨#[]⟩) f.o rfl;have O:=za (o:=3) (v:=.slice none 0 0) f.o rfl;have M:=za (o:=4) (v:=.slice none 0 0) f.o rfl;have z:∀ j,p.frozen? ⟨w.heap.size,j,none⟩=false:=fun j=>zh f.o;clear b d);change bodyPost _ _ _ _ _ (ky p w.heap.size k3 m3 s3 (.slice x3 j3 c3) (.slice y3 l3 e3));have h:=xE p w.heap.size k3 m3 s3 (.slice x3 j3 c3) (.slice y3 l3 e3);have u:=qZ f.o k3 m3 s3 (.slice x3 j3 c3) (.slice y3 l3 e3);revert h u;generalize ky p w.heap.size k3 m3 s3 (.slice x3 j3 c3) (.slice y3 l3 e3)=WF;intro h u;obtain⟨L,K,C,I,D⟩:=qa u;refine bodyPost_ret (v:=.agg #[.int .i64 k3,.int .i64 m3,.string s3,.slice x3 j3 c3,.slice y3 l3 e3]) (by simp [results,results54,go_sem,L,K,C,I,D]) rfl ⟨?_,(s.o.then E.o).trans h (by intro i A;simp at A;subst A;exact .inr (XA))⟩;have H:t.heap.size=w.heap.size+1:=by rw [q.o];simp
 exact⟨_,rfl,(J.o.kept h (by intro k y;simp at y;subst y;omega)).mono (fun g ⟨h5,h6⟩=>⟨Ws,Nat.lt_of_lt_of_le h6 h.size⟩)⟩
theorem valList_any {n:Nat}{w:World}{l:List (V n)}{c:Nat}(x:Slc w 5 (.slice a l.length c) l.length lcs.flatten)(hm:zM (Rep n S w) lcs l)(m:zP (n+1) (ju l)) : Calls prog 57 #[.slice a l.length c] w fun e w'=>New (n+1) w w' e (ju l)∧zb [] w w':=by
 obtain⟨t,q⟩:=XE (w.alloc (.cells #[.int .i64 0,.int .i64 0,.string ⟨#[]⟩,.slice none 0 0,.slice none 0 0] 25));have s:Hid (zb [] w t):=qI (kA1 q.o);have B:Hid (t.heap[w.heap.size]? = some (.cells #[.int .i64 0,.int .i64 0,.string ⟨#[]⟩,.slice none 0 0,.slice none 0 0] 25 (0,0))):=qI (by rw [q.o];exact ze rfl);have G:=qI (ZJ (n+1) (ju l) (rep_list (S:=fun _=>True) (x.k0 s.o) (hm.mono fun _ _ _ r=>(r.k0 s.o).mono (fun _ _ _=>trivial)) (fun _ _=>trivial)) m);clear x hm m;go_enter func57,ntmps57;go_upto_region 1 with fail;rw [← q.o];go_wp2_with (go_at_call 53;refine G.o.mono ?_;rintro e p ⟨⟨F,rfl,b⟩,d⟩;obtain⟨k3,m3,s3,x3,j3,c3,y3,l3,e3,rfl⟩:=b.rep.conv;have J:=qI b;have E:=qI d;have f:=qI (d.heap B.o Wz);have Q:=za (o:=0) (v:=.int .i64 0) f.o rfl;have P:=za (o:=1) (v:=.int .i64 0) f.o rfl;have N:=za (o:=2) (v:=.string ⟨#[]⟩) f.o rfl;have O:=za (o:=3) (v:=.slice none 0 0) f.o rfl;have M:=za (o:=4) (v:=.slice none 0 0) f.o rfl;have z:∀ j,p.frozen? ⟨w.heap.size,j,none⟩=false:=fun j=>zh f.o;clear b d);change bodyPost _ _ _ _ _ (ky p w.heap.size k3 m3 s3 (.slice x3 j3 c3) (.slice y3 l3 e3));have h:=xE p w.heap.size k3 m3 s3 (.slice x3 j3 c3) (.slice y3 l3 e3);have u:=qZ f.o k3 m3 s3 (.slice x3 j3 c3) (.slice y3 l3 e3);revert h u;generalize ky p w.heap.size k3 m3 s3 (.slice x3 j3 c3) (.slice y3 l3 e3)=WF;intro h u;obtain⟨L,K,C,I,D⟩:=qa u;refine bodyPost_ret (v:=.agg #[.int .i64 k3,.int .i64 m3,.string s3,.slice x3 j3 c3,.slice y3 l3 e3]) (by simp [results,results57,go_sem,L,K,C,I,D]) rfl ⟨?_,(s.o.then E.o).trans h (by intro i A;simp at A;subst A;exact .inr (XA))⟩;have H:t.heap.size=w.heap.size+1:=by rw [q.o];simp
 exact⟨_,rfl,(J.o.kept h (by intro k y;simp at y;subst y;omega)).mono (fun g ⟨h5,h6⟩=>⟨Ws,Nat.lt_of_lt_of_le h6 h.size⟩)⟩
def jy (l:List UInt8):ByteArray:=zx (bp l)
def valV (k:yX):V 2:=(vf [(⟨#[98,105,116,115]⟩,(intV k.bits:VS (V 0))),(⟨#[104,101,105,103,104,116]⟩,intV k.height),(⟨#[112,117,98,108,105,99]⟩,q8 (jy k.root))]:VS (V 1))
def Zo (k:yX):V 3:=(vf [(⟨#[107,101,121,116,121,112,101]⟩,(q8 ⟨#[108,97,109,112,111,114,116,45,109,101,114,107,108,101]⟩:VS (V 1))),(⟨#[115,99,104,101,109,101]⟩,q8 ⟨#[115,104,97,50,53,54]⟩),(⟨#[107,101,121,118,97,108]⟩,valV k)]:VS (V 2))
theorem jU (l:List UInt8):(jy l).size=2*l.length:=by rw [jy,yd,bT]
theorem small_val (k:yX)(h:k.root.length=32):zP 2 (valV k):=by
 have e:=jU k.root;have a:zT 2 (valV k)=0+(4+(6+(6+0)))+((0+0+0)+((0+0+0)+(((jy k.root).size+0+0)+0))):=rfl;exact⟨by show (4:Nat)≤20000;omega,by rw [a,e,h];omega⟩
theorem small_key (k:yX)(h:k.root.length=32):zP 3 (Zo k):=by
 have e:=(small_val k h).2;have b:zT 3 (Zo k)=0+(7+(6+(6+0)))+((14+0+0)+((6+0+0)+(zT 2 (valV k)+0))):=rfl;have a:zT 2 (valV k)=0+(4+(6+(6+0)))+((0+0+0)+((0+0+0)+(((jy k.root).size+0+0)+0))):=rfl;have d:=jU k.root;exact⟨by show (7:Nat)≤20000;omega,by rw [b,a,d,h];omega⟩
def Zw (w w':World)(e:Ending)(k:yX):Prop:=if yr k=true then New 3 w w' e (Zo k) else e = .returned kg
theorem may_wf {k:yX}(h:yr k=true):Z1 k.bits∧Z1 k.height:=by
 unfold yr xu at h;simp only [Bool.and_eq_true,decide_eq_true_eq] at h;exact⟨⟨Ws,Ws⟩,Ws,Ws⟩
def KJ (n:Nat)(v:V n):kM (zb []):=⟨fun u b w=>∃ k m s p i c q j d,u = .agg #[.int .i64 k,.int .i64 m,.string s,.slice p i c,.slice q j d]∧jr n (fun g=>b.1≤g∧g<b.2) w [.int .i64 k,.int .i64 m,.string s,.slice p i c,.slice q j d] v,fun _ _ _ _ ⟨k,m,s,p,i,c,q,j,d,h1,h2⟩ kk=>⟨k,m,s,p,i,c,q,j,d,h1,h2.k0 kk⟩⟩
theorem vo {n:Nat}{w:World}{e:Ending}{v:V n}(h:New n w w' e v):∃ k m s p i c q j d,e = .returned (.agg #[.int .i64 k,.int .i64 m,.string s,.slice p i c,.slice q j d])∧jr n (fun g=>w.heap.size≤g∧g<w'.heap.size) w' [.int .i64 k,.int .i64 m,.string s,.slice p i c,.slice q j d] v:=by
 obtain⟨cs,rfl,h⟩:=h;obtain⟨k,m,s,p,i,c,q,j,d,rfl⟩:=h.rep.conv;exact⟨k,m,s,p,i,c,q,j,d,rfl,h⟩
theorem keyValue_any (k:yX)(hb:Z1 k.bits)(hr:k.root.length=32)(w:World):Calls prog 97 #[.agg (yU k)] w fun e w'=>Zw w w' e k∧zb [] w w':=by
 obtain⟨P,Gb⟩:=XE ((w.alloc (.cells (yU k) 51)).alloc (.cells #[.int .i64 0,.int .i64 0,.string ⟨#[]⟩,.slice none 0 0,.slice none 0 0] 25));have Gc:Hid (zb [] w P):=qI (kA2 Gb.o);have HA:Hid (yR P w.heap.size k):=qI (by rw [Gb.o];exact ((zb.refl [] _).alloc _).heap (ze rfl) Wz);have Jb:Hid (P.heap[w.heap.size+1]? = some (.cells #[.int .i64 0,.int .i64 0,.string ⟨#[]⟩,.slice none 0 0,.slice none 0 0] 25 (0,0))):=qI (by rw [Gb.o];exact ze Wz);have Ji:Hid (w.heap.size≤P.heap.size):=qI Gc.o.size;have Jc:Hid (P.heap.size=w.heap.size+2):=qI (by rw [Gb.o];simp);have CM:=qI (bw k hb P);have H:=qI hr;clear hb hr;have Jd:Hid (∀ w2:World,zb [] P w2→Calls prog 52 #[.slice (some ⟨w.heap.size,2,none⟩) 32 32] w2 fun e w'=>e = .returned (.string (jy k.root))∧zb [] w2 w'):=qI (fun w2 O=>by
  have h1:=zaz (w:=w2) (l:=k.root) (by rw [H.o];exact (HA.o.root H.o).k0 O) (by rw [H.o];decide) (by intro e;have:=H.o;rw [e] at this;cases this);rw [H.o] at h1;exact h1)
 obtain⟨G,Je⟩:=XE (jy k.root);rw [← Je.o] at Jd;have Jj:Hid (yr k=true→Z1 k.bits∧Z1 k.height):=qI may_wf;by_cases hm:yr k=true;rotate_left
 ·have ab:yr k=false:=by simpa using hm
  rw [ab] at CM;have Gk:Hid (∀ w' e,Zw w w' e k=(e = .returned kg)):=qI (fun w' e=>by unfold Zw;rw [if_neg hm]);clear hm ab;go_enter func97,ntmps97;go_upto_region 1 with fail;rw [← Gb.o];go_wp2_with first
   | (refine yM Wk (.tmp 1) Wk HA.o H.o Wk ?_)
   | (go_at_call 44;refine CM.o.mono ?_;rintro e L ⟨rfl,N⟩;have F:=qI N;have M:=qI (N.heap Jb.o Wz);have r0:=za (o:=0) (v:=.int .i64 0) M.o rfl;have r1:=za (o:=1) (v:=.int .i64 0) M.o rfl;have r2:=za (o:=2) (v:=.string ⟨#[]⟩) M.o rfl;have r3:=za (o:=3) (v:=.slice none 0 0) M.o rfl;have r4:=za (o:=4) (v:=.slice none 0 0) M.o rfl;have z:∀ j,L.frozen? ⟨w.heap.size+1,j,none⟩=false:=fun j=>zh M.o;clear N)
  change bodyPost _ _ _ _ _ (ky L (w.heap.size+1) 0 0 ⟨#[]⟩ (.slice none 0 0) (.slice none 0 0));have I:=xE L (w.heap.size+1) 0 0 ⟨#[]⟩ (.slice none 0 0) (.slice none 0 0);have U:=qZ M.o 0 0 ⟨#[]⟩ (.slice none 0 0) (.slice none 0 0);revert I U;generalize ky L (w.heap.size+1) 0 0 ⟨#[]⟩ (.slice none 0 0) (.slice none 0 0)=WF;intro I U;obtain⟨y0,y1,y2,y3,y4⟩:=qa U;exact bodyPost_ret (v:=kg) (by simp [results,results97,go_sem,y0,y1,y2,y3,y4,kg]) rfl ⟨by rw [Gk.o],((Gc.o.then F.o).trans I (by intro i C;simp at C;subst C;exact .inr Wz))⟩
 rw [hm] at CM;have Gk:Hid (∀ w' e,Zw w w' e k=New 3 w w' e (Zo k)):=qI (fun w' e=>by unfold Zw;rw [if_pos hm]);have Jf:=qI (Jj.o hm);clear hm;go_enter func97,ntmps97;go_upto_region 1 with fail;rw [← Gb.o];go_upto_region 3 with first
  | (refine yM Wk (.tmp 1) Wk HA.o H.o Wk ?_)
  | (go_at_call 44;refine CM.o.mh ?_;rintro e L rfl F)
 have Jk:Hid (w.heap.size≤L.heap.size):=qI (Nat.le_trans Ji.o F.o.size);have Jl:Hid (∀ (g:Nat) (w2:World),zb [] L w2→Slc w2 6 (.slice (some ⟨g,0,none⟩) 3 3) 3 [.string ⟨#[98,105,116,115]⟩,.int .i64 3,.int .i64 k.bits,.string ⟨#[]⟩,.slice none 0 0,.slice none 0 0,.string ⟨#[104,101,105,103,104,116]⟩,.int .i64 3,.int .i64 k.height,.string ⟨#[]⟩,.slice none 0 0,.slice none 0 0,.string ⟨#[112,117,98,108,105,99]⟩,.int .i64 4,.int .i64 0,.string G,.slice none 0 0,.slice none 0 0]→Calls prog 54 #[.slice (some ⟨g,0,none⟩) 3 3] w2 fun e w'=>New 2 w2 w' e (valV k)∧zb [] w2 w'):=qI (fun g w2 O R=>by
  refine ZG (n:=1) (S:=fun _=>True) (m:=(valV k).m) (mcs:=[(⟨#[98,105,116,115]⟩,[.int .i64 3,.int .i64 k.bits,.string ⟨#[]⟩,.slice none 0 0,.slice none 0 0]),(⟨#[104,101,105,103,104,116]⟩,[.int .i64 3,.int .i64 k.height,.string ⟨#[]⟩,.slice none 0 0,.slice none 0 0]),(⟨#[112,117,98,108,105,99]⟩,[.int .i64 4,.int .i64 0,.string G,.slice none 0 0,.slice none 0 0])]) R ?_ (small_val k H.o);exact zM.cons ⟨rfl,rep_int (n:=0) _ _ _ Jf.o.1⟩ (zM.cons ⟨rfl,rep_int (n:=0) _ _ _ Jf.o.2⟩ (zM.cons ⟨rfl,by rw [Je.o];exact bS (n:=0) _ _ _⟩ (zM.nil _))))
 refine yz (n:=31) 16 [fI (.pointer (some ⟨w.heap.size,0,none⟩)),
  fI (.int .i64 k.bits),
  fI (.agg #[.int .i64 3,.int .i64 k.bits,.string ⟨#[]⟩,.slice none 0 0,.slice none 0 0]),
  fI (.agg #[.string ⟨#[98,105,116,115]⟩,.int .i64 3,.int .i64 k.bits,.string ⟨#[]⟩,.slice none 0 0,.slice none 0 0]),
  fI (.pointer (some ⟨w.heap.size,1,none⟩)),
  fI (.int .i64 k.height),
  fI (.agg #[.int .i64 3,.int .i64 k.height,.string ⟨#[]⟩,.slice none 0 0,.slice none 0 0]),
  fI (.agg #[.string ⟨#[104,101,105,103,104,116]⟩,.int .i64 3,.int .i64 k.height,.string ⟨#[]⟩,.slice none 0 0,.slice none 0 0]),
  fI (.pointer (some ⟨w.heap.size,2,none⟩)),
  fI (.slice (some ⟨w.heap.size,2,none⟩) 32 32),
  fI (.string G),
  fI (.agg #[.int .i64 4,.int .i64 0,.string G,.slice none 0 0,.slice none 0 0]),
  fI (.agg #[.string ⟨#[112,117,98,108,105,99]⟩,.int .i64 4,.int .i64 0,.string G,.slice none 0 0,.slice none 0 0]),
  kP [.string ⟨#[98,105,116,115]⟩,.int .i64 3,.int .i64 k.bits,.string ⟨#[]⟩,.slice none 0 0,.slice none 0 0,.string ⟨#[104,101,105,103,104,116]⟩,.int .i64 3,.int .i64 k.height,.string ⟨#[]⟩,.slice none 0 0,.slice none 0 0,.string ⟨#[112,117,98,108,105,99]⟩,.int .i64 4,.int .i64 0,.string G,.slice none 0 0,.slice none 0 0] 3 6,
  KJ 2 (valV k),
  boxFact 25] Wr rfl Wr (fun x=>qm) ?_ ?_
 ·refine⟨?_,?_,?_,?_,?_,?_,?_,?_,?_,?_,?_,?_,?_,?_,?_,?_,trivial⟩ <;> intro x w2 a b hd;·exact zi
  ·have KA:=HA.o.k0 (F.o.then a);have y0:=KA.c0;have d0:x 0=_:=hd 0 Wr;exact zi
  ·have d1:x 1=_:=hd 1 Wr;have f:=zbC k.bits w2;go_wp2_with (go_at_call 143;refine f.mh ?_;rintro e A rfl d);exact⟨rfl,d.o⟩
  ·have d2:x 2=_:=hd 2 Wr;have f:=bW ⟨#[98,105,116,115]⟩ 3 k.bits ⟨#[]⟩ none 0 0 none 0 0 w2;go_wp2_with (go_at_call 142;refine f.mh ?_;rintro e A rfl d);exact⟨rfl,d.o⟩
  ·exact zi
  ·have KA:=HA.o.k0 (F.o.then a);have y1:=KA.c1;have d4:x 4=_:=hd 4 Wr;exact zi
  ·have d5:x 5=_:=hd 5 Wr;have f:=zbC k.height w2;go_wp2_with (go_at_call 143;refine f.mh ?_;rintro e A rfl d);exact⟨rfl,d.o⟩
  ·have d6:x 6=_:=hd 6 Wr;have f:=bW ⟨#[104,101,105,103,104,116]⟩ 3 k.height ⟨#[]⟩ none 0 0 none 0 0 w2;go_wp2_with (go_at_call 142;refine f.mh ?_;rintro e A rfl d);exact⟨rfl,d.o⟩
  ·exact zi
  ·have d8:x 8=_:=hd 8 Wr;exact zi
  ·have d9:x 9=_:=hd 9 Wr;have f:=Jd.o w2 (F.o.then a);go_wp2_with (go_at_call 52;refine f.mh ?_;rintro e A rfl d);exact⟨rfl,d.o⟩
  ·have au:x 10=_:=hd 10 Wr;have f:=j9 G w2;go_wp2_with (go_at_call 55;refine f.mh ?_;rintro e A rfl d);exact⟨rfl,d.o⟩
  ·have ar:x 11=_:=hd 11 Wr;have f:=bW ⟨#[112,117,98,108,105,99]⟩ 4 0 G none 0 0 none 0 0 w2;go_wp2_with (go_at_call 142;refine f.mh ?_;rintro e A rfl d);exact⟨rfl,d.o⟩
  ·have d3:x 3=_:=hd 3 Wr;have d7:x 7=_:=hd 7 Wr;have ap:x 12=_:=hd 12 Wr;go_wp2;exact⟨⟨_,rfl,XA,Wz,yv w2 [.string ⟨#[98,105,116,115]⟩,.int .i64 3,.int .i64 k.bits,.string ⟨#[]⟩,.slice none 0 0,.slice none 0 0,.string ⟨#[104,101,105,103,104,116]⟩,.int .i64 3,.int .i64 k.height,.string ⟨#[]⟩,.slice none 0 0,.slice none 0 0,.string ⟨#[112,117,98,108,105,99]⟩,.int .i64 4,.int .i64 0,.string G,.slice none 0 0,.slice none 0 0] 6 3 _ _ rfl rfl Wo⟩,Wd.alloc _⟩
  ·obtain⟨gx,ah,-,-,K⟩:=hd 13 Wr;have f:=Jl.o gx w2 a K;clear K;go_wp2_with (go_at_call 54;refine f.mono ?_;rintro e A ⟨E,D⟩;obtain⟨y,m3,u,p3,t,c3,B,s,r,rfl,ho3⟩:=vo E;have Gi:=qI ho3;have d:=qI D;have Gt:=qI (a.size);clear D ho3 E);exact⟨⟨_,_,_,_,_,_,_,_,_,rfl,Gi.o⟩,d.o⟩
  ·have Gt:=qI (a.size);go_wp2;exact⟨⟨_,XA,Wz,rfl,ze rfl⟩,Wd.alloc _⟩
 ·intro x w2 a b hd q;obtain⟨g,ak,aj,aa,p⟩:=hd 15 Wo;obtain⟨y,m3,u,p3,t,c3,B,s,r,al,J⟩:=hd 14 Wo;have ah:=(hd 13 Wo);have am:=q.2 14 15 Wo Wo Wo;have ag:=q.1 15 Wo;have ai:=q.1 14 Wo;have HO:=qI J;have HB:=qI p;have HG:Hid (w.heap.size+2≤g):=qI (XH Jc.o F.o.size);have Jm:Hid (∀ g',(b 14).1≤g'∧g'<(b 14).2→g'≠g∧L.heap.size≤g'∧g'<w2.heap.size):=qI (fun g' h=>⟨Ws,Ws,Ws⟩);have Gu:=qI a;have r0:=za (o:=0) (v:=.int .i64 0) p rfl;have r1:=za (o:=1) (v:=.int .i64 0) p rfl;have r2:=za (o:=2) (v:=.string ⟨#[]⟩) p rfl;have r3:=za (o:=3) (v:=.slice none 0 0) p rfl;have r4:=za (o:=4) (v:=.slice none 0 0) p rfl;have z:∀ j,w2.frozen? ⟨g,j,none⟩=false:=fun j=>zh p
  clear hd q am ag ai a J p ah ak aj;change wpList _ _ _ [_] _ _;go_upto_region 4 with fail;change Code.wp _ _ _ _ (ky w2 g y m3 u (.slice p3 t c3) (.slice B s r));have X:Hid (zb [g] w2 (ky w2 g y m3 u (.slice p3 t c3) (.slice B s r))):=qI (xE _ _ _ _ _ _ _);have Gv:=qI (qZ HB.o y m3 u (.slice p3 t c3) (.slice B s r));have Gj:Hid (zb [] w (ky w2 g y m3 u (.slice p3 t c3) (.slice B s r))):=qI (((Gc.o.then F.o).then Gu.o).trans X.o (by intro i C;simp at C;subst C;exact .inr (XC HG.o)));have Gw:=qI (X.o.heap (Gu.o.heap (F.o.heap Jb.o Wz) Wz) (by have:=HG.o;simp;omega));have Gx:=qI (HO.o.kept X.o (fun i C hS=>by simp at C;subst C;exact (Jm.o _ hS).1 rfl));rw [aa];clear r0 r1 r2 r3 r4 z al aa;revert X Gv Gj Gw Gx;generalize ky w2 g y m3 u (.slice p3 t c3) (.slice B s r)=w4;intro X Gv Gj Gw Gx;have Jn:Hid (∀ (g:Nat) (w2:World),zb [] w4 w2→Slc w2 6 (.slice (some ⟨g,0,none⟩) 3 3) 3 [.string ⟨#[107,101,121,116,121,112,101]⟩,.int .i64 4,.int .i64 0,.string ⟨#[108,97,109,112,111,114,116,45,109,101,114,107,108,101]⟩,.slice none 0 0,.slice none 0 0,.string ⟨#[115,99,104,101,109,101]⟩,.int .i64 4,.int .i64 0,.string ⟨#[115,104,97,50,53,54]⟩,.slice none 0 0,.slice none 0 0,.string ⟨#[107,101,121,118,97,108]⟩,.int .i64 y,.int .i64 m3,.string u,.slice p3 t c3,.slice B s r]→Calls prog 54 #[.slice (some ⟨g,0,none⟩) 3 3] w2 fun e w'=>New 3 w2 w' e (Zo k)∧zb [] w2 w'):=qI (fun g w2 O R=>by
   refine ZG (n:=2) (S:=fun _=>True) (m:=(Zo k).m) (mcs:=[(⟨#[107,101,121,116,121,112,101]⟩,[.int .i64 4,.int .i64 0,.string ⟨#[108,97,109,112,111,114,116,45,109,101,114,107,108,101]⟩,.slice none 0 0,.slice none 0 0]),(⟨#[115,99,104,101,109,101]⟩,[.int .i64 4,.int .i64 0,.string ⟨#[115,104,97,50,53,54]⟩,.slice none 0 0,.slice none 0 0]),(⟨#[107,101,121,118,97,108]⟩,[.int .i64 y,.int .i64 m3,.string u,.slice p3 t c3,.slice B s r])]) R ?_ (small_key k H.o);exact zM.cons ⟨rfl,bS (n:=1) _ _ _⟩ (zM.cons ⟨rfl,bS (n:=1) _ _ _⟩ (zM.cons ⟨rfl,(Gx.o.rep.k0 O).mono (fun _ _ _=>trivial)⟩ (zM.nil _))))
  refine yz (n:=31) 8 [fI (.agg #[.int .i64 4,.int .i64 0,.string ⟨#[108,97,109,112,111,114,116,45,109,101,114,107,108,101]⟩,.slice none 0 0,.slice none 0 0]),
   fI (.agg #[.string ⟨#[107,101,121,116,121,112,101]⟩,.int .i64 4,.int .i64 0,.string ⟨#[108,97,109,112,111,114,116,45,109,101,114,107,108,101]⟩,.slice none 0 0,.slice none 0 0]),
   fI (.agg #[.int .i64 4,.int .i64 0,.string ⟨#[115,104,97,50,53,54]⟩,.slice none 0 0,.slice none 0 0]),
   fI (.agg #[.string ⟨#[115,99,104,101,109,101]⟩,.int .i64 4,.int .i64 0,.string ⟨#[115,104,97,50,53,54]⟩,.slice none 0 0,.slice none 0 0]),
   fI (.agg #[.int .i64 y,.int .i64 m3,.string u,.slice p3 t c3,.slice B s r]),
   fI (.agg #[.string ⟨#[107,101,121,118,97,108]⟩,.int .i64 y,.int .i64 m3,.string u,.slice p3 t c3,.slice B s r]),
   kP [.string ⟨#[107,101,121,116,121,112,101]⟩,.int .i64 4,.int .i64 0,.string ⟨#[108,97,109,112,111,114,116,45,109,101,114,107,108,101]⟩,.slice none 0 0,.slice none 0 0,.string ⟨#[115,99,104,101,109,101]⟩,.int .i64 4,.int .i64 0,.string ⟨#[115,104,97,50,53,54]⟩,.slice none 0 0,.slice none 0 0,.string ⟨#[107,101,121,118,97,108]⟩,.int .i64 y,.int .i64 m3,.string u,.slice p3 t c3,.slice B s r] 3 6,
   KJ 3 (Zo k)] Wr rfl Wr (fun x=>qm) ?_ ?_
  ·refine⟨?_,?_,?_,?_,?_,?_,?_,?_,trivial⟩ <;> intro x w2 a b hd;·have f:=j9 ⟨#[108,97,109,112,111,114,116,45,109,101,114,107,108,101]⟩ w2;go_wp2_with (go_at_call 55;refine f.mh ?_;rintro e A rfl d);exact⟨rfl,d.o⟩
   ·have d0:x 0=_:=hd 0 Wr;have f:=bW ⟨#[107,101,121,116,121,112,101]⟩ 4 0 ⟨#[108,97,109,112,111,114,116,45,109,101,114,107,108,101]⟩ none 0 0 none 0 0 w2;go_wp2_with (go_at_call 142;refine f.mh ?_;rintro e A rfl d);exact⟨rfl,d.o⟩
   ·have f:=j9 ⟨#[115,104,97,50,53,54]⟩ w2;go_wp2_with (go_at_call 55;refine f.mh ?_;rintro e A rfl d);exact⟨rfl,d.o⟩
   ·have d2:x 2=_:=hd 2 Wr;have f:=bW ⟨#[115,99,104,101,109,101]⟩ 4 0 ⟨#[115,104,97,50,53,54]⟩ none 0 0 none 0 0 w2;go_wp2_with (go_at_call 142;refine f.mh ?_;rintro e A rfl d);exact⟨rfl,d.o⟩
   ·obtain⟨y0,y1,y2,y3,y4⟩:=qa (a.heap Gv.o Wz);exact zi
   ·have d4:x 4=_:=hd 4 Wr;have f:=bW ⟨#[107,101,121,118,97,108]⟩ y m3 u p3 t c3 B s r w2;go_wp2_with (go_at_call 142;refine f.mh ?_;rintro e A rfl d);exact⟨rfl,d.o⟩
   ·have d1:x 1=_:=hd 1 Wr;have d3:x 3=_:=hd 3 Wr;have d5:x 5=_:=hd 5 Wr;go_wp2;exact⟨⟨_,rfl,XA,Wz,yv w2 [.string ⟨#[107,101,121,116,121,112,101]⟩,.int .i64 4,.int .i64 0,.string ⟨#[108,97,109,112,111,114,116,45,109,101,114,107,108,101]⟩,.slice none 0 0,.slice none 0 0,.string ⟨#[115,99,104,101,109,101]⟩,.int .i64 4,.int .i64 0,.string ⟨#[115,104,97,50,53,54]⟩,.slice none 0 0,.slice none 0 0,.string ⟨#[107,101,121,118,97,108]⟩,.int .i64 y,.int .i64 m3,.string u,.slice p3 t c3,.slice B s r] 6 3 _ _ rfl rfl Wo⟩,Wd.alloc _⟩
   ·obtain⟨gx,d6,-,-,af⟩:=hd 6 Wr;have f:=Jn.o gx w2 a af;clear af;go_wp2_with (go_at_call 54;refine f.mono ?_;rintro e A ⟨E,D⟩;obtain⟨W,m6,Z,p6,i6,c6,q6,Y,e6,rfl,ho3⟩:=vo E;have Gi:=qI ho3;have d:=qI D;clear D ho3 E);exact⟨⟨_,_,_,_,_,_,_,_,_,rfl,Gi.o⟩,d.o⟩
  ·intro x w5 a b hd q;obtain⟨W,m6,Z,p6,i6,c6,q6,Y,e6,d7,ad⟩:=hd 7 Wo;have ae:=q.1 7 Wo;have Jo:=qI ad;have Gy:=qI a;have Jp:=qI ae;have Q:=qI (a.heap Gw.o Wz);have r0:=za (o:=0) (v:=.int .i64 0) Q.o rfl;have r1:=za (o:=1) (v:=.int .i64 0) Q.o rfl;have r2:=za (o:=2) (v:=.string ⟨#[]⟩) Q.o rfl;have r3:=za (o:=3) (v:=.slice none 0 0) Q.o rfl;have r4:=za (o:=4) (v:=.slice none 0 0) Q.o rfl;have z:∀ j,w5.frozen? ⟨w.heap.size+1,j,none⟩=false:=fun j=>zh Q.o
   clear hd q ae a ad;change wpList _ _ _ [_] _ _;go_wp2_with fail;change bodyPost _ _ _ _ _ (ky w5 (w.heap.size+1) W m6 Z (.slice p6 i6 c6) (.slice q6 Y e6));have I:=xE w5 (w.heap.size+1) W m6 Z (.slice p6 i6 c6) (.slice q6 Y e6);have U:=qZ Q.o W m6 Z (.slice p6 i6 c6) (.slice q6 Y e6);revert I U;generalize ky w5 (w.heap.size+1) W m6 Z (.slice p6 i6 c6) (.slice q6 Y e6)=WF;intro I U;obtain⟨z0,z1,z2,z3,z4⟩:=qa U;refine bodyPost_ret (v:=.agg #[.int .i64 W,.int .i64 m6,.string Z,.slice p6 i6 c6,.slice q6 Y e6]) (by simp [results,results97,go_sem,z0,z1,z2,z3,z4]) rfl ⟨?_,(Gj.o.then Gy.o).trans I (by intro i C;simp at C;subst C;exact .inr Wz)⟩;rw [Gk.o];have ao:=Gj.o.size;have hw:=Jp.o;have aq:=Jc.o;have an:w.heap.size+2≤w4.heap.size:=by have:=F.o.size;have:=Gu.o.size;have:=X.o.size;omega
   exact⟨_,rfl,(Jo.o.kept I (by intro k O;simp at O;subst O;omega)).mono (fun g ⟨h5,h6⟩=>⟨Ws,Nat.lt_of_lt_of_le (Nat.lt_of_lt_of_le h6 hw.2.2) I.size⟩)⟩
theorem qx {s:ByteArray}(h:∀ b,b∈s.data.toList→b.toNat<128):zw s=true:=by
 unfold zw;rw [Lib.validD_ascii s.data.toList.length _ (fun b a=>h b (List.mem_of_mem_take a)),List.drop_length];rfl
theorem hexd_low (n:Nat):yW (vD n)=true∨16≤n:=by
 rcases Nat.lt_or_ge n 16 with h | h;·refine .inl ?_;have:∀ m:Fin 16,yW (vD m.val)=true:=Wo;exact this ⟨n,h⟩
 ·exact .inr h
theorem low_128 {b:UInt8}(h:yW b=true):b.toNat<128:=by
 have:∀ c:Fin 256,yW (UInt8.ofNat c.val)=true→(UInt8.ofNat c.val).toNat<128:=by decide +kernel
 have h2:=this ⟨b.toNat,UInt8.toNat_lt b⟩;simp only [UInt8.ofNat_toNat] at h2;exact h2 h
theorem hexL_low (l:List UInt8):∀ b,b∈bp l→yW b=true:=by
 intro b a;obtain⟨c,-,hc⟩:=List.mem_flatMap.1 a;have d:=UInt8.toNat_lt c;simp only [List.mem_cons,List.not_mem_nil,or_false] at hc;rcases hc with rfl | rfl;·exact (hexd_low _).resolve_right Ws
 ·exact (hexd_low _).resolve_right Ws
theorem hexS_list (l:List UInt8):(jy l).data.toList=bp l:=by rw [jy];exact zK _
theorem hexS_ok (l:List UInt8):zw (jy l)=true:=qx fun b a=>low_128 (hexL_low l b (by rwa [hexS_list] at a))
theorem pairs_hex:∀ (l:List UInt8),xh (bp l)=l
 | []=>rfl
 | c::l=>by
  have h:∀ n:Fin 256,UInt8.ofNat (hv (vD ((UInt8.ofNat n.val).toNat/16))*16+hv (vD ((UInt8.ofNat n.val).toNat%16)))=UInt8.ofNat n.val:=by decide +kernel
  have a:=h ⟨c.toNat,UInt8.toNat_lt c⟩;simp only [UInt8.ofNat_toNat] at a;have e:bp (c::l)=vD (c.toNat/16)::vD (c.toNat%16)::bp l:=rfl;rw [e,xh,pairs_hex l,a]
theorem unhex_hex (l:List UInt8):xo (jy l)=some l:=by
 unfold xo;have e:(jy l).data.toList=bp l:=by simp [jy,zx]
 rw [if_pos ⟨by rw [jU];omega,by rw [e];exact List.all_eq_true.2 (hexL_low l)⟩,e,pairs_hex]
theorem lits_ok:zw ⟨#[98,105,116,115]⟩=true∧zw ⟨#[104,101,105,103,104,116]⟩=true∧zw ⟨#[112,117,98,108,105,99]⟩=true∧zw ⟨#[107,101,121,116,121,112,101]⟩=true∧zw ⟨#[115,99,104,101,109,101]⟩=true∧zw ⟨#[107,101,121,118,97,108]⟩=true∧zw ⟨#[108,97,109,112,111,114,116,45,109,101,114,107,108,101]⟩=true∧zw ⟨#[115,104,97,50,53,54]⟩=true:=by
 refine⟨?_,?_,?_,?_,?_,?_,?_,?_⟩;all_goals exact qx Wo
theorem vJ {n:Nat}(m:List (ByteArray×V n))(d:∀ p,p∈m→zw p.1=true)(h2:(m.map (fun p=>p.1)).Nodup)(h3:∀ p,p∈m→zo n p.2=true):zo (n+1) (vf m:VS (V n))=true:=by
 have e:zo (n+1) (vf m:VS (V n))=(zE (vf m)&&(vf m).kids.all (zo n)):=rfl;rw [e,Bool.and_eq_true];refine⟨?_,?_⟩;·have b:zE (vf m:VS (V n))=(yV m&&true&&true&&true):=rfl;rw [b,Bool.and_true,Bool.and_true,Bool.and_true,yV,decide_eq_true h2,Bool.and_true,List.all_eq_true];exact d
 ·rw [List.all_eq_true];intro x a;obtain⟨p,hp,rfl⟩:=List.mem_map.1 (by simpa [VS.kids,vf] using a:x∈m.map (fun p=>p.2));exact h3 p hp
theorem right_list {n:Nat}(l:List (V n))(h3:∀ p,p∈l→zo n p=true):zo (n+1) (ju l:VS (V n))=true:=by
 have e:zo (n+1) (ju l:VS (V n))=(zE (ju l)&&(ju l).kids.all (zo n)):=rfl;rw [e,Bool.and_eq_true];refine⟨rfl,?_⟩;rw [List.all_eq_true];intro x a;exact h3 x (by simpa [VS.kids,ju] using a)
theorem jV {n:Nat}(s:ByteArray)(h:zw s=true):zo (n+1) (q8 s:VS (V n))=true:=by
 have e:zo (n+1) (q8 s:VS (V n))=(zE (q8 s:VS (V n))&&(q8 s:VS (V n)).kids.all (zo n)):=rfl;rw [e,Bool.and_eq_true];have a:zE (q8 s:VS (V n))=(zw s&&true&&true&&true):=rfl;exact⟨by rw [a,h];rfl,rfl⟩
theorem right_int {n:Nat}(z:Int)(b:-9007199254740991≤z)(d:z≤9007199254740991):zo (n+1) (intV z:VS (V n))=true:=by
 have e:zo (n+1) (intV z:VS (V n))=(zE (intV z:VS (V n))&&(intV z:VS (V n)).kids.all (zo n)):=rfl;rw [e,Bool.and_eq_true];have a:zE (intV z:VS (V n))=(decide (-9007199254740991≤z∧z≤9007199254740991)&&true&&true&&true):=rfl;exact⟨by rw [a,decide_eq_true ⟨b,d⟩];rfl,rfl⟩
theorem key_check (k:yX)(h:yr k=true):zY 3 (Zo k)=0:=by
 unfold yr xu at h;simp only [Bool.and_eq_true,decide_eq_true_eq] at h;obtain⟨b,e,a,j,f,d,i,l⟩:=lits_ok;rw [qh];refine⟨by show (3:Nat)≤12;omega,by show (7:Nat)≤4096;omega,?_⟩;refine vJ (n:=2) _ (by simp [j,f,d]) (by simp only [List.map_cons,List.map_nil];decide) ?_;intro p hp;simp only [List.mem_cons,List.not_mem_nil,or_false] at hp;rcases hp with rfl | rfl | rfl
 ·exact jV (n:=1) _ i
 ·exact jV (n:=1) _ l
 refine vJ (n:=1) _ (by simp [b,e,a]) (by simp only [List.map_cons,List.map_nil];decide) ?_;intro p hp;simp only [List.mem_cons,List.not_mem_nil,or_false] at hp;rcases hp with rfl | rfl | rfl
 ·exact right_int (n:=0) _ Ws Ws
 ·exact right_int (n:=0) _ Ws Ws
 ·exact jV (n:=0) _ (hexS_ok _)
def qb (k:yX):ByteArray:=if yr k=true then jy (qe (xR 3 (Zo k)).1) else ⟨#[]⟩
theorem small_key_b (k:yX)(h:k.root.length=32):zT 3 (Zo k)≤200:=by
 have b:zT 3 (Zo k)=0+(7+(6+(6+0)))+((14+0+0)+((6+0+0)+(zT 2 (valV k)+0))):=rfl;have a:zT 2 (valV k)=0+(4+(6+(6+0)))+((0+0+0)+((0+0+0)+(((jy k.root).size+0+0)+0))):=rfl;have d:=jU k.root;rw [b,a,d,h];omega
theorem key_enc (k:yX)(b:k.root.length=32)(h:yr k=true):(xR 3 (Zo k)).2=0∧(xR 3 (Zo k)).1.length≤262144:=by
 have hc:=key_check k h;have d:=Qk 3 (zI 3 (Zo k)) (by rw [ZI];exact (qh.1 hc).2.2);rw [QW,Zy] at d;have e:=small_key_b k b;have f:zq 3 (Zo k)=7:=rfl;have a:(zr 3 (zI 3 (Zo k))).length≤262144:=Ws;rw [encV_fine hc a];exact⟨rfl,a⟩
def KK {α:Type}:VS α:=⟨0,0,⟨#[]⟩,[],[]⟩
theorem rep_zero {n:Nat}(S:Nat→Prop)(w:World):Rep (n+1) S w [.int .i64 0,.int .i64 0,.string ⟨#[]⟩,.slice none 0 0,.slice none 0 0] (KK:VS (V n)):=zbz S w (KK:VS (V n)) rfl rfl (zbo (i:=0) Wo Wo) (zbo (i:=0) Wo Wo)
theorem za1 {n:Nat}:zP (n+1) (KK:VS (V n)):=⟨by show 1+0≤20000;omega,by show 0+0+0≤400000;omega⟩
theorem enc_zero {n:Nat}:xR (n+1) (KK:VS (V n))=([],40):=by
 have h:zY (n+1) (KK:VS (V n))=40:=rfl;have h2:=encV_bad (n:=n+1) (v:=(KK:VS (V n))) (by rw [h];decide);rw [h] at h2;exact h2
theorem keyId_any (k:yX)(B:Z1 k.bits)(s:k.root.length=32)(w:World)(D:xH w)(u:qK w):zJ w 51 #[.agg (yU k)] (.string (qb k)):=by
 obtain⟨m,F⟩:=XE (w.alloc (.cells (yU k) 51));have r:Hid (zb [] w m):=qI (kA1 F.o);have P:Hid (yR m w.heap.size k):=qI (by rw [F.o];exact ze rfl);have O:=qI (keyValue_any k B s m);have Y:=qI s;have HT:=qI (D.k0 r.o);have Jq:=qI (u.k0 r.o);have Q:Hid (qb k=if yr k=true then jy (qe (xR 3 (Zo k)).1) else ⟨#[]⟩):=qI rfl;have Jr:=qI (key_enc k s);have CZ:Hid (∀ b:World,zb [] m b→Calls prog 56 #[kg] b fun e w'=>(∃ a c,e = .returned (.tuple #[.slice a 0 c,.int .i64 40]))∧zb [] b w'):=qI (fun b I=>by
  refine (ZU (n:=1) (rep_zero (n:=0) (fun _=>True) b) za1 Wo ((D.k0 r.o).k0 I)).mono ?_;rintro e w' ⟨⟨a,c,j,-⟩,L⟩;rw [enc_zero] at j;exact⟨⟨a,c,j⟩,L⟩)
 obtain⟨KV,K⟩:=XE (Zo k);obtain⟨X,C⟩:=XE ((xR 3 (Zo k)).1);have J:Hid (yr k=true→∀ (b:World) (cs:List Value) (S:Nat→Prop),zb [] m b→Rep 3 S b cs KV→Calls prog 56 #[.agg cs.toArray] b fun e w'=>(∃ a c,e = .returned (.tuple #[.slice a X.length c,.int .i64 0])∧zp w' (.slice a X.length c) X)∧zb [] b w'):=qI (fun hm b cs S I l=>by
  rw [K.o] at l;have p:=ZU l (small_key k s) Wo ((D.k0 r.o).k0 I);rw [(key_enc k s hm).1,← C.o] at p;exact p)
 have G:Hid (yr k=true→X.length≤262144):=qI (fun hm=>by rw [C.o];exact (key_enc k s hm).2);have U:Hid (qb k=if yr k=true then jy (qe X) else ⟨#[]⟩):=qI (by rw [C.o];exact Q.o);clear B s D u Jr C Q;by_cases hm:yr k=true;rotate_left
 ·have A:Hid (∀ w' e,Zw m w' e k=(e = .returned kg)):=qI (fun w' e=>by unfold Zw;rw [if_neg hm]);have E:Hid (qb k=⟨#[]⟩):=qI (by rw [U.o,if_neg hm]);clear hm;go_enter func51,ntmps51;go_upto_region 1 with fail;rw [← F.o];go_wp2_with first
   | (refine yM Wk (.tmp 1) Wk P.o Y.o Wk ?_)
   | (go_at_call 97;refine O.o.mono ?_;rintro e b ⟨j,d⟩;rw [A.o] at j;subst j;have q:=qI d;clear d)
   | (go_at_call 56;refine (CZ.o _ q.o).mono ?_;rintro e w2 ⟨⟨a2,c2,rfl⟩,f⟩;have y:=qI f;clear f)
  go_ret;exact⟨by rw [E.o];rfl,(r.o.then q.o).then y.o⟩
 have A:Hid (∀ w' e,Zw m w' e k=New 3 m w' e (Zo k)):=qI (fun w' e=>by unfold Zw;rw [if_pos hm]);have E:Hid (qb k=jy (qe X)):=qI (by rw [U.o,if_pos hm]);have J:=qI (J.o hm);have G:=qI (G.o hm);rw [← K.o] at A;clear hm K;go_enter func51,ntmps51;go_upto_region 1 with fail;rw [← F.o];go_upto_region 4 with first
  | (refine yM Wk (.tmp 1) Wk P.o Y.o Wk ?_)
  | (go_at_call 97;refine O.o.mono ?_;rintro e b ⟨j,d⟩;rw [A.o] at j;obtain⟨k3,m3,s3,p3,i3,c3,q3,j3,e3,rfl,ho3⟩:=vo j;have Gi:=qI ho3;have q:=qI d;clear d j ho3)
  | (go_at_call 56;refine (J.o _ _ _ q.o Gi.o.rep).mono ?_;rintro e w2 ⟨⟨a2,c2,rfl,z⟩,f⟩;have Js:=qI z;have y:=qI f;clear f z)
 have CO:Hid (Calls prog 98 #[.slice (some ⟨w2.heap.size,0,none⟩) 1 1] (w2.alloc (.cells #[.slice a2 X.length c2] 32)) fun e w'=>e = .returned (.agg ((qe X).map bv).toArray)∧zb [] (w2.alloc (.cells #[.slice a2 X.length c2] 32)) w'):=qI (by
  have v:=(zb.refl [] w2).alloc (.cells #[.slice a2 X.length c2] 32);have p:=of_any (w2.alloc (.cells #[.slice a2 X.length c2] 32)) w2.heap.size 0 1 [.slice a2 X.length c2] [X] (Kv w2 [.slice a2 X.length c2] _) ((zM.nil _).cons (Js.o.k0 v)) (by have:=G.o;simp;omega) Wz ((Jq.o.k0 (q.o.then y.o)).k0 v);rw [List.flatten_cons,List.flatten_nil,List.append_nil] at p;exact p)
 have Z:Hid (zb [] w2 (w2.alloc (.cells #[.slice a2 X.length c2] 32))):=qI (Wd.alloc _);have R:Hid (∀ (t:World) (g:Nat),yy t g (qe X)→Calls prog 52 #[.slice (some ⟨g,0,none⟩) 32 32] t fun e w'=>e = .returned (.string (jy (qe X)))∧zb [] t w'):=qI (fun t g h=>by
  have B:zp t (.slice (some ⟨g,0,none⟩) (qe X).length 32) (qe X):=⟨Wz,.inr (.inr ⟨g,0,32,rfl,by rw [yK];omega,Wo,⟨h.range,h.lt⟩⟩)⟩;have p:=zaz B (by rw [yK];decide) (by intro e;have:=yK X;rw [e] at this;cases this);rw [yK] at p;exact p)
 generalize H:jy (qe X)=hx at R E;clear H;go_wp2_with first
  | (go_at_call 98;refine CO.o.mh ?_;rintro e w3 rfl M)
  | (refine zL Wk (.tmp 5) (.tmp 16) Wk (g:=w3.heap.size) (l0:=qS ya 0) (ze rfl) (yu _ _) (yK _) Wk Wk ?_;intro t N x;have H4:=qI N;have Jt:=qI x;clear N x;simp only [Act.put])
  | (go_at_call 52;refine (R.o _ _ H4.o).mh ?_;rintro e w5 rfl Gl)
 go_ret;exact⟨by rw [E.o];rfl,(((((r.o.then q.o).then y.o).then Z.o).then M.o).alloc _).trans Jt.o (by intro i W;simp at W;subst W;refine .inr ?_;have:=((((r.o.then q.o).then y.o).then Z.o).then M.o).size;omega) |>.then Gl.o⟩
def Fld (n:Nat)(w:World)(g:Nat)(v:VS (V n))(bad:Bool):Prop:=
 ∃ p c q d,w.heap[g]? = some (.cells #[.int .i64 v.kind,.int .i64 v.num,.string v.s,.slice p v.l.length c,.slice q v.m.length d,.bool bad] 114 (0,0)) ∧
  Rep (n+1) (fun k=>k<g) w [.int .i64 v.kind,.int .i64 v.num,.string v.s,.slice p v.l.length c,.slice q v.m.length d] v
theorem Fld.kept {n:Nat}{X:List Nat}{w w':World}{g:Nat}{v:VS (V n)}{bad:Bool}(h:Fld n w g v bad)(k:zb X w w')(a:∀ i,i∈X→g<i):Fld n w' g v bad:=by
 obtain⟨p,c,q,d,f,h2⟩:=h;exact⟨p,c,q,d,k.heap f (fun e=>by have:=a g e;omega),h2.kept k (fun i b=>by have:=a i b;omega)⟩
theorem Fld.k0 {n:Nat}{w:World}{g:Nat}{v:VS (V n)}{bad:Bool}(h:Fld n w g v bad)(k:zb [] w w'):Fld n w' g v bad:=h.kept k Wz
theorem Fld.lt {n:Nat}{w:World}{g:Nat}{v:VS (V n)}{bad:Bool}(h:Fld n w g v bad):g<w.heap.size:=by
 obtain⟨p,c,q,d,a,h2⟩:=h;exact lt_of_block a
theorem Fld.put {n:Nat}{w:World}{g:Nat}{v:VS (V n)}{bad:Bool}(h:Fld n w g v bad)(b:Bool):Fld n (w.setCell ⟨g,5,none⟩ (.bool b)) g v b:=by
 obtain⟨p,c,q,d,e,h2⟩:=h;exact⟨p,c,q,d,zd e rfl,h2.kept ((zb.refl [g] w).setCell (.inl Wz) _) (fun i a=>by simp at a;omega)⟩
theorem zbD {n:Nat}{w:World}{cs:List Value}{v:VS (V n)}(h:Rep (n+1) S w cs v):Calls prog 31 #[.agg cs.toArray] w fun e w'=>(∃ g,w.heap.size≤g∧e = .returned (.pointer (some ⟨g,0,none⟩))∧Fld n w' g v (decide (v.kind≠6)))∧zb [] w w':=by
 obtain⟨x,vm,lcs,mcs,i⟩:=Rep.open_ h;obtain⟨p,c,q,d,rfl,rfl,rfl⟩:=i.forms;have H:=qI h;obtain⟨a,b⟩:=XE (w.alloc (.cells #[.int .i64 v.kind,.int .i64 v.num,.string v.s,.slice p v.l.length c,.slice q v.m.length d] 25));have j:Hid (zb [] w a):=qI (kA1 b.o);have t:Hid (yZ a w.heap.size v.kind v.num v.s (.slice p v.l.length c) (.slice q v.m.length d)):=qI (by rw [b.o];exact xr _ _ _ _ _ _ _);have r:Hid (a.heap.size=w.heap.size+1):=qI (by rw [b.o];simp);obtain⟨c0,c1,c2,c3,c4⟩:=t.o;have u:Hid (decide (v.kind≠6)=(v.kind != 6)):=qI (by by_cases k:v.kind=6 <;> simp [k]);clear h i;go_enter func31,ntmps31;go_upto_region 1 with fail;rw [← b.o];go_wp2;go_ret;rw [u.o];have f:=(zb.refl [] a).alloc (.cells #[.int .i64 v.kind,.int .i64 v.num,.string v.s,.slice p v.l.length c,.slice q v.m.length d,.bool (v.kind != 6)] 114);refine⟨⟨a.heap.size,by have:=r.o;omega,rfl,p,c,q,d,ze rfl,Rep.k0 (Rep.k0 (Rep.mono H.o (T:=fun k=>k<a.heap.size) (fun k f _=>by have:=r.o;omega)) j.o) f⟩,j.o.then f⟩
section
variable {n : Nat} {w : World} {g : Nat} {v : VS (V n)} {bad : Bool}
theorem fok_any (h:Fld n w g v bad):Calls prog 81 #[.pointer (some ⟨g,0,none⟩)] w fun e w'=>e = .returned (.bool (!bad))∧w=w':=by
 obtain⟨p,c,q,d,a,-⟩:=h;have c5:=za (o:=5) (v:=.bool bad) a rfl;clear a;cases bad;all_goals
  go_enter func81,ntmps81;go_wp2;go_ret;exact⟨rfl,rfl⟩
theorem Qp (h:Fld n w g v bad):Calls prog 36 #[.pointer (some ⟨g,0,none⟩)] w fun e w'=>e = .returned (.tuple #[])∧Fld n w' g v true∧zb [g] w w':=by
 have H:=qI h;obtain⟨p,c,q,d,a,-⟩:=h;have c5:=za (o:=5) (v:=.bool bad) a rfl;have b:=zh (o:=5) a;clear a;go_enter func36,ntmps36;go_wp2_with fail;go_end0;exact⟨rfl,H.o.put true,Wd.setCell (.inl Wz) _⟩
def doneZ (bad:Bool):Int:=if bad then 130 else 0
theorem fdone_any (h:Fld n w g v bad):Calls prog 35 #[.pointer (some ⟨g,0,none⟩)] w fun e w'=>e = .returned (.int .i64 (doneZ bad))∧w=w':=by
 have a:=qI (fok_any h);clear h;cases bad;all_goals
  go_enter func35,ntmps35;go_wp2_with (go_at_call 81;refine a.o.mono ?_;rintro e b ⟨rfl,rfl⟩);go_ret;exact⟨rfl,rfl⟩
end
end Go.Proofs.YtjccecajigmfkaaGreatDoor

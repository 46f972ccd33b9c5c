/- Parts of one proof, merged: XIA XKR XKU XKV XKW XSb XPC XPD XPE XPF. -/
import Derived.Test.YtjccecajigmfkaaGreatDoorSgL
import Derived.Laws.IdiomStrings
import Derived.Test.YtjccecajigmfkaaGreatDoorSgN
set_option linter.all false
set_option maxHeartbeats 12800000
set_option maxRecDepth 100000
namespace Go.Proofs.YtjccecajigmfkaaGreatDoor
open Go.Proofs.Tryz
open Go.RowKit
variable {D:Nat}{J:World→Prop}{WF:World}{b0 b1 b4:Value}{f:Nat×Nat}{it:Nat→List UInt8}{r:Nat}{s:ByteArray}{t:Nat}{w':World}
theorem idx_spec {α:Type}(p:α→Bool)(x:α):∀ (zs:List α) (k:Nat),(Lib.idxByFrom (fun _ y=>p y) x zs k = -1∧∀ i (h:i<zs.length),p zs[i]=false)∨∃ i,∃ h:i<zs.length,Lib.idxByFrom (fun _ y=>p y) x zs k=((k+i:Nat):Int)∧p zs[i]=true∧∀ j (hj:j<i),p (zs[j]'(Ws))=false
 | [],k=>.inl ⟨rfl,fun i h=>by cases h⟩
 | z::zs,k=>by
  unfold Lib.idxByFrom;cases hz:p z with
  | true=>refine .inr ⟨0,Wz,?_,hz,fun j hj=>by omega⟩;simp
  | false=>
   simp only [Bool.false_eq_true,if_false];rcases idx_spec p x zs (k+1) with ⟨h1,h2⟩ | ⟨i,h,h1,h2,h3⟩
   ·refine .inl ⟨h1,fun i hi=>?_⟩;cases i with
    | zero=>exact hz
    | succ i=>exact h2 i (by simpa using hi)
   ·refine .inr ⟨i+1,by simpa using h,by rw [h1];congr 1;omega,by simpa using h2,fun j hj=>?_⟩;cases j with
    | zero=>exact hz
    | succ j=>simpa using h3 j Ws
def KeyIx {α:Type}(m:List (ByteArray×α))(s:ByteArray)(r:Int):Prop:=(r = -1∧∀ i (h:i<m.length),m[i].1≠s)∨∃ i,∃ h:i<m.length,r=(i:Int)∧m[i].1=s∧∀ j (hj:j<i),(m[j]'(Ws)).1≠s
section
variable {w : World}
theorem indexNone (a:Option Addr)(c:Nat)(b:Value) : zJ w 165 #[.slice a 0 c,b] (.int .i64 (-1)):=by
 go_enter func165,ntmps165;go_wp2_with fail;go_loopw [8] (fun i wr=>i = .int .i64 0∧w=wr) (fun _ _=>0);case atStart=>exact⟨rfl,rfl⟩
 case round=>obtain⟨rfl,rfl⟩:=hrel;go_wp2;go_ret;exact⟨rfl,Wd⟩
theorem sameKey_any (x:PC)(s:ByteArray)(b:Nat)(h:w.cell? ⟨b,0,none⟩=some (.string s)) : zJ w 166 #[.agg x.enc.toArray,.pointer (some ⟨b,0,none⟩)] (.bool (decide (x.key=s))):=by
 have hc:∀ o:Obj,(w.alloc o).cell? ⟨b,0,none⟩=some (.string s):=fun o=>((zb.refl [] w).alloc o).cell h Wz;have a:Hid (∀ o:Obj,zb [] w (w.alloc o)):=qI (fun o=>(zb.refl [] w).alloc o);have f:x.enc.toArray=#[.string x.key,.int .i64 x.k,.int .i64 x.m,.string x.s,.slice x.p x.i x.c,.slice x.q x.j x.d]:=rfl;rw [f];clear h f;by_cases e:x.key=s;·obtain⟨l,n⟩:=vu e;rw [decide_eq_true e];clear e;go_enter func166,ntmps166;go_wp2;go_ret;exact⟨rfl,a.o _⟩
 ·obtain⟨l,n⟩:=jS e;rw [decide_eq_false e];clear e;go_enter func166,ntmps166;go_wp2;go_ret;exact⟨rfl,a.o _⟩
theorem aggPair (w:World):(isAgg (Tryz.shIndexFunc_ren.t 23)).run prog w = .ok true w:=isAgg41 w
theorem sizePair (w:World):(Go.sizeOf (Tryz.shIndexFunc_ren.t 23)).run prog w = .ok 6 w:=sizeOf41 w
theorem enter_same:∀ (args:Array Value) (w:World),(callFunc 166 args).run prog w = .ok (.enter 166 args) w:=enters_of func166 Wr rfl
section
variable {n : Nat} {S : Nat → Prop} {cs : List Value} {v : VS (V n)} {vl vm : Value} {lcs : List (List Value)} {mcs : List (ByteArray × List Value)}
theorem indexPairs (h:yk (Rep n S w) S w cs v vl vm lcs mcs){b:Nat}{s:ByteArray}(G:w.cell? ⟨b,0,none⟩=some (.string s))(J:v.m.length≤1000000) : Calls prog 165 #[vm,.func (.func 166) #[] #[.pointer (some ⟨b,0,none⟩)]] w fun e w'=>(∃ r,e = .returned (.int .i64 r)∧KeyIx v.m s r)∧zb [] w w':=by
 obtain⟨f,D,H⟩:=pcs_of h.allm;have E:f.length=v.m.length:=by rw [← h.allm.1,D,List.length_map]
 have d:∀ i (l:i<v.m.length),(f[i]'(Ws)).key=v.m[i].1:=fun i l=>by have F:=(h.allm.2 i ((f[i]'(Ws)).key,(f[i]'(Ws)).cs) v.m[i] (by rw [D,List.getElem?_map,List.getElem?_eq_getElem Ws];rfl) (List.getElem?_eq_getElem l)).1;exact F
 by_cases I:v.m.length=0;·have C:=h.slcm;rw [I] at C;obtain⟨a,c,rfl,-,-⟩:=C.form;refine (indexNone a c _).mono ?_;rintro e w' ⟨rfl,A⟩;exact⟨⟨-1,rfl,.inl ⟨rfl,fun i l=>by omega⟩⟩,A⟩
 rcases h.slcm.2 with ⟨-,q⟩ | ⟨q,-⟩ | ⟨g,o,cap,rfl,-,hm,B⟩;·omega
 ·omega
 rw [H] at B;refine (AnyQ.slices_IndexFunc Tryz.shIndexFunc 6 aggPair sizePair PC.enc PC.enc_len (fun x=>decide (x.key=s)) 166 #[.pointer (some ⟨b,0,none⟩)] enter_same g o v.m.length cap f w (fun W x k=>?_) Ws Ws B.2 (fun j t i u p=>?_)).mono ?_;·have z:W.cell? ⟨b,0,none⟩=some (.string s):=(zb.of_below k).cell G Wz;refine (sameKey_any x s b z).mono ?_;rintro e w' ⟨rfl,A⟩;exact⟨rfl,((zb.of_below k).then A).below (XA) Wz⟩
 ·rw [getElem!_pos f j t] at p;have y:i<6:=by
   rcases Nat.lt_or_ge i 6 with q | q;·exact q
   ·rw [List.getElem?_eq_none (by rw [PC.enc_len];exact q)] at p;cases p
  have h2:=kK (size:=6) (f.map PC.enc) j i (by intro c hc;obtain⟨x,_,rfl⟩:=List.mem_map.1 hc;rfl) (by simpa using t) y;rw [List.getElem_map] at h2;have h3:=B.cells (j*6+i) u (by rw [show f.flatMap PC.enc=(f.map PC.enc).flatten by simp [List.flatMap],h2];exact p);rw [← Nat.add_assoc] at h3;exact h3
 ·rintro e w' ⟨rfl,k⟩;refine⟨⟨_,rfl,?_⟩,zb.of_below k⟩;rw [List.take_of_length_le Ws];unfold Lib.idxBy;rcases idx_spec (fun x:PC=>decide (x.key=s)) default f 0 with ⟨q1,q2⟩ | ⟨i,l,q1,q2,q3⟩;·rw [q1];refine .inl ⟨rfl,fun i l=>?_⟩;have:=q2 i Ws;rw [d i l] at this;simpa using this
  ·rw [q1];refine .inr ⟨i,Ws,by rw [Nat.zero_add],?_,fun j t=>?_⟩;·rw [d i Ws] at q2;simpa using q2
   ·have:=q3 j t;rw [d j Ws] at this;simpa using this
end
end
def Qw {α:Type}(v:VS α)(s:ByteArray):Option α:=if v.kind=6 then (v.m.find? (fun p=>decide (p.1=s))).map (fun p=>p.2) else none
theorem find_ix {α:Type}{m:List (ByteArray×α)}{r:Int}(h:KeyIx m s r):(r = -1∧m.find? (fun p=>decide (p.1=s))=none)∨∃ i,∃ hi:i<m.length,r=(i:Int)∧m.find? (fun p=>decide (p.1=s))=some m[i]:=by
 rcases h with ⟨b,h2⟩ | ⟨i,hi,b,h2,h3⟩;·refine .inl ⟨b,List.find?_eq_none.2 fun p hp=>?_⟩;obtain⟨j,a,rfl⟩:=List.getElem_of_mem hp;simpa using h2 j a
 ·refine .inr ⟨i,hi,b,?_⟩;rw [List.find?_eq_some_iff_getElem];refine⟨by simpa using h2,i,hi,rfl,fun j a=>?_⟩;simpa using h3 j a
theorem qa {w:World}{g:Nat}{k m:Int}{a b:Value}(h:w.heap[g]? = some (.cells #[.int .i64 k,.int .i64 m,.string s,a,b] t f)):yZ w g k m s a b:=⟨za h rfl,za h rfl,za h rfl,za h rfl,za h rfl⟩
def ky (w:World)(g:Nat)(k m:Int)(s:ByteArray)(a b:Value):World:=((((w.setCell ⟨g,0,none⟩ (.int .i64 k)).setCell ⟨g,1,none⟩ (.int .i64 m)).setCell ⟨g,2,none⟩ (.string s)).setCell ⟨g,3,none⟩ a).setCell ⟨g,4,none⟩ b
theorem xE (w:World)(g:Nat)(k m:Int)(s:ByteArray)(a b:Value):zb [g] w (ky w g k m s a b):=by
 unfold ky;exact (((((zb.refl [g] w).setCell (.inl Wz) _).setCell (.inl Wz) _).setCell (.inl Wz) _).setCell (.inl Wz) _).setCell (.inl Wz) _
theorem qZ {w:World}{g:Nat}{c0 c1 c2 c3 c4:Value}(h:w.heap[g]? = some (.cells #[c0,c1,c2,c3,c4] t f))(k m:Int)(s:ByteArray)(a b:Value):(ky w g k m s a b).heap[g]? = some (.cells #[.int .i64 k,.int .i64 m,.string s,a,b] t f):=by
 unfold ky;have l:=zd (i:=0) (v:=.int .i64 k) (d:=#[.int .i64 k,c1,c2,c3,c4]) h rfl;have h2:=zd (i:=1) (v:=.int .i64 m) (d:=#[.int .i64 k,.int .i64 m,c2,c3,c4]) l rfl;have h3:=zd (i:=2) (v:=.string s) (d:=#[.int .i64 k,.int .i64 m,.string s,c3,c4]) h2 rfl;have j:=zd (i:=3) (v:=a) (d:=#[.int .i64 k,.int .i64 m,.string s,a,c4]) h3 rfl;have e:=zd (i:=4) (v:=b) (d:=#[.int .i64 k,.int .i64 m,.string s,a,b]) j rfl;exact e
def kg:Value:=.agg #[.int .i64 0,.int .i64 0,.string ⟨#[]⟩,.slice none 0 0,.slice none 0 0]
section
variable {n : Nat} {v : VS (V n)} {S : Nat → Prop} {w : World} {cs : List Value}
theorem at_any (h:Rep (n+1) S w cs v)(O:v.m.length≤1000000)(s:ByteArray) : Calls prog 114 #[.agg cs.toArray,.string s] w fun e w'=>(∃ r,e = .returned (.int .i64 r)∧((r = -1∧Qw v s=none)∨∃ i,∃ hi:i<v.m.length,r=(i:Int)∧Qw v s=some v.m[i].2))∧zb [] w w':=by
 obtain⟨vl,vm,lcs,mcs,h⟩:=h;obtain⟨B,z,k,q,rfl,rfl,rfl⟩:=h.forms;have H:=qI h;obtain⟨f,b⟩:=XE ((w.alloc (.cells #[.int .i64 v.kind,.int .i64 v.num,.string v.s,.slice B v.l.length z,.slice k v.m.length q] 25)).alloc (.cells #[.string s] 9));have t:Hid (zb [] w f):=qI (kA2 b.o);have A:Hid (f.heap[w.heap.size]? = some (.cells #[.int .i64 v.kind,.int .i64 v.num,.string v.s,.slice B v.l.length z,.slice k v.m.length q] 25 (0,0))):=qI (by rw [b.o];exact ((zb.refl [] _).alloc _).heap (ze rfl) Wz);have M:Hid (f.cell? ⟨w.heap.size+1,0,none⟩=some (.string s)):=qI (by rw [b.o];exact za (ze Wz) rfl);have I:Hid (Calls prog 165 #[.slice k v.m.length q,.func (.func 166) #[] #[.pointer (some ⟨w.heap.size+1,0,none⟩)]] f fun e w'=>(∃ r,e = .returned (.int .i64 r)∧KeyIx v.m s r)∧zb [] f w'):=qI (by
  have j:=Rep.open_ (Rep.k0 (yk.close h) t.o);obtain⟨L,K,C,E,D⟩:=j;have y:=D.cells;simp only [List.cons.injEq,and_true,true_and] at y;obtain⟨rfl,rfl⟩:=y;exact indexPairs D M.o O)
 have c0:=za (o:=0) (v:=.int .i64 v.kind) A.o rfl;have c4:=za (o:=4) (v:=.slice k v.m.length q) A.o rfl;clear h;by_cases a:v.kind=6
 ·have F:=(xw a).1;have N:=(xw a).2;have x:Hid (Qw v s=(v.m.find? (fun p=>decide (p.1=s))).map (fun p=>p.2)):=qI (by unfold Qw;rw [if_pos a]);clear a;go_enter func114,ntmps114;go_upto_region 1 with fail;rw [← b.o];go_wp2_with (go_at_call 165;refine I.o.mono ?_;rintro e w2 ⟨⟨r,rfl,j⟩,d⟩;have G:=qI j;have J:=qI d;clear j d);go_ret;refine⟨⟨_,rfl,?_⟩,t.o.then J.o⟩;rw [x.o];rcases find_ix G.o with ⟨u,h2⟩ | ⟨i,hi,u,h2⟩
  ·exact .inl ⟨u,by rw [h2];rfl⟩
  ·exact .inr ⟨i,hi,u,by rw [h2];rfl⟩
 ·have F:=(zR a).1;have N:=(zR a).2;have x:Hid (Qw v s=none):=qI (by unfold Qw;rw [if_neg a]);clear a;go_enter func114,ntmps114;go_upto_region 1 with fail;rw [← b.o];go_wp2;go_ret;exact⟨⟨_,rfl,.inl ⟨rfl,x.o⟩⟩,t.o⟩
def GetAns (n:Nat)(B:Nat)(w':World)(e:Ending):Option (V n)→Prop
 | none=>e = .returned (.tuple #[kg,.bool false])
 | some x=>∃ cs':List Value,e = .returned (.tuple #[.agg cs'.toArray,.bool true])∧jr n (fun g=>B≤g∧g<w'.heap.size) w' cs' x
theorem get_any (h:Rep (n+1) S w cs v)(I:zP (n+1) v)(s:ByteArray) : Calls prog 61 #[.agg cs.toArray,.string s] w fun e w'=>GetAns n w.heap.size w' e (Qw v s)∧zb [] w w':=by
 have D:=fun (w1:World) (k:zb [] w w1)=>at_any (h.k0 k) (XH (kids_few v) I.1) s;obtain⟨vl,vm,lcs,mcs,h⟩:=h;obtain⟨N,L,R,P,rfl,rfl,rfl⟩:=h.forms;have H:=qI h;have HS:=qI I;have W:=qI D;obtain⟨F,A⟩:=XE ((w.alloc (.cells #[.int .i64 v.kind,.int .i64 v.num,.string v.s,.slice N v.l.length L,.slice R v.m.length P] 25)).alloc (.cells #[.int .i64 0,.int .i64 0,.string ⟨#[]⟩,.slice none 0 0,.slice none 0 0] 25));have E:Hid (zb [] w F):=qI (kA2 A.o);have M:Hid (yZ F w.heap.size v.kind v.num v.s (.slice N v.l.length L) (.slice R v.m.length P)):=qI (by rw [A.o];exact (xr _ _ _ _ _ _ _).k0 ((zb.refl [] _).alloc _));have HR:Hid (F.heap[w.heap.size+1]? = some (.cells #[.int .i64 0,.int .i64 0,.string ⟨#[]⟩,.slice none 0 0,.slice none 0 0] 25 (0,0))):=qI (by rw [A.o];exact ze Wz);clear h I D;obtain⟨c0,c1,c2,c3,c4⟩:=M.o;go_enter func61,ntmps61;go_upto_region 1 with fail;rw [← A.o];go_upto_region 2 with (go_at_call 114;refine (W.o _ E.o).mono ?_;rintro e w2 ⟨⟨r,rfl,x⟩,B⟩;have Jo:=qI x;have y:=qI B;clear x B);clear c0 c1 c2 c3 c4;obtain⟨c0,c1,c2,c3,c4⟩:=M.o.k0 y.o;have b:=qI (y.o.heap HR.o Wz);rcases Jo.o with ⟨rfl,C⟩ | ⟨i,d,rfl,C⟩
 ·have J:=qI C;clear C;have r0:=za (o:=0) (v:=.int .i64 0) b.o rfl;have r1:=za (o:=1) (v:=.int .i64 0) b.o rfl;have r2:=za (o:=2) (v:=.string ⟨#[]⟩) b.o rfl;have r3:=za (o:=3) (v:=.slice none 0 0) b.o rfl;have r4:=za (o:=4) (v:=.slice none 0 0) b.o rfl;have z:∀ j,w2.frozen? ⟨w.heap.size+1,j,none⟩=false:=fun j=>zh b.o;go_wp2_with fail;change bodyPost _ _ _ _ _ (ky w2 (w.heap.size+1) 0 0 ⟨#[]⟩ (.slice none 0 0) (.slice none 0 0));have a:=xE w2 (w.heap.size+1) 0 0 ⟨#[]⟩ (.slice none 0 0) (.slice none 0 0);have t:=qZ b.o 0 0 ⟨#[]⟩ (.slice none 0 0) (.slice none 0 0);revert a t;generalize ky w2 (w.heap.size+1) 0 0 ⟨#[]⟩ (.slice none 0 0) (.slice none 0 0)=WF;intro a t;obtain⟨y0,y1,y2,f,y4⟩:=qa t;exact bodyPost_ret (v:=.tuple #[kg,.bool false]) (by simp [results,results61,go_sem,y0,y1,y2,f,y4,kg]) rfl ⟨by rw [J.o];rfl,((E.o.then y.o).trans a (by intro i d;simp at d;subst d;exact .inr Wz))⟩
 ·have Q:=qI (H.o.at_m (E.o.then y.o) i d);obtain⟨g,o,cap,kd,nm,st,a1,b1,O,q0,q1,q2,q3,q4,q5,x⟩:=Q.o;simp only [Value.slice.injEq] at O;obtain⟨rfl,-,rfl⟩:=O;obtain⟨p1,i1,d1,p2,i2,d2,rfl,rfl⟩:=x.sl;have CC:=qI (ZJ n v.m[i].2 x (HS.o.kid (kN (List.getElem_mem d))));have J:=qI C;have aa:(i:Int)<v.m.length:=Ws;clear x Q C;go_wp2_with (go_at_call 53;refine CC.o.mono ?_;rintro e G ⟨⟨U,rfl,p⟩,u⟩;obtain⟨k3,m3,s3,x3,j3,c3,f,l3,e3,rfl⟩:=p.rep.conv;have Jd:=qI p;have Gd:=qI u;have q:=qI (u.heap b.o Wz);have r0:=za (o:=0) (v:=.int .i64 0) q.o rfl;have r1:=za (o:=1) (v:=.int .i64 0) q.o rfl;have r2:=za (o:=2) (v:=.string ⟨#[]⟩) q.o rfl;have r3:=za (o:=3) (v:=.slice none 0 0) q.o rfl;have r4:=za (o:=4) (v:=.slice none 0 0) q.o rfl;have z:∀ j,G.frozen? ⟨w.heap.size+1,j,none⟩=false:=fun j=>zh q.o;clear p u);change bodyPost _ _ _ _ _ (ky G (w.heap.size+1) k3 m3 s3 (.slice x3 j3 c3) (.slice f l3 e3));have a:=xE G (w.heap.size+1) k3 m3 s3 (.slice x3 j3 c3) (.slice f l3 e3);have t:=qZ q.o k3 m3 s3 (.slice x3 j3 c3) (.slice f l3 e3);revert a t;generalize ky G (w.heap.size+1) k3 m3 s3 (.slice x3 j3 c3) (.slice f l3 e3)=WF;intro a t;obtain⟨z0,Z,z2,Y,z4⟩:=qa t;refine bodyPost_ret (v:=.tuple #[.agg #[.int .i64 k3,.int .i64 m3,.string s3,.slice x3 j3 c3,.slice f l3 e3],.bool true]) (by simp [results,results61,go_sem,z0,Z,z2,Y,z4]) rfl ⟨by
   rw [J.o];have X:F.heap.size=w.heap.size+2:=by rw [A.o];simp
   have h2:=y.o.size;exact⟨_,rfl,(Jd.o.kept a (by intro k K;simp at K;subst K;omega)).mono (fun g ⟨h5,h6⟩=>⟨Ws,Nat.lt_of_lt_of_le h6 a.size⟩)⟩,(((E.o.then y.o).then Gd.o).trans a (by intro i d;simp at d;subst d;exact .inr Wz))⟩
end
def yw (w:World)(r:Nat)(b0 b1 b2 b3 b4:Value):World:=((((w.setCell ⟨r,0,none⟩ b0).setCell ⟨r,1,none⟩ b1).setCell ⟨r,2,none⟩ b2).setCell ⟨r,3,none⟩ b3).setCell ⟨r,4,none⟩ b4
theorem zaW {w:World}{T:Nat}{h f a2 d b b2 b3:Value}(a:w.heap[r]? = some (.cells #[h,f,a2,d,b] T (0,0)))(e:WF=yw w r b0 b1 b2 b3 b4) : zb [r] w WF∧WF.heap[r]? = some (.cells #[b0,b1,b2,b3,b4] T (0,0)):=by
 subst e;refine⟨?_,zd (i:=4) (zd (i:=3) (zd (i:=2) (zd (i:=1) (zd (i:=0) a rfl) rfl) rfl) rfl) rfl⟩;exact (((((zb.refl [r] w).setCell (p:=⟨r,0,none⟩) (.inl Wz) _).setCell (p:=⟨r,1,none⟩) (.inl Wz) _).setCell (p:=⟨r,2,none⟩) (.inl Wz) _).setCell (p:=⟨r,3,none⟩) (.inl Wz) _).setCell (p:=⟨r,4,none⟩) (.inl Wz) _
theorem xU.move:∀ {n:Nat}{B B':Nat}{X:List Nat}{w w':World}{cs:List Value}{v:V n},xU n B w cs v→zb X w w'→(∀ g,g∈X→g<B)→B'≤B→xU n B' w' cs v
 | 0,_,_,_,_,_,_,_,h,_,_,_=>h.elim
 | n+1,B,B',X,w,w',cs,v,h,k,hX,hB=>by
  obtain⟨vl,vm,lcs,mcs,h1,h2,h3,h4,h5,h6,h7⟩:=h;refine⟨vl,vm,lcs,mcs,h1,?_,h3.mono fun _ _ _ r=>r.move k (fun g _ q=>⟨fun a=>by have:=hX g a;omega,Ws,q.2⟩),?_,h5.mono fun _ _ _ r=>⟨r.1,r.2.move k (fun g _ q=>⟨fun a=>by have:=hX g a;omega,Ws,q.2⟩)⟩,h6,h7⟩;·exact qi (zk h2 k (fun g b a=>by have:=(h2.lt g b).1;have:=hX g a;omega)) (fun g b=>by have:=(h2.lt g b).1;omega)
  ·exact qi (zk h4 k (fun g b a=>by have:=(h4.lt g b).1;have:=hX g a;omega)) (fun g b=>by have:=(h4.lt g b).1;omega)
theorem jj {n:Nat}{v:V n}(h:zY n v=0):zo n v=true:=(qh.1 h).2.2
theorem Sorted_any {n:Nat}{v:V n}{S:Nat→Prop}{w:World}{cs:List Value}(h:Rep n S w cs v)(z:zP n v)(O:n≤100)(J:xH w)(hc:zY n v=0) : Calls prog 149 #[.agg cs.toArray] w fun e w'=>(∃ cs':List Value,e = .returned (.agg cs'.toArray)∧xU n w.heap.size w' cs' (zI n v))∧zb [] w w':=by
 obtain⟨kd,u,st,a,ca,s,b,cb,t,rfl⟩:=h.conv;obtain⟨p,m⟩:=XE ((w.alloc (.cells #[.int .i64 kd,.int .i64 u,.string st,.slice a ca s,.slice b cb t] 25)).alloc (.cells #[.int .i64 0,.int .i64 0,.string ⟨#[]⟩,.slice none 0 0,.slice none 0 0] 25));have Gs:Hid (p.heap.size=w.heap.size+2):=qI (by rw [m.o];simp);have r:Hid (zb [] w p):=qI (kA2 m.o);have K:Hid (yZ p w.heap.size kd u st (.slice a ca s) (.slice b cb t)):=qI (by
  rw [m.o];have U:=xr w kd u st (.slice a ca s) (.slice b cb t) 25;exact U.kept ((zb.refl [] _).alloc _) Wz)
 have Je:Hid (p.heap[w.heap.size+1]? = some (.cells #[.int .i64 0,.int .i64 0,.string ⟨#[]⟩,.slice none 0 0,.slice none 0 0] 25 (0,0))):=qI (by
  rw [m.o];exact ze Wz)
 have CC:Hid (Calls prog 62 #[.agg #[.int .i64 kd,.int .i64 u,.string st,.slice a ca s,.slice b cb t]] p _):=qI (Zi (h.k0 r.o) z O (J.k0 r.o));have N:=qI (fun (A:World) (k:zb [] p A)=>QK n v ((h.k0 r.o).k0 k) z (jj hc));have W:=qI hc;clear h z J hc;obtain⟨c0,c1,c2,c3,c4⟩:=K.o;rw [m.o] at c0 c1 c2 c3 c4;go_enter func149,ntmps149;go_wp2_with fail;rw [← m.o];refine CC.o.mono ?_;rintro e A ⟨rfl,l⟩;have I:=qI l;clear c0 c1 c2 c3 c4;rw [W.o];obtain⟨c0,c1,c2,c3,c4⟩:=K.o.kept l Wz;clear l;go_wp2_with fail;refine (N.o _ I.o).mono ?_;rintro e X ⟨⟨cs',rfl,j⟩,q⟩;obtain⟨G,F,B,C,D,E,x,H,y,rfl⟩:=j.rep.conv;have Q:=qI j;have M:=qI (I.o.then q);have d:=M.o.heap Je.o Wz;have Z:=qI d;have r0:=za (o:=0) (v:=.int .i64 0) d rfl;have r1:=za (o:=1) (v:=.int .i64 0) d rfl;have r2:=za (o:=2) (v:=.string ⟨#[]⟩) d rfl;have r3:=za (o:=3) (v:=.slice none 0 0) d rfl;have r4:=za (o:=4) (v:=.slice none 0 0) d rfl;have f0:=zh (o:=0) d;have f1:=zh (o:=1) d;have f2:=zh (o:=2) d;have f3:=zh (o:=3) d;have f4:=zh (o:=4) d;have Jg:Hid (w.heap.size+2≤A.heap.size):=qI (XH I.o.size Gs.o);clear d j q c0 c1 c2 c3 c4;go_wp2_with fail;obtain⟨WF,e⟩:=XF (yw X (w.heap.size+1) (.int .i64 G) (.int .i64 F) (.string B) (.slice C D E) (.slice x H y));obtain⟨L,f⟩:=zaW Z.o e;unfold yw at e;rw [← e];have P:=za (o:=0) (v:=.int .i64 G) f rfl;have R:=za (o:=1) (v:=.int .i64 F) f rfl;have x2:=za (o:=2) (v:=.string B) f rfl;have x3:=za (o:=3) (v:=.slice C D E) f rfl;have x4:=za (o:=4) (v:=.slice x H y) f rfl;have hz:=Jg.o;exact bodyPost_ret (v:=.agg #[.int .i64 G,.int .i64 F,.string B,.slice C D E,.slice x H y]) (by simp [results,results149,go_sem,P,R,x2,x3,x4]) rfl ⟨⟨_,rfl,Q.o.move L (fun g hg=>by simp at hg;omega) Ws⟩,(r.o.then M.o).trans L (fun i Y=>by simp at Y;exact .inr Ws)⟩
def YL (n:Nat):Prop:=∀ (v:V n) {S:Nat→Prop}{W w:World}{cs:List Value}{b:Nat}{l:List UInt8},Rep n S W cs v→(∀ g,S g→g≠b)→zo n v=true→zP n v→qA b W→BW 189 W b w l→l.length+(zr n v).length≤50000000 →
 Calls prog 148 #[.pointer (some ⟨b,0,none⟩),.agg cs.toArray] w fun e w'=>e = .returned (.tuple #[])∧BW 189 W b w' (l++zr n v)∧ye b w w'
structure ZX (b b2 b3:Nat)(cs:List Value)(w:World):Prop where
 ptr:w.heap[b2]? = some (.cells #[.pointer (some ⟨b,0,none⟩)] 187 (0,0))
 val:w.heap[b3]? = some (.cells cs.toArray 25 (0,0))
theorem ZX.kept {b b2 b3:Nat}{cs:List Value}{w:World}(h:ZX b b2 b3 cs w)(h2:b2≠b)(h3:b3≠b)(k:ye b w w'):ZX b b2 b3 cs w':=
 ⟨k.heap h.ptr h2 (by rw [zU h.ptr];decide),k.heap h.val h3 (by rw [zU h.val];decide)⟩
section
variable {n : Nat} {v : VS (V n)} {S : Nat → Prop} {W w : World} {cs : List Value} {b b2 b3 k : Nat} {l : List UInt8} {a d : Option Addr} {c e : Nat} {lcs : List (List Value)} {mcs : List (ByteArray × List Value)}
theorem put1_any (IH:YL n)(H:yk (Rep n S W) S W cs v (.slice a v.l.length c) (.slice d v.m.length e) lcs mcs)(Z:∀ g,S g→g≠b)(hr:zo (n+1) v=true)(P:zP (n+1) v)(ht:qA b W)(u:b2≠b∧b3≠b)(hc:ZX b b2 b3 [.int .i64 v.kind,.int .i64 v.num,.string v.s,.slice a v.l.length c,.slice d v.m.length e] w)(Q:BW 189 W b w l)(B:k<v.l.length)(hl:l.length+(zr n v.l[k]).length≤50000000) : Calls prog 196 #[.int .i64 k,.pointer (some ⟨b2,0,none⟩),.pointer (some ⟨b3,0,none⟩)] w fun r w2=>r = .returned (.tuple #[])∧BW 189 W b w2 (l++zr n v.l[k])∧ye b w w2:=by
 obtain⟨g,o,cap,kd,nm,st,a1,b1,he,q0,q1,q2,q3,q4,y⟩:=H.at_l Wd k B;simp only [Value.slice.injEq] at he;obtain⟨rfl,-,rfl⟩:=he;have hg:g≠b:=Z g (H.inl g (ZK Ws));obtain⟨p1,X,Y,p2,i2,U,rfl,rfl⟩:=y.sl;have q:g ∉ [b]:=by simpa using hg
 have Gf:Hid (∀ j,zb [b] W j→j.cell? ⟨g,o+k*5,none⟩=some (.int .i64 kd)∧j.cell? ⟨g,o+k*5+1,none⟩=some (.int .i64 nm)∧j.cell? ⟨g,o+k*5+2,none⟩=some (.string st)∧j.cell? ⟨g,o+k*5+3,none⟩=some (.slice p1 X Y)∧j.cell? ⟨g,o+k*5+4,none⟩=some (.slice p2 i2 U)):=
  qI fun j x=>⟨x.cell q0 q,x.cell q1 q,x.cell q2 q,x.cell q3 q,x.cell q4 q⟩
 have Gg:Hid (∀ j,ye b w j→j.cell? ⟨b2,0,none⟩=some (.pointer (some ⟨b,0,none⟩))∧j.cell? ⟨b3,3,none⟩=some (.slice (some ⟨g,o,none⟩) v.l.length c)):=
  qI fun j x=>⟨za (o:=0) (v:=.pointer (some ⟨b,0,none⟩)) (hc.kept u.1 u.2 x).ptr rfl,za (o:=3) (v:=.slice (some ⟨g,o,none⟩) v.l.length c) (hc.kept u.1 u.2 x).val rfl⟩
 obtain⟨r0,r1,r2,r3,r4⟩:=Gf.o w Q.kept;obtain⟨c2,c3⟩:=Gg.o w (ye.refl _ _);have aa:(k:Int)<v.l.length:=Ws;have N:Hid (∀ j,BW 189 W b j l→_):=qI (fun j (h1:BW 189 W b j l)=>IH v.l[k] y Z (jg hr (je (List.getElem_mem B))) (P.kid (je (List.getElem_mem B))) ht h1 hl);have HB:=qI Q;have Gv:Hid (v.l.length≤20000):=qI (XC P.few);have HK:Hid (k<v.l.length):=qI B;clear H Z hr P ht hc Q q0 q1 q2 q3 q4 y hg q IH;revert N;generalize zr n v.l[k]=T;intro N;clear hl B;go_enter func196,ntmps196;refine zt (n:=7) (fun w':World=>w'.cell? ⟨b2,0,none⟩=some (.pointer (some ⟨b,0,none⟩))∧w'.cell? ⟨b3,3,none⟩=some (.slice (some ⟨g,o,none⟩) v.l.length c)∧w'.cell? ⟨g,o+k*5,none⟩=some (.int .i64 kd)∧w'.cell? ⟨g,o+k*5+1,none⟩=some (.int .i64 nm)∧w'.cell? ⟨g,o+k*5+2,none⟩=some (.string st)∧w'.cell? ⟨g,o+k*5+3,none⟩=some (.slice p1 X Y)∧w'.cell? ⟨g,o+k*5+4,none⟩=some (.slice p2 i2 U)) 7 Wr Wr ?_;change zS _ _ _ _ _ _ _ _ _ w.drew;have i:(fun w':World=>w'.cell? ⟨b2,0,none⟩=some (.pointer (some ⟨b,0,none⟩))∧w'.cell? ⟨b3,3,none⟩=some (.slice (some ⟨g,o,none⟩) v.l.length c)∧w'.cell? ⟨g,o+k*5,none⟩=some (.int .i64 kd)∧w'.cell? ⟨g,o+k*5+1,none⟩=some (.int .i64 nm)∧w'.cell? ⟨g,o+k*5+2,none⟩=some (.string st)∧w'.cell? ⟨g,o+k*5+3,none⟩=some (.slice p1 X Y)∧w'.cell? ⟨g,o+k*5+4,none⟩=some (.slice p2 i2 U)) w.drew:=⟨c2,c3,r0,r1,r2,r3,r4⟩;have L:Hid (zb [] w w.drew):=qI Wd.drew;clear c2 c3 r0 r1 r2 r3 r4;revert i L;generalize w.drew=WD;intro i L;refine zF ?_;intro O R t hR;have p:kI R:=by subst hR;exact fun _ _ _ _ _ h=>h
 refine qT 0 ?_ t rfl rfl Wr p (fun w f=>?_) i ?_;rotate_left;·obtain⟨z,C,G,J,D,E,I⟩:=f;exact zg
 try simp only [XI]
 refine qT 1 ?_ t rfl rfl Wr p (fun w f=>?_) i ?_;rotate_left;·obtain⟨z,C,G,J,D,E,I⟩:=f;exact zg
 try simp only [XI]
 refine qT 2 ?_ t rfl rfl Wr p (fun w f=>?_) i ?_;rotate_left;·obtain⟨z,C,G,J,D,E,I⟩:=f;exact zg
 try simp only [XI]
 refine qT 3 ?_ t rfl rfl Wr p (fun w f=>?_) i ?_;rotate_left;·obtain⟨z,C,G,J,D,E,I⟩:=f;exact zg
 try simp only [XI]
 refine qT 4 ?_ t rfl rfl Wr p (fun w f=>?_) i ?_;rotate_left;·obtain⟨z,C,G,J,D,E,I⟩:=f;exact zg
 try simp only [XI]
 refine qT 5 ?_ t rfl rfl Wr p (fun w f=>?_) i ?_;rotate_left;·obtain⟨z,C,G,J,D,E,I⟩:=f;exact zg
 try simp only [XI]
 refine qO 6 t rfl Wr (fun K hK=>?_);go_simp;refine Calls.mono (N.o _ (HB.o.stay L.o)) ?_;rintro e w3 ⟨rfl,A,F⟩;have Gt:=qI A;have M:=qI ((ye.of0 L.o).trans F);clear A F;refine hK _ _ (.inr ⟨(Gg.o w3 M.o).1,(Gg.o w3 M.o).2,Gf.o w3 Gt.o.kept⟩) ?_;clear hK K;try simp only [XI]
 refine zz t Wr ?_ _;subst hR;try clear p t O
 go_wp2_with fail;go_end0;exact⟨rfl,Gt.o,M.o⟩
theorem put2_any (IH:YL n)(H:yk (Rep n S W) S W cs v (.slice a v.l.length c) (.slice d v.m.length e) lcs mcs)(hS:∀ g,S g→g≠b)(hr:zo (n+1) v=true)(hs:zP (n+1) v)(ht:qA b W)(t:v.kind=6)(D:b2≠b∧b3≠b)(hc:ZX b b2 b3 [.int .i64 v.kind,.int .i64 v.num,.string v.s,.slice a v.l.length c,.slice d v.m.length e] w)(hb:BW 189 W b w l)(N:k<v.m.length)(hl:l.length+(yH v.m[k].1.data.toList++(58::zr n v.m[k].2)).length≤50000000) : Calls prog 197 #[.int .i64 k,.pointer (some ⟨b2,0,none⟩),.pointer (some ⟨b3,0,none⟩)] w fun r w2=>r = .returned (.tuple #[])∧BW 189 W b w2 (l++(yH v.m[k].1.data.toList++(58::zr n v.m[k].2)))∧ye b w w2:=by
 obtain⟨g,o,cap,kd,nm,st,a1,b1,he,qk,q0,q1,q2,q3,q4,M⟩:=H.at_m Wd k N;simp only [Value.slice.injEq] at he;obtain⟨rfl,-,rfl⟩:=he;have hg:g≠b:=hS g (H.inm g (ZK Ws));obtain⟨p1,i1,d1,p2,i2,d2,rfl,rfl⟩:=M.sl;have u:g ∉ [b]:=by simpa using hg
 have X:Hid (∀ q,zb [b] W q→q.cell? ⟨g,o+k*6,none⟩=some (.string v.m[k].1)∧q.cell? ⟨g,o+k*6+1,none⟩=some (.int .i64 kd)∧q.cell? ⟨g,o+k*6+2,none⟩=some (.int .i64 nm)∧q.cell? ⟨g,o+k*6+3,none⟩=some (.string st)∧q.cell? ⟨g,o+k*6+4,none⟩=some (.slice p1 i1 d1)∧q.cell? ⟨g,o+k*6+5,none⟩=some (.slice p2 i2 d2)):=
  qI fun q C=>⟨C.cell qk u,C.cell q0 u,C.cell q1 u,C.cell q2 u,C.cell q3 u,C.cell q4 u⟩
 have L:Hid (∀ q,ye b w q→q.cell? ⟨b2,0,none⟩=some (.pointer (some ⟨b,0,none⟩))∧q.cell? ⟨b3,4,none⟩=some (.slice (some ⟨g,o,none⟩) v.m.length e)):=
  qI fun q C=>⟨za (o:=0) (v:=.pointer (some ⟨b,0,none⟩)) (hc.kept D.1 D.2 C).ptr rfl,za (o:=4) (v:=.slice (some ⟨g,o,none⟩) v.m.length e) (hc.kept D.1 D.2 C).val rfl⟩
 have ag:(k:Int)<v.m.length:=Ws;have ad:(v.m[k].1).size≤400000:=Nat.le_trans (key_le (List.getElem_mem N)) hs.2;have E:yV v.m=true:=by
  rcases jM (jR hr) with h | h | h | h | h | h;·rw [t] at h;exact absurd h.1 Wo
  ·rw [t] at h;exact absurd h.1 Wo
  ·rw [t] at h;exact absurd h.1 Wo
  ·rw [t] at h;exact absurd h.1 Wo
  ·rw [t] at h;exact absurd h.1 Wo
  ·exact h.2.2.2.2
 have G:zw v.m[k].1=true:=by unfold yV at E;rw [Bool.and_eq_true,List.all_eq_true] at E;exact E.1 _ (List.getElem_mem N)
 have F:l.length+(yH v.m[k].1.data.toList).length+1+(zr n v.m[k].2).length≤50000000:=by rw [List.length_append,List.length_cons] at hl;omega
 have CL:Hid (∀ q l1,BW 189 W b q l1→l1.length+(zr n v.m[k].2).length≤50000000→_):=qI (fun q l1 (h1:BW 189 W b q l1) hl1=>IH v.m[k].2 M hS (jg hr (kN (List.getElem_mem N))) (hs.kid (kN (List.getElem_mem N))) ht h1 hl1);have HB:=qI hb;have HT:=qI ht;have Gv:Hid (v.m.length≤20000):=qI (XC hs.few);have HA:Hid (∀ x y:List UInt8,l++x++[58]++y=l++(x++(58::y))):=qI (by intro x y;simp);clear H hS hr hs ht hc hb qk q0 q1 q2 q3 q4 M hg u IH E hl;revert CL X ad G F;generalize zr n v.m[k].2=T;generalize v.m[k].1=key;intro X ad G F CL;clear N;obtain⟨r0,r1,r2,r3,r4,r5⟩:=X.o w HB.o.kept;obtain⟨c2,c3⟩:=L.o w (ye.refl _ _);go_enter func197,ntmps197;go_wp2_with fail;refine zt (n:=8) (fun w':World=>w'.cell? ⟨b2,0,none⟩=some (.pointer (some ⟨b,0,none⟩))∧w'.cell? ⟨b3,4,none⟩=some (.slice (some ⟨g,o,none⟩) v.m.length e)∧w'.cell? ⟨g,o+k*6,none⟩=some (.string key)) 8 Wr Wr ?_;change zS _ _ _ _ _ _ _ _ _ w.drew;have i:(fun w':World=>w'.cell? ⟨b2,0,none⟩=some (.pointer (some ⟨b,0,none⟩))∧w'.cell? ⟨b3,4,none⟩=some (.slice (some ⟨g,o,none⟩) v.m.length e)∧w'.cell? ⟨g,o+k*6,none⟩=some (.string key)) w.drew:=⟨c2,c3,r0⟩;have Gh:Hid (zb [] w w.drew):=qI Wd.drew;clear c2 c3 r0 r1 r2 r3 r4 r5;revert i Gh;generalize w.drew=WD;intro i Gh;refine zF ?_;intro O R p hR;have j:kI R:=by subst hR;exact fun _ _ _ _ _ h=>h
 refine qT 0 ?_ p rfl rfl Wr j (fun w f=>?_) i ?_;rotate_left;·obtain⟨A,B,z⟩:=f;exact zg
 try simp only [XI]
 refine qT 1 ?_ p rfl rfl Wr j (fun w f=>?_) i ?_;rotate_left;·obtain⟨A,B,z⟩:=f;exact zg
 try simp only [XI]
 refine qT 2 ?_ p rfl rfl Wr j (fun w f=>?_) i ?_;rotate_left;·obtain⟨A,B,z⟩:=f;exact zg
 try simp only [XI]
 refine qT 3 ?_ p rfl rfl Wr j (fun w f=>?_) i ?_;rotate_left;·obtain⟨A,B,z⟩:=f;exact zg
 try simp only [XI]
 refine qT 4 ?_ p rfl rfl Wr j (fun w f=>?_) i ?_;rotate_left;·obtain⟨A,B,z⟩:=f;exact zg
 try simp only [XI]
 refine qT 5 ?_ p rfl rfl Wr j (fun w f=>?_) i ?_;rotate_left;·obtain⟨A,B,z⟩:=f;exact zg
 try simp only [XI]
 refine qT 6 ?_ p rfl rfl Wr j (fun w f=>?_) i ?_;rotate_left;·obtain⟨A,B,z⟩:=f;exact zg
 try simp only [XI]
 refine qO 7 p rfl Wr (fun K hK=>?_);go_simp;refine Calls.mono (zaL (HB.o.stay Gh.o) HT.o Ws key Ws G) ?_;rintro e1 w3 ⟨rfl,aa,ae⟩;have Gt:=qI aa;have Gd:=qI ((ye.of0 Gh.o).trans ae);clear aa ae;refine hK _ _ (.inr ⟨(L.o w3 Gd.o).1,(L.o w3 Gd.o).2,(X.o w3 Gt.o.kept).1⟩) ?_;clear hK K;try simp only [XI]
 refine zz p Wr ?_ _;subst hR;try clear j p O
 clear i;obtain⟨c2,c3⟩:=L.o w3 Gd.o;go_wp2_with (go_at_call 99;refine (wbyte_58 xx Gt.o (by rw [List.length_append];omega)).mono ?_;rintro e2 I ⟨rfl,af,ab⟩;have Gw:=qI af;have Gx:=qI (Gd.o.trans ab);clear af ab);clear c2 c3;obtain⟨r0,r1,r2,r3,r4,r5⟩:=X.o I Gw.o.kept;obtain⟨c2,c3⟩:=L.o I Gx.o;refine zt (n:=8) (fun w':World=>w'.cell? ⟨b2,0,none⟩=some (.pointer (some ⟨b,0,none⟩))∧w'.cell? ⟨b3,4,none⟩=some (.slice (some ⟨g,o,none⟩) v.m.length e)∧w'.cell? ⟨g,o+k*6+1,none⟩=some (.int .i64 kd)∧w'.cell? ⟨g,o+k*6+2,none⟩=some (.int .i64 nm)∧w'.cell? ⟨g,o+k*6+3,none⟩=some (.string st)∧w'.cell? ⟨g,o+k*6+4,none⟩=some (.slice p1 i1 d1)∧w'.cell? ⟨g,o+k*6+5,none⟩=some (.slice p2 i2 d2)) 8 Wr Wr ?_;change zS _ _ _ _ _ _ _ _ _ I.drew;have i:(fun w':World=>w'.cell? ⟨b2,0,none⟩=some (.pointer (some ⟨b,0,none⟩))∧w'.cell? ⟨b3,4,none⟩=some (.slice (some ⟨g,o,none⟩) v.m.length e)∧w'.cell? ⟨g,o+k*6+1,none⟩=some (.int .i64 kd)∧w'.cell? ⟨g,o+k*6+2,none⟩=some (.int .i64 nm)∧w'.cell? ⟨g,o+k*6+3,none⟩=some (.string st)∧w'.cell? ⟨g,o+k*6+4,none⟩=some (.slice p1 i1 d1)∧w'.cell? ⟨g,o+k*6+5,none⟩=some (.slice p2 i2 d2)) I.drew:=⟨c2,c3,r1,r2,r3,r4,r5⟩;have Ja:Hid (zb [] I I.drew):=qI Wd.drew;clear c2 c3 r0 r1 r2 r3 r4 r5;revert i Ja;generalize I.drew=WE;intro i Ja;refine zF ?_;intro O R p hR;have j:kI R:=by subst hR;exact fun _ _ _ _ _ h=>h
 refine qT 0 ?_ p rfl rfl Wr j (fun w f=>?_) i ?_;rotate_left;·obtain⟨A,B,z,Y,P,Q,U⟩:=f;exact zg
 try simp only [XI]
 refine qT 1 ?_ p rfl rfl Wr j (fun w f=>?_) i ?_;rotate_left;·obtain⟨A,B,z,Y,P,Q,U⟩:=f;exact zg
 try simp only [XI]
 refine qT 2 ?_ p rfl rfl Wr j (fun w f=>?_) i ?_;rotate_left;·obtain⟨A,B,z,Y,P,Q,U⟩:=f;exact zg
 try simp only [XI]
 refine qT 3 ?_ p rfl rfl Wr j (fun w f=>?_) i ?_;rotate_left;·obtain⟨A,B,z,Y,P,Q,U⟩:=f;exact zg
 try simp only [XI]
 refine qT 4 ?_ p rfl rfl Wr j (fun w f=>?_) i ?_;rotate_left;·obtain⟨A,B,z,Y,P,Q,U⟩:=f;exact zg
 try simp only [XI]
 refine qT 5 ?_ p rfl rfl Wr j (fun w f=>?_) i ?_;rotate_left;·obtain⟨A,B,z,Y,P,Q,U⟩:=f;exact zg
 try simp only [XI]
 refine qT 6 ?_ p rfl rfl Wr j (fun w f=>?_) i ?_;rotate_left;·obtain⟨A,B,z,Y,P,Q,U⟩:=f;exact zg
 try simp only [XI]
 refine qO 7 p rfl Wr (fun K hK=>?_);go_simp;refine Calls.mono (CL.o _ _ (Gw.o.stay Ja.o) (by simp only [List.length_append,List.length_cons,List.length_nil];omega)) ?_;rintro e3 w5 ⟨rfl,J,Z⟩;rw [HA.o] at J;have Jj:=qI J;have Gu:=qI ((Gx.o.trans (ye.of0 Ja.o)).trans Z);clear J Z;refine hK _ _ (.inr ⟨(L.o w5 Gu.o).1,(L.o w5 Gu.o).2,(X.o w5 Jj.o.kept).2⟩) ?_;clear hK K;try simp only [XI]
 refine zz p Wr ?_ _;subst hR;try clear j p O
 go_wp2_with fail;go_end0;exact⟨rfl,Jj.o,Gu.o⟩
end
theorem fb_true:Lib.formatBool true=[116,114,117,101]:=by decide +kernel
theorem fb_false:Lib.formatBool false=[102,97,108,115,101]:=by decide +kernel
theorem between1_list {W w:World}{b b2 b3 n:Nat}{l:List UInt8}(h:∀ w1 w2,J w1→ye b w1 w2→J w2)(i:∀ k w1 l1,k<n→J w1→BW 189 W b w1 l1→l1.length+(it k).length≤50000000→Calls prog 196 #[.int .i64 k,.pointer (some ⟨b2,0,none⟩),.pointer (some ⟨b3,0,none⟩)] w1 fun r w2=>r = .returned (.tuple #[])∧BW 189 W b w2 (l1++it k)∧ye b w1 w2)(d:J w)(a:BW 189 W b w l)(e:n≤20000)(f:l.length+(qD it n).length≤49999998) : Calls prog 195 #[.pointer (some ⟨b,0,none⟩),.int .u8 91,.int .i64 n,.func (.func 196) #[] #[.pointer (some ⟨b2,0,none⟩),.pointer (some ⟨b3,0,none⟩)],.int .u8 93] w fun r w'=>r = .returned (.tuple #[])∧BW 189 W b w' (l++(91::(qD it n++[93])))∧ye b w w':=between1_any (o:=91) (c:=93) h i d a e f
theorem between2_map {W w:World}{b b2 b3 n:Nat}{l:List UInt8}(h:∀ w1 w2,J w1→ye b w1 w2→J w2)(i:∀ k w1 l1,k<n→J w1→BW 189 W b w1 l1→l1.length+(it k).length≤50000000→Calls prog 197 #[.int .i64 k,.pointer (some ⟨b2,0,none⟩),.pointer (some ⟨b3,0,none⟩)] w1 fun r w2=>r = .returned (.tuple #[])∧BW 189 W b w2 (l1++it k)∧ye b w1 w2)(d:J w)(a:BW 189 W b w l)(e:n≤20000)(f:l.length+(qD it n).length≤49999998) : Calls prog 195 #[.pointer (some ⟨b,0,none⟩),.int .u8 123,.int .i64 n,.func (.func 197) #[] #[.pointer (some ⟨b2,0,none⟩),.pointer (some ⟨b3,0,none⟩)],.int .u8 125] w fun r w'=>r = .returned (.tuple #[])∧BW 189 W b w' (l++(123::(qD it n++[125])))∧ye b w w':=between2_any (o:=123) (c:=125) h i d a e f
theorem write_1 {n:Nat}{v:VS (V n)}(h:v.kind=1):zr (n+1) v=[110,117,108,108]:=by
 show (if v.kind=1 then _ else _)=_;rw [if_pos h]
theorem write_2 {n:Nat}{v:VS (V n)}(h:v.kind=2):zr (n+1) v=Lib.formatBool (v.num == 1):=by
 show (if v.kind=1 then _ else if v.kind=2 then _ else _)=_;rw [if_neg Ws,if_pos h];by_cases e:v.num=1;·rw [if_pos e,e,show ((1:Int) == 1)=true from rfl,fb_true]
 ·rw [if_neg e,show (v.num == 1)=false by simpa using e,fb_false]
theorem write_3 {n:Nat}{v:VS (V n)}(h:v.kind=3):zr (n+1) v=Lib.itoa v.num:=by
 show (if v.kind=1 then _ else if v.kind=2 then _ else if v.kind=3 then _ else _)=_;rw [if_neg Ws,if_neg Ws,if_pos h]
theorem write_4 {n:Nat}{v:VS (V n)}(h:v.kind=4):zr (n+1) v=yH v.s.data.toList:=by
 show (if v.kind=1 then _ else if v.kind=2 then _ else if v.kind=3 then _ else if v.kind=4 then _ else _)=_;rw [if_neg Ws,if_neg Ws,if_neg Ws,if_pos h]
theorem write_5 {n:Nat}{v:VS (V n)}(h:v.kind=5):zr (n+1) v=91::(qD (fun k=>(v.l.map (zr n)).getD k []) v.l.length++[93]):=by
 show (if v.kind=1 then _ else if v.kind=2 then _ else if v.kind=3 then _ else if v.kind=4 then _ else if v.kind=5 then _ else _)=_;rw [if_neg Ws,if_neg Ws,if_neg Ws,if_neg Ws,if_pos h,preC_all]
theorem write_6 {n:Nat}{v:VS (V n)}(h:v.kind=6):zr (n+1) v=123::(qD (fun k=>(v.m.map (fun p=>yH p.1.data.toList++(58::zr n p.2))).getD k []) v.m.length++[125]):=by
 show (if v.kind=1 then _ else if v.kind=2 then _ else if v.kind=3 then _ else if v.kind=4 then _ else if v.kind=5 then _ else _)=_;rw [if_neg Ws,if_neg Ws,if_neg Ws,if_neg Ws,if_neg Ws,preC_all]
theorem put_any_step {n:Nat}(aa:YL n):YL (n+1):=fun (v:VS (V n)) {S W w cs b l} h hS hr hs ht hb hl=>by
  have IH:=qI aa;obtain⟨vl,vm,lcs,mcs,h⟩:=h;obtain⟨a,c,d,e,rfl,rfl,rfl⟩:=h.forms;obtain⟨z,F⟩:=XE ((w.alloc (.cells #[.pointer (some ⟨b,0,none⟩)] 187)).alloc (.cells #[.int .i64 v.kind,.int .i64 v.num,.string v.s,.slice a v.l.length c,.slice d v.m.length e] 25));have Z:Hid (zb [] w z):=qI (kA2 F.o);have Q:Hid (ZX b w.heap.size (w.heap.size+1) [.int .i64 v.kind,.int .i64 v.num,.string v.s,.slice a v.l.length c,.slice d v.m.length e] z):=qI (by
   rw [F.o];exact⟨((zb.refl [] _).alloc _).heap (ze rfl) Wz,ze Wz⟩)
  have t:Hid (w.heap.size≠b∧w.heap.size+1≠b):=qI (XH hb.lt hb.kept.size);have Gm:Hid (BW 189 W b z l):=qI (hb.stay Z.o);have HL:=qI hl;have HS:=qI hs;have Jk:=qI hS;have Jl:=qI hr;have HT:=qI ht;have H:=qI h;have HC:=qI (jM (jR hr));have ag:l.length≤50000000:=Ws;have r:∀ x:Int,v.kind=x→Hid (ZX b w.heap.size (w.heap.size+1) [.int .i64 x,.int .i64 v.num,.string v.s,.slice a v.l.length c,.slice d v.m.length e] z):=fun x hx=>qI (by rw [← hx];exact Q.o);clear h hS hr hs ht hb hl;rcases HC.o with ⟨q,-⟩ | ⟨q,k2,-⟩ | ⟨q,k2,-⟩ | ⟨q,k2,k3,-⟩ | ⟨q,-⟩ | ⟨q,-⟩
  ·have E:=qI (write_1 q);clear Q HC r;rw [q] at F ⊢;clear q;go_enter func148,ntmps148;go_wp2_with fail;rw [← F.o];refine (vg xx Gm.o Ws ⟨#[110,117,108,108]⟩ Wo).mono ?_;rintro M w2 ⟨rfl,D,B⟩;go_wp2_with fail;go_end0;exact⟨rfl,by rw [E.o];exact D,(ye.of0 Z.o).trans B⟩
  ·have E:=qI (write_2 q);have U:=r 2 q;have ah:0≤v.num∧v.num≤1:=Ws;clear Q HC r;rw [q] at F ⊢;clear q k2;have c2:=za (o:=0) (v:=.pointer (some ⟨b,0,none⟩)) U.o.ptr rfl;have c3:=za (o:=1) (v:=.int .i64 v.num) U.o.val rfl;go_enter func148,ntmps148;go_wp2_with fail;rw [← F.o];generalize v.num=num at *;refine zt (n:=8) (fun w':World=>w'.cell? ⟨w.heap.size,0,none⟩=some (.pointer (some ⟨b,0,none⟩))∧w'.cell? ⟨w.heap.size+1,1,none⟩=some (.int .i64 num)) 8 Wr Wr ?_;change zS _ _ _ _ _ _ _ _ _ z.drew;have i:(fun w':World=>w'.cell? ⟨w.heap.size,0,none⟩=some (.pointer (some ⟨b,0,none⟩))∧w'.cell? ⟨w.heap.size+1,1,none⟩=some (.int .i64 num)) z.drew:=⟨c2,c3⟩;have P:Hid (zb [] z z.drew):=qI Wd.drew;clear c2 c3;revert i P;generalize z.drew=WD;intro i P;refine zF ?_;intro O R u hR;have j:kI R:=by subst hR;exact fun _ _ _ _ _ h=>h
   refine qT 0 ?_ u rfl rfl Wr j (fun w f=>?_) i ?_;rotate_left;·obtain⟨L,N⟩:=f;exact zg
   try simp only [XI]
   refine qT 1 ?_ u rfl rfl Wr j (fun w f=>?_) i ?_;rotate_left;·obtain⟨L,N⟩:=f;exact zg
   try simp only [XI]
   refine qT 2 ?_ u rfl rfl Wr j (fun w f=>?_) i ?_;rotate_left;·obtain⟨L,N⟩:=f;exact zg
   try simp only [XI]
   refine qT 3 ?_ u rfl rfl Wr j (fun w f=>?_) i ?_;rotate_left;·obtain⟨L,N⟩:=f;exact zg
   try simp only [XI]
   refine qT 4 ?_ u rfl rfl Wr j (fun w f=>?_) i ?_;rotate_left;·obtain⟨L,N⟩:=f;exact zg
   try simp only [XI]
   refine qT 5 ?_ u rfl rfl Wr j (fun w f=>?_) i ?_;rotate_left;·obtain⟨L,N⟩:=f;exact zg
   try simp only [XI]
   refine qO 6 u rfl Wr (fun K I=>?_);go_simp;refine Calls.mono (libFormatBool (num == 1) WD) ?_;rintro M w3 ⟨rfl,rfl⟩;refine I _ _ (.inr i) ?_;clear I K;try simp only [XI]
   refine qO 7 u rfl Wr (fun K I=>?_);go_simp;refine Calls.mono (vg xx (Gm.o.stay P.o) Ws (zx (Lib.formatBool (num == 1))) (by rw [yd];cases (num == 1) <;> decide +kernel)) ?_;rintro e2 w4 ⟨rfl,C,A⟩;rw [zK,← E.o] at C;have Gw:=qI C;have Gx:=qI (((ye.of0 Z.o).trans (ye.of0 P.o)).trans A);have y:=U.o.kept t.o.1 t.o.2 ((ye.of0 P.o:ye b _ _).trans A);have ad:(fun w':World=>w'.cell? ⟨w.heap.size,0,none⟩=some (.pointer (some ⟨b,0,none⟩))∧w'.cell? ⟨w.heap.size+1,1,none⟩=some (.int .i64 num)) w4:=⟨za (o:=0) (v:=.pointer (some ⟨b,0,none⟩)) y.ptr rfl,za (o:=1) (v:=.int .i64 num) y.val rfl⟩;clear C A y;refine I _ _ (.inr ad) ?_;clear I K;try simp only [XI]
   refine zz u Wr ?_ _;subst hR;try clear j u O
   go_wp2_with fail;go_end0;exact⟨rfl,Gw.o,Gx.o⟩
  ·have E:=qI (write_3 q);have U:=r 3 q;have Gv:Hid ((Lib.itoa v.num).length≤21):=qI (itoa_len v.num k2);have Jq:Hid (xH z):=qI (HT.o.at Gm.o.kept);clear Q HC r;rw [q] at F ⊢;clear q;have c2:=za (o:=0) (v:=.pointer (some ⟨b,0,none⟩)) U.o.ptr rfl;have c3:=za (o:=1) (v:=.int .i64 v.num) U.o.val rfl;go_enter func148,ntmps148;go_wp2_with fail;rw [← F.o];generalize v.num=num at *;refine zt (n:=7) (fun w':World=>w'.cell? ⟨w.heap.size,0,none⟩=some (.pointer (some ⟨b,0,none⟩))∧w'.cell? ⟨w.heap.size+1,1,none⟩=some (.int .i64 num)) 7 Wr Wr ?_;change zS _ _ _ _ _ _ _ _ _ z.drew;have i:(fun w':World=>w'.cell? ⟨w.heap.size,0,none⟩=some (.pointer (some ⟨b,0,none⟩))∧w'.cell? ⟨w.heap.size+1,1,none⟩=some (.int .i64 num)) z.drew:=⟨c2,c3⟩;have P:Hid (zb [] z z.drew):=qI Wd.drew;clear c2 c3;revert i P;generalize z.drew=WD;intro i P;refine zF ?_;intro O R u hR;have j:kI R:=by subst hR;exact fun _ _ _ _ _ h=>h
   refine qT 0 ?_ u rfl rfl Wr j (fun w f=>?_) i ?_;rotate_left;·obtain⟨L,N⟩:=f;exact zg
   try simp only [XI]
   refine qT 1 ?_ u rfl rfl Wr j (fun w f=>?_) i ?_;rotate_left;·obtain⟨L,N⟩:=f;exact zg
   try simp only [XI]
   refine qT 2 ?_ u rfl rfl Wr j (fun w f=>?_) i ?_;rotate_left;·obtain⟨L,N⟩:=f;exact zg
   try simp only [XI]
   refine qT 3 ?_ u rfl rfl Wr j (fun w f=>?_) i ?_;rotate_left;·obtain⟨L,N⟩:=f;exact zg
   try simp only [XI]
   refine qT 4 ?_ u rfl rfl Wr j (fun w f=>?_) i ?_;rotate_left;·obtain⟨L,N⟩:=f;exact zg
   try simp only [XI]
   refine qO 5 u rfl Wr (fun K I=>?_);go_simp;refine Calls.mono (libItoa (Jq.o.k0 P.o) num Ws Ws) ?_;rintro M w3 ⟨rfl,X⟩;have Gd:=qI (P.o.then X);have ab:(fun w':World=>w'.cell? ⟨w.heap.size,0,none⟩=some (.pointer (some ⟨b,0,none⟩))∧w'.cell? ⟨w.heap.size+1,1,none⟩=some (.int .i64 num)) w3:=⟨X.cell i.1 Wz,X.cell i.2 Wz⟩;clear X;refine I _ _ (.inr ab) ?_;clear I K;try simp only [XI]
   clear i;have i:=ab;clear ab;refine qO 6 u rfl Wr (fun K I=>?_);go_simp;refine Calls.mono (vg xx (Gm.o.stay Gd.o) Ws (zx (Lib.itoa num)) (by rw [yd];have:=Gv.o;omega)) ?_;rintro e2 w4 ⟨rfl,C,A⟩;rw [zK,← E.o] at C;have Gw:=qI C;have Gx:=qI (((ye.of0 Z.o).trans (ye.of0 Gd.o)).trans A);have y:=U.o.kept t.o.1 t.o.2 ((ye.of0 Gd.o:ye b _ _).trans A);have ad:(fun w':World=>w'.cell? ⟨w.heap.size,0,none⟩=some (.pointer (some ⟨b,0,none⟩))∧w'.cell? ⟨w.heap.size+1,1,none⟩=some (.int .i64 num)) w4:=⟨za (o:=0) (v:=.pointer (some ⟨b,0,none⟩)) y.ptr rfl,za (o:=1) (v:=.int .i64 num) y.val rfl⟩;clear C A y;refine I _ _ (.inr ad) ?_;clear I K;try simp only [XI]
   refine zz u Wr ?_ _;subst hR;try clear j u O
   go_wp2_with fail;go_end0;exact⟨rfl,Gw.o,Gx.o⟩
  ·have E:=qI (write_4 q);have ae:v.s.size≤400000:=by
    have h1:=HS.o.2;have h2:v.s.size≤zT (n+1) v:=by show _≤v.s.size+v.keyBytes+_;omega
    omega
   clear Q HC r;rw [q] at F ⊢;clear q k2;go_enter func148,ntmps148;go_wp2_with fail;rw [← F.o];refine (zaL Gm.o HT.o Ws v.s Ws k3).mono ?_;rintro M w2 ⟨rfl,D,B⟩;go_wp2_with fail;go_end0;exact⟨rfl,by rw [E.o];exact D,(ye.of0 Z.o).trans B⟩
  ·have E:=qI (write_5 q);have U:=r 5 q
   have CB:=qI (between1_list (n:=v.l.length) (b2:=w.heap.size) (b3:=w.heap.size+1) (it:=fun k=>(v.l.map (zr n)).getD k []) (J:=ZX b w.heap.size (w.heap.size+1) [.int .i64 v.kind,.int .i64 v.num,.string v.s,.slice a v.l.length c,.slice d v.m.length e])
    (fun _ _ h k=>h.kept t.o.1 t.o.2 k) (fun k w1 l1 hk hc Y G=>by
     have M:(v.l.map (zr n)).getD k []=zr n v.l[k]:=by simp [hk]
     have af:(zr n v.l[k]).length+1≤(zr (n+1) v).length:=by rw [E.o];have h1:=Q8 (fun k=>(v.l.map (zr n)).getD k []) k;have h2:=Ku (fun k=>(v.l.map (zr n)).getD k []) (show k+1≤v.l.length from hk);simp only [M] at h1;simp only [List.length_cons,List.length_append];omega
     simp only [M] at G ⊢;exact put1_any IH.o H.o Jk.o Jl.o HS.o HT.o t.o hc Y hk G) Q.o Gm.o (XC HS.o.few) (by
     have:=HL.o;rw [E.o] at this;simp only [List.length_cons,List.length_append] at this;omega))
   clear Q HC r;rw [q] at F ⊢;clear q;go_enter func148,ntmps148;go_wp2_with fail;rw [← F.o];refine CB.o.mono ?_;rintro M w2 ⟨rfl,D,B⟩;go_wp2_with fail;go_end0;exact⟨rfl,by rw [E.o];exact D,(ye.of0 Z.o).trans B⟩
  ·have E:=qI (write_6 q);have U:=r 6 q
   have CB:=qI (between2_map (n:=v.m.length) (b2:=w.heap.size) (b3:=w.heap.size+1) (it:=fun k=>(v.m.map (fun p=>yH p.1.data.toList++(58::zr n p.2))).getD k []) (J:=ZX b w.heap.size (w.heap.size+1) [.int .i64 v.kind,.int .i64 v.num,.string v.s,.slice a v.l.length c,.slice d v.m.length e])
    (fun _ _ h k=>h.kept t.o.1 t.o.2 k) (fun k w1 l1 hk hc Y G=>by
     have M:(v.m.map (fun p=>yH p.1.data.toList++(58::zr n p.2))).getD k []=yH v.m[k].1.data.toList++(58::zr n v.m[k].2):=by simp [hk]
     simp only [M] at G ⊢;exact put2_any IH.o H.o Jk.o Jl.o HS.o HT.o q t.o hc Y hk G) Q.o Gm.o (XC HS.o.few) (by
     have:=HL.o;rw [E.o] at this;simp only [List.length_cons,List.length_append] at this;omega))
   clear Q HC r;rw [q] at F ⊢;clear q;go_enter func148,ntmps148;go_wp2_with fail;rw [← F.o];refine CB.o.mono ?_;rintro M w2 ⟨rfl,D,B⟩;go_wp2_with fail;go_end0;exact⟨rfl,by rw [E.o];exact D,(ye.of0 Z.o).trans B⟩
theorem put_any:∀ (n:Nat),YL n
 | 0=>fun v=>nomatch v
 | n+1=>put_any_step (put_any n)
theorem str_bytes (w:World)(s:ByteArray)(k:s.size≤281474976710656):∃ a n c w',(convert 9 32 (.string s)).run prog w = .ok (.slice a n c) w'∧n=s.data.toList.length∧zp w' (.slice a n c) s.data.toList∧zb [] w w':=by
 refine⟨_,_,_,_,run_bytes_of_string w 9 32 5 s underlying9 underlying32 underlying5,Wz,?_,?_⟩
 ·have f:s.data.toList.length=s.size:=by simp
  refine⟨Wz,.inr (.inr ⟨w.heap.size,0,_,by rw [f],by rw [f];exact grownCap_ge _ _ _ _,grownCap_le_maxLen _ _ _ _ (by simp only [maxLen];omega),⟨?_,?_⟩⟩)⟩
  ·intro j u e;rw [List.getElem?_map,Option.map_eq_some_iff] at e;obtain⟨b,h,rfl⟩:=e;obtain⟨i,rfl⟩:=List.getElem?_eq_some_iff.1 h;have d:j<s.data.size:=by simpa using i
   rw [Nat.zero_add];refine za (heap_alloc_new _ _) ?_;rw [bytesRow_at s _ j d];simp [bv]
  ·show w.heap.size<(w.drew.alloc _).heap.size;simp
 ·exact (zb.refl [] w).drew.alloc _
theorem write_ne {n:Nat}{v:VS (V n)}(h:zo (n+1) v=true):zr (n+1) v≠[]:=by
 rcases jM (jR h) with k | k | k | k | k | k;·rw [write_1 k.1];simp
 ·rw [write_2 k.1];cases (v.num == 1);·rw [fb_false];simp
  ·rw [fb_true];simp
 ·rw [write_3 k.1];obtain⟨d,t,e,-⟩:=JK v.num;rw [e];simp
 ·rw [write_4 k.1];simp [yH]
 ·rw [write_5 k.1];simp
 ·rw [write_6 k.1];simp
theorem write_ne' {n:Nat}{v:V n}(h:zo n v=true):zr n v≠[]:=by
 match n,v,h with
 | 0,v,_=>exact nomatch v
 | n+1,v,h=>exact write_ne h
theorem QP {n:Nat}{v:V n}(h:zP n v):zP n (zI n v):=⟨by rw [Zy];exact h.1,by rw [QW];exact h.2⟩
theorem write_small {n:Nat}{v:V n}(h:zo n v=true)(a:zP n v):(zr n v).length≤3000000:=by
 have b:=Qk n v h;obtain⟨h2,h3⟩:=a;omega
theorem text_any {n:Nat}{v:V n}{S:Nat→Prop}{w:World}{cs:List Value}(h:Rep n S w cs v)(p:zP n v)(D:n≤100)(s:xH w)(hc:zY n v=0) : zJ w 101 #[.agg cs.toArray] (.string (zx (zr n (zI n v)))):=by
 obtain⟨kd,M,st,a,ca,z,b,cb,C,rfl⟩:=h.conv;obtain⟨r,l⟩:=XE ((w.alloc (.cells #[.int .i64 kd,.int .i64 M,.string st,.slice a ca z,.slice b cb C] 25)).alloc (.cells #[.pointer none,.slice none 0 0] 189));have J:Hid (r.heap.size=w.heap.size+2):=qI (by rw [l.o];simp);have k:Hid (zb [] w r):=qI (kA2 l.o);have G:Hid (r.heap[w.heap.size+1]? = some (.cells #[.pointer none,.slice none 0 0] 189 (0,0))):=qI (by
  rw [l.o];exact ze Wz)
 have A:=qI (Sorted_any (h.k0 k.o) p D (s.k0 k.o) hc);have F:=qI s;have x:=qI (QP p);have m:Hid (zo n (zI n v)=true):=qI (by rw [ZI];exact jj hc);have u:=qI (write_small m.o x.o);have H:=qI (write_ne' m.o);clear h p s hc;go_enter func101,ntmps101;go_wp2_with fail;rw [← l.o];refine A.o.mono ?_;rintro e q ⟨⟨I,rfl,f⟩,d⟩;have E:Hid (BW 189 q (w.heap.size+1) q []):=qI (BW.new (d.heap G.o Wz));have B:=qI (put_any n (zI n v) (f.rep.k0 (zb.refl [] q)) (fun g O=>by have:=J.o;omega) m.o x.o ⟨w,F.o,k.o.then d,Nat.le_succ _⟩ E.o (by have:=u.o;simp only [List.length_nil];omega));have L:=qI (k.o.then d);clear f d;go_wp2_with fail;refine B.o.mono ?_;rintro e w2 ⟨rfl,j,-⟩;rw [List.nil_append] at j;have K:=qI j;clear j;go_wp2_with (go_at_call 100;refine (bD K.o (XC u.o) H.o).mono ?_;rintro e N ⟨rfl,t,-⟩);go_ret;exact⟨rfl,L.o.trans t (by intro i y;simp at y;subst y;exact .inr (Nat.le_succ _))⟩
theorem encV_bad {n:Nat}{v:V n}(h:zY n v≠0):xR n v=([],zY n v):=if_pos h
theorem encV_long {n:Nat}{v:V n}(h:zY n v=0)(a:262144<(zr n (zI n v)).length):xR n v=([],3):=by
 unfold xR;rw [if_neg (by simp [h]),if_pos a]
theorem encV_fine {n:Nat}{v:V n}(h:zY n v=0)(a:(zr n (zI n v)).length≤262144):xR n v=(zr n (zI n v),0):=by
 unfold xR;rw [if_neg (by simp [h]),if_neg Ws]
theorem ZU {n:Nat}{v:V n}{S:Nat→Prop}{w:World}{cs:List Value}(h:Rep n S w cs v)(A:zP n v)(K:n≤100)(E:xH w) : Calls prog 56 #[.agg cs.toArray] w fun e w'=>(∃ a c,e = .returned (.tuple #[.slice a (xR n v).1.length c,.int .i64 (xR n v).2])∧zp w' (.slice a (xR n v).1.length c) (xR n v).1)∧zb [] w w':=by
 obtain⟨kd,M,st,a,ca,I,b,cb,J,rfl⟩:=h.conv;obtain⟨y,s⟩:=XE (w.alloc (.cells #[.int .i64 kd,.int .i64 M,.string st,.slice a ca I,.slice b cb J] 25));have l:Hid (zb [] w y):=qI (kA1 s.o);have L:Hid (yZ y w.heap.size kd M st (.slice a ca I) (.slice b cb J)):=qI (by rw [s.o];exact xr _ _ _ _ _ _ _);have D:=qI (Zi (h.k0 l.o) A K (E.k0 l.o));have H:Hid (∀ p,zb [] y p→zY n v=0→_):=qI (fun p (k:zb [] y p) (hc:zY n v=0)=>text_any ((h.k0 l.o).k0 k) A K ((E.k0 l.o).k0 k) hc);clear h A E;by_cases hc:zY n v=0;rotate_left;·have t:=qI (encV_bad hc);have R:Hid (zY n v≠0):=qI hc;obtain⟨Q,W⟩:=zR hc;clear hc;go_enter func56,ntmps56;go_wp2_with fail;rw [← s.o];refine D.o.mono ?_;rintro e p ⟨rfl,d⟩;go_wp2;go_ret2;rw [t.o];exact⟨⟨_,_,rfl,xX _ _⟩,l.o.then d⟩
 have q:=qI hc;clear hc;by_cases G:262144<(zr n (zI n v)).length;·have t:=qI (encV_long q.o G);have F:(262144:Int)<(zr n (zI n v)).length:=Ws;go_enter func56,ntmps56;go_wp2_with fail;rw [← s.o];refine D.o.mono ?_;rintro e p ⟨rfl,d⟩;rw [q.o];obtain⟨c0,c1,c2,c3,c4⟩:=L.o.k0 d;have x:=qI d;have z:Hid ((zx (zr n (zI n v))).size=(zr n (zI n v)).length):=qI (yd _);clear d;go_wp2_with fail;refine (H.o _ x.o q.o).mono ?_;rintro e w2 ⟨rfl,i⟩;have B:=qI i;have f:=z.o;revert f;generalize zx (zr n (zI n v))=T;intro f;have C:(262144:Int)<T.size:=Ws;clear f i c0 c1 c2 c3 c4 G F;go_wp2;go_ret2;rw [t.o];exact⟨⟨_,_,rfl,xX _ _⟩,(l.o.then x.o).then B.o⟩
 ·have t:=qI (encV_fine q.o Ws);go_enter func56,ntmps56;go_wp2_with fail;rw [← s.o];refine D.o.mono ?_;rintro e p ⟨rfl,d⟩;rw [q.o];obtain⟨c0,c1,c2,c3,c4⟩:=L.o.k0 d;have x:=qI d;have z:Hid ((zx (zr n (zI n v))).size=(zr n (zI n v)).length∧(zx (zr n (zI n v))).data.toList=zr n (zI n v)):=qI ⟨yd _,zK _⟩;clear d;go_wp2_with fail;refine (H.o _ x.o q.o).mono ?_;rintro e w2 ⟨rfl,i⟩;have B:=qI i;have f:=z.o.1;obtain⟨a2,X,O,U,j,r,m,u⟩:=str_bytes w2 (zx (zr n (zI n v))) Ws;rw [z.o.2] at r m;subst r;have P:=qI m;have N:=qI u;revert f j;generalize zx (zr n (zI n v))=T;intro f j;have C:(T.size:Int)≤262144:=Ws;clear f i u m c0 c1 c2 c3 c4 G;go_wp2;go_ret2;rw [t.o];exact⟨⟨_,_,rfl,P.o⟩,((l.o.then x.o).then B.o).then N.o⟩
def Zc (n:Nat)(a b:V n):Bool:=decide (zY n a=0)&&(decide (zY n b=0)&&eqV n (zI n a) (zI n b))
theorem same_a {n:Nat}{a b:V n}(h:zY n a≠0):Zc n a b=false:=by unfold Zc;rw [decide_eq_false h];rfl
theorem same_b {n:Nat}{a b:V n}(h:zY n b≠0):Zc n a b=false:=by unfold Zc;rw [decide_eq_false h,Bool.false_and,Bool.and_false]
theorem same_c {n:Nat}{a b:V n}(h:zY n a=0)(d:zY n b=0):Zc n a b=eqV n (zI n a) (zI n b):=by unfold Zc;rw [decide_eq_true h,decide_eq_true d,Bool.true_and,Bool.true_and]
theorem xU.said {n:Nat}{B:Nat}{w:World}{cs:List Value}{v:V n}(h:xU n B w cs v):∃ k m s p i c q j d,cs=[.int .i64 k,.int .i64 m,.string s,.slice p i c,.slice q j d]:=h.rep.conv
section
variable {n : Nat} {va vb : V n} {S T : Nat → Prop} {w : World} {ca cb : List Value}
theorem valSame_any (h:Rep n S w ca va)(W:Rep n T w cb vb)(Q:zP n va)(v:zP n vb)(hn:n≤100)(ht:xH w) : zJ w 23 #[.agg ca.toArray,.agg cb.toArray] (.bool (Zc n va vb)):=by
 obtain⟨kd,nm,st,a,la,ea,b,lb,eb,rfl⟩:=h.conv;obtain⟨E,F,P,a',L,G,b',J,C,rfl⟩:=W.conv;obtain⟨p,D⟩:=XE ((w.alloc (.cells #[.int .i64 kd,.int .i64 nm,.string st,.slice a la ea,.slice b lb eb] 25)).alloc (.cells #[.int .i64 E,.int .i64 F,.string P,.slice a' L G,.slice b' J C] 25));have q:Hid (zb [] w p):=qI (kA2 D.o);have HA:Hid (yZ p w.heap.size kd nm st (.slice a la ea) (.slice b lb eb)):=qI (by rw [D.o];exact (xr _ _ _ _ _ _ _).k0 ((zb.refl [] _).alloc _));have HB:Hid (yZ p (w.heap.size+1) E F P (.slice a' L G) (.slice b' J C)):=qI (by rw [D.o];exact jq Wz _ _ _ _ _ _);have CA:Hid (∀ j,zb [] p j→_):=qI (fun j (k:zb [] p j)=>Zi ((h.k0 q.o).k0 k) Q hn ((ht.k0 q.o).k0 k));have CB:Hid (∀ j,zb [] p j→_):=qI (fun j (k:zb [] p j)=>Zi ((W.k0 q.o).k0 k) v hn ((ht.k0 q.o).k0 k));have SA:Hid (∀ j,zb [] p j→zo n va=true→_):=qI (fun j (k:zb [] p j) (hr:zo n va=true)=>QK n va ((h.k0 q.o).k0 k) Q hr);have SB:Hid (∀ j,zb [] p j→zo n vb=true→_):=qI (fun j (k:zb [] p j) (hr:zo n vb=true)=>QK n vb ((W.k0 q.o).k0 k) v hr);have Jb:=qI (QP Q);have N:=HA.o;rw [D.o] at N;obtain⟨Z,Y,a2,X,U⟩:=N;clear h W Q v ht;go_enter func23,ntmps23;go_wp2_with fail;rw [← D.o];clear Z Y a2 X U;refine (CA.o _ Wd).mono ?_;rintro e j ⟨rfl,x⟩;have Gb:=qI x;obtain⟨b0,b1,b2,b3,b4⟩:=HB.o.k0 x;clear x;by_cases m:zY n va=0;rotate_left;·have H:=qI (same_a (b:=vb) m);obtain⟨f1,f2⟩:=zR m;clear m;go_wp2;go_ret;rw [H.o];exact⟨rfl,q.o.then Gb.o⟩
 have Jm:=qI m;rw [m];clear m;go_wp2_with fail;refine (CB.o _ Gb.o).mono ?_;rintro e w2 ⟨rfl,I⟩;have A:=qI (Gb.o.then I);clear I b0 b1 b2 b3 b4;by_cases l:zY n vb=0;rotate_left;·have H:=qI (same_b (a:=va) l);obtain⟨f1,f2⟩:=zR l;clear l;go_wp2;go_ret;rw [H.o];exact⟨rfl,q.o.then A.o⟩
 have H:=qI (same_c Jm.o l);have Jt:=qI l;rw [l];clear l;obtain⟨Z,Y,a2,X,U⟩:=HA.o.k0 A.o;obtain⟨b0,b1,b2,b3,b4⟩:=HB.o.k0 A.o;go_wp2_with fail;refine zt (n:=6) (fun w':World=>zb [] w2 w') 6 Wr Wr ?_;change zS _ _ _ _ _ _ _ _ _ w2.drew;have d:(fun w':World=>zb [] w2 w') w2.drew:=(zb.refl [] w2).drew;revert d;generalize w2.drew=W1;intro d;refine zF ?_;intro O R s hR;have r:kI R:=by subst hR;exact fun _ _ _ _ _ h=>h
 refine qT 0 ?_ s rfl rfl Wr r (fun w f=>?_) d ?_;rotate_left;·have s0:=f.cell Z Wz;have s1:=f.cell Y Wz;have s2:=f.cell a2 Wz;have s3:=f.cell X Wz;have s4:=f.cell U Wz;exact zg
 try simp only [XI]
 refine qT 2 ?_ s rfl rfl Wr r (fun w f=>?_) d ?_;rotate_left;·have s0:=f.cell b0 Wz;have s1:=f.cell b1 Wz;have s2:=f.cell b2 Wz;have s3:=f.cell b3 Wz;have s4:=f.cell b4 Wz;exact zg
 try simp only [XI]
 refine qO 1 s rfl Wr (fun K t=>?_);go_simp;refine Calls.mono (SA.o _ (A.o.then d) (jj Jm.o)) ?_;rintro e w3 ⟨⟨aa,rfl,u⟩,M⟩;obtain⟨k3,m3,s3,p3,i3,c3,q3,j3,d3,rfl⟩:=u.said;have Jd:=qI u;have i:(fun w':World=>zb [] w2 w') w3:=d.then M;refine t _ _ (.inr i) ?_;clear t K;try simp only [XI]
 clear d M u;have d:=i;clear i;refine qO 3 s rfl Wr (fun K t=>?_);go_simp;refine Calls.mono (SB.o _ (A.o.then d) (jj Jt.o)) ?_;rintro e w4 ⟨⟨ab,rfl,z⟩,y⟩;obtain⟨k4,m4,s4,p4,i4,c4,q4,j4,d4,rfl⟩:=z.said;have CE:=qI (equal_any n (zI n va) (zI n vb) (Jd.o.rep.k0 y) z.rep Jb.o);have i:(fun w':World=>zb [] w2 w') w4:=d.then y;refine t _ _ (.inr i) ?_;clear t K;try simp only [XI]
 clear d y z;have d:=i;clear i;refine qO 4 s rfl Wr (fun K t=>?_);go_simp;refine Calls.mono CE.o ?_;rintro e w5 ⟨rfl,B⟩;have i:(fun w':World=>zb [] w2 w') w5:=d.then B;refine t _ _ (.inr i) ?_;clear t K;try simp only [XI]
 clear d B;have d:=i;refine qT 5 ?_ s rfl rfl Wr r (fun w f=>?_) d ?_;rotate_left;·exact zg
 try simp only [XI]
 refine zz s Wr ?_ _;subst hR;try clear r s O
 clear Z Y a2 X U b0 b1 b2 b3 b4;go_wp2;go_ret;rw [H.o];exact⟨rfl,(q.o.then A.o).then i⟩
end
section
variable {w : World} {p B : Nat} {S : ByteArray} {x : PX}
theorem PS.places (h:PS w p S B x):∃ (i c:Nat) (e:Int),PAt w p S i c e∧i≤S.size∧c≤B:=by
 obtain⟨i,c,e,a,h2,h3,_⟩:=h;exact⟨i,c,e,a,h2,h3⟩
theorem Ky {W:List UInt8}{r:List UInt8}(h:W.isPrefixOf r=true):W.length≤r.length:=by
 rw [List.isPrefixOf_iff_prefix] at h;exact h.length_le
theorem xV (h:PS w p S B x)(N:S.size≤262144)(W:ByteArray) : Calls prog 176 #[.pointer (some ⟨p,0,none⟩),.string W] w fun r w'=>r = .returned (.bool (QY W.data.toList x))∧PS w' p S B (eatX W.data.toList x)∧zb [p] w w':=by
 cases x with
 | inl e0=>obtain⟨i,c,k,F,hc,h2,h3⟩:=h.open_bad;obtain⟨c0,c1,c2,c3,t⟩:=k.cells;obtain⟨-,f⟩:=zR (a:=e0) (b:=0) Ws;have H:=qI h;clear h k t;go_enter func176,ntmps176;go_wp2;go_ret;exact⟨rfl,H.o,Wd⟩
 | inr q=>
  obtain⟨r,c⟩:=q;have z:=qI (ji h N);obtain⟨i,k,F,hc,n⟩:=h.open_ok;obtain⟨c0,c1,c2,c3,t⟩:=k.cells;have H:=qI h;have K:=qI k;have P:=qI n;have J:=qI (yO n F);cases j:W.data.toList.isPrefixOf r with
  | false=>
   have s:Hid (QY W.data.toList (.inr (r,c))=false):=qI j;have m:=qI (fun w'=>kt (zx r) W w');simp only [zK,j] at m;clear h k t n j;go_enter func176,ntmps176;go_wp2_with (first
    | (go_at_call 75;refine z.o.mono ?_;rintro I A ⟨rfl,d⟩;have u:=qI d;clear d)
    | (go_at_call 218;refine (m.o _).mono ?_;rintro M w2 ⟨rfl,rfl⟩))
   go_ret;rw [s.o,Km s.o];exact⟨rfl,H.o.k0 u.o,u.o.mono Wz⟩
  | true=>
   have s:Hid (QY W.data.toList (.inr (r,c))=true):=qI j;have m:=qI (fun w'=>kt (zx r) W w');simp only [zK,j] at m;have l:=Ky j;have C:Hid (W.data.toList.length=W.size):=qI Wz;have y:i+W.size≤S.size:=XH J.o C.o;have E:(i:Int)+W.size≤262144:=Ws;have O:Hid (S.data.toList.drop (i+W.size)=r.drop W.data.toList.length):=qI (by rw [C.o,← n,List.drop_drop]);clear h k t n j l;go_enter func176,ntmps176;go_wp2_with (first
    | (go_at_call 75;refine z.o.mono ?_;rintro I A ⟨rfl,d⟩;have u:=qI d;have e:=d.heap K.o Wz;have L:=qI e;have R:=za (o:=1) (v:=.int .i64 i) e rfl;have Q:=zh (o:=1) e;clear d e c0 c1 c2 c3)
    | (go_at_call 218;refine (m.o _).mono ?_;rintro M w2 ⟨rfl,rfl⟩))
   go_ret;rw [s.o,za0 s.o];have G:=PAt.set1 (w:=A) L.o (i+W.size);refine⟨rfl,?_,(u.o.mono Wz).trans' (zW _ _ _ _)⟩;have D:=PS.good G y hc;rw [O.o] at D;exact D
theorem vN (h:PS w p S B x)(s:S.size≤262144)(W:ByteArray) : Calls prog 225 #[.pointer (some ⟨p,0,none⟩),.string W] w fun r w'=>r = .returned (.tuple #[])∧PS w' p S B (Z3 W.data.toList x)∧zb [p] w w':=by
 have f:=qI (xV h s W);clear h;cases d:QY W.data.toList x with
 | true=>rw [d] at f;have m:=qI (needX_yes d);have q:=qI (za0 d);clear d;go_enter func225,ntmps225;go_wp2_with (go_at_call 176;refine f.o.mono ?_;rintro t u ⟨rfl,a,b⟩;have l:=qI a;have k:=qI b;clear a b);go_end0;rw [m.o,← q.o];exact⟨rfl,l.o,k.o⟩
 | false=>rw [d] at f;have m:=qI (Kk d);have q:=qI (Km d);clear d;go_enter func225,ntmps225;go_wp2_with (go_at_call 176;refine f.o.mono ?_;rintro t u ⟨rfl,a,b⟩;rw [q.o] at a;have l:=qI a;have k:=qI b;obtain⟨i,c,e,h1,hi,hc⟩:=a.places;obtain⟨c0,c1,c2,c3,fz⟩:=h1.cells;clear a b h1 fz);refine (yJ l.o i 50 hi Wo Wo).mono ?_;rintro v w2 ⟨rfl,n,j⟩;go_wp2_with fail;go_end0;rw [m.o];exact⟨rfl,n,k.o.trans' j⟩
theorem digits_low:∀ (j:Nat) b,(⟨#[48,49,50,51,52,53,54,55,56,57]⟩:ByteArray).data.toList[j]? = some b→b.toNat<128:=by
 intro j b h;have hm:b∈([48,49,50,51,52,53,54,55,56,57]:List UInt8):=List.mem_of_getElem? h;simp only [List.mem_cons,List.not_mem_nil,or_false] at hm;rcases hm with rfl | rfl | rfl | rfl | rfl | rfl | rfl | rfl | rfl | rfl <;> decide
theorem libTrimDigits (s:List UInt8)(w:World):Calls prog 172 #[.string (zx s),.string ⟨#[48,49,50,51,52,53,54,55,56,57]⟩] w fun e w'=>e = .returned (.string (zx (s.dropWhile xz)))∧zb [] w w':=
 (JX (zx s) ⟨#[48,49,50,51,52,53,54,55,56,57]⟩ w Wo digits_low).mono fun e w' ⟨h1,h2⟩=>⟨by rw [h1,zK];exact congrArg (fun l=>Ending.returned (Value.string (zx l))) (trim_digits s),h2⟩
theorem prun_any {r:List UInt8}{c:Nat}(h:PS w p S B (.inr (r,c)))(t:S.size≤262144) : zJ w 226 #[.pointer (some ⟨p,0,none⟩)] (.int .i64 ((r.takeWhile xz).length:Nat)):=by
 have H:=qI h;have d:Hid (∀ w',zb [] w w'→Calls prog 75 #[.pointer (some ⟨p,0,none⟩)] w' fun e w2=>e = .returned (.string (zx r))∧zb [] w' w2):=qI (fun w' k=>ji (h.k0 k) t);have f:=qI (libTrimDigits r);obtain⟨i,A,x,hc,q⟩:=h.open_ok;have z:=yO q x;obtain⟨u,y⟩:=run_len r;have m:=yd r;have l:=yd (r.dropWhile xz);have n:Hid (((r.takeWhile xz).length:Int)=((zx r).size:Int)-((zx (r.dropWhile xz)).size:Int)):=qI Ws;have b1:((zx (r.dropWhile xz)).size:Int)≤(zx r).size:=Ws;have b2:((zx r).size:Int)≤262144:=Ws;clear h A q z u y m l;revert d f n b1 b2;generalize zx (r.dropWhile xz)=T2;generalize zx r=T1;intro d f n b1 b2;go_enter func226,ntmps226;go_wp2_with fail;refine (d.o _ Wd).mono ?_;rintro e D ⟨rfl,a⟩;have s:=qI a;clear a;go_wp2_with fail;refine (d.o _ s.o).mono ?_;rintro e w2 ⟨rfl,b⟩;have v:=qI (s.o.then b);clear b;go_wp2_with (go_at_call 172;refine (f.o _).mono ?_;rintro e C ⟨rfl,j⟩);go_ret;rw [n.o];exact⟨rfl,v.o.then j⟩
end
section
variable {w : World} {p B : Nat} {S : ByteArray} {x : PX}
theorem Qo {r t a:List UInt8}{c:Nat}(h:kH r = .inr (t,a)):Q6 (.inr (r,c)) = .inr (a,c)∧JN (.inr (r,c))=t:=by
 unfold Q6 JN;simp only [h];exact⟨trivial,trivial⟩
theorem YQ {r:List UInt8}{c:Nat}{e:Int}(h:kH r = .inl e):Q6 (.inr (r,c)) = .inl e∧JN (.inr (r,c))=[]:=by
 unfold Q6 JN;simp only [h];exact⟨trivial,trivial⟩
theorem Ka (h:PS w p S B x)(hT:qA p w)(hS:S.size≤262144) : Calls prog 175 #[.pointer (some ⟨p,0,none⟩)] w fun e w'=>e = .returned (.string (zx (JN x)))∧PS w' p S B (Q6 x)∧zb [p] w w':=by
 cases x with
 | inl e0=>obtain⟨i,c,n,U,hc,h2,h3⟩:=h.open_bad;obtain⟨c0,c1,c2,c3,J⟩:=n.cells;obtain⟨-,f⟩:=zR (a:=e0) (b:=0) Ws;have H:=qI h;clear h n J;go_enter func175,ntmps175;go_wp2;go_ret;exact⟨rfl,H.o,Wd⟩
 | inr q=>
  obtain⟨r,c⟩:=q;have N:=qI (ji h hS);obtain⟨i,n,U,hc,I⟩:=h.open_ok;obtain⟨c0,c1,c2,c3,J⟩:=n.cells;have H:=qI h;have P:=qI n;have Q:=yO I U;have W:=qI I;have R:Hid (∀ w',zb [] w w'→Calls prog 221 #[.string (zx r)] w' fun e w2=>YV r e∧zb [] w' w2):=qI (fun w' k=>by
   have D:=utfUnquote (hT.here.k0 k) (zx r) (by rw [yd];omega);rw [zK] at D;exact D)
  cases u:kH r with
  | inl e0=>obtain⟨m,s⟩:=YQ (c:=c) u;have m:=qI m;have s:=qI s;have he:=unq_err u;obtain⟨f1,f2⟩:=zR (a:=e0) (b:=0) Ws;have E:0<e0∧e0≤1000:=Ws;have K:=qI u;clear h n J I u he;go_enter func175,ntmps175;go_wp2_with (go_at_call 75;refine N.o.mono ?_;rintro X w1 ⟨rfl,j⟩;have G:=qI j;clear j);refine (R.o _ G.o).mono ?_;rintro e2 w2 ⟨z,l⟩;unfold YV at z;rw [K.o] at z;obtain⟨k,Y,rfl⟩:=z;have C:=qI (G.o.then l);have d:=C.o.heap P.o Wz;have d1:=za (o:=1) (v:=.int .i64 i) d rfl;have A:i+k≤S.size:=Ws;have F:(i:Int)+k≤262144:=Ws;clear l d c0 c1 c2 c3;go_wp2_with fail;refine (yJ (H.o.k0 C.o) (i+k) e0 A E.1 E.2).mono ?_;rintro e3 w3 ⟨rfl,M,L⟩;go_wp2;go_ret;rw [m.o,s.o];exact⟨rfl,M,(C.o.mono Wz).trans' L⟩
  | inr y=>obtain⟨t,Z⟩:=y;obtain⟨m,s⟩:=Qo (c:=c) u;have m:=qI m;have s:=qI s;have K:=qI u;clear h n J I u;go_enter func175,ntmps175;go_wp2_with (go_at_call 75;refine N.o.mono ?_;rintro X w1 ⟨rfl,j⟩;have G:=qI j;clear j);refine (R.o _ G.o).mono ?_;rintro e2 w2 ⟨z,l⟩;unfold YV at z;rw [K.o] at z;obtain⟨k,Y,hd,O,rfl⟩:=z;have C:=qI (G.o.then l);have d:=C.o.heap P.o Wz;have Ju:=qI d;have d1:=za (o:=1) (v:=.int .i64 i) d rfl;have d2:=zh (o:=1) d;have A:i+k≤S.size:=Ws;have F:(i:Int)+k≤262144:=Ws;have HD:Hid (S.data.toList.drop (i+k)=Z):=qI (by rw [← List.drop_drop,W.o,hd]);clear l d c0 c1 c2 c3 hd;go_wp2;go_ret;rw [m.o,s.o];have D:=PS.good (PAt.set1 Ju.o (i+k)) A hc;rw [HD.o] at D;exact⟨rfl,D,(C.o.mono Wz).trans' (zW _ _ _ _)⟩
end
def kY (D:Nat)(e:Ending):Prop:=if 9007199254740991<D then e = .returned (.tuple #[.int .i64 0,.bool false]) else e = .returned (.tuple #[.int .i64 D,.bool true])
theorem sumAns_big (h:9007199254740991<D):kY D (.returned (.tuple #[.int .i64 0,.bool false])):=by unfold kY;rw [if_pos h]
theorem sumAns_fine (h:D≤9007199254740991):kY D (.returned (.tuple #[.int .i64 D,.bool true])):=by unfold kY;rw [if_neg Ws]
theorem psum_any (s:ByteArray)(H:s.size≤262144)(hd:∀ c,c∈s.data.toList→48≤c.toNat∧c.toNat≤57)(w:World) : Calls prog 227 #[.string s] w fun e w'=>kY (zQ s.data.toList) e∧zb [] w w':=by
 have G:=qI hd;have y:Hid (s.data.toList.length=s.size):=qI Wz;clear hd;go_enter func227,ntmps227;go_wp2_with fail;go_loopw [4] (fun n wr=>∃ pos:Nat,wr=w.iter s pos∧pos≤s.size∧n = .int .i64 (zQ (s.data.toList.take pos))∧zQ (s.data.toList.take pos)≤9007199254740991) (fun _ wr=>s.size-wr.iterPos w.heap.size);case atStart=>exact⟨0,rfl,XB,rfl,XB⟩
 case round=>
  obtain⟨pos,rfl,v,rfl,b⟩:=hrel;by_cases hp:pos<s.size
  ·have f:pos<s.data.toList.length:=by rw [y.o];exact hp
   have hc:=G.o (s[pos]'hp) (List.getElem_mem f);have i:=sum_take s.data.toList pos f;have m:=sum_mono s.data.toList (pos+1);have h:=decode_ascii s pos hp Ws;have a:∀ d,(Instr.next (.pointer (some ⟨w.heap.size,0,none⟩)) true d).run prog (w.iter s pos)=_:=fun d=>run_next_any w s pos d hp;rw [h] at a;have q:Hid (zQ (s.data.toList.take (pos+1))=10*zQ (s.data.toList.take pos)+((s[pos]'hp).toNat-48)):=qI i;have r:=qI m;have A:(zQ (s.data.toList.take pos):Int)≤9007199254740991:=Ws;clear h i m b f;revert hc q a A r;generalize (s[pos]'hp)=c;generalize zQ (s.data.toList.take pos)=D;generalize p:zQ (s.data.toList.take (pos+1))=D2;intro hc a q r A;have z:=qI p;clear p;obtain⟨l,k⟩:=hc;have B:(48:Int)≤c.toNat:=Ws;have C:(c.toNat:Int)≤57:=Ws;have t:Hid ((D2:Int)=10*D+(c.toNat-48)):=qI (XC q.o);by_cases u:9007199254740991<10*(D:Int)+(c.toNat-48);·have F:Hid (9007199254740991<zQ s.data.toList):=qI (XH t.o r.o);clear l k;go_wp2;go_ret2;exact⟨sumAns_big F.o,Wd.alloc _⟩
   ·clear l k;go_wp2_with fail;go_roundw;case rel=>exact⟨pos+1,rfl,Ws,by rw [z.o,t.o],by have:=t.o;have:=z.o;omega⟩
    case measure=>simp;omega
  ·obtain rfl:pos=s.size:=by omega
   have a:∀ d,(Instr.next (.pointer (some ⟨w.heap.size,0,none⟩)) true d).run prog (w.iter s s.size)=_:=fun d=>run_next_end w s s.size d hp;have E:Hid (s.data.toList.take s.size=s.data.toList):=qI (List.take_of_length_le (by rw [y.o];exact XA));have j:=qI b;clear b;go_wp2;go_ret2;have x:=j.o;rw [E.o] at x;rw [E.o];exact⟨sumAns_fine x,Wd.alloc _⟩
def yE (k n:Int)(s:ByteArray):Array Value:=#[.int .i64 k,.int .i64 n,.string s,.slice none 0 0,.slice none 0 0]
theorem bY (n:Int)(w:World):zJ w 143 #[.int .i64 n] (.agg (yE 3 n ⟨#[]⟩)):=by
 go_enter func143,ntmps143;go_wp2;exact bodyPost_ret (v:=.agg (yE 3 n ⟨#[]⟩)) (by simp [results,results143,go_sem,yE]) rfl ⟨rfl,Wd.alloc _⟩
theorem vtext_any (s:ByteArray)(w:World):zJ w 55 #[.string s] (.agg (yE 4 0 s)):=by
 go_enter func55,ntmps55;go_wp2;exact bodyPost_ret (v:=.agg (yE 4 0 s)) (by simp [results,results55,go_sem,yE]) rfl ⟨rfl,Wd.alloc _⟩
theorem vnull_any (w:World):zJ w 219 #[] (.agg (yE 1 0 ⟨#[]⟩)):=by
 go_enter func219,ntmps219;go_wp2;exact bodyPost_ret (v:=.agg (yE 1 0 ⟨#[]⟩)) (by simp [results,results219,go_sem,yE]) rfl ⟨rfl,Wd.alloc _⟩
theorem vbool_any (b:Bool)(w:World):zJ w 220 #[.bool b] (.agg (yE 2 (if b then 1 else 0) ⟨#[]⟩)):=by
 cases b
 ·go_enter func220,ntmps220;go_wp2;exact bodyPost_ret (v:=.agg (yE 2 0 ⟨#[]⟩)) (by simp [results,results220,go_sem,yE]) rfl ⟨rfl,Wd.alloc _⟩
 ·go_enter func220,ntmps220;go_wp2;exact bodyPost_ret (v:=.agg (yE 2 1 ⟨#[]⟩)) (by simp [results,results220,go_sem,yE]) rfl ⟨rfl,Wd.alloc _⟩
def zeroA:Array Value:=#[.int .i64 0,.int .i64 0,.string ⟨#[]⟩,.slice none 0 0,.slice none 0 0]
def kD (w:World)(r:Nat):Prop:=w.heap[r]? = some (.cells zeroA 25 (0,0))
theorem kD.kept {w:World}{X:List Nat}(h:kD w r)(k:zb X w w')(a:r ∉ X):kD w' r:=k.heap h a
theorem kD.facts {w:World}(h:kD w r):(w.cell? ⟨r,0,none⟩=some (.int .i64 0)∧w.cell? ⟨r,1,none⟩=some (.int .i64 0)∧w.cell? ⟨r,2,none⟩=some (.string ⟨#[]⟩)∧w.cell? ⟨r,3,none⟩=some (.slice none 0 0)∧w.cell? ⟨r,4,none⟩=some (.slice none 0 0))∧w.frozen? ⟨r,0,none⟩=false∧w.frozen? ⟨r,1,none⟩=false∧w.frozen? ⟨r,2,none⟩=false∧w.frozen? ⟨r,3,none⟩=false∧w.frozen? ⟨r,4,none⟩=false:=by
 unfold kD zeroA at h;exact⟨⟨za (o:=0) h rfl,za (o:=1) h rfl,za (o:=2) h rfl,za (o:=3) h rfl,za (o:=4) h rfl⟩,zh h,zh h,zh h,zh h,zh h⟩
theorem kD.stored {w:World}{b2 b3:Value}(h:kD w r)(e:WF=yw w r b0 b1 b2 b3 b4) : zb [r] w WF∧WF.cell? ⟨r,0,none⟩=some b0∧WF.cell? ⟨r,1,none⟩=some b1∧WF.cell? ⟨r,2,none⟩=some b2∧WF.cell? ⟨r,3,none⟩=some b3∧WF.cell? ⟨r,4,none⟩=some b4:=by
 obtain⟨k,a⟩:=zaW h e;exact⟨k,za (o:=0) a rfl,za (o:=1) a rfl,za (o:=2) a rfl,za (o:=3) a rfl,za (o:=4) a rfl⟩
theorem qu (w:World):kD (w.alloc (.cells #[.int .i64 0,.int .i64 0,.string ⟨#[]⟩,.slice none 0 0,.slice none 0 0] 25)) w.heap.size:=ze rfl
def qQ (r:List UInt8):Option (Int×Int):=if Zh.isPrefixOf r=true then some (1,0) else if Zb.isPrefixOf r=true then some (2,1) else if jY.isPrefixOf r=true then some (2,0) else none
def kx (r:List UInt8)(e:Ending):Prop:=
 match qQ r with
 | some (k,n)=>e = .returned (.tuple #[.agg (yE k n ⟨#[]⟩),.bool true])
 | none=>e = .returned (.tuple #[.agg (yE 0 0 ⟨#[]⟩),.bool false])
section
variable {w : World} {p B : Nat} {S : ByteArray} {x : PX}
theorem Zq {r:List UInt8}{c:Nat}(h:PS w p S B (.inr (r,c)))(a:S.size≤262144) : Calls prog 75 #[.pointer (some ⟨p,0,none⟩)] w fun e w'=>e = .returned (.string (zx r))∧zb [] w w':=ji h a
theorem JQ {r:List UInt8}{c:Nat}(h:PS w p S B (.inr (r,c)))(hS:S.size≤262144) : Calls prog 173 #[.pointer (some ⟨p,0,none⟩)] w fun e w'=>kx r e∧zb [] w w':=by
 obtain⟨W0,F⟩:=XE (w.alloc (.cells #[.int .i64 0,.int .i64 0,.string ⟨#[]⟩,.slice none 0 0,.slice none 0 0] 25));have G:Hid (zb [] w W0):=qI (kA1 F.o);have m:Hid (kD W0 w.heap.size):=qI (by rw [F.o];exact qu w);have J:=qI (Zq (h.k0 G.o) hS);have s:Hid (∀ w',_):=qI (fun w'=>kt (zx r) ⟨#[110,117,108,108]⟩ w');have E:Hid (∀ w',_):=qI (fun w'=>kt (zx r) ⟨#[116,114,117,101]⟩ w');have H:Hid (∀ w',_):=qI (fun w'=>kt (zx r) ⟨#[102,97,108,115,101]⟩ w');rw [zK,show (⟨#[110,117,108,108]⟩:ByteArray).data.toList=Zh from rfl] at s;rw [zK,show (⟨#[116,114,117,101]⟩:ByteArray).data.toList=Zb from rfl] at E;rw [zK,show (⟨#[102,97,108,115,101]⟩:ByteArray).data.toList=jY from rfl] at H;have L:Hid (qQ r=if Zh.isPrefixOf r=true then some (1,0) else if Zb.isPrefixOf r=true then some (2,1) else if jY.isPrefixOf r=true then some (2,0) else none):=qI rfl;have W:Hid (∀ k n e,qQ r=some (k,n)→e = .returned (.tuple #[.agg (yE k n ⟨#[]⟩),.bool true])→kx r e):=qI (fun k n e h R=>by unfold kx;rw [h];exact R);have Jv:Hid (∀ e,qQ r=none→e = .returned (.tuple #[.agg (yE 0 0 ⟨#[]⟩),.bool false])→kx r e):=qI (fun e h R=>by unfold kx;rw [h];exact R);clear h;cases l:Zh.isPrefixOf r with
 | true=>have C:Hid (qQ r=some (1,0)):=qI (by rw [L.o,l];rfl);rw [l] at s;clear l;go_enter func173,ntmps173;go_wp2_with fail;rw [← F.o];refine J.o.mono ?_;rintro e K ⟨rfl,a⟩;have D:=qI a;clear a;go_wp2_with fail;refine (s.o _).mono ?_;rintro e w2 ⟨rfl,rfl⟩;go_wp2_with fail;refine (vnull_any _).mono ?_;rintro e I ⟨rfl,d⟩;unfold yE;have f:=qI (D.o.then d);clear d;obtain⟨⟨Y,P,O,U,X⟩,N,M,Z,f3,Q⟩:=(m.o.kept f.o Wz).facts;go_wp2_with fail;obtain⟨WF,e⟩:=XF (yw I w.heap.size (.int .i64 1) (.int .i64 0) (.string ⟨#[]⟩) (.slice none 0 0) (.slice none 0 0));obtain⟨u,q,x,z,t,y⟩:=(m.o.kept f.o Wz).stored e;unfold yw at e;rw [← e];exact bodyPost_ret (v:=.tuple #[.agg #[.int .i64 1,.int .i64 0,.string ⟨#[]⟩,.slice none 0 0,.slice none 0 0],.bool true]) (by simp [results,results173,go_sem,q,x,z,t,y]) rfl ⟨W.o _ _ _ C.o rfl,(G.o.then f.o).trans u (fun i A=>by simp at A;exact .inr Ws)⟩
 | false=>
 rw [l] at s;cases b:Zb.isPrefixOf r with
 | true=>have C:Hid (qQ r=some (2,1)):=qI (by rw [L.o,l,b];rfl);rw [b] at E;clear l b;go_enter func173,ntmps173;go_wp2_with fail;rw [← F.o];refine J.o.mono ?_;rintro e K ⟨rfl,a⟩;have D:=qI a;clear a;go_wp2_with fail;refine (s.o _).mono ?_;rintro e w2 ⟨rfl,rfl⟩;go_wp2_with fail;refine (E.o _).mono ?_;rintro e w2 ⟨rfl,rfl⟩;go_wp2_with fail;refine (vbool_any true _).mono ?_;rintro e I ⟨rfl,d⟩;rw [show yE 2 (if true=true then 1 else 0) ⟨#[]⟩=yE 2 1 ⟨#[]⟩ from rfl];unfold yE;have f:=qI (D.o.then d);clear d;obtain⟨⟨Y,P,O,U,X⟩,N,M,Z,f3,Q⟩:=(m.o.kept f.o Wz).facts;go_wp2_with fail;obtain⟨WF,e⟩:=XF (yw I w.heap.size (.int .i64 2) (.int .i64 1) (.string ⟨#[]⟩) (.slice none 0 0) (.slice none 0 0));obtain⟨u,q,x,z,t,y⟩:=(m.o.kept f.o Wz).stored e;unfold yw at e;rw [← e];exact bodyPost_ret (v:=.tuple #[.agg #[.int .i64 2,.int .i64 1,.string ⟨#[]⟩,.slice none 0 0,.slice none 0 0],.bool true]) (by simp [results,results173,go_sem,q,x,z,t,y]) rfl ⟨W.o _ _ _ C.o rfl,(G.o.then f.o).trans u (fun i A=>by simp at A;exact .inr Ws)⟩
 | false=>
 rw [b] at E;cases j:jY.isPrefixOf r with
 | true=>have C:Hid (qQ r=some (2,0)):=qI (by rw [L.o,l,b,j];rfl);rw [j] at H;clear l b j;go_enter func173,ntmps173;go_wp2_with fail;rw [← F.o];refine J.o.mono ?_;rintro e K ⟨rfl,a⟩;have D:=qI a;clear a;go_wp2_with fail;refine (s.o _).mono ?_;rintro e w2 ⟨rfl,rfl⟩;go_wp2_with fail;refine (E.o _).mono ?_;rintro e w2 ⟨rfl,rfl⟩;go_wp2_with fail;refine (H.o _).mono ?_;rintro e w2 ⟨rfl,rfl⟩;go_wp2_with fail;refine (vbool_any false _).mono ?_;rintro e I ⟨rfl,d⟩;rw [show yE 2 (if false=true then 1 else 0) ⟨#[]⟩=yE 2 0 ⟨#[]⟩ from rfl];unfold yE;have f:=qI (D.o.then d);clear d;obtain⟨⟨Y,P,O,U,X⟩,N,M,Z,f3,Q⟩:=(m.o.kept f.o Wz).facts;go_wp2_with fail;obtain⟨WF,e⟩:=XF (yw I w.heap.size (.int .i64 2) (.int .i64 0) (.string ⟨#[]⟩) (.slice none 0 0) (.slice none 0 0));obtain⟨u,q,x,z,t,y⟩:=(m.o.kept f.o Wz).stored e;unfold yw at e;rw [← e];exact bodyPost_ret (v:=.tuple #[.agg #[.int .i64 2,.int .i64 0,.string ⟨#[]⟩,.slice none 0 0,.slice none 0 0],.bool true]) (by simp [results,results173,go_sem,q,x,z,t,y]) rfl ⟨W.o _ _ _ C.o rfl,(G.o.then f.o).trans u (fun i A=>by simp at A;exact .inr Ws)⟩
 | false=>have C:Hid (qQ r=none):=qI (by rw [L.o,l,b,j];rfl);rw [j] at H;clear l b j;go_enter func173,ntmps173;go_wp2_with fail;rw [← F.o];refine J.o.mono ?_;rintro e K ⟨rfl,a⟩;have D:=qI a;clear a;go_wp2_with fail;refine (s.o _).mono ?_;rintro e w2 ⟨rfl,rfl⟩;go_wp2_with fail;refine (E.o _).mono ?_;rintro e w2 ⟨rfl,rfl⟩;go_wp2_with fail;refine (H.o _).mono ?_;rintro e w2 ⟨rfl,rfl⟩;have f:=qI D.o;obtain⟨⟨Y,P,O,U,X⟩,N,M,Z,f3,Q⟩:=(m.o.kept f.o Wz).facts;go_wp2_with fail;obtain⟨WF,e⟩:=XF (yw K w.heap.size (.int .i64 0) (.int .i64 0) (.string ⟨#[]⟩) (.slice none 0 0) (.slice none 0 0));obtain⟨u,q,x,z,t,y⟩:=(m.o.kept f.o Wz).stored e;unfold yw at e;rw [← e];exact bodyPost_ret (v:=.tuple #[.agg #[.int .i64 0,.int .i64 0,.string ⟨#[]⟩,.slice none 0 0,.slice none 0 0],.bool false]) (by simp [results,results173,go_sem,q,x,z,t,y]) rfl ⟨Jv.o _ C.o rfl,(G.o.then f.o).trans u (fun i A=>by simp at A;exact .inr Ws)⟩
end
theorem pletters_any (k n:Int)(a:(k=1∧n=0)∨(k=2∧n=1)∨(k=2∧n=0))(w:World) : zJ w 174 #[.agg #[.int .i64 k,.int .i64 n,.string ⟨#[]⟩,.slice none 0 0,.slice none 0 0]] (.int .i64 (if k=2∧n=0 then 5 else 4)):=by
 rcases a with ⟨rfl,rfl⟩ | ⟨rfl,rfl⟩ | ⟨rfl,rfl⟩;·go_enter func174,ntmps174;go_wp2;go_ret;exact⟨rfl,Wd.alloc _⟩
 ·go_enter func174,ntmps174;go_wp2;go_ret;exact⟨rfl,Wd.alloc _⟩
 ·go_enter func174,ntmps174;go_wp2;go_ret;exact⟨rfl,Wd.alloc _⟩
theorem word_begins (r:List UInt8):xN r=((qQ r).isSome || vq r [34,91,123,45,48,49,50,51,52,53,54,55,56,57]):=by
 unfold xN qQ;cases Zh.isPrefixOf r <;> cases Zb.isPrefixOf r <;> cases jY.isPrefixOf r <;> rfl
section
variable {w : World} {p B : Nat} {S : ByteArray} {x : PX}
theorem bC {r:List UInt8}{c:Nat}(h:PS w p S B (.inr (r,c)))(y:S.size≤262144) : zJ w 124 #[.pointer (some ⟨p,0,none⟩)] (.bool (xN r)):=by
 have E:=qI (JQ h y);have H:=qI h;have C:=qI (word_begins r);clear h;cases m:qQ r with
 | some q=>obtain⟨k,n⟩:=q;have u:Hid (xN r=true):=qI (by rw [C.o,m];rfl);have A:=qI m;clear m;go_enter func124,ntmps124;go_wp2_with fail;refine E.o.mono ?_;rintro e I ⟨f,b⟩;unfold kx at f;rw [A.o] at f;subst f;unfold yE;have i:=qI b;clear b;go_wp2_with fail;refine (Zq (H.o.k0 (i.o.alloc _)) y).mono ?_;rintro e w2 ⟨rfl,d⟩;go_wp2;go_ret;rw [u.o];exact⟨rfl,(i.o.alloc _).then d⟩
 | none=>
  rw [m] at C;have A:=qI m;clear m;cases r with
  | nil=>have u:Hid (xN []=false):=qI rfl;go_enter func124,ntmps124;go_wp2_with fail;refine E.o.mono ?_;rintro e I ⟨f,b⟩;unfold kx at f;rw [A.o] at f;subst f;unfold yE;have i:=qI b;clear b;go_wp2_with fail;refine (Zq (H.o.k0 (i.o.alloc _)) y).mono ?_;rintro e w2 ⟨rfl,d⟩;rw [show zx []=⟨#[]⟩ from rfl];go_wp2;go_ret;rw [u.o];exact⟨rfl,(i.o.alloc _).then d⟩
  | cons a t=>
   have u:Hid (xN (a::t)=([34,91,123,45,48,49,50,51,52,53,54,55,56,57]:List UInt8).contains a):=qI (by rw [C.o];rfl);have v:zx (a::t)≠⟨#[]⟩:=fun e=>by have F:=congrArg (fun s:ByteArray=>s.data.toList) e;simp only [zK] at F;cases F
   obtain⟨J,G⟩:=vd v;have j:0<(zx (a::t)).size:=by rw [yd];simp
   have L:(zx (a::t))[0]'j=a:=rfl;have x:Hid (∀ w',_):=qI (fun w'=>ku ⟨#[34,91,123,45,48,49,50,51,52,53,54,55,56,57]⟩ (a.toNat:Int) w');rw [show ((a.toNat:Int)).toNat.toUInt8=a by simp,show (⟨#[34,91,123,45,48,49,50,51,52,53,54,55,56,57]⟩:ByteArray).data.toList=[34,91,123,45,48,49,50,51,52,53,54,55,56,57] from rfl] at x;have l:=jw [34,91,123,45,48,49,50,51,52,53,54,55,56,57] a;have N:Hid (decide (0≤Lib.indexByte [34,91,123,45,48,49,50,51,52,53,54,55,56,57] a)=xN (a::t)):=qI (by
    rw [u.o];cases hc:([34,91,123,45,48,49,50,51,52,53,54,55,56,57]:List UInt8).contains a with
    | true=>exact decide_eq_true (l.2 hc)
    | false=>exact decide_eq_false (fun q=>by rw [l.1 q] at hc;cases hc))
   have D:Hid (∀ w',zb [] w w'→_):=qI (fun w' (k:zb [] w w')=>Zq (H.o.k0 k) y);rw [← N.o];clear l v u C H;revert D x J G j L;generalize Lib.indexByte [34,91,123,45,48,49,50,51,52,53,54,55,56,57] a=z;generalize zx (a::t)=T;intro J G j L x D;have K:(0:Int)<T.size:=Ws;go_enter func124,ntmps124;go_wp2_with fail;refine E.o.mono ?_;rintro e I ⟨f,b⟩;unfold kx at f;rw [A.o] at f;subst f;unfold yE;have i:=qI b;clear b;go_wp2_with fail;refine (D.o _ (i.o.alloc _)).mono ?_;rintro e w2 ⟨rfl,d⟩;have M:=qI ((i.o.alloc _).then d);clear d;go_wp2_with fail;refine (x.o _).mono ?_;rintro e O ⟨rfl,rfl⟩;go_wp2;go_ret;exact⟨rfl,M.o⟩
end
end Go.Proofs.YtjccecajigmfkaaGreatDoor

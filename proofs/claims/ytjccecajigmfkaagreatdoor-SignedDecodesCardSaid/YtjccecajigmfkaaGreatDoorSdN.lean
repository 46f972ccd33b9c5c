/- Parts of one proof, merged: XIA XKJ XKR XKU XKV XKW XPE XPF. -/
import Derived.Test.YtjccecajigmfkaaGreatDoorSdL
import Derived.Test.YtjccecajigmfkaaGreatDoorSdM
import Derived.Laws.IdiomStrings
set_option linter.all false
set_option maxHeartbeats 12800000
set_option maxRecDepth 100000
namespace Go.Proofs.YtjccecajigmfkaaGreatDoor
open Go.Proofs.Tryz
open Go.RowKit
variable {J:World→Prop}{WF:World}{X:List Nat}{b0 b1 b4:Value}{f:Nat×Nat}{it:Nat→List UInt8}{r:Nat}{s:ByteArray}{t:Nat}{w':World}{α:Type}
theorem idx_spec {α:Type}(p:α→Bool)(x:α):∀ (zs:List α) (k:Nat),(Lib.idxByFrom (fun _ y=>p y) x zs k = -1∧∀ i (h:i<zs.length),p zs[i]=false)∨∃ i,∃ h:i<zs.length,Lib.idxByFrom (fun _ y=>p y) x zs k=((k+i:Nat):Int)∧p zs[i]=true∧∀ j (hj:j<i),p (zs[j]'(Ws))=false
 | [],k=>.inl ⟨rfl,fun i h=>by cases h⟩
 | z::zs,k=>by
  unfold Lib.idxByFrom;cases hz:p z with
  | true=>refine .inr ⟨0,Wz,?_,hz,fun j hj=>by omega⟩;simp
  | false=>
   simp only [uM,if_false];rcases idx_spec p x zs (k+1) with ⟨h1,h2⟩ | ⟨i,h,h1,h2,h3⟩
   ·refine .inl ⟨h1,fun i hi=>?_⟩;cases i with
    | zero=>exact hz
    | succ i=>exact h2 i (by simpa using hi)
   ·refine .inr ⟨i+1,by simpa using h,by rw [h1];congr 1;omega,by simpa using h2,fun j hj=>?_⟩;cases j with
    | zero=>exact hz
    | succ j=>simpa using h3 j Ws
def KeyIx {α:Type}(m:List (ByteArray×α))(s:ByteArray)(r:Int):Prop:=(r = -1∧∀ i (h:i<m.length),m[i].1≠s)∨∃ i,∃ h:i<m.length,r=(i:Int)∧m[i].1=s∧∀ j (hj:j<i),(m[j]'(Ws)).1≠s
section
variable {w : World}
theorem indexNone (a:Option Addr)(c:Nat)(b:Value) : zG w 165 #[.slice a 0 c,b] (.int .i64 (-1)):=by
 go_enter func165,ntmps165;go_wp2_with fail;go_loopw [8] (fun i wr=>i = .int .i64 0∧w=wr) (fun _ _=>0);case atStart=>exact⟨rfl,rfl⟩
 case round=>obtain⟨rfl,rfl⟩:=hrel;go_wp2;go_ret;exact⟨rfl,Wd⟩
theorem sameKey_any (x:PC)(s:ByteArray)(b:Nat)(h:w.cell? ⟨b,0,none⟩=some (.string s)) : zG w 166 #[.agg x.enc.toArray,.pointer (some ⟨b,0,none⟩)] (.bool (decide (x.key=s))):=by
 have hc:∀ o:Obj,(w.alloc o).cell? ⟨b,0,none⟩=some (.string s):=fun o=>((zb.refl [] w).alloc o).cell h Wz;have a:Hid (∀ o:Obj,zb [] w (w.alloc o)):=qI (fun o=>(zb.refl [] w).alloc o);have f:x.enc.toArray=#[.string x.key,.int .i64 x.k,.int .i64 x.m,.string x.s,.slice x.p x.i x.c,.slice x.q x.j x.d]:=rfl;rw [f];clear h f;by_cases e:x.key=s;·obtain⟨l,n⟩:=jv e;rw [XT e];clear e;go_enter func166,ntmps166;go_wp2;go_ret;exact⟨rfl,a.o _⟩
 ·obtain⟨l,n⟩:=k7 e;rw [XO e];clear e;go_enter func166,ntmps166;go_wp2;go_ret;exact⟨rfl,a.o _⟩
theorem aggPair (w:World):(isAgg (Tryz.shIndexFunc_ren.t 23)).run prog w = .ok true w:=isAgg41 w
theorem sizePair (w:World):(Go.sizeOf (Tryz.shIndexFunc_ren.t 23)).run prog w = .ok 6 w:=sizeOf41 w
theorem enter_same:∀ (args:Array Value) (w:World),(callFunc 166 args).run prog w = .ok (.enter 166 args) w:=enters_of func166 Wr rfl
section
variable {n : Nat} {S : Nat → Prop} {cs : List Value} {v : VS (V n)} {vl vm : Value} {lcs : List (List Value)} {mcs : List (ByteArray × List Value)}
theorem indexPairs (h:yj (Rep n S w) S w cs v vl vm lcs mcs){b:Nat}{s:ByteArray}(F:w.cell? ⟨b,0,none⟩=some (.string s))(J:v.m.length≤1000000) : Calls prog 165 #[vm,.func (.func 166) #[] #[.pointer (some ⟨b,0,none⟩)]] w fun e w'=>(∃ r,e = .returned (.int .i64 r)∧KeyIx v.m s r)∧zb [] w w':=by
 obtain⟨f,C,H⟩:=pcs_of h.allm;have D:f.length=v.m.length:=by rw [← h.allm.1,C,Xb]
 have d:∀ i (l:i<v.m.length),(f[i]'(Ws)).key=v.m[i].1:=fun i l=>by have G:=(h.allm.2 i ((f[i]'(Ws)).key,(f[i]'(Ws)).cs) v.m[i] (by rw [C,Xs,XN Ws];rfl) (XN l)).1;exact G
 by_cases I:v.m.length=0;·have E:=h.slcm;rw [I] at E;obtain⟨a,c,rfl,-,-⟩:=E.form;refine (indexNone a c _).mono ?_;rintro e w' ⟨rfl,B⟩;exact⟨⟨-1,rfl,.inl ⟨rfl,fun i l=>by omega⟩⟩,B⟩
 rcases h.slcm.2 with ⟨-,q⟩ | ⟨q,-⟩ | ⟨g,o,cap,rfl,-,hm,A⟩;·omega
 ·omega
 rw [H] at A;refine (AnyQ.slices_IndexFunc Tryz.shIndexFunc 6 aggPair sizePair PC.enc PC.enc_len (fun x=>decide (x.key=s)) 166 #[.pointer (some ⟨b,0,none⟩)] enter_same g o v.m.length cap f w (fun W x k=>?_) Ws Ws A.2 (fun j t i u p=>?_)).mono ?_;·have z:W.cell? ⟨b,0,none⟩=some (.string s):=(zb.of_below k).cell F Wz;refine (sameKey_any x s b z).mono ?_;rintro e w' ⟨rfl,B⟩;exact⟨rfl,((zb.of_below k).then B).below (XA) Wz⟩
 ·rw [getElem!_pos f j t] at p;have y:i<6:=by
   rcases Xr i 6 with q | q;·exact q
   ·rw [uQ (by rw [PC.enc_len];exact q)] at p;cases p
  have h2:=jb (size:=6) (f.map PC.enc) j i (by intro c hc;obtain⟨x,_,rfl⟩:=Xm.1 hc;rfl) (by simpa using t) y;rw [uJ] at h2;have h3:=A.cells (j*6+i) u (by rw [show f.flatMap PC.enc=(f.map PC.enc).flatten by simp [List.flatMap],h2];exact p);rw [← uS] at h3;exact h3
 ·rintro e w' ⟨rfl,k⟩;refine⟨⟨_,rfl,?_⟩,zb.of_below k⟩;rw [Xl Ws];unfold Lib.idxBy;rcases idx_spec (fun x:PC=>decide (x.key=s)) default f 0 with ⟨q1,q2⟩ | ⟨i,l,q1,q2,q3⟩;·rw [q1];refine .inl ⟨rfl,fun i l=>?_⟩;have:=q2 i Ws;rw [d i l] at this;simpa using this
  ·rw [q1];refine .inr ⟨i,Ws,by rw [Xd],?_,fun j t=>?_⟩;·rw [d i Ws] at q2;simpa using q2
   ·have:=q3 j t;rw [d j Ws] at this;simpa using this
end
end
def vJ {α:Type}(v:VS α)(s:ByteArray):Option α:=if v.kind=6 then (v.m.find? (fun p=>decide (p.1=s))).map (fun p=>p.2) else none
theorem find_ix {m:List (ByteArray×α)}{r:Int}(h:KeyIx m s r):(r = -1∧m.find? (fun p=>decide (p.1=s))=none)∨∃ i,∃ hi:i<m.length,r=(i:Int)∧m.find? (fun p=>decide (p.1=s))=some m[i]:=by
 rcases h with ⟨a,h2⟩ | ⟨i,hi,a,h2,h3⟩;·refine .inl ⟨a,List.find?_eq_none.2 fun p hp=>?_⟩;obtain⟨j,b,rfl⟩:=uI hp;simpa using h2 j b
 ·refine .inr ⟨i,hi,a,?_⟩;rw [List.find?_eq_some_iff_getElem];refine⟨by simpa using h2,i,hi,rfl,fun j b=>?_⟩;simpa using h3 j b
theorem yD {w:World}{g:Nat}{k m:Int}{a b:Value}(h:w.heap[g]? = some (.cells #[.int .i64 k,.int .i64 m,.string s,a,b] t f)):yA w g k m s a b:=⟨za h rfl,za h rfl,za h rfl,za h rfl,za h rfl⟩
def xU (w:World)(g:Nat)(k m:Int)(s:ByteArray)(a b:Value):World:=((((w.setCell ⟨g,0,none⟩ (.int .i64 k)).setCell ⟨g,1,none⟩ (.int .i64 m)).setCell ⟨g,2,none⟩ (.string s)).setCell ⟨g,3,none⟩ a).setCell ⟨g,4,none⟩ b
theorem yv (w:World)(g:Nat)(k m:Int)(s:ByteArray)(a b:Value):zb [g] w (xU w g k m s a b):=by
 unfold xU;exact (((((zb.refl [g] w).setCell (.inl Wz) _).setCell (.inl Wz) _).setCell (.inl Wz) _).setCell (.inl Wz) _).setCell (.inl Wz) _
theorem xE {w:World}{g:Nat}{c0 c1 c2 c3 c4:Value}(h:w.heap[g]? = some (.cells #[c0,c1,c2,c3,c4] t f))(k m:Int)(s:ByteArray)(a b:Value):(xU w g k m s a b).heap[g]? = some (.cells #[.int .i64 k,.int .i64 m,.string s,a,b] t f):=by
 unfold xU;have e:=ze (i:=0) (v:=.int .i64 k) (d:=#[.int .i64 k,c1,c2,c3,c4]) h rfl;have h2:=ze (i:=1) (v:=.int .i64 m) (d:=#[.int .i64 k,.int .i64 m,c2,c3,c4]) e rfl;have h3:=ze (i:=2) (v:=.string s) (d:=#[.int .i64 k,.int .i64 m,.string s,c3,c4]) h2 rfl;have j:=ze (i:=3) (v:=a) (d:=#[.int .i64 k,.int .i64 m,.string s,a,c4]) h3 rfl;have l:=ze (i:=4) (v:=b) (d:=#[.int .i64 k,.int .i64 m,.string s,a,b]) j rfl;exact l
def yX:Value:=.agg #[.int .i64 0,.int .i64 0,.string ⟨#[]⟩,.slice none 0 0,.slice none 0 0]
section
variable {n : Nat} {v : VS (V n)} {S : Nat → Prop} {w : World} {cs : List Value}
theorem at_any (h:Rep (n+1) S w cs v)(L:v.m.length≤1000000)(s:ByteArray) : Calls prog 114 #[.agg cs.toArray,.string s] w fun e w'=>(∃ r,e = .returned (.int .i64 r)∧((r = -1∧vJ v s=none)∨∃ i,∃ hi:i<v.m.length,r=(i:Int)∧vJ v s=some v.m[i].2))∧zb [] w w':=by
 obtain⟨vl,vm,lcs,mcs,h⟩:=h;obtain⟨B,C,q,j,rfl,rfl,rfl⟩:=h.forms;have H:=qI h;obtain⟨b,d⟩:=XE ((w.alloc (.cells #[.int .i64 v.kind,.int .i64 v.num,.string v.s,.slice B v.l.length C,.slice q v.m.length j] 25)).alloc (.cells #[.string s] 9));have u:Hid (zb [] w b):=qI (kA2 d.o);have E:Hid (b.heap[w.heap.size]? = some (.cells #[.int .i64 v.kind,.int .i64 v.num,.string v.s,.slice B v.l.length C,.slice q v.m.length j] 25 (0,0))):=qI (by rw [d.o];exact ((zb.refl [] _).alloc _).heap (zd rfl) Wz);have N:Hid (b.cell? ⟨w.heap.size+1,0,none⟩=some (.string s)):=qI (by rw [d.o];exact za (zd Wz) rfl);have M:Hid (Calls prog 165 #[.slice q v.m.length j,.func (.func 166) #[] #[.pointer (some ⟨w.heap.size+1,0,none⟩)]] b fun e w'=>(∃ r,e = .returned (.int .i64 r)∧KeyIx v.m s r)∧zb [] b w'):=qI (by
  have k:=Rep.open_ (Rep.k0 (yj.close h) u.o);obtain⟨O,J,A,z,D⟩:=k;have y:=D.cells;simp only [VG,and_true,true_and] at y;obtain⟨rfl,rfl⟩:=y;exact indexPairs D N.o L)
 have c0:=za (o:=0) (v:=.int .i64 v.kind) E.o rfl;have c4:=za (o:=4) (v:=.slice q v.m.length j) E.o rfl;clear h;by_cases a:v.kind=6
 ·have F:=(yq a).1;have K:=(yq a).2;have t:Hid (vJ v s=(v.m.find? (fun p=>decide (p.1=s))).map (fun p=>p.2)):=qI (by unfold vJ;rw [XK a]);clear a;go_enter func114,ntmps114;go_upto_region 1 with fail;rw [← d.o];go_wp2_with (go_at_call 165;refine M.o.mono ?_;rintro e w2 ⟨⟨r,rfl,k⟩,f⟩;have G:=qI k;have I:=qI f;clear k f);go_ret;refine⟨⟨_,rfl,?_⟩,u.o.then I.o⟩;rw [t.o];rcases find_ix G.o with ⟨x,h2⟩ | ⟨i,hi,x,h2⟩
  ·exact .inl ⟨x,by rw [h2];rfl⟩
  ·exact .inr ⟨i,hi,x,by rw [h2];rfl⟩
 ·have F:=(zq a).1;have K:=(zq a).2;have t:Hid (vJ v s=none):=qI (by unfold vJ;rw [XJ a]);clear a;go_enter func114,ntmps114;go_upto_region 1 with fail;rw [← d.o];go_wp2;go_ret;exact⟨⟨_,rfl,.inl ⟨rfl,t.o⟩⟩,u.o⟩
def GetAns (n:Nat)(B:Nat)(w':World)(e:Ending):Option (V n)→Prop
 | none=>e = .returned (.tuple #[yX,.bool false])
 | some x=>∃ cs':List Value,e = .returned (.tuple #[.agg cs'.toArray,.bool true])∧jH n (fun g=>B≤g∧g<w'.heap.size) w' cs' x
theorem get_any (h:Rep (n+1) S w cs v)(J:zP (n+1) v)(s:ByteArray) : Calls prog 61 #[.agg cs.toArray,.string s] w fun e w'=>GetAns n w.heap.size w' e (vJ v s)∧zb [] w w':=by
 have A:=fun (w1:World) (k:zb [] w w1)=>at_any (h.k0 k) (XH (JD v) J.1) s;obtain⟨vl,vm,lcs,mcs,h⟩:=h;obtain⟨L,P,Q,N,rfl,rfl,rfl⟩:=h.forms;have H:=qI h;have U:=qI J;have CA:=qI A;obtain⟨E,B⟩:=XE ((w.alloc (.cells #[.int .i64 v.kind,.int .i64 v.num,.string v.s,.slice L v.l.length P,.slice Q v.m.length N] 25)).alloc (.cells #[.int .i64 0,.int .i64 0,.string ⟨#[]⟩,.slice none 0 0,.slice none 0 0] 25));have G:Hid (zb [] w E):=qI (kA2 B.o);have R:Hid (yA E w.heap.size v.kind v.num v.s (.slice L v.l.length P) (.slice Q v.m.length N)):=qI (by rw [B.o];exact (xr _ _ _ _ _ _ _).k0 ((zb.refl [] _).alloc _));have Z:Hid (E.heap[w.heap.size+1]? = some (.cells #[.int .i64 0,.int .i64 0,.string ⟨#[]⟩,.slice none 0 0,.slice none 0 0] 25 (0,0))):=qI (by rw [B.o];exact zd Wz);clear h J A;obtain⟨c0,c1,c2,c3,c4⟩:=R.o;go_enter func61,ntmps61;go_upto_region 1 with fail;rw [← B.o];go_upto_region 2 with (go_at_call 114;refine (CA.o _ G.o).mono ?_;rintro e w2 ⟨⟨r,rfl,y⟩,D⟩;have Mf:=qI y;have x:=qI D;clear y D);clear c0 c1 c2 c3 c4;obtain⟨c0,c1,c2,c3,c4⟩:=R.o.k0 x.o;have b:=qI (x.o.heap Z.o Wz);rcases Mf.o with ⟨rfl,C⟩ | ⟨i,d,rfl,C⟩
 ·have I:=qI C;clear C;have W:=za (o:=0) (v:=.int .i64 0) b.o rfl;have r1:=za (o:=1) (v:=.int .i64 0) b.o rfl;have Y:=za (o:=2) (v:=.string ⟨#[]⟩) b.o rfl;have r3:=za (o:=3) (v:=.slice none 0 0) b.o rfl;have r4:=za (o:=4) (v:=.slice none 0 0) b.o rfl;have z:∀ j,w2.frozen? ⟨w.heap.size+1,j,none⟩=false:=fun j=>zh b.o;go_wp2_with fail;change bodyPost _ _ _ _ _ (xU w2 (w.heap.size+1) 0 0 ⟨#[]⟩ (.slice none 0 0) (.slice none 0 0));have a:=yv w2 (w.heap.size+1) 0 0 ⟨#[]⟩ (.slice none 0 0) (.slice none 0 0);have t:=xE b.o 0 0 ⟨#[]⟩ (.slice none 0 0) (.slice none 0 0);revert a t;generalize xU w2 (w.heap.size+1) 0 0 ⟨#[]⟩ (.slice none 0 0) (.slice none 0 0)=WF;intro a t;obtain⟨y0,y1,y2,f,y4⟩:=yD t;exact bodyPost_ret (v:=.tuple #[yX,.bool false]) (by simp [results,results61,go_sem,y0,y1,y2,f,y4,yX]) rfl ⟨by rw [I.o];rfl,((G.o.then x.o).trans a (by intro i d;simp at d;subst d;exact .inr Wz))⟩
 ·have O:=qI (H.o.at_m (G.o.then x.o) i d);obtain⟨g,o,cap,kd,nm,st,a1,b1,M,q0,q1,q2,q3,q4,q5,y⟩:=O.o;simp only [XU] at M;obtain⟨rfl,-,rfl⟩:=M;obtain⟨p1,i1,d1,p2,i2,d2,rfl,rfl⟩:=y.sl;have CC:=qI (Z9 n v.m[i].2 y (U.o.kid (Zj (XX d))));have I:=qI C;have ad:(i:Int)<v.m.length:=Ws;clear y O C;go_wp2_with (go_at_call 53;refine CC.o.mono ?_;rintro e F ⟨⟨ab,rfl,q⟩,u⟩;obtain⟨k3,m3,s3,x3,j3,c3,f,l3,e3,rfl⟩:=q.rep.conv;have Mg:=qI q;have Ge:=qI u;have p:=qI (u.heap b.o Wz);have W:=za (o:=0) (v:=.int .i64 0) p.o rfl;have r1:=za (o:=1) (v:=.int .i64 0) p.o rfl;have Y:=za (o:=2) (v:=.string ⟨#[]⟩) p.o rfl;have r3:=za (o:=3) (v:=.slice none 0 0) p.o rfl;have r4:=za (o:=4) (v:=.slice none 0 0) p.o rfl;have z:∀ j,F.frozen? ⟨w.heap.size+1,j,none⟩=false:=fun j=>zh p.o;clear q u);change bodyPost _ _ _ _ _ (xU F (w.heap.size+1) k3 m3 s3 (.slice x3 j3 c3) (.slice f l3 e3));have a:=yv F (w.heap.size+1) k3 m3 s3 (.slice x3 j3 c3) (.slice f l3 e3);have t:=xE p.o k3 m3 s3 (.slice x3 j3 c3) (.slice f l3 e3);revert a t;generalize xU F (w.heap.size+1) k3 m3 s3 (.slice x3 j3 c3) (.slice f l3 e3)=WF;intro a t;obtain⟨z0,z1,z2,X,z4⟩:=yD t;refine bodyPost_ret (v:=.tuple #[.agg #[.int .i64 k3,.int .i64 m3,.string s3,.slice x3 j3 c3,.slice f l3 e3],.bool true]) (by simp [results,results61,go_sem,z0,z1,z2,X,z4]) rfl ⟨by
   rw [I.o];have aa:E.heap.size=w.heap.size+2:=by rw [B.o];simp
   have h2:=x.o.size;exact⟨_,rfl,(Mg.o.kept a (by intro k K;simp at K;subst K;omega)).mono (fun g ⟨h5,h6⟩=>⟨Ws,uT h6 a.size⟩)⟩,(((G.o.then x.o).then Ge.o).trans a (by intro i d;simp at d;subst d;exact .inr Wz))⟩
end
def WAt (w:World)(b:Nat)(d c:Nat)(r:Bool):Prop:=w.heap[b]? = some (.cells #[.int .i64 d,.int .i64 c,.bool r] 165 (0,0))
theorem WAt.kept {w:World}{b d c:Nat}{r:Bool}(h:WAt w b d c r)(k:zb X w w')(a:b ∉ X):WAt w' b d c r:=k.heap h a
structure Seen {n:Nat}(v:VS (V n))(d c:Nat)(r:Bool)(k:Nat)(ks:List (V n))(D C:Nat)(R:Bool):Prop where
 hd:D=max (max d k) (k+kG (ks.map (zM n)))
 hc:C=c+1+(ks.map (zp n)).sum
 hr:R=(r || !(zy v&&ks.all (zn n)))
theorem Seen.snoc {n:Nat}{v:VS (V n)}{d c:Nat}{r:Bool}{k:Nat}{ks:List (V n)}{D C:Nat}{R:Bool}(h:Seen v d c r k ks D C R)(x:V n)(b:1≤zM n x) : Seen v d c r k (ks++[x]) (max D (k+1+zM n x-1)) (C+zp n x) (R || !zn n x):=by
 obtain⟨a,h2,h3⟩:=h;refine⟨?_,?_,?_⟩;·rw [a,Xc,zbF];simp only [Xf,X3,kG];omega
 ·rw [h2,Xc,List.sum_append];simp only [Xf,X3,uF,List.sum_nil];omega
 ·rw [h3,VH];simp only [VA,List.all_nil,ub];cases r <;> cases zy v <;> cases ks.all (zn n) <;> cases zn n x <;> rfl
theorem Seen.all {n:Nat}{v:VS (V n)}{d c:Nat}{r:Bool}{k:Nat}{D C:Nat}{R:Bool}(h:Seen v d c r k v.kids D C R) : D=max d (k+zM (n+1) v-1)∧C=c+zp (n+1) v∧R=(r || !zn (n+1) v):=by
 obtain⟨b,h2,h3⟩:=h;have e:zM (n+1) v=1+kG (v.kids.map (zM n)):=rfl;have f:zp (n+1) v=1+(v.kids.map (zp n)).sum:=rfl;have a:zn (n+1) v=(zy v&&v.kids.all (zn n)):=rfl;exact⟨Ws,Ws,by rw [h3,a]⟩
theorem depth_pos:∀ {n:Nat}(x:V n),1≤zM n x
 | 0,x=>nomatch x
 | n+1,(x:VS (V n))=>by have e1:zM (n+1) x=1+kG (x.kids.map (zM n)):=rfl;omega
theorem yj.keptX {n:Nat}{S:Nat→Prop}{w:World}{cs:List Value}{v:VS (V n)}{vl vm:Value}{lcs:List (List Value)}{mcs:List (ByteArray×List Value)}(h:yj (Rep n S w) S w cs v vl vm lcs mcs)(k:zb X w w')(a:∀ x,x∈X→¬ S x):yj (Rep n S w') S w' cs v vl vm lcs mcs:=
 {cells:=h.cells
  slcl:=h.slcl.kept k (fun g d b=>a g b (h.inl g d))
  alll:=h.alll.mono fun _ _ _ r=>Rep.kept r k a
  slcm:=h.slcm.kept k (fun g d b=>a g b (h.inm g d))
  allm:=h.allm.mono fun _ _ _ r=>⟨r.1,Rep.kept r.2 k a⟩
  inl:=h.inl
  inm:=h.inm
  wfk:=h.wfk
  wfn:=h.wfn }
theorem zan (f:α→Nat)(l:List α)(j:Nat)(h:j<l.length):((l.take j).map f).sum+f l[j]≤(l.map f).sum:=by
 have a:(l.map f).sum=((l.take (j+1)).map f).sum+((l.drop (j+1)).map f).sum:=by rw [← List.sum_append,← Xc,uG]
 rw [a,xQ f l j h,List.sum_append];simp only [uF,List.sum_nil];omega
def Zf (n : Nat) : Prop := ∀ (v : V n) {S : Nat → Prop} {w : World} {cs : List Value} {Wt : World} {b d c k : Nat} {r : Bool}, Rep n S w cs v → zP n v → n+k ≤ 1000 → d ≤ 100000 → c+zp n v ≤ 100000 → xS Wt → zb [] Wt w → Wt.heap.size ≤ b → WAt w b d c r → (∀ g, S g → g ≠ b) →
    Calls prog 167 #[.pointer (some ⟨b,0,none⟩),.agg cs.toArray,.int .i64 k] w fun e w'=>e = .returned (.tuple #[])∧WAt w' b (max d (k+zM n v-1)) (c+zp n v) (r || !zn n v)∧zb [b] w w'
theorem zcu {n:Nat}(O:Zf n):Zf (n+1):=fun (v:VS (V n)) {S}{w}{cs}{Wt}{b}{d}{c}{k}{r} h hs hn hd hc ht hkt hbt hw hS=>by
  have Jp:=qI h;have Jc:=qI hs;have HT:=qI ht;have Jq:=qI hkt;have HW:=qI hw;have Gn:=qI hS;obtain⟨vl,vm,lcs,mcs,h⟩:=h;obtain⟨a,ca,ba,ea,rfl,rfl,rfl⟩:=h.forms;have H:=qI h;have IH:=qI O;have ag:v.l.length≤20000:=XC hs.few;have ah:v.m.length≤20000:=XC hs.few;have af:b<w.heap.size:=lt_of_block hw;obtain⟨K,Gb⟩:=XE (w.alloc (.cells #[.int .i64 v.kind,.int .i64 v.num,.string v.s,.slice a v.l.length ca,.slice ba v.m.length ea] 25));have Ga:Hid (zb [] w K):=qI (kA1 Gb.o);have Jr:Hid (yA K w.heap.size v.kind v.num v.s (.slice a v.l.length ca) (.slice ba v.m.length ea)):=qI (by rw [Gb.o];exact xr w v.kind v.num v.s (.slice a v.l.length ca) (.slice ba v.m.length ea) 25);have Q:Hid (K.heap[b]? = some (.cells #[.int .i64 d,.int .i64 c,.bool r] 165 (0,0))):=qI (Ga.o.heap hw Wz);obtain⟨c0,c1,c2,c3,c4⟩:=Jr.o;clear h hs ht hkt hw hS;go_enter func167,ntmps167;go_upto_region 1 with fail;rw [← Gb.o];have w0:=za (o:=0) (v:=.int .i64 d) Q.o rfl;have w1:=za (o:=1) (v:=.int .i64 c) Q.o rfl;have w2:=za (o:=2) (v:=.bool r) Q.o rfl;have f0:=zh (o:=0) Q.o;have f1:=zh (o:=1) Q.o;have f2:=zh (o:=2) Q.o;go_upto_region 2 with fail;have I:=qI (ze (v:=.int .i64 ((c:Int)+1)) (i:=1) Q.o rfl);have Gc:Hid (zb [b] K (K.setCell ⟨b,1,none⟩ (.int .i64 ((c:Int)+1)))):=qI (Wd.setCell (.inl Wz) _);clear w0 w1 w2 f0 f1 f2;revert I Gc;generalize K.setCell ⟨b,1,none⟩ (.int .i64 ((c:Int)+1))=W1;intro I Gc;have w0:=za (o:=0) (v:=.int .i64 d) I.o rfl;have w1:=za (o:=1) (v:=.int .i64 ((c:Int)+1)) I.o rfl;have w2:=za (o:=2) (v:=.bool r) I.o rfl;have f0:=zh (o:=0) I.o;have f1:=zh (o:=1) I.o;have f2:=zh (o:=2) I.o;go_upto_region 3 with fail;rw [show max (d:Int) (k:Int)=((max d k:Nat):Int) by omega];have q:=qI (ze (v:=.int .i64 ((max d k:Nat):Int)) (i:=0) I.o rfl);have A:Hid (zb [b] K (W1.setCell ⟨b,0,none⟩ (.int .i64 ((max d k:Nat):Int)))):=qI (Gc.o.setCell (.inl Wz) _);clear w0 w1 w2 f0 f1 f2 I Gc c0 c1 c2 c3 c4;revert q A;generalize W1.setCell ⟨b,0,none⟩ (.int .i64 ((max d k:Nat):Int))=W2;intro q A;have Gy:Hid (zb [b] w W2):=qI ((Ga.o.mono Wz).trans' A.o);have Gt:Hid (Rep (n+1) S W2 [.int .i64 v.kind,.int .i64 v.num,.string v.s,.slice a v.l.length ca,.slice ba v.m.length ea] v):=qI (Jp.o.kept Gy.o (fun g hg ad=>Gn.o g ad (by simpa using hg)));have Jy:Hid (xS W2):=qI (HT.o.k0 (Jq.o.trans Gy.o (fun i L=>by simp at L;subst L;exact .inr hbt)));have F:w.heap.size≠b:=Ws;obtain⟨c0,c1,c2,c3,c4⟩:=Jr.o.kept A.o (by simpa using F);go_cut [] from 26 to 37 (fun wr=>WAt wr b (max d k) (c+1) (r || !zy v)∧zb [b] K wr);case first=>
   cases r with
   | true=>have w0:=za (o:=0) (v:=.int .i64 ((max d k:Nat):Int)) q.o rfl;have w1:=za (o:=1) (v:=.int .i64 ((c:Int)+1)) q.o rfl;have w2:=za (o:=2) (v:=.bool true) q.o rfl;have f0:=zh (o:=0) q.o;have f1:=zh (o:=1) q.o;have f2:=zh (o:=2) q.o;go_wp2;go_meet;exact⟨ze q.o rfl,A.o.setCell (.inl Wz) _⟩
   | false=>have CP:=qI (plain_any Gt.o Jc.o Jy.o);have w2:=za (o:=2) (v:=.bool false) q.o rfl;go_wp2_with (go_at_call 203;refine CP.o.mono ?_;rintro e w3 ⟨rfl,P⟩;have Js:=qI (P.heap q.o Wz);have Ge:=qI P;clear P w2;have w2:=za (o:=2) (v:=.bool false) Js.o rfl;have f2:=zh (o:=2) Js.o);go_meet;exact⟨ze Js.o Wz,(A.o.then Ge.o).setCell (.inl Wz) _⟩
  case rest=>
   obtain⟨aa,U⟩:=hcut;clear q A Gy Gt Jy c0 c1 c2 c3 c4;have Mh:=qI aa;have Jz:Hid (zb [b] w wc):=qI ((Ga.o.mono Wz).trans' U);have Ma:=qI (Jr.o.kept U (by simpa using F));have HX:Hid (∀ {wr},zb [b] w wr→yj (Rep n S wr) S wr _ v _ _ lcs mcs):=qI fun k=>H.o.keptX k (fun x hx ae=>Gn.o x ae (by simpa using hx))
   have Mb:Hid (zp (n+1) v=1+((v.l.map (zp n)).sum+(v.m.map (fun p=>zp n p.2)).sum)):=qI (by rw [← br];rfl);have Jt:Hid (Seen v d c r k [] (max d k) (c+1) (r || !zy v)):=qI ⟨by simp [kG],Wz,Wz⟩;clear aa U;obtain⟨c0,c1,c2,c3,c4⟩:=Ma.o;go_wp2_with fail;clear c0 c1 c2 c3 c4;go_loopw [41] (fun i wr=>∃ (j D C:Nat) (R:Bool),i = .int .i64 j∧j≤v.l.length∧WAt wr b D C R∧Seen v d c r k (v.l.take j) D C R∧zb [b] wc wr) (fun i _=>v.l.length-(intOf i).toNat);case atStart=>exact⟨0,_,_,_,rfl,XB,Mh.o,Jt.o,Wd⟩
   case round=>
    obtain⟨j,D,C,R,rfl,hj,E,B,t⟩:=hrel;have Y:=qI E;have J:=qI B;have Jd:=qI t;have N:=qI (Jz.o.trans' t);clear E B t;by_cases f:j<v.l.length
    ·have ab:(j:Int)<v.l.length:=by omega
     obtain⟨g,o,cap,kd,nm,st,a1,b1,he,q0,q1,q2,q3,q4,W⟩:=(HX.o N.o).at_l Wd j f;simp only [XU] at he;obtain⟨rfl,-,rfl⟩:=he;obtain⟨p1,i1,d1,p2,i2,d2,rfl,rfl⟩:=W.sl;have hD:D≤100000:=by rw [J.o.hd];have:kG ((v.l.take j).map (zM n))≤n:=ZZ.2 (fun x hx=>by obtain⟨y,_,rfl⟩:=Xm.1 hx;exact jw n y);omega
     have hC:C+zp n v.l[j]≤100000:=by rw [J.o.hc];have:=zan (zp n) v.l j f;have:=Mb.o;omega
     have u:=qI ((zb.refl [] wr).alloc (.cells #[.int .i64 kd,.int .i64 nm,.string st,.slice p1 i1 d1,.slice p2 i2 d2] 25));have M:=qI (IH.o v.l[j] (W.k0 u.o) (Jc.o.kid (YP (XX f))) (k:=k+1) Ws hD hC HT.o ((Jq.o.trans N.o (fun i L=>by simp at L;subst L;exact .inr hbt)).then u.o) hbt (Y.o.kept u.o Wz) Gn.o);rw [show ((k+1:Nat):Int)=(k:Int)+1 from rfl] at M;have Z:=qI (J.o.snoc v.l[j] (depth_pos _));have X:Hid (v.l.take (j+1)=v.l.take j++[v.l[j]]):=qI (XZ f);clear W hD hC;go_wp2_with (go_at_call 167;refine M.o.mono ?_;rintro e w2 ⟨rfl,z,G⟩;have q:=qI z;have A:=qI G;clear z G);case roundEnd=>exact⟨⟨j+1,_,_,_,by go_num,Ws,q.o,by rw [X.o];exact Z.o,(Jd.o.then u.o).trans' A.o⟩,by simp [intOf];omega⟩
    ·obtain rfl:j=v.l.length:=by omega
     obtain⟨c0,c1,c2,c3,c4⟩:=Ma.o.kept Jd.o (by simpa using F);have Jl:Hid (Seen v d c r k (v.l++(v.m.take 0).map (fun p=>p.2)) D C R):=qI (by have:=J.o;rw [Xw] at this;simpa using this);have Jm:=qI Y.o;have Jn:=qI Jd.o;clear J Y Jd N;go_wp2_with fail;clear c0 c1 c2 c3 c4;go_loopw [54] (fun i wr=>∃ (j D C:Nat) (R:Bool),i = .int .i64 j∧j≤v.m.length∧WAt wr b D C R∧Seen v d c r k (v.l++(v.m.take j).map (fun p=>p.2)) D C R∧zb [b] wc wr) (fun i _=>v.m.length-(intOf i).toNat);case atStart=>exact⟨0,_,_,_,rfl,XB,Jm.o,Jl.o,Jn.o⟩
     case round=>
      obtain⟨j,D,C,R,rfl,hj,E,B,t⟩:=hrel;clear Jl Jm Jn;have Y:=qI E;have J:=qI B;have Jd:=qI t;have N:=qI (Jz.o.trans' t);clear E B t;by_cases f:j<v.m.length
      ·have ab:(j:Int)<v.m.length:=by omega
       obtain⟨g,o,cap,kd,nm,st,a1,b1,he,q0,q1,q2,q3,q4,q5,W⟩:=(HX.o N.o).at_m Wd j f;simp only [XU] at he;obtain⟨rfl,-,rfl⟩:=he;obtain⟨p1,i1,d1,p2,i2,d2,rfl,rfl⟩:=W.sl;have hD:D≤100000:=by rw [J.o.hd];have:kG ((v.l++(v.m.take j).map (fun p=>p.2)).map (zM n))≤n:=ZZ.2 (fun x hx=>by obtain⟨y,_,rfl⟩:=Xm.1 hx;exact jw n y);omega
       have hC:C+zp n v.m[j].2≤100000:=by rw [J.o.hc,Xc,List.sum_append,uL];have:=zan (fun p:ByteArray×V n=>zp n p.2) v.m j f;have:=Mb.o;have e:((v.m.take j).map (zp n ∘ fun p=>p.2)).sum=((v.m.take j).map (fun p=>zp n p.2)).sum:=rfl;omega
       have X:Hid (v.l++(v.m.take (j+1)).map (fun p=>p.2)=(v.l++(v.m.take j).map (fun p=>p.2))++[v.m[j].2]):=qI (by rw [xQ _ _ _ f,Xv]);have Z:=qI (J.o.snoc v.m[j].2 (depth_pos _));have u:=qI ((zb.refl [] wr).alloc (.cells #[.string v.m[j].1,.int .i64 kd,.int .i64 nm,.string st,.slice p1 i1 d1,.slice p2 i2 d2] 41));have M:=qI (IH.o v.m[j].2 (W.k0 u.o) (Jc.o.kid (Zj (XX f))) (k:=k+1) Ws hD hC HT.o ((Jq.o.trans N.o (fun i L=>by simp at L;subst L;exact .inr hbt)).then u.o) hbt (Y.o.kept u.o Wz) Gn.o);rw [show ((k+1:Nat):Int)=(k:Int)+1 from rfl] at M;clear W hD hC;revert q0 X Z u M;generalize v.m[j]=pr;obtain⟨key,x⟩:=pr;intro q0 X Z u M;simp only at q0 X Z u M;go_wp2_with (go_at_call 167;refine M.o.mono ?_;rintro e w2 ⟨rfl,z,G⟩;have q:=qI z;have A:=qI G;clear z G);case roundEnd=>exact⟨⟨j+1,_,_,_,by go_num,Ws,q.o,by rw [X.o];exact Z.o,(Jd.o.then u.o).trans' A.o⟩,by simp [intOf];omega⟩
      ·obtain rfl:j=v.m.length:=by omega
       have Mi:Hid (Seen v d c r k v.kids D C R):=qI (by have:=J.o;rw [Xw] at this;exact this);obtain⟨e1,e2,e3⟩:=Mi.o.all;have Ju:Hid (WAt wr b (max d (k+zM (n+1) v-1)) (c+zp (n+1) v) (r || !zn (n+1) v)):=qI (by rw [← e1,← e2,← e3];exact Y.o);clear e1 e2 e3;go_wp2_with fail;go_end0;exact⟨rfl,Ju.o,N.o⟩
theorem Qp:∀ (n:Nat),Zf n
 | 0=>fun v {_}{_}{_}{_}{_}{_}{_}{_}{_} h _ _ _ _ _ _ _ _ _=>h.elim
 | n+1=>zcu (Qp n)
theorem down_any:∀ (n:Nat) (v:V n) {S:Nat→Prop}{w:World}{cs:List Value}{Wt:World}{b d c k:Nat}{r:Bool},Rep n S w cs v→zP n v→n+k≤1000→d≤100000→c+zp n v≤100000→xS Wt→zb [] Wt w→Wt.heap.size≤b→WAt w b d c r→(∀ g,S g→g≠b)→Calls prog 167 #[.pointer (some ⟨b,0,none⟩),.agg cs.toArray,.int .i64 k] w fun e w'=>e = .returned (.tuple #[])∧WAt w' b (max d (k+zM n v-1)) (c+zp n v) (r || !zn n v)∧zb [b] w w':=fun n=>Qp n
theorem look_any {n:Nat}{v:V n}{S:Nat→Prop}{w:World}{cs:List Value}(h:Rep n S w cs v)(p:zP n v)(L:n≤100)(s:xS w) : Calls prog 115 #[.agg cs.toArray] w fun e w'=>(∃ b,e = .returned (.pointer (some ⟨b,0,none⟩))∧WAt w' b (zM n v) (zp n v) (!zn n v))∧zb [] w w':=by
 obtain⟨kd,u,st,M,b1,rfl⟩:=h.five;obtain⟨E,C,t,p2,z,B,rfl,rfl⟩:=h.sl;obtain⟨m,j⟩:=XE (w.alloc (.cells #[.int .i64 kd,.int .i64 u,.string st,.slice E C t,.slice p2 z B] 25));obtain⟨r,f⟩:=XE (m.alloc (.cells #[.int .i64 0,.int .i64 0,.bool false] 165));have I:Hid (zb [] w m):=qI (kA1 j.o);have q:Hid (zb [] w r):=qI (by rw [f.o];exact I.o.alloc _);have F:Hid (m.heap.size=w.heap.size+1):=qI (by rw [j.o];simp);have K:Hid (yA r w.heap.size kd u st (.slice E C t) (.slice p2 z B)):=qI (by rw [f.o,j.o];exact (xr _ _ _ _ _ _ _).k0 (Wd.alloc _));have G:Hid (WAt r (w.heap.size+1) 0 0 false):=qI (by rw [f.o];exact zd F.o);have l:=p.1;have y:=qI (down_any n v ((h.mono (T:=fun g=>g<w.heap.size) (fun g A _=>A)).k0 q.o) p (k:=1) Ws (XB) Ws s q.o (Nat.le_succ _) G.o (fun g A=>by omega));clear h p s l;rw [show ((1:Nat):Int)=1 from rfl] at y;have D:Hid (max 0 (1+zM n v-1)=zM n v∧0+zp n v=zp n v):=qI Ws;go_enter func115,ntmps115;go_wp2_with fail;rw [← j.o,← f.o];refine y.o.mono ?_;rintro e w2 ⟨rfl,a,d⟩;have J:Hid (WAt w2 (w.heap.size+1) (zM n v) (zp n v) (!zn n v)):=qI (by rw [D.o.1,D.o.2] at a;simpa using a);have H:=qI d;clear a d;go_wp2;go_ret;exact⟨⟨_,rfl,J.o⟩,q.o.trans H.o (fun i x=>by simp at x;subst x;exact .inr (Nat.le_succ _))⟩
theorem ZB {n:Nat}{v:V n}{S:Nat→Prop}{w:World}{cs:List Value}(h:Rep n S w cs v)(s:zP n v)(y:n≤100)(x:xS w) : zG w 62 #[.agg cs.toArray] (.int .i64 (zV n v)):=by
 obtain⟨kd,B,st,I,b1,rfl⟩:=h.five;obtain⟨H,G,z,p2,E,F,rfl,rfl⟩:=h.sl;obtain⟨A,r⟩:=XE (w.alloc (.cells #[.int .i64 kd,.int .i64 B,.string st,.slice H G z,.slice p2 E F] 25));have j:Hid (zb [] w A):=qI (kA1 r.o);have l:=qI (look_any (h.k0 j.o) s y (x.k0 j.o));have q:=s.1;have p:zM n v≤100:=X7 (jw n v) y;have m:Hid (zV n v=if 12<zM n v then 41 else if 4096<zp n v then 42 else if zn n v then 0 else 40):=qI rfl;clear h s x;revert l q p m;generalize zM n v=D;generalize zp n v=C;generalize zn n v=R;generalize zV n v=K;intro l q p m;by_cases k:12<D
 ·have t:(12:Int)<D:=by omega
  have f:Hid (K=41):=qI (by rw [m.o,XK k]);go_enter func62,ntmps62;go_wp2_with fail;rw [← r.o];refine l.o.mono ?_;rintro e w2 ⟨⟨b,rfl,a⟩,d⟩;have c0:=za (o:=0) (v:=.int .i64 D) a rfl;have c1:=za (o:=1) (v:=.int .i64 C) a rfl;have c2:=za (o:=2) (v:=.bool (!R)) a rfl;have i:=qI (j.o.then d);clear a d;go_wp2;go_ret;rw [f.o];exact⟨rfl,i.o⟩
 have t:¬ (12:Int)<D:=Ws;by_cases h2:4096<C
 ·have u:(4096:Int)<C:=by omega
  have f:Hid (K=42):=qI (by rw [m.o,XJ k,XK h2]);go_enter func62,ntmps62;go_wp2_with fail;rw [← r.o];refine l.o.mono ?_;rintro e w2 ⟨⟨b,rfl,a⟩,d⟩;have c0:=za (o:=0) (v:=.int .i64 D) a rfl;have c1:=za (o:=1) (v:=.int .i64 C) a rfl;have c2:=za (o:=2) (v:=.bool (!R)) a rfl;have i:=qI (j.o.then d);clear a d;go_wp2;go_ret;rw [f.o];exact⟨rfl,i.o⟩
 have u:¬ (4096:Int)<C:=Ws;cases R with
 | true=>have f:Hid (K=0):=qI (by rw [m.o,XJ k,XJ h2,XK rfl]);clear k h2;go_enter func62,ntmps62;go_wp2_with fail;rw [← r.o];refine l.o.mono ?_;rintro e w2 ⟨⟨b,rfl,a⟩,d⟩;have c0:=za (o:=0) (v:=.int .i64 D) a rfl;have c1:=za (o:=1) (v:=.int .i64 C) a rfl;have c2:=za (o:=2) (v:=.bool false) a rfl;have i:=qI (j.o.then d);clear a d;go_wp2;go_ret;rw [f.o];exact⟨rfl,i.o⟩
 | false=>have f:Hid (K=40):=qI (by rw [m.o,XJ k,XJ h2,XJ Wz]);clear k h2;go_enter func62,ntmps62;go_wp2_with fail;rw [← r.o];refine l.o.mono ?_;rintro e w2 ⟨⟨b,rfl,a⟩,d⟩;have c0:=za (o:=0) (v:=.int .i64 D) a rfl;have c1:=za (o:=1) (v:=.int .i64 C) a rfl;have c2:=za (o:=2) (v:=.bool true) a rfl;have i:=qI (j.o.then d);clear a d;go_wp2;go_ret;rw [f.o];exact⟨rfl,i.o⟩
def yf (w:World)(r:Nat)(b0 b1 b2 b3 b4:Value):World:=((((w.setCell ⟨r,0,none⟩ b0).setCell ⟨r,1,none⟩ b1).setCell ⟨r,2,none⟩ b2).setCell ⟨r,3,none⟩ b3).setCell ⟨r,4,none⟩ b4
theorem Ky {w:World}{T:Nat}{a f a2 h d b2 b3:Value}(b:w.heap[r]? = some (.cells #[a,f,a2,h,d] T (0,0)))(e:WF=yf w r b0 b1 b2 b3 b4) : zb [r] w WF∧WF.heap[r]? = some (.cells #[b0,b1,b2,b3,b4] T (0,0)):=by
 subst e;refine⟨?_,ze (i:=4) (ze (i:=3) (ze (i:=2) (ze (i:=1) (ze (i:=0) b rfl) rfl) rfl) rfl) rfl⟩;exact (((((zb.refl [r] w).setCell (p:=⟨r,0,none⟩) (.inl Wz) _).setCell (p:=⟨r,1,none⟩) (.inl Wz) _).setCell (p:=⟨r,2,none⟩) (.inl Wz) _).setCell (p:=⟨r,3,none⟩) (.inl Wz) _).setCell (p:=⟨r,4,none⟩) (.inl Wz) _
theorem yC.move:∀ {n:Nat}{B B':Nat}{X:List Nat}{w w':World}{cs:List Value}{v:V n},yC n B w cs v→zb X w w'→(∀ g,g∈X→g<B)→B'≤B→yC n B' w' cs v
 | 0,_,_,_,_,_,_,_,h,_,_,_=>h.elim
 | n+1,B,B',X,w,w',cs,v,h,k,hX,hB=>by
  obtain⟨vl,vm,lcs,mcs,h1,h2,h3,h4,h5,h6,h7⟩:=h;refine⟨vl,vm,lcs,mcs,h1,?_,h3.mono fun _ _ _ r=>r.move k (fun g _ q=>⟨fun b=>by have:=hX g b;omega,Ws,q.2⟩),?_,h5.mono fun _ _ _ r=>⟨r.1,r.2.move k (fun g _ q=>⟨fun b=>by have:=hX g b;omega,Ws,q.2⟩)⟩,h6,h7⟩;·exact qA (zk h2 k (fun g a b=>by have:=(h2.lt g a).1;have:=hX g b;omega)) (fun g a=>by have:=(h2.lt g a).1;omega)
  ·exact qA (zk h4 k (fun g a b=>by have:=(h4.lt g a).1;have:=hX g b;omega)) (fun g a=>by have:=(h4.lt g a).1;omega)
theorem bT {n:Nat}{v:V n}(h:zV n v=0):zn n v=true:=(ql.1 h).2.2
theorem Sorted_any {n:Nat}{v:V n}{S:Nat→Prop}{w:World}{cs:List Value}(h:Rep n S w cs v)(C:zP n v)(X:n≤100)(L:xS w)(hc:zV n v=0) : Calls prog 149 #[.agg cs.toArray] w fun e w'=>(∃ cs':List Value,e = .returned (.agg cs'.toArray)∧yC n w.heap.size w' cs' (zK n v))∧zb [] w w':=by
 obtain⟨kd,t,st,a,x,s,b,y,r,rfl⟩:=h.conv;obtain⟨m,p⟩:=XE ((w.alloc (.cells #[.int .i64 kd,.int .i64 t,.string st,.slice a x s,.slice b y r] 25)).alloc (.cells #[.int .i64 0,.int .i64 0,.string ⟨#[]⟩,.slice none 0 0,.slice none 0 0] 25));have Ja:Hid (m.heap.size=w.heap.size+2):=qI (by rw [p.o];simp);have u:Hid (zb [] w m):=qI (kA2 p.o);have K:Hid (yA m w.heap.size kd t st (.slice a x s) (.slice b y r)):=qI (by
  rw [p.o];have W:=xr w kd t st (.slice a x s) (.slice b y r) 25;exact W.kept ((zb.refl [] _).alloc _) Wz)
 have Jv:Hid (m.heap[w.heap.size+1]? = some (.cells #[.int .i64 0,.int .i64 0,.string ⟨#[]⟩,.slice none 0 0,.slice none 0 0] 25 (0,0))):=qI (by
  rw [p.o];exact zd Wz)
 have Q:Hid (Calls prog 62 #[.agg #[.int .i64 kd,.int .i64 t,.string st,.slice a x s,.slice b y r]] m _):=qI (ZB (h.k0 u.o) C X (L.k0 u.o));have O:=qI (fun (w1:World) (k:zb [] m w1)=>Kj n v ((h.k0 u.o).k0 k) C (bT hc));have R:=qI hc;clear h C L hc;obtain⟨c0,c1,c2,c3,c4⟩:=K.o;rw [p.o] at c0 c1 c2 c3 c4;go_enter func149,ntmps149;go_wp2_with fail;rw [← p.o];refine Q.o.mono ?_;rintro e w1 ⟨rfl,l⟩;have H:=qI l;clear c0 c1 c2 c3 c4;rw [R.o];obtain⟨c0,c1,c2,c3,c4⟩:=K.o.kept l Wz;clear l;go_wp2_with fail;refine (O.o _ H.o).mono ?_;rintro e w5 ⟨⟨cs',rfl,j⟩,q⟩;obtain⟨D,J,F,G,A,E,z,B,I,rfl⟩:=j.rep.conv;have Jw:=qI j;have M:=qI (H.o.then q);have d:=M.o.heap Jv.o Wz;have Z:=qI d;have r0:=za (o:=0) (v:=.int .i64 0) d rfl;have r1:=za (o:=1) (v:=.int .i64 0) d rfl;have r2:=za (o:=2) (v:=.string ⟨#[]⟩) d rfl;have r3:=za (o:=3) (v:=.slice none 0 0) d rfl;have r4:=za (o:=4) (v:=.slice none 0 0) d rfl;have f0:=zh (o:=0) d;have f1:=zh (o:=1) d;have f2:=zh (o:=2) d;have f3:=zh (o:=3) d;have f4:=zh (o:=4) d;have Jx:Hid (w.heap.size+2≤w1.heap.size):=qI (XH H.o.size Ja.o);clear d j q c0 c1 c2 c3 c4;go_wp2_with fail;obtain⟨WF,e⟩:=XF (yf w5 (w.heap.size+1) (.int .i64 D) (.int .i64 J) (.string F) (.slice G A E) (.slice z B I));obtain⟨N,f⟩:=Ky Z.o e;unfold yf at e;rw [← e];have U:=za (o:=0) (v:=.int .i64 D) f rfl;have Y:=za (o:=1) (v:=.int .i64 J) f rfl;have x2:=za (o:=2) (v:=.string F) f rfl;have x3:=za (o:=3) (v:=.slice G A E) f rfl;have P:=za (o:=4) (v:=.slice z B I) f rfl;have hz:=Jx.o;exact bodyPost_ret (v:=.agg #[.int .i64 D,.int .i64 J,.string F,.slice G A E,.slice z B I]) (by simp [results,results149,go_sem,U,Y,x2,x3,P]) rfl ⟨⟨_,rfl,Jw.o.move N (fun g hg=>by simp at hg;omega) Ws⟩,(u.o.then M.o).trans N (fun i hi=>by simp at hi;exact .inr Ws)⟩
def Qk (n:Nat):Prop:=∀ (v:V n) {S:Nat→Prop}{W w:World}{cs:List Value}{b:Nat}{l:List UInt8},Rep n S W cs v→(∀ g,S g→g≠b)→zn n v=true→zP n v→qD b W→BW 189 W b w l→l.length+(zr n v).length≤50000000 →
 Calls prog 148 #[.pointer (some ⟨b,0,none⟩),.agg cs.toArray] w fun e w'=>e = .returned (.tuple #[])∧BW 189 W b w' (l++zr n v)∧zY b w w'
structure ZP (b b2 b3:Nat)(cs:List Value)(w:World):Prop where
 ptr:w.heap[b2]? = some (.cells #[.pointer (some ⟨b,0,none⟩)] 187 (0,0))
 val:w.heap[b3]? = some (.cells cs.toArray 25 (0,0))
theorem ZP.kept {b b2 b3:Nat}{cs:List Value}{w:World}(h:ZP b b2 b3 cs w)(h2:b2≠b)(h3:b3≠b)(k:zY b w w'):ZP b b2 b3 cs w':=
 ⟨k.heap h.ptr h2 (by rw [zQ h.ptr];decide),k.heap h.val h3 (by rw [zQ h.val];decide)⟩
section
variable {n : Nat} {v : VS (V n)} {S : Nat → Prop} {W w : World} {cs : List Value} {b b2 b3 k : Nat} {l : List UInt8} {a d : Option Addr} {c e : Nat} {lcs : List (List Value)} {mcs : List (ByteArray × List Value)}
theorem put1_any (IH:Qk n)(H:yj (Rep n S W) S W cs v (.slice a v.l.length c) (.slice d v.m.length e) lcs mcs)(Y:∀ g,S g→g≠b)(hr:zn (n+1) v=true)(Q:zP (n+1) v)(ht:qD b W)(q:b2≠b∧b3≠b)(hc:ZP b b2 b3 [.int .i64 v.kind,.int .i64 v.num,.string v.s,.slice a v.l.length c,.slice d v.m.length e] w)(M:BW 189 W b w l)(A:k<v.l.length)(hl:l.length+(zr n v.l[k]).length≤50000000) : Calls prog 196 #[.int .i64 k,.pointer (some ⟨b2,0,none⟩),.pointer (some ⟨b3,0,none⟩)] w fun r w2=>r = .returned (.tuple #[])∧BW 189 W b w2 (l++zr n v.l[k])∧zY b w w2:=by
 obtain⟨g,o,cap,kd,P,st,a1,b1,he,q0,q1,q2,q3,q4,x⟩:=H.at_l Wd k A;simp only [XU] at he;obtain⟨rfl,-,rfl⟩:=he;have hg:g≠b:=Y g (H.inl g (QD Ws));obtain⟨p1,i1,L,p2,U,d2,rfl,rfl⟩:=x.sl;have p:g ∉ [b]:=by simpa using hg
 have Gg:Hid (∀ w1,zb [b] W w1→w1.cell? ⟨g,o+k*5,none⟩=some (.int .i64 kd)∧w1.cell? ⟨g,o+k*5+1,none⟩=some (.int .i64 P)∧w1.cell? ⟨g,o+k*5+2,none⟩=some (.string st)∧w1.cell? ⟨g,o+k*5+3,none⟩=some (.slice p1 i1 L)∧w1.cell? ⟨g,o+k*5+4,none⟩=some (.slice p2 U d2)):=
  qI fun w1 u=>⟨u.cell q0 p,u.cell q1 p,u.cell q2 p,u.cell q3 p,u.cell q4 p⟩
 have N:Hid (∀ w1,zY b w w1→w1.cell? ⟨b2,0,none⟩=some (.pointer (some ⟨b,0,none⟩))∧w1.cell? ⟨b3,3,none⟩=some (.slice (some ⟨g,o,none⟩) v.l.length c)):=
  qI fun w1 u=>⟨za (o:=0) (v:=.pointer (some ⟨b,0,none⟩)) (hc.kept q.1 q.2 u).ptr rfl,za (o:=3) (v:=.slice (some ⟨g,o,none⟩) v.l.length c) (hc.kept q.1 q.2 u).val rfl⟩
 obtain⟨r0,r1,r2,r3,r4⟩:=Gg.o w M.kept;obtain⟨c2,c3⟩:=N.o w (zY.refl _ _);have aa:(k:Int)<v.l.length:=Ws;have X:Hid (∀ w1,BW 189 W b w1 l→_):=qI (fun w1 (h1:BW 189 W b w1 l)=>IH v.l[k] x Y (vY hr (YP (XX A))) (Q.kid (YP (XX A))) ht h1 hl);have HB:=qI M;have Ji:Hid (v.l.length≤20000):=qI (XC Q.few);have HK:Hid (k<v.l.length):=qI A;clear H Y hr Q ht hc M q0 q1 q2 q3 q4 x hg p IH;revert X;generalize zr n v.l[k]=T;intro X;clear hl A;go_enter func196,ntmps196;refine zu (n:=7) (fun w':World=>w'.cell? ⟨b2,0,none⟩=some (.pointer (some ⟨b,0,none⟩))∧w'.cell? ⟨b3,3,none⟩=some (.slice (some ⟨g,o,none⟩) v.l.length c)∧w'.cell? ⟨g,o+k*5,none⟩=some (.int .i64 kd)∧w'.cell? ⟨g,o+k*5+1,none⟩=some (.int .i64 P)∧w'.cell? ⟨g,o+k*5+2,none⟩=some (.string st)∧w'.cell? ⟨g,o+k*5+3,none⟩=some (.slice p1 i1 L)∧w'.cell? ⟨g,o+k*5+4,none⟩=some (.slice p2 U d2)) 7 Wr Wr ?_;change zT _ _ _ _ _ _ _ _ _ w.drew;have i:(fun w':World=>w'.cell? ⟨b2,0,none⟩=some (.pointer (some ⟨b,0,none⟩))∧w'.cell? ⟨b3,3,none⟩=some (.slice (some ⟨g,o,none⟩) v.l.length c)∧w'.cell? ⟨g,o+k*5,none⟩=some (.int .i64 kd)∧w'.cell? ⟨g,o+k*5+1,none⟩=some (.int .i64 P)∧w'.cell? ⟨g,o+k*5+2,none⟩=some (.string st)∧w'.cell? ⟨g,o+k*5+3,none⟩=some (.slice p1 i1 L)∧w'.cell? ⟨g,o+k*5+4,none⟩=some (.slice p2 U d2)) w.drew:=⟨c2,c3,r0,r1,r2,r3,r4⟩;have J:Hid (zb [] w w.drew):=qI Wd.drew;clear c2 c3 r0 r1 r2 r3 r4;revert i J;generalize w.drew=WD;intro i J;refine zF ?_;intro O R t hR;have j:jA R:=by subst hR;exact fun _ _ _ _ _ h=>h
 refine qT 0 ?_ t rfl rfl Wr j (fun w f=>?_) i ?_;rotate_left;·obtain⟨y,F,z,I,D,C,G⟩:=f;exact zg
 try simp only [XI]
 refine qT 1 ?_ t rfl rfl Wr j (fun w f=>?_) i ?_;rotate_left;·obtain⟨y,F,z,I,D,C,G⟩:=f;exact zg
 try simp only [XI]
 refine qT 2 ?_ t rfl rfl Wr j (fun w f=>?_) i ?_;rotate_left;·obtain⟨y,F,z,I,D,C,G⟩:=f;exact zg
 try simp only [XI]
 refine qT 3 ?_ t rfl rfl Wr j (fun w f=>?_) i ?_;rotate_left;·obtain⟨y,F,z,I,D,C,G⟩:=f;exact zg
 try simp only [XI]
 refine qT 4 ?_ t rfl rfl Wr j (fun w f=>?_) i ?_;rotate_left;·obtain⟨y,F,z,I,D,C,G⟩:=f;exact zg
 try simp only [XI]
 refine qT 5 ?_ t rfl rfl Wr j (fun w f=>?_) i ?_;rotate_left;·obtain⟨y,F,z,I,D,C,G⟩:=f;exact zg
 try simp only [XI]
 refine qO 6 t rfl Wr (fun K hK=>?_);go_simp;refine Calls.mono (X.o _ (HB.o.stay J.o)) ?_;rintro e w3 ⟨rfl,E,B⟩;have Jb:=qI E;have Z:=qI ((zY.of0 J.o).trans B);clear E B;refine hK _ _ (.inr ⟨(N.o w3 Z.o).1,(N.o w3 Z.o).2,Gg.o w3 Jb.o.kept⟩) ?_;clear hK K;try simp only [XI]
 refine zE t Wr ?_ _;subst hR;try clear j t O
 go_wp2_with fail;go_end0;exact⟨rfl,Jb.o,Z.o⟩
theorem put2_any (IH:Qk n)(H:yj (Rep n S W) S W cs v (.slice a v.l.length c) (.slice d v.m.length e) lcs mcs)(hS:∀ g,S g→g≠b)(hr:zn (n+1) v=true)(hs:zP (n+1) v)(ht:qD b W)(q:v.kind=6)(B:b2≠b∧b3≠b)(hc:ZP b b2 b3 [.int .i64 v.kind,.int .i64 v.num,.string v.s,.slice a v.l.length c,.slice d v.m.length e] w)(hb:BW 189 W b w l)(N:k<v.m.length)(hl:l.length+(yJ v.m[k].1.data.toList++(58::zr n v.m[k].2)).length≤50000000) : Calls prog 197 #[.int .i64 k,.pointer (some ⟨b2,0,none⟩),.pointer (some ⟨b3,0,none⟩)] w fun r w2=>r = .returned (.tuple #[])∧BW 189 W b w2 (l++(yJ v.m[k].1.data.toList++(58::zr n v.m[k].2)))∧zY b w w2:=by
 obtain⟨g,o,cap,kd,nm,st,a1,b1,he,qk,q0,q1,q2,q3,q4,J⟩:=H.at_m Wd k N;simp only [XU] at he;obtain⟨rfl,-,rfl⟩:=he;have hg:g≠b:=hS g (H.inm g (QD Ws));obtain⟨p1,i1,d1,p2,i2,d2,rfl,rfl⟩:=J.sl;have t:g ∉ [b]:=by simpa using hg
 have M:Hid (∀ w1,zb [b] W w1→w1.cell? ⟨g,o+k*6,none⟩=some (.string v.m[k].1)∧w1.cell? ⟨g,o+k*6+1,none⟩=some (.int .i64 kd)∧w1.cell? ⟨g,o+k*6+2,none⟩=some (.int .i64 nm)∧w1.cell? ⟨g,o+k*6+3,none⟩=some (.string st)∧w1.cell? ⟨g,o+k*6+4,none⟩=some (.slice p1 i1 d1)∧w1.cell? ⟨g,o+k*6+5,none⟩=some (.slice p2 i2 d2)):=
  qI fun w1 D=>⟨D.cell qk t,D.cell q0 t,D.cell q1 t,D.cell q2 t,D.cell q3 t,D.cell q4 t⟩
 have I:Hid (∀ w1,zY b w w1→w1.cell? ⟨b2,0,none⟩=some (.pointer (some ⟨b,0,none⟩))∧w1.cell? ⟨b3,4,none⟩=some (.slice (some ⟨g,o,none⟩) v.m.length e)):=
  qI fun w1 D=>⟨za (o:=0) (v:=.pointer (some ⟨b,0,none⟩)) (hc.kept B.1 B.2 D).ptr rfl,za (o:=4) (v:=.slice (some ⟨g,o,none⟩) v.m.length e) (hc.kept B.1 B.2 D).val rfl⟩
 have ag:(k:Int)<v.m.length:=Ws;have Y:(v.m[k].1).size≤400000:=X7 (key_le (XX N)) hs.2;have C:xe v.m=true:=by
  rcases vZ (bc hr) with h | h | h | h | h | h;·rw [q] at h;exact absurd h.1 Wo
  ·rw [q] at h;exact absurd h.1 Wo
  ·rw [q] at h;exact absurd h.1 Wo
  ·rw [q] at h;exact absurd h.1 Wo
  ·rw [q] at h;exact absurd h.1 Wo
  ·exact h.2.2.2.2
 have F:zv v.m[k].1=true:=by unfold xe at C;rw [XR,Xk] at C;exact C.1 _ (XX N)
 have E:l.length+(yJ v.m[k].1.data.toList).length+1+(zr n v.m[k].2).length≤50000000:=by rw [XM,XP] at hl;omega
 have CL:Hid (∀ w1 l1,BW 189 W b w1 l1→l1.length+(zr n v.m[k].2).length≤50000000→_):=qI (fun w1 l1 (h1:BW 189 W b w1 l1) hl1=>IH v.m[k].2 J hS (vY hr (Zj (XX N))) (hs.kid (Zj (XX N))) ht h1 hl1);have HB:=qI hb;have HT:=qI ht;have Ji:Hid (v.m.length≤20000):=qI (XC hs.few);have HA:Hid (∀ x y:List UInt8,l++x++[58]++y=l++(x++(58::y))):=qI (by intro x y;simp);clear H hS hr hs ht hc hb qk q0 q1 q2 q3 q4 J hg t IH C hl;revert CL M Y F E;generalize zr n v.m[k].2=T;generalize v.m[k].1=key;intro M Y F E CL;clear N;obtain⟨r0,r1,r2,r3,r4,r5⟩:=M.o w HB.o.kept;obtain⟨c2,c3⟩:=I.o w (zY.refl _ _);go_enter func197,ntmps197;go_wp2_with fail;refine zu (n:=8) (fun w':World=>w'.cell? ⟨b2,0,none⟩=some (.pointer (some ⟨b,0,none⟩))∧w'.cell? ⟨b3,4,none⟩=some (.slice (some ⟨g,o,none⟩) v.m.length e)∧w'.cell? ⟨g,o+k*6,none⟩=some (.string key)) 8 Wr Wr ?_;change zT _ _ _ _ _ _ _ _ _ w.drew;have i:(fun w':World=>w'.cell? ⟨b2,0,none⟩=some (.pointer (some ⟨b,0,none⟩))∧w'.cell? ⟨b3,4,none⟩=some (.slice (some ⟨g,o,none⟩) v.m.length e)∧w'.cell? ⟨g,o+k*6,none⟩=some (.string key)) w.drew:=⟨c2,c3,r0⟩;have Gi:Hid (zb [] w w.drew):=qI Wd.drew;clear c2 c3 r0 r1 r2 r3 r4 r5;revert i Gi;generalize w.drew=WD;intro i Gi;refine zF ?_;intro O R p Z;have j:jA R:=by subst Z;exact fun _ _ _ _ _ h=>h
 refine qT 0 ?_ p rfl rfl Wr j (fun w f=>?_) i ?_;rotate_left;·obtain⟨u,A,z⟩:=f;exact zg
 try simp only [XI]
 refine qT 1 ?_ p rfl rfl Wr j (fun w f=>?_) i ?_;rotate_left;·obtain⟨u,A,z⟩:=f;exact zg
 try simp only [XI]
 refine qT 2 ?_ p rfl rfl Wr j (fun w f=>?_) i ?_;rotate_left;·obtain⟨u,A,z⟩:=f;exact zg
 try simp only [XI]
 refine qT 3 ?_ p rfl rfl Wr j (fun w f=>?_) i ?_;rotate_left;·obtain⟨u,A,z⟩:=f;exact zg
 try simp only [XI]
 refine qT 4 ?_ p rfl rfl Wr j (fun w f=>?_) i ?_;rotate_left;·obtain⟨u,A,z⟩:=f;exact zg
 try simp only [XI]
 refine qT 5 ?_ p rfl rfl Wr j (fun w f=>?_) i ?_;rotate_left;·obtain⟨u,A,z⟩:=f;exact zg
 try simp only [XI]
 refine qT 6 ?_ p rfl rfl Wr j (fun w f=>?_) i ?_;rotate_left;·obtain⟨u,A,z⟩:=f;exact zg
 try simp only [XI]
 refine qO 7 p rfl Wr (fun K hK=>?_);go_simp;refine Calls.mono (zbV (HB.o.stay Gi.o) HT.o Ws key Ws F) ?_;rintro e1 w3 ⟨rfl,ab,ae⟩;have Jb:=qI ab;have Ge:=qI ((zY.of0 Gi.o).trans ae);clear ab ae;refine hK _ _ (.inr ⟨(I.o w3 Ge.o).1,(I.o w3 Ge.o).2,(M.o w3 Jb.o.kept).1⟩) ?_;clear hK K;try simp only [XI]
 refine zE p Wr ?_ _;subst Z;try clear j p O
 clear i;obtain⟨c2,c3⟩:=I.o w3 Ge.o;go_wp2_with (go_at_call 99;refine (wbyte_58 xC Jb.o (by rw [XM];omega)).mono ?_;rintro e2 L ⟨rfl,af,ad⟩;have Jj:=qI af;have Jk:=qI (Ge.o.trans ad);clear af ad);clear c2 c3;obtain⟨r0,r1,r2,r3,r4,r5⟩:=M.o L Jj.o.kept;obtain⟨c2,c3⟩:=I.o L Jk.o;refine zu (n:=8) (fun w':World=>w'.cell? ⟨b2,0,none⟩=some (.pointer (some ⟨b,0,none⟩))∧w'.cell? ⟨b3,4,none⟩=some (.slice (some ⟨g,o,none⟩) v.m.length e)∧w'.cell? ⟨g,o+k*6+1,none⟩=some (.int .i64 kd)∧w'.cell? ⟨g,o+k*6+2,none⟩=some (.int .i64 nm)∧w'.cell? ⟨g,o+k*6+3,none⟩=some (.string st)∧w'.cell? ⟨g,o+k*6+4,none⟩=some (.slice p1 i1 d1)∧w'.cell? ⟨g,o+k*6+5,none⟩=some (.slice p2 i2 d2)) 8 Wr Wr ?_;change zT _ _ _ _ _ _ _ _ _ L.drew;have i:(fun w':World=>w'.cell? ⟨b2,0,none⟩=some (.pointer (some ⟨b,0,none⟩))∧w'.cell? ⟨b3,4,none⟩=some (.slice (some ⟨g,o,none⟩) v.m.length e)∧w'.cell? ⟨g,o+k*6+1,none⟩=some (.int .i64 kd)∧w'.cell? ⟨g,o+k*6+2,none⟩=some (.int .i64 nm)∧w'.cell? ⟨g,o+k*6+3,none⟩=some (.string st)∧w'.cell? ⟨g,o+k*6+4,none⟩=some (.slice p1 i1 d1)∧w'.cell? ⟨g,o+k*6+5,none⟩=some (.slice p2 i2 d2)) L.drew:=⟨c2,c3,r1,r2,r3,r4,r5⟩;have Jo:Hid (zb [] L L.drew):=qI Wd.drew;clear c2 c3 r0 r1 r2 r3 r4 r5;revert i Jo;generalize L.drew=WE;intro i Jo;refine zF ?_;intro O R p Z;have j:jA R:=by subst Z;exact fun _ _ _ _ _ h=>h
 refine qT 0 ?_ p rfl rfl Wr j (fun w f=>?_) i ?_;rotate_left;·obtain⟨u,A,z,U,P,X,Q⟩:=f;exact zg
 try simp only [XI]
 refine qT 1 ?_ p rfl rfl Wr j (fun w f=>?_) i ?_;rotate_left;·obtain⟨u,A,z,U,P,X,Q⟩:=f;exact zg
 try simp only [XI]
 refine qT 2 ?_ p rfl rfl Wr j (fun w f=>?_) i ?_;rotate_left;·obtain⟨u,A,z,U,P,X,Q⟩:=f;exact zg
 try simp only [XI]
 refine qT 3 ?_ p rfl rfl Wr j (fun w f=>?_) i ?_;rotate_left;·obtain⟨u,A,z,U,P,X,Q⟩:=f;exact zg
 try simp only [XI]
 refine qT 4 ?_ p rfl rfl Wr j (fun w f=>?_) i ?_;rotate_left;·obtain⟨u,A,z,U,P,X,Q⟩:=f;exact zg
 try simp only [XI]
 refine qT 5 ?_ p rfl rfl Wr j (fun w f=>?_) i ?_;rotate_left;·obtain⟨u,A,z,U,P,X,Q⟩:=f;exact zg
 try simp only [XI]
 refine qT 6 ?_ p rfl rfl Wr j (fun w f=>?_) i ?_;rotate_left;·obtain⟨u,A,z,U,P,X,Q⟩:=f;exact zg
 try simp only [XI]
 refine qO 7 p rfl Wr (fun K hK=>?_);go_simp;refine Calls.mono (CL.o _ _ (Jj.o.stay Jo.o) (by simp only [XM,XP,Xo];omega)) ?_;rintro e3 w5 ⟨rfl,G,aa⟩;rw [HA.o] at G;have Mc:=qI G;have Jh:=qI ((Jk.o.trans (zY.of0 Jo.o)).trans aa);clear G aa;refine hK _ _ (.inr ⟨(I.o w5 Jh.o).1,(I.o w5 Jh.o).2,(M.o w5 Mc.o.kept).2⟩) ?_;clear hK K;try simp only [XI]
 refine zE p Wr ?_ _;subst Z;try clear j p O
 go_wp2_with fail;go_end0;exact⟨rfl,Mc.o,Jh.o⟩
end
theorem fb_true:Lib.formatBool true=[116,114,117,101]:=by decide +kernel
theorem fb_false:Lib.formatBool false=[102,97,108,115,101]:=by decide +kernel
theorem between1_list {W w:World}{b b2 b3 n:Nat}{l:List UInt8}(i:∀ w1 w2,J w1→zY b w1 w2→J w2)(f:∀ k w1 l1,k<n→J w1→BW 189 W b w1 l1→l1.length+(it k).length≤50000000→Calls prog 196 #[.int .i64 k,.pointer (some ⟨b2,0,none⟩),.pointer (some ⟨b3,0,none⟩)] w1 fun r w2=>r = .returned (.tuple #[])∧BW 189 W b w2 (l1++it k)∧zY b w1 w2)(e:J w)(d:BW 189 W b w l)(h:n≤20000)(a:l.length+(qP it n).length≤49999998) : Calls prog 195 #[.pointer (some ⟨b,0,none⟩),.int .u8 91,.int .i64 n,.func (.func 196) #[] #[.pointer (some ⟨b2,0,none⟩),.pointer (some ⟨b3,0,none⟩)],.int .u8 93] w fun r w'=>r = .returned (.tuple #[])∧BW 189 W b w' (l++(91::(qP it n++[93])))∧zY b w w':=between1_any (o:=91) (c:=93) i f e d h a
theorem between2_map {W w:World}{b b2 b3 n:Nat}{l:List UInt8}(i:∀ w1 w2,J w1→zY b w1 w2→J w2)(f:∀ k w1 l1,k<n→J w1→BW 189 W b w1 l1→l1.length+(it k).length≤50000000→Calls prog 197 #[.int .i64 k,.pointer (some ⟨b2,0,none⟩),.pointer (some ⟨b3,0,none⟩)] w1 fun r w2=>r = .returned (.tuple #[])∧BW 189 W b w2 (l1++it k)∧zY b w1 w2)(e:J w)(d:BW 189 W b w l)(h:n≤20000)(a:l.length+(qP it n).length≤49999998) : Calls prog 195 #[.pointer (some ⟨b,0,none⟩),.int .u8 123,.int .i64 n,.func (.func 197) #[] #[.pointer (some ⟨b2,0,none⟩),.pointer (some ⟨b3,0,none⟩)],.int .u8 125] w fun r w'=>r = .returned (.tuple #[])∧BW 189 W b w' (l++(123::(qP it n++[125])))∧zY b w w':=between2_any (o:=123) (c:=125) i f e d h a
theorem write_1 {n:Nat}{v:VS (V n)}(h:v.kind=1):zr (n+1) v=[110,117,108,108]:=by
 show (if v.kind=1 then _ else _)=_;rw [XK h]
theorem write_2 {n:Nat}{v:VS (V n)}(h:v.kind=2):zr (n+1) v=Lib.formatBool (v.num == 1):=by
 show (if v.kind=1 then _ else if v.kind=2 then _ else _)=_;rw [XJ Ws,XK h];by_cases e:v.num=1;·rw [XK e,e,show ((1:Int) == 1)=true from rfl,fb_true]
 ·rw [XJ e,show (v.num == 1)=false by simpa using e,fb_false]
theorem write_3 {n:Nat}{v:VS (V n)}(h:v.kind=3):zr (n+1) v=Lib.itoa v.num:=by
 show (if v.kind=1 then _ else if v.kind=2 then _ else if v.kind=3 then _ else _)=_;rw [XJ Ws,XJ Ws,XK h]
theorem write_4 {n:Nat}{v:VS (V n)}(h:v.kind=4):zr (n+1) v=yJ v.s.data.toList:=by
 show (if v.kind=1 then _ else if v.kind=2 then _ else if v.kind=3 then _ else if v.kind=4 then _ else _)=_;rw [XJ Ws,XJ Ws,XJ Ws,XK h]
theorem write_5 {n:Nat}{v:VS (V n)}(h:v.kind=5):zr (n+1) v=91::(qP (fun k=>(v.l.map (zr n)).getD k []) v.l.length++[93]):=by
 show (if v.kind=1 then _ else if v.kind=2 then _ else if v.kind=3 then _ else if v.kind=4 then _ else if v.kind=5 then _ else _)=_;rw [XJ Ws,XJ Ws,XJ Ws,XJ Ws,XK h,preC_all]
theorem write_6 {n:Nat}{v:VS (V n)}(h:v.kind=6):zr (n+1) v=123::(qP (fun k=>(v.m.map (fun p=>yJ p.1.data.toList++(58::zr n p.2))).getD k []) v.m.length++[125]):=by
 show (if v.kind=1 then _ else if v.kind=2 then _ else if v.kind=3 then _ else if v.kind=4 then _ else if v.kind=5 then _ else _)=_;rw [XJ Ws,XJ Ws,XJ Ws,XJ Ws,XJ Ws,preC_all]
theorem put_any_step {n:Nat}(ab:Qk n):Qk (n+1):=fun (v:VS (V n)) {S W w cs b l} h hS hr hs ht hb hl=>by
  have IH:=qI ab;obtain⟨vl,vm,lcs,mcs,h⟩:=h;obtain⟨a,c,d,e,rfl,rfl,rfl⟩:=h.forms;obtain⟨C,F⟩:=XE ((w.alloc (.cells #[.pointer (some ⟨b,0,none⟩)] 187)).alloc (.cells #[.int .i64 v.kind,.int .i64 v.num,.string v.s,.slice a v.l.length c,.slice d v.m.length e] 25));have Ga:Hid (zb [] w C):=qI (kA2 F.o);have U:Hid (ZP b w.heap.size (w.heap.size+1) [.int .i64 v.kind,.int .i64 v.num,.string v.s,.slice a v.l.length c,.slice d v.m.length e] C):=qI (by
   rw [F.o];exact⟨((zb.refl [] _).alloc _).heap (zd rfl) Wz,zd Wz⟩)
  have t:Hid (w.heap.size≠b∧w.heap.size+1≠b):=qI (XH hb.lt hb.kept.size);have Z:Hid (BW 189 W b C l):=qI (hb.stay Ga.o);have HL:=qI hl;have HS:=qI hs;have Md:=qI hS;have Me:=qI hr;have HT:=qI ht;have H:=qI h;have HC:=qI (vZ (bc hr));have ae:l.length≤50000000:=Ws;have r:∀ x:Int,v.kind=x→Hid (ZP b w.heap.size (w.heap.size+1) [.int .i64 x,.int .i64 v.num,.string v.s,.slice a v.l.length c,.slice d v.m.length e] C):=fun x hx=>qI (by rw [← hx];exact U.o);clear h hS hr hs ht hb hl;rcases HC.o with ⟨q,-⟩ | ⟨q,k2,-⟩ | ⟨q,k2,-⟩ | ⟨q,k2,k3,-⟩ | ⟨q,-⟩ | ⟨q,-⟩
  ·have E:=qI (write_1 q);clear U HC r;rw [q] at F ⊢;clear q;go_enter func148,ntmps148;go_wp2_with fail;rw [← F.o];refine (vz xC Z.o Ws ⟨#[110,117,108,108]⟩ Wo).mono ?_;rintro L w2 ⟨rfl,B,D⟩;go_wp2_with fail;go_end0;exact⟨rfl,by rw [E.o];exact B,(zY.of0 Ga.o).trans D⟩
  ·have E:=qI (write_2 q);have Q:=r 2 q;have ag:0≤v.num∧v.num≤1:=Ws;clear U HC r;rw [q] at F ⊢;clear q k2;have c2:=za (o:=0) (v:=.pointer (some ⟨b,0,none⟩)) Q.o.ptr rfl;have c3:=za (o:=1) (v:=.int .i64 v.num) Q.o.val rfl;go_enter func148,ntmps148;go_wp2_with fail;rw [← F.o];generalize v.num=num at *;refine zu (n:=8) (fun w':World=>w'.cell? ⟨w.heap.size,0,none⟩=some (.pointer (some ⟨b,0,none⟩))∧w'.cell? ⟨w.heap.size+1,1,none⟩=some (.int .i64 num)) 8 Wr Wr ?_;change zT _ _ _ _ _ _ _ _ _ C.drew;have f:(fun w':World=>w'.cell? ⟨w.heap.size,0,none⟩=some (.pointer (some ⟨b,0,none⟩))∧w'.cell? ⟨w.heap.size+1,1,none⟩=some (.int .i64 num)) C.drew:=⟨c2,c3⟩;have N:Hid (zb [] C C.drew):=qI Wd.drew;clear c2 c3;revert f N;generalize C.drew=WD;intro f N;refine zF ?_;intro O R u hR;have j:jA R:=by subst hR;exact fun _ _ _ _ _ h=>h
   refine qT 0 ?_ u rfl rfl Wr j (fun w i=>?_) f ?_;rotate_left;·obtain⟨M,P⟩:=i;exact zg
   try simp only [XI]
   refine qT 1 ?_ u rfl rfl Wr j (fun w i=>?_) f ?_;rotate_left;·obtain⟨M,P⟩:=i;exact zg
   try simp only [XI]
   refine qT 2 ?_ u rfl rfl Wr j (fun w i=>?_) f ?_;rotate_left;·obtain⟨M,P⟩:=i;exact zg
   try simp only [XI]
   refine qT 3 ?_ u rfl rfl Wr j (fun w i=>?_) f ?_;rotate_left;·obtain⟨M,P⟩:=i;exact zg
   try simp only [XI]
   refine qT 4 ?_ u rfl rfl Wr j (fun w i=>?_) f ?_;rotate_left;·obtain⟨M,P⟩:=i;exact zg
   try simp only [XI]
   refine qT 5 ?_ u rfl rfl Wr j (fun w i=>?_) f ?_;rotate_left;·obtain⟨M,P⟩:=i;exact zg
   try simp only [XI]
   refine qO 6 u rfl Wr (fun K G=>?_);go_simp;refine Calls.mono (libFormatBool (num == 1) WD) ?_;rintro L w3 ⟨rfl,rfl⟩;refine G _ _ (.inr f) ?_;clear G K;try simp only [XI]
   refine qO 7 u rfl Wr (fun K G=>?_);go_simp;refine Calls.mono (vz xC (Z.o.stay N.o) Ws (zw (Lib.formatBool (num == 1))) (by rw [zZ];cases (num == 1) <;> decide +kernel)) ?_;rintro e2 w4 ⟨rfl,z,y⟩;rw [zJ,← E.o] at z;have Jj:=qI z;have Jk:=qI (((zY.of0 Ga.o).trans (zY.of0 N.o)).trans y);have A:=Q.o.kept t.o.1 t.o.2 ((zY.of0 N.o:zY b _ _).trans y);have aa:(fun w':World=>w'.cell? ⟨w.heap.size,0,none⟩=some (.pointer (some ⟨b,0,none⟩))∧w'.cell? ⟨w.heap.size+1,1,none⟩=some (.int .i64 num)) w4:=⟨za (o:=0) (v:=.pointer (some ⟨b,0,none⟩)) A.ptr rfl,za (o:=1) (v:=.int .i64 num) A.val rfl⟩;clear z y A;refine G _ _ (.inr aa) ?_;clear G K;try simp only [XI]
   refine zE u Wr ?_ _;subst hR;try clear j u O
   go_wp2_with fail;go_end0;exact⟨rfl,Jj.o,Jk.o⟩
  ·have E:=qI (write_3 q);have Q:=r 3 q;have Ji:Hid ((Lib.itoa v.num).length≤21):=qI (itoa_len v.num k2);have Ml:Hid (xS C):=qI (HT.o.at Z.o.kept);clear U HC r;rw [q] at F ⊢;clear q;have c2:=za (o:=0) (v:=.pointer (some ⟨b,0,none⟩)) Q.o.ptr rfl;have c3:=za (o:=1) (v:=.int .i64 v.num) Q.o.val rfl;go_enter func148,ntmps148;go_wp2_with fail;rw [← F.o];generalize v.num=num at *;refine zu (n:=7) (fun w':World=>w'.cell? ⟨w.heap.size,0,none⟩=some (.pointer (some ⟨b,0,none⟩))∧w'.cell? ⟨w.heap.size+1,1,none⟩=some (.int .i64 num)) 7 Wr Wr ?_;change zT _ _ _ _ _ _ _ _ _ C.drew;have f:(fun w':World=>w'.cell? ⟨w.heap.size,0,none⟩=some (.pointer (some ⟨b,0,none⟩))∧w'.cell? ⟨w.heap.size+1,1,none⟩=some (.int .i64 num)) C.drew:=⟨c2,c3⟩;have N:Hid (zb [] C C.drew):=qI Wd.drew;clear c2 c3;revert f N;generalize C.drew=WD;intro f N;refine zF ?_;intro O R u hR;have j:jA R:=by subst hR;exact fun _ _ _ _ _ h=>h
   refine qT 0 ?_ u rfl rfl Wr j (fun w i=>?_) f ?_;rotate_left;·obtain⟨M,P⟩:=i;exact zg
   try simp only [XI]
   refine qT 1 ?_ u rfl rfl Wr j (fun w i=>?_) f ?_;rotate_left;·obtain⟨M,P⟩:=i;exact zg
   try simp only [XI]
   refine qT 2 ?_ u rfl rfl Wr j (fun w i=>?_) f ?_;rotate_left;·obtain⟨M,P⟩:=i;exact zg
   try simp only [XI]
   refine qT 3 ?_ u rfl rfl Wr j (fun w i=>?_) f ?_;rotate_left;·obtain⟨M,P⟩:=i;exact zg
   try simp only [XI]
   refine qT 4 ?_ u rfl rfl Wr j (fun w i=>?_) f ?_;rotate_left;·obtain⟨M,P⟩:=i;exact zg
   try simp only [XI]
   refine qO 5 u rfl Wr (fun K G=>?_);go_simp;refine Calls.mono (libItoa (Ml.o.k0 N.o) num Ws Ws) ?_;rintro L w3 ⟨rfl,X⟩;have Ge:=qI (N.o.then X);have Y:(fun w':World=>w'.cell? ⟨w.heap.size,0,none⟩=some (.pointer (some ⟨b,0,none⟩))∧w'.cell? ⟨w.heap.size+1,1,none⟩=some (.int .i64 num)) w3:=⟨X.cell f.1 Wz,X.cell f.2 Wz⟩;clear X;refine G _ _ (.inr Y) ?_;clear G K;try simp only [XI]
   clear f;have f:=Y;clear Y;refine qO 6 u rfl Wr (fun K G=>?_);go_simp;refine Calls.mono (vz xC (Z.o.stay Ge.o) Ws (zw (Lib.itoa num)) (by rw [zZ];have:=Ji.o;omega)) ?_;rintro e2 w4 ⟨rfl,z,y⟩;rw [zJ,← E.o] at z;have Jj:=qI z;have Jk:=qI (((zY.of0 Ga.o).trans (zY.of0 Ge.o)).trans y);have A:=Q.o.kept t.o.1 t.o.2 ((zY.of0 Ge.o:zY b _ _).trans y);have aa:(fun w':World=>w'.cell? ⟨w.heap.size,0,none⟩=some (.pointer (some ⟨b,0,none⟩))∧w'.cell? ⟨w.heap.size+1,1,none⟩=some (.int .i64 num)) w4:=⟨za (o:=0) (v:=.pointer (some ⟨b,0,none⟩)) A.ptr rfl,za (o:=1) (v:=.int .i64 num) A.val rfl⟩;clear z y A;refine G _ _ (.inr aa) ?_;clear G K;try simp only [XI]
   refine zE u Wr ?_ _;subst hR;try clear j u O
   go_wp2_with fail;go_end0;exact⟨rfl,Jj.o,Jk.o⟩
  ·have E:=qI (write_4 q);have af:v.s.size≤400000:=by
    have h1:=HS.o.2;have h2:v.s.size≤zW (n+1) v:=by show _≤v.s.size+v.keyBytes+_;omega
    omega
   clear U HC r;rw [q] at F ⊢;clear q k2;go_enter func148,ntmps148;go_wp2_with fail;rw [← F.o];refine (zbV Z.o HT.o Ws v.s Ws k3).mono ?_;rintro L w2 ⟨rfl,B,D⟩;go_wp2_with fail;go_end0;exact⟨rfl,by rw [E.o];exact B,(zY.of0 Ga.o).trans D⟩
  ·have E:=qI (write_5 q);have Q:=r 5 q
   have CB:=qI (between1_list (n:=v.l.length) (b2:=w.heap.size) (b3:=w.heap.size+1) (it:=fun k=>(v.l.map (zr n)).getD k []) (J:=ZP b w.heap.size (w.heap.size+1) [.int .i64 v.kind,.int .i64 v.num,.string v.s,.slice a v.l.length c,.slice d v.m.length e])
    (fun _ _ h k=>h.kept t.o.1 t.o.2 k) (fun k w1 l1 hk hc ad I=>by
     have L:(v.l.map (zr n)).getD k []=zr n v.l[k]:=by simp [hk]
     have ah:(zr n v.l[k]).length+1≤(zr (n+1) v).length:=by rw [E.o];have h1:=KO (fun k=>(v.l.map (zr n)).getD k []) k;have h2:=K5 (fun k=>(v.l.map (zr n)).getD k []) (show k+1≤v.l.length from hk);simp only [L] at h1;simp only [XP,XM];omega
     simp only [L] at I ⊢;exact put1_any IH.o H.o Md.o Me.o HS.o HT.o t.o hc ad hk I) U.o Z.o (XC HS.o.few) (by
     have:=HL.o;rw [E.o] at this;simp only [XP,XM] at this;omega))
   clear U HC r;rw [q] at F ⊢;clear q;go_enter func148,ntmps148;go_wp2_with fail;rw [← F.o];refine CB.o.mono ?_;rintro L w2 ⟨rfl,B,D⟩;go_wp2_with fail;go_end0;exact⟨rfl,by rw [E.o];exact B,(zY.of0 Ga.o).trans D⟩
  ·have E:=qI (write_6 q);have Q:=r 6 q
   have CB:=qI (between2_map (n:=v.m.length) (b2:=w.heap.size) (b3:=w.heap.size+1) (it:=fun k=>(v.m.map (fun p=>yJ p.1.data.toList++(58::zr n p.2))).getD k []) (J:=ZP b w.heap.size (w.heap.size+1) [.int .i64 v.kind,.int .i64 v.num,.string v.s,.slice a v.l.length c,.slice d v.m.length e])
    (fun _ _ h k=>h.kept t.o.1 t.o.2 k) (fun k w1 l1 hk hc ad I=>by
     have L:(v.m.map (fun p=>yJ p.1.data.toList++(58::zr n p.2))).getD k []=yJ v.m[k].1.data.toList++(58::zr n v.m[k].2):=by simp [hk]
     simp only [L] at I ⊢;exact put2_any IH.o H.o Md.o Me.o HS.o HT.o q t.o hc ad hk I) U.o Z.o (XC HS.o.few) (by
     have:=HL.o;rw [E.o] at this;simp only [XP,XM] at this;omega))
   clear U HC r;rw [q] at F ⊢;clear q;go_enter func148,ntmps148;go_wp2_with fail;rw [← F.o];refine CB.o.mono ?_;rintro L w2 ⟨rfl,B,D⟩;go_wp2_with fail;go_end0;exact⟨rfl,by rw [E.o];exact B,(zY.of0 Ga.o).trans D⟩
theorem put_any:∀ (n:Nat),Qk n
 | 0=>fun v=>nomatch v
 | n+1=>put_any_step (put_any n)
theorem str_bytes (w:World)(s:ByteArray)(k:s.size≤281474976710656):∃ a n c w',(convert 9 32 (.string s)).run prog w = .ok (.slice a n c) w'∧n=s.data.toList.length∧zm w' (.slice a n c) s.data.toList∧zb [] w w':=by
 refine⟨_,_,_,_,run_bytes_of_string w 9 32 5 s underlying9 underlying32 underlying5,Wz,?_,?_⟩
 ·have e:s.data.toList.length=s.size:=by simp
  refine⟨Wz,.inr (.inr ⟨w.heap.size,0,_,by rw [e],by rw [e];exact grownCap_ge _ _ _ _,grownCap_le_maxLen _ _ _ _ (by simp only [maxLen];omega),⟨?_,?_⟩⟩)⟩
  ·intro j u f;rw [Xs,ud] at f;obtain⟨b,i,rfl⟩:=f;obtain⟨h,rfl⟩:=X6.1 i;have d:j<s.data.size:=by simpa using h
   rw [Xd];refine za (heap_alloc_new _ _) ?_;rw [bytesRow_at s _ j d];simp [bv]
  ·show w.heap.size<(w.drew.alloc _).heap.size;simp
 ·exact (zb.refl [] w).drew.alloc _
theorem write_ne {n:Nat}{v:VS (V n)}(h:zn (n+1) v=true):zr (n+1) v≠[]:=by
 rcases vZ (bc h) with k | k | k | k | k | k;·rw [write_1 k.1];simp
 ·rw [write_2 k.1];cases (v.num == 1);·rw [fb_false];simp
  ·rw [fb_true];simp
 ·rw [write_3 k.1];obtain⟨d,t,e,-⟩:=zae v.num;rw [e];simp
 ·rw [write_4 k.1];simp [yJ]
 ·rw [write_5 k.1];simp
 ·rw [write_6 k.1];simp
theorem write_ne' {n:Nat}{v:V n}(h:zn n v=true):zr n v≠[]:=by
 match n,v,h with
 | 0,v,_=>exact nomatch v
 | n+1,v,h=>exact write_ne h
theorem zbc {n:Nat}{v:V n}(h:zP n v):zP n (zK n v):=⟨by rw [Z4];exact h.1,by rw [Kq];exact h.2⟩
theorem write_small {n:Nat}{v:V n}(h:zn n v=true)(a:zP n v):(zr n v).length≤3000000:=by
 have b:=QG n v h;obtain⟨h2,h3⟩:=a;omega
theorem text_any {n:Nat}{v:V n}{S:Nat→Prop}{w:World}{cs:List Value}(h:Rep n S w cs v)(r:zP n v)(M:n≤100)(m:xS w)(hc:zV n v=0) : zG w 101 #[.agg cs.toArray] (.string (zw (zr n (zK n v)))):=by
 obtain⟨kd,C,st,a,J,z,b,K,B,rfl⟩:=h.conv;obtain⟨q,l⟩:=XE ((w.alloc (.cells #[.int .i64 kd,.int .i64 C,.string st,.slice a J z,.slice b K B] 25)).alloc (.cells #[.pointer none,.slice none 0 0] 189));have F:Hid (q.heap.size=w.heap.size+2):=qI (by rw [l.o];simp);have k:Hid (zb [] w q):=qI (kA2 l.o);have N:Hid (q.heap[w.heap.size+1]? = some (.cells #[.pointer none,.slice none 0 0] 189 (0,0))):=qI (by
  rw [l.o];exact zd Wz)
 have y:=qI (Sorted_any (h.k0 k.o) r M (m.k0 k.o) hc);have D:=qI m;have x:=qI (zbc r);have p:Hid (zn n (zK n v)=true):=qI (by rw [YC];exact bT hc);have t:=qI (write_small p.o x.o);have A:=qI (write_ne' p.o);clear h r m hc;go_enter func101,ntmps101;go_wp2_with fail;rw [← l.o];refine y.o.mono ?_;rintro e w1 ⟨⟨G,rfl,f⟩,d⟩;have L:Hid (BW 189 w1 (w.heap.size+1) w1 []):=qI (BW.new (d.heap N.o Wz));have H:=qI (put_any n (zK n v) (f.rep.k0 (zb.refl [] w1)) (fun g O=>by have:=F.o;omega) p.o x.o ⟨w,D.o,k.o.then d,Nat.le_succ _⟩ L.o (by have:=t.o;simp only [Xo];omega));have E:=qI (k.o.then d);clear f d;go_wp2_with fail;refine H.o.mono ?_;rintro e w2 ⟨rfl,j,-⟩;rw [X8] at j;have I:=qI j;clear j;go_wp2_with (go_at_call 100;refine (bX I.o (XC t.o) A.o).mono ?_;rintro e P ⟨rfl,s,-⟩);go_ret;exact⟨rfl,E.o.trans s (by intro i u;simp at u;subst u;exact .inr (Nat.le_succ _))⟩
theorem encV_bad {n:Nat}{v:V n}(h:zV n v≠0):xV n v=([],zV n v):=XK h
theorem encV_long {n:Nat}{v:V n}(h:zV n v=0)(a:262144<(zr n (zK n v)).length):xV n v=([],3):=by
 unfold xV;rw [XJ (by simp [h]),XK a]
theorem encV_fine {n:Nat}{v:V n}(h:zV n v=0)(a:(zr n (zK n v)).length≤262144):xV n v=(zr n (zK n v),0):=by
 unfold xV;rw [XJ (by simp [h]),XJ Ws]
theorem Z0 {n:Nat}{v:V n}{S:Nat→Prop}{w:World}{cs:List Value}(h:Rep n S w cs v)(D:zP n v)(M:n≤100)(z:xS w) : Calls prog 56 #[.agg cs.toArray] w fun e w'=>(∃ a c,e = .returned (.tuple #[.slice a (xV n v).1.length c,.int .i64 (xV n v).2])∧zm w' (.slice a (xV n v).1.length c) (xV n v).1)∧zb [] w w':=by
 obtain⟨kd,I,st,a,K,G,b,L,H,rfl⟩:=h.conv;obtain⟨y,t⟩:=XE (w.alloc (.cells #[.int .i64 kd,.int .i64 I,.string st,.slice a K G,.slice b L H] 25));have l:Hid (zb [] w y):=qI (kA1 t.o);have J:Hid (yA y w.heap.size kd I st (.slice a K G) (.slice b L H)):=qI (by rw [t.o];exact xr _ _ _ _ _ _ _);have C:=qI (ZB (h.k0 l.o) D M (z.k0 l.o));have N:Hid (∀ w1,zb [] y w1→zV n v=0→_):=qI (fun w1 (k:zb [] y w1) (hc:zV n v=0)=>text_any ((h.k0 l.o).k0 k) D M ((z.k0 l.o).k0 k) hc);clear h D z;by_cases hc:zV n v=0;rotate_left;·have u:=qI (encV_bad hc);have U:Hid (zV n v≠0):=qI hc;obtain⟨R,W⟩:=zq hc;clear hc;go_enter func56,ntmps56;go_wp2_with fail;rw [← t.o];refine C.o.mono ?_;rintro e w1 ⟨rfl,d⟩;go_wp2;go_ret2;rw [u.o];exact⟨⟨_,_,rfl,xt _ _⟩,l.o.then d⟩
 have p:=qI hc;clear hc;by_cases F:262144<(zr n (zK n v)).length;·have u:=qI (encV_long p.o F);have A:(262144:Int)<(zr n (zK n v)).length:=Ws;go_enter func56,ntmps56;go_wp2_with fail;rw [← t.o];refine C.o.mono ?_;rintro e w1 ⟨rfl,d⟩;rw [p.o];obtain⟨c0,c1,c2,c3,c4⟩:=J.o.k0 d;have r:=qI d;have x:Hid ((zw (zr n (zK n v))).size=(zr n (zK n v)).length):=qI (zZ _);clear d;go_wp2_with fail;refine (N.o _ r.o p.o).mono ?_;rintro e w2 ⟨rfl,i⟩;have B:=qI i;have f:=x.o;revert f;generalize zw (zr n (zK n v))=T;intro f;have E:(262144:Int)<T.size:=Ws;clear f i c0 c1 c2 c3 c4 F A;go_wp2;go_ret2;rw [u.o];exact⟨⟨_,_,rfl,xt _ _⟩,(l.o.then r.o).then B.o⟩
 ·have u:=qI (encV_fine p.o Ws);go_enter func56,ntmps56;go_wp2_with fail;rw [← t.o];refine C.o.mono ?_;rintro e w1 ⟨rfl,d⟩;rw [p.o];obtain⟨c0,c1,c2,c3,c4⟩:=J.o.k0 d;have r:=qI d;have x:Hid ((zw (zr n (zK n v))).size=(zr n (zK n v)).length∧(zw (zr n (zK n v))).data.toList=zr n (zK n v)):=qI ⟨zZ _,zJ _⟩;clear d;go_wp2_with fail;refine (N.o _ r.o p.o).mono ?_;rintro e w2 ⟨rfl,i⟩;have B:=qI i;have f:=x.o.1;obtain⟨a2,X,P,Y,j,q,m,s⟩:=str_bytes w2 (zw (zr n (zK n v))) Ws;rw [x.o.2] at q m;subst q;have O:=qI m;have Q:=qI s;revert f j;generalize zw (zr n (zK n v))=T;intro f j;have E:(T.size:Int)≤262144:=Ws;clear f i s m c0 c1 c2 c3 c4 F;go_wp2;go_ret2;rw [u.o];exact⟨⟨_,_,rfl,O.o⟩,((l.o.then r.o).then B.o).then Q.o⟩
def yR (k n:Int)(s:ByteArray):Array Value:=#[.int .i64 k,.int .i64 n,.string s,.slice none 0 0,.slice none 0 0]
theorem vint_any (n:Int)(w:World):zG w 143 #[.int .i64 n] (.agg (yR 3 n ⟨#[]⟩)):=by
 go_enter func143,ntmps143;go_wp2;exact bodyPost_ret (v:=.agg (yR 3 n ⟨#[]⟩)) (by simp [results,results143,go_sem,yR]) rfl ⟨rfl,Wd.alloc _⟩
theorem vtext_any (s:ByteArray)(w:World):zG w 55 #[.string s] (.agg (yR 4 0 s)):=by
 go_enter func55,ntmps55;go_wp2;exact bodyPost_ret (v:=.agg (yR 4 0 s)) (by simp [results,results55,go_sem,yR]) rfl ⟨rfl,Wd.alloc _⟩
theorem vnull_any (w:World):zG w 219 #[] (.agg (yR 1 0 ⟨#[]⟩)):=by
 go_enter func219,ntmps219;go_wp2;exact bodyPost_ret (v:=.agg (yR 1 0 ⟨#[]⟩)) (by simp [results,results219,go_sem,yR]) rfl ⟨rfl,Wd.alloc _⟩
theorem vbool_any (b:Bool)(w:World):zG w 220 #[.bool b] (.agg (yR 2 (if b then 1 else 0) ⟨#[]⟩)):=by
 cases b
 ·go_enter func220,ntmps220;go_wp2;exact bodyPost_ret (v:=.agg (yR 2 0 ⟨#[]⟩)) (by simp [results,results220,go_sem,yR]) rfl ⟨rfl,Wd.alloc _⟩
 ·go_enter func220,ntmps220;go_wp2;exact bodyPost_ret (v:=.agg (yR 2 1 ⟨#[]⟩)) (by simp [results,results220,go_sem,yR]) rfl ⟨rfl,Wd.alloc _⟩
def zeroA:Array Value:=#[.int .i64 0,.int .i64 0,.string ⟨#[]⟩,.slice none 0 0,.slice none 0 0]
def xX (w:World)(r:Nat):Prop:=w.heap[r]? = some (.cells zeroA 25 (0,0))
theorem xX.kept {w:World}(h:xX w r)(k:zb X w w')(a:r ∉ X):xX w' r:=k.heap h a
theorem xX.facts {w:World}(h:xX w r):(w.cell? ⟨r,0,none⟩=some (.int .i64 0)∧w.cell? ⟨r,1,none⟩=some (.int .i64 0)∧w.cell? ⟨r,2,none⟩=some (.string ⟨#[]⟩)∧w.cell? ⟨r,3,none⟩=some (.slice none 0 0)∧w.cell? ⟨r,4,none⟩=some (.slice none 0 0))∧w.frozen? ⟨r,0,none⟩=false∧w.frozen? ⟨r,1,none⟩=false∧w.frozen? ⟨r,2,none⟩=false∧w.frozen? ⟨r,3,none⟩=false∧w.frozen? ⟨r,4,none⟩=false:=by
 unfold xX zeroA at h;exact⟨⟨za (o:=0) h rfl,za (o:=1) h rfl,za (o:=2) h rfl,za (o:=3) h rfl,za (o:=4) h rfl⟩,zh h,zh h,zh h,zh h,zh h⟩
theorem xX.stored {w:World}{b2 b3:Value}(h:xX w r)(e:WF=yf w r b0 b1 b2 b3 b4) : zb [r] w WF∧WF.cell? ⟨r,0,none⟩=some b0∧WF.cell? ⟨r,1,none⟩=some b1∧WF.cell? ⟨r,2,none⟩=some b2∧WF.cell? ⟨r,3,none⟩=some b3∧WF.cell? ⟨r,4,none⟩=some b4:=by
 obtain⟨k,a⟩:=Ky h e;exact⟨k,za (o:=0) a rfl,za (o:=1) a rfl,za (o:=2) a rfl,za (o:=3) a rfl,za (o:=4) a rfl⟩
theorem xT (w:World):xX (w.alloc (.cells #[.int .i64 0,.int .i64 0,.string ⟨#[]⟩,.slice none 0 0,.slice none 0 0] 25)) w.heap.size:=zd rfl
def qd (r:List UInt8):Option (Int×Int):=if kE.isPrefixOf r=true then some (1,0) else if kA.isPrefixOf r=true then some (2,1) else if xO.isPrefixOf r=true then some (2,0) else none
def kU (r:List UInt8)(e:Ending):Prop:=
 match qd r with
 | some (k,n)=>e = .returned (.tuple #[.agg (yR k n ⟨#[]⟩),.bool true])
 | none=>e = .returned (.tuple #[.agg (yR 0 0 ⟨#[]⟩),.bool false])
section
variable {w : World} {p B : Nat} {S : ByteArray} {x : PX}
theorem Zs {r:List UInt8}{c:Nat}(h:PS w p S B (.inr (r,c)))(a:S.size≤262144) : Calls prog 75 #[.pointer (some ⟨p,0,none⟩)] w fun e w'=>e = .returned (.string (zw r))∧zb [] w w':=jz h a
theorem JR {r:List UInt8}{c:Nat}(h:PS w p S B (.inr (r,c)))(hS:S.size≤262144) : Calls prog 173 #[.pointer (some ⟨p,0,none⟩)] w fun e w'=>kU r e∧zb [] w w':=by
 obtain⟨Z,E⟩:=XE (w.alloc (.cells #[.int .i64 0,.int .i64 0,.string ⟨#[]⟩,.slice none 0 0,.slice none 0 0] 25));have G:Hid (zb [] w Z):=qI (kA1 E.o);have m:Hid (xX Z w.heap.size):=qI (by rw [E.o];exact xT w);have J:=qI (Zs (h.k0 G.o) hS);have q:Hid (∀ w',_):=qI (fun w'=>kS (zw r) ⟨#[110,117,108,108]⟩ w');have F:Hid (∀ w',_):=qI (fun w'=>kS (zw r) ⟨#[116,114,117,101]⟩ w');have I:Hid (∀ w',_):=qI (fun w'=>kS (zw r) ⟨#[102,97,108,115,101]⟩ w');rw [zJ,show (⟨#[110,117,108,108]⟩:ByteArray).data.toList=kE from rfl] at q;rw [zJ,show (⟨#[116,114,117,101]⟩:ByteArray).data.toList=kA from rfl] at F;rw [zJ,show (⟨#[102,97,108,115,101]⟩:ByteArray).data.toList=xO from rfl] at I;have K:Hid (qd r=if kE.isPrefixOf r=true then some (1,0) else if kA.isPrefixOf r=true then some (2,1) else if xO.isPrefixOf r=true then some (2,0) else none):=qI rfl;have P:Hid (∀ k n e,qd r=some (k,n)→e = .returned (.tuple #[.agg (yR k n ⟨#[]⟩),.bool true])→kU r e):=qI (fun k n e h Q=>by unfold kU;rw [h];exact Q);have Mo:Hid (∀ e,qd r=none→e = .returned (.tuple #[.agg (yR 0 0 ⟨#[]⟩),.bool false])→kU r e):=qI (fun e h Q=>by unfold kU;rw [h];exact Q);clear h;cases l:kE.isPrefixOf r with
 | true=>have D:Hid (qd r=some (1,0)):=qI (by rw [K.o,l];rfl);rw [l] at q;clear l;go_enter func173,ntmps173;go_wp2_with fail;rw [← E.o];refine J.o.mono ?_;rintro e w1 ⟨rfl,a⟩;have x:=qI a;clear a;go_wp2_with fail;refine (q.o _).mono ?_;rintro e w2 ⟨rfl,rfl⟩;go_wp2_with fail;refine (vnull_any _).mono ?_;rintro e H ⟨rfl,d⟩;unfold yR;have f:=qI (x.o.then d);clear d;obtain⟨⟨Y,L,U,R,M⟩,X,N,W,O,f4⟩:=(m.o.kept f.o Wz).facts;go_wp2_with fail;obtain⟨WF,e⟩:=XF (yf H w.heap.size (.int .i64 1) (.int .i64 0) (.string ⟨#[]⟩) (.slice none 0 0) (.slice none 0 0));obtain⟨A,u,s,C,y,t⟩:=(m.o.kept f.o Wz).stored e;unfold yf at e;rw [← e];exact bodyPost_ret (v:=.tuple #[.agg #[.int .i64 1,.int .i64 0,.string ⟨#[]⟩,.slice none 0 0,.slice none 0 0],.bool true]) (by simp [results,results173,go_sem,u,s,C,y,t]) rfl ⟨P.o _ _ _ D.o rfl,(G.o.then f.o).trans A (fun i z=>by simp at z;exact .inr Ws)⟩
 | false=>
 rw [l] at q;cases b:kA.isPrefixOf r with
 | true=>have D:Hid (qd r=some (2,1)):=qI (by rw [K.o,l,b];rfl);rw [b] at F;clear l b;go_enter func173,ntmps173;go_wp2_with fail;rw [← E.o];refine J.o.mono ?_;rintro e w1 ⟨rfl,a⟩;have x:=qI a;clear a;go_wp2_with fail;refine (q.o _).mono ?_;rintro e w2 ⟨rfl,rfl⟩;go_wp2_with fail;refine (F.o _).mono ?_;rintro e w2 ⟨rfl,rfl⟩;go_wp2_with fail;refine (vbool_any true _).mono ?_;rintro e H ⟨rfl,d⟩;rw [show yR 2 (if true=true then 1 else 0) ⟨#[]⟩=yR 2 1 ⟨#[]⟩ from rfl];unfold yR;have f:=qI (x.o.then d);clear d;obtain⟨⟨Y,L,U,R,M⟩,X,N,W,O,f4⟩:=(m.o.kept f.o Wz).facts;go_wp2_with fail;obtain⟨WF,e⟩:=XF (yf H w.heap.size (.int .i64 2) (.int .i64 1) (.string ⟨#[]⟩) (.slice none 0 0) (.slice none 0 0));obtain⟨A,u,s,C,y,t⟩:=(m.o.kept f.o Wz).stored e;unfold yf at e;rw [← e];exact bodyPost_ret (v:=.tuple #[.agg #[.int .i64 2,.int .i64 1,.string ⟨#[]⟩,.slice none 0 0,.slice none 0 0],.bool true]) (by simp [results,results173,go_sem,u,s,C,y,t]) rfl ⟨P.o _ _ _ D.o rfl,(G.o.then f.o).trans A (fun i z=>by simp at z;exact .inr Ws)⟩
 | false=>
 rw [b] at F;cases j:xO.isPrefixOf r with
 | true=>have D:Hid (qd r=some (2,0)):=qI (by rw [K.o,l,b,j];rfl);rw [j] at I;clear l b j;go_enter func173,ntmps173;go_wp2_with fail;rw [← E.o];refine J.o.mono ?_;rintro e w1 ⟨rfl,a⟩;have x:=qI a;clear a;go_wp2_with fail;refine (q.o _).mono ?_;rintro e w2 ⟨rfl,rfl⟩;go_wp2_with fail;refine (F.o _).mono ?_;rintro e w2 ⟨rfl,rfl⟩;go_wp2_with fail;refine (I.o _).mono ?_;rintro e w2 ⟨rfl,rfl⟩;go_wp2_with fail;refine (vbool_any false _).mono ?_;rintro e H ⟨rfl,d⟩;rw [show yR 2 (if false=true then 1 else 0) ⟨#[]⟩=yR 2 0 ⟨#[]⟩ from rfl];unfold yR;have f:=qI (x.o.then d);clear d;obtain⟨⟨Y,L,U,R,M⟩,X,N,W,O,f4⟩:=(m.o.kept f.o Wz).facts;go_wp2_with fail;obtain⟨WF,e⟩:=XF (yf H w.heap.size (.int .i64 2) (.int .i64 0) (.string ⟨#[]⟩) (.slice none 0 0) (.slice none 0 0));obtain⟨A,u,s,C,y,t⟩:=(m.o.kept f.o Wz).stored e;unfold yf at e;rw [← e];exact bodyPost_ret (v:=.tuple #[.agg #[.int .i64 2,.int .i64 0,.string ⟨#[]⟩,.slice none 0 0,.slice none 0 0],.bool true]) (by simp [results,results173,go_sem,u,s,C,y,t]) rfl ⟨P.o _ _ _ D.o rfl,(G.o.then f.o).trans A (fun i z=>by simp at z;exact .inr Ws)⟩
 | false=>have D:Hid (qd r=none):=qI (by rw [K.o,l,b,j];rfl);rw [j] at I;clear l b j;go_enter func173,ntmps173;go_wp2_with fail;rw [← E.o];refine J.o.mono ?_;rintro e w1 ⟨rfl,a⟩;have x:=qI a;clear a;go_wp2_with fail;refine (q.o _).mono ?_;rintro e w2 ⟨rfl,rfl⟩;go_wp2_with fail;refine (F.o _).mono ?_;rintro e w2 ⟨rfl,rfl⟩;go_wp2_with fail;refine (I.o _).mono ?_;rintro e w2 ⟨rfl,rfl⟩;have f:=qI x.o;obtain⟨⟨Y,L,U,R,M⟩,X,N,W,O,f4⟩:=(m.o.kept f.o Wz).facts;go_wp2_with fail;obtain⟨WF,e⟩:=XF (yf w1 w.heap.size (.int .i64 0) (.int .i64 0) (.string ⟨#[]⟩) (.slice none 0 0) (.slice none 0 0));obtain⟨A,u,s,C,y,t⟩:=(m.o.kept f.o Wz).stored e;unfold yf at e;rw [← e];exact bodyPost_ret (v:=.tuple #[.agg #[.int .i64 0,.int .i64 0,.string ⟨#[]⟩,.slice none 0 0,.slice none 0 0],.bool false]) (by simp [results,results173,go_sem,u,s,C,y,t]) rfl ⟨Mo.o _ D.o rfl,(G.o.then f.o).trans A (fun i z=>by simp at z;exact .inr Ws)⟩
end
theorem pletters_any (k n:Int)(a:(k=1∧n=0)∨(k=2∧n=1)∨(k=2∧n=0))(w:World) : zG w 174 #[.agg #[.int .i64 k,.int .i64 n,.string ⟨#[]⟩,.slice none 0 0,.slice none 0 0]] (.int .i64 (if k=2∧n=0 then 5 else 4)):=by
 rcases a with ⟨rfl,rfl⟩ | ⟨rfl,rfl⟩ | ⟨rfl,rfl⟩;·go_enter func174,ntmps174;go_wp2;go_ret;exact⟨rfl,Wd.alloc _⟩
 ·go_enter func174,ntmps174;go_wp2;go_ret;exact⟨rfl,Wd.alloc _⟩
 ·go_enter func174,ntmps174;go_wp2;go_ret;exact⟨rfl,Wd.alloc _⟩
theorem word_begins (r:List UInt8):yu r=((qd r).isSome || jI r [34,91,123,45,48,49,50,51,52,53,54,55,56,57]):=by
 unfold yu qd;cases kE.isPrefixOf r <;> cases kA.isPrefixOf r <;> cases xO.isPrefixOf r <;> rfl
section
variable {w : World} {p B : Nat} {S : ByteArray} {x : PX}
theorem bU {r:List UInt8}{c:Nat}(h:PS w p S B (.inr (r,c)))(x:S.size≤262144) : zG w 124 #[.pointer (some ⟨p,0,none⟩)] (.bool (yu r)):=by
 have E:=qI (JR h x);have H:=qI h;have C:=qI (word_begins r);clear h;cases m:qd r with
 | some q=>obtain⟨k,n⟩:=q;have u:Hid (yu r=true):=qI (by rw [C.o,m];rfl);have y:=qI m;clear m;go_enter func124,ntmps124;go_wp2_with fail;refine E.o.mono ?_;rintro e w1 ⟨f,b⟩;unfold kU at f;rw [y.o] at f;subst f;unfold yR;have i:=qI b;clear b;go_wp2_with fail;refine (Zs (H.o.k0 (i.o.alloc _)) x).mono ?_;rintro e w2 ⟨rfl,d⟩;go_wp2;go_ret;rw [u.o];exact⟨rfl,(i.o.alloc _).then d⟩
 | none=>
  rw [m] at C;have y:=qI m;clear m;cases r with
  | nil=>have u:Hid (yu []=false):=qI rfl;go_enter func124,ntmps124;go_wp2_with fail;refine E.o.mono ?_;rintro e w1 ⟨f,b⟩;unfold kU at f;rw [y.o] at f;subst f;unfold yR;have i:=qI b;clear b;go_wp2_with fail;refine (Zs (H.o.k0 (i.o.alloc _)) x).mono ?_;rintro e w2 ⟨rfl,d⟩;rw [show zw []=⟨#[]⟩ from rfl];go_wp2;go_ret;rw [u.o];exact⟨rfl,(i.o.alloc _).then d⟩
  | cons a t=>
   have u:Hid (yu (a::t)=([34,91,123,45,48,49,50,51,52,53,54,55,56,57]:List UInt8).contains a):=qI (by rw [C.o];rfl);have v:zw (a::t)≠⟨#[]⟩:=fun e=>by have G:=congrArg (fun s:ByteArray=>s.data.toList) e;simp only [zJ] at G;cases G
   obtain⟨I,K⟩:=ZK v;have l:0<(zw (a::t)).size:=by rw [zZ];simp
   have J:(zw (a::t))[0]'l=a:=rfl;have A:Hid (∀ w',_):=qI (fun w'=>vR ⟨#[34,91,123,45,48,49,50,51,52,53,54,55,56,57]⟩ (a.toNat:Int) w');rw [show ((a.toNat:Int)).toNat.toUInt8=a by simp,show (⟨#[34,91,123,45,48,49,50,51,52,53,54,55,56,57]⟩:ByteArray).data.toList=[34,91,123,45,48,49,50,51,52,53,54,55,56,57] from rfl] at A;have j:=Qi [34,91,123,45,48,49,50,51,52,53,54,55,56,57] a;have M:Hid (decide (0≤Lib.indexByte [34,91,123,45,48,49,50,51,52,53,54,55,56,57] a)=yu (a::t)):=qI (by
    rw [u.o];cases hc:([34,91,123,45,48,49,50,51,52,53,54,55,56,57]:List UInt8).contains a with
    | true=>exact XT (j.2 hc)
    | false=>exact XO (fun q=>by rw [j.1 q] at hc;cases hc))
   have D:Hid (∀ w',zb [] w w'→_):=qI (fun w' (k:zb [] w w')=>Zs (H.o.k0 k) x);rw [← M.o];clear j v u C H;revert D A I K l J;generalize Lib.indexByte [34,91,123,45,48,49,50,51,52,53,54,55,56,57] a=z;generalize zw (a::t)=T;intro I K l J A D;have F:(0:Int)<T.size:=Ws;go_enter func124,ntmps124;go_wp2_with fail;refine E.o.mono ?_;rintro e w1 ⟨f,b⟩;unfold kU at f;rw [y.o] at f;subst f;unfold yR;have i:=qI b;clear b;go_wp2_with fail;refine (D.o _ (i.o.alloc _)).mono ?_;rintro e w2 ⟨rfl,d⟩;have L:=qI ((i.o.alloc _).then d);clear d;go_wp2_with fail;refine (A.o _).mono ?_;rintro e N ⟨rfl,rfl⟩;go_wp2;go_ret;exact⟨rfl,L.o⟩
end
end Go.Proofs.YtjccecajigmfkaaGreatDoor

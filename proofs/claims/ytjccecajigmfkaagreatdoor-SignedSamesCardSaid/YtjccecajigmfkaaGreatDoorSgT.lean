/- Parts of one proof, merged: XIF XIG XIH XII XCF XCG XCH XIJ. -/
import Derived.Test.YtjccecajigmfkaaGreatDoorSgR
import Derived.Laws.Cover3
import Derived.Test.YtjccecajigmfkaaGreatDoorSgS
import Derived.Great.BuildSlice
import Derived.Great.FillDense
set_option linter.all false
set_option maxHeartbeats 12800000
set_option maxRecDepth 10000
namespace Go.Proofs.YtjccecajigmfkaaGreatDoor
open Go.Proofs.Tryz
open Go.RowKit
variable {Q:Exit→Act→World→Prop}{W:World}{a:Act}{a1 a2 a5:Option Addr}{b:Int}{c5:Nat}{h:Int}{k:yX}{op:Oper}{ops:Array Oper}{r:List (List UInt8)}{rest:List Oper}{s:ByteArray}{seed:List UInt8}{t:Nat}{w':World}
def jh:(n:Nat)→V n→Int
 | 0,_=>0
 | _+1,(v:VS (V _))=>v.kind
def numV:(n:Nat)→V n→Int
 | 0,_=>0
 | _+1,(v:VS (V _))=>v.num
def Zx:(n:Nat)→V n→ByteArray
 | 0,_=>⟨#[]⟩
 | _+1,(v:VS (V _))=>v.s
def bI:(n:Nat)→V n→Nat
 | 0,_=>0
 | _+1,(v:VS (V _))=>v.l.length
theorem Rep.heads:∀ {n:Nat}{S:Nat→Prop}{w:World}{k m:Int}{s:ByteArray}{a b:Value}{x:V n},Rep n S w [.int .i64 k,.int .i64 m,.string s,a,b] x→k=jh n x∧m=numV n x∧s=Zx n x∧∃ p c,a = .slice p (bI n x) c
 | 0,_,_,_,_,_,_,_,x,_=>nomatch x
 | n+1,S,w,k,m,s,a,b,x,h=>by obtain⟨vl,vm,lcs,mcs,ho⟩:=Rep.open_ h;obtain⟨p,c,q,d,-,-,e⟩:=ho.forms;simp only [List.cons.injEq,Value.int.injEq,Value.string.injEq,and_true,true_and] at e;exact⟨e.1,e.2.1,e.2.2.1,p,c,e.2.2.2.1⟩
def jO {n:Nat}(v:VS (V n))(bad:Bool)(s:ByteArray)(kind:Int)(may:V n→Bool):Option (V n)×Bool:=
 if bad then (none,true) else match Qw v s with
 | none=>(none,true)
 | some x=>if jh n x=kind∧may x=true then (some x,false) else (none,true)
def Given (n:Nat)(w w':World)(e:Ending):Option (V n)→Prop
 | none=>e = .returned kg
 | some x=>New n w w' e x
section
variable {n : Nat} {w : World} {g : Nat} {v : VS (V n)} {bad : Bool}
theorem zbA (F:FuncId)(R:Array Value)(f:V n→Bool)(h:Fld n w g v bad)(hs:zP (n+1) v)(s:ByteArray)(kind:Int)(hF:∀ (args:Array Value) (w:World),(callFunc F args).run prog w = .ok (.enter F args) w)(O:∀ (x:V n) (S:Nat→Prop) (w1:World) (cs:List Value),zb [] w w1→Rep n S w1 cs x→Calls prog F (#[.agg cs.toArray]++R) w1 fun e w'=>e = .returned (.bool (f x))∧zb [] w1 w') : Calls prog 77 #[.pointer (some ⟨g,0,none⟩),.string s,.int .i64 kind,.func (.func F) #[] R] w fun e w'=>Given n w w' e (jO v bad s kind f).1∧Fld n w' g v (jO v bad s kind f).2∧zb [g] w w':=by
 obtain⟨M,Gb⟩:=XE (w.alloc (.cells #[.int .i64 0,.int .i64 0,.string ⟨#[]⟩,.slice none 0 0,.slice none 0 0] 25));have X:Hid (zb [] w M):=qI (kA1 Gb.o);have Gn:Hid (M.heap[w.heap.size]? = some (.cells #[.int .i64 0,.int .i64 0,.string ⟨#[]⟩,.slice none 0 0,.slice none 0 0] 25 (0,0))):=qI (by rw [Gb.o];exact ze rfl);have Gv:Hid (M.heap.size=w.heap.size+1):=qI (by rw [Gb.o];simp);have W:Hid (g<w.heap.size):=qI h.lt;have HF:=qI hF;have HM:=qI O;have Gj:=qI hs;have Gq:=qI (h.k0 X.o);have CO:=qI (fok_any Gq.o);have Gw:Hid (jO v bad s kind f=if bad then (none,true) else match Qw v s with
  | none=>(none,true)
  | some x=>if jh n x=kind∧f x=true then (some x,false) else (none,true)):=qI rfl
 have HZ:Hid (∀ w1:World,w1.heap[w.heap.size]? = some (.cells #[.int .i64 0,.int .i64 0,.string ⟨#[]⟩,.slice none 0 0,.slice none 0 0] 25 (0,0))→yZ w1 w.heap.size 0 0 ⟨#[]⟩ (.slice none 0 0) (.slice none 0 0)∧∀ j,w1.frozen? ⟨w.heap.size,j,none⟩=false):=qI (fun w1 hb=>⟨qa hb,fun j=>zh hb⟩);clear hF O hs h;cases bad with
 | true=>obtain⟨⟨r0,r1,r2,r3,r4⟩,z⟩:=HZ.o _ Gn.o;go_enter func77,ntmps77;go_upto_region 1 with fail;rw [← Gb.o];go_wp2_with (go_at_call 81;refine CO.o.mono ?_;rintro e w1 ⟨rfl,rfl⟩);change bodyPost _ _ _ _ _ (ky M w.heap.size 0 0 ⟨#[]⟩ (.slice none 0 0) (.slice none 0 0));have b:=xE M w.heap.size 0 0 ⟨#[]⟩ (.slice none 0 0) (.slice none 0 0);obtain⟨B,A,D,u,C⟩:=qa (qZ Gn.o 0 0 ⟨#[]⟩ (.slice none 0 0) (.slice none 0 0));revert b B A D u C;generalize ky M w.heap.size 0 0 ⟨#[]⟩ (.slice none 0 0) (.slice none 0 0)=WF;intro b B A D u C;refine bodyPost_ret (v:=kg) (by simp [results,results77,go_sem,B,A,D,u,C,kg]) rfl ?_;rw [Gw.o];exact⟨rfl,Gq.o.kept b (by intro i a;simp at a;subst a;exact W.o),(X.o.trans b (by intro i a;simp at a;subst a;exact .inr (XA))).mono Wz⟩
 | false=>
  obtain⟨p,c,q,d,h1,h2⟩:=Gq.o;have CG:=qI (get_any h2 Gj.o s);have c0:=za (o:=0) (v:=.int .i64 v.kind) h1 rfl;have c1:=za (o:=1) (v:=.int .i64 v.num) h1 rfl;have c2:=za (o:=2) (v:=.string v.s) h1 rfl;have c3:=za (o:=3) (v:=.slice p v.l.length c) h1 rfl;have c4:=za (o:=4) (v:=.slice q v.m.length d) h1 rfl;clear h1 h2;revert CG Gw;generalize Qw v s=r;intro Gw CG;cases r with
  | none=>
   have Z:Hid (jO v false s kind f=(none,true)):=qI Gw.o;go_enter func77,ntmps77;go_upto_region 1 with fail;rw [← Gb.o];go_upto_region 5 with first
    | (go_at_call 81;refine CO.o.mono ?_;rintro e w1 ⟨rfl,rfl⟩)
    | (go_at_call 61;refine CG.o.mono ?_;rintro e w2 ⟨he,J⟩;change e=_ at he;subst he;unfold kg;have Gs:=qI J;clear J)
   obtain⟨Q,P⟩:=XE (w2.alloc (.cells #[.int .i64 0,.int .i64 0,.string ⟨#[]⟩,.slice none 0 0,.slice none 0 0] 25));have H:Hid (zb [] M Q):=qI (by rw [P.o];exact Gs.o.alloc _);have Gz:=qI (Gq.o.k0 H.o);have Jk:=qI (H.o.heap Gn.o Wz);have Ja:Hid (zb [g] w Q):=qI ((X.o.then H.o).mono Wz);rw [← P.o];clear c0 c1 c2 c3 c4;go_wp2_with (go_at_call 36;refine (Qp Gz.o).mono ?_;rintro e G ⟨rfl,E,t⟩;have Gx:=qI E;have Gi:=qI (Ja.o.trans' t);have I:=qI (t.heap Jk.o (by have:=W.o;simp;omega));obtain⟨⟨r0,r1,r2,r3,r4⟩,z⟩:=HZ.o _ I.o;clear E t);change bodyPost _ _ _ _ _ (ky G w.heap.size 0 0 ⟨#[]⟩ (.slice none 0 0) (.slice none 0 0));have b:=xE G w.heap.size 0 0 ⟨#[]⟩ (.slice none 0 0) (.slice none 0 0);obtain⟨B,A,D,u,C⟩:=qa (qZ I.o 0 0 ⟨#[]⟩ (.slice none 0 0) (.slice none 0 0));revert b B A D u C;generalize ky G w.heap.size 0 0 ⟨#[]⟩ (.slice none 0 0) (.slice none 0 0)=WF;intro b B A D u C;refine bodyPost_ret (v:=kg) (by simp [results,results77,go_sem,B,A,D,u,C,kg]) rfl ?_;rw [Z.o];exact⟨rfl,Gx.o.kept b (by intro i a;simp at a;subst a;exact W.o),Gi.o.trans b (by intro i a;simp at a;subst a;exact .inr (XA))⟩
  | some x=>
   have Y:Hid (jO v false s kind f=if jh n x=kind∧f x=true then (some x,false) else (none,true)):=qI Gw.o;go_enter func77,ntmps77;go_upto_region 1 with fail;rw [← Gb.o];go_upto_region 4 with first
    | (go_at_call 81;refine CO.o.mono ?_;rintro e w1 ⟨rfl,rfl⟩)
    | (go_at_call 61;refine CG.o.mono ?_;rintro e w2 ⟨⟨ae,he,N⟩,J⟩;obtain⟨k3,m3,s3,p3,i3,c3',q3,j3,e3,rfl⟩:=N.rep.conv;subst he;obtain⟨y,hnm,hst,-⟩:=N.rep.heads;have Jl:=qI N;have Jd:=qI y;have Gs:=qI J;clear J N y hnm hst)
   obtain⟨Q,P⟩:=XE (w2.alloc (.cells #[.int .i64 k3,.int .i64 m3,.string s3,.slice p3 i3 c3',.slice q3 j3 e3] 25));have H:Hid (zb [] M Q):=qI (by rw [P.o];exact Gs.o.alloc _);have Je:Hid (Q.heap[w2.heap.size]? = some (.cells #[.int .i64 k3,.int .i64 m3,.string s3,.slice p3 i3 c3',.slice q3 j3 e3] 25 (0,0))):=qI (by rw [P.o];exact ze rfl);have Jf:Hid (jr n (fun g=>M.heap.size≤g∧g<w2.heap.size) Q [.int .i64 k3,.int .i64 m3,.string s3,.slice p3 i3 c3',.slice q3 j3 e3] x):=qI (by rw [P.o];exact Jl.o.k0 ((zb.refl [] _).alloc _));have Jm:=qI Jf.o.rep;have Jb:Hid (Q.heap.size=w2.heap.size+1):=qI (by rw [P.o];simp);rw [← P.o];clear c0 c1 c2 c3 c4;obtain⟨b0,b1,b2,b3,b4⟩:=qa Je.o;by_cases y:k3=kind;rotate_left;·have f1:=(zR y).2;have Z:Hid (jO v false s kind f=(none,true)):=qI (by rw [Y.o,if_neg (fun h=>y (by rw [Jd.o];exact h.1))]);clear y;go_wp2_with (go_at_call 36;refine (Qp (Gq.o.k0 H.o)).mono ?_;rintro e G ⟨rfl,E,t⟩;have Gx:=qI E;have Gi:Hid (zb [g] w G):=qI (((X.o.then H.o).mono Wz).trans' t);have I:=qI (t.heap ((H.o).heap Gn.o Wz) (by have:=W.o;simp;omega));obtain⟨⟨r0,r1,r2,r3,r4⟩,z⟩:=HZ.o _ I.o;clear E t);change bodyPost _ _ _ _ _ (ky G w.heap.size 0 0 ⟨#[]⟩ (.slice none 0 0) (.slice none 0 0));have b:=xE G w.heap.size 0 0 ⟨#[]⟩ (.slice none 0 0) (.slice none 0 0);obtain⟨B,A,D,u,C⟩:=qa (qZ I.o 0 0 ⟨#[]⟩ (.slice none 0 0) (.slice none 0 0));revert b B A D u C;generalize ky G w.heap.size 0 0 ⟨#[]⟩ (.slice none 0 0) (.slice none 0 0)=WF;intro b B A D u C;refine bodyPost_ret (v:=kg) (by simp [results,results77,go_sem,B,A,D,u,C,kg]) rfl ?_;rw [Z.o];exact⟨rfl,Gx.o.kept b (by intro i a;simp at a;subst a;exact W.o),Gi.o.trans b (by intro i a;simp at a;subst a;exact .inr (XA))⟩
   have f1:=(xw y).2;have Jn:Hid (jh n x=kind):=qI (by rw [← Jd.o,y]);clear y;have CM:=qI (HM.o x _ Q _ (X.o.then H.o) Jm.o);rcases Bool.eq_false_or_eq_true (f x) with hm | hm
   rotate_left
   ·rw [hm] at CM;have Z:Hid (jO v false s kind f=(none,true)):=qI (by rw [Y.o,if_neg (fun h=>by rw [hm] at h;cases h.2)]);clear hm;have aa:=HF.o;go_wp2_with first
     | (refine CM.o.mono ?_;rintro e L ⟨rfl,K⟩;have U:=qI K;clear K b0 b1 b2 b3 b4)
     | (go_at_call 36;refine (Qp (Gq.o.k0 (H.o.then U.o))).mono ?_;rintro e G ⟨rfl,E,t⟩;have Gx:=qI E;have Gi:Hid (zb [g] w G):=qI (((X.o.then (H.o.then U.o)).mono Wz).trans' t);have I:=qI (t.heap (((H.o.then U.o)).heap Gn.o Wz) (by have:=W.o;simp;omega));obtain⟨⟨r0,r1,r2,r3,r4⟩,z⟩:=HZ.o _ I.o;clear E t)
    change bodyPost _ _ _ _ _ (ky G w.heap.size 0 0 ⟨#[]⟩ (.slice none 0 0) (.slice none 0 0));have b:=xE G w.heap.size 0 0 ⟨#[]⟩ (.slice none 0 0) (.slice none 0 0);obtain⟨B,A,D,u,C⟩:=qa (qZ I.o 0 0 ⟨#[]⟩ (.slice none 0 0) (.slice none 0 0));revert b B A D u C;generalize ky G w.heap.size 0 0 ⟨#[]⟩ (.slice none 0 0) (.slice none 0 0)=WF;intro b B A D u C;refine bodyPost_ret (v:=kg) (by simp [results,results77,go_sem,B,A,D,u,C,kg]) rfl ?_;rw [Z.o];exact⟨rfl,Gx.o.kept b (by intro i a;simp at a;subst a;exact W.o),Gi.o.trans b (by intro i a;simp at a;subst a;exact .inr (XA))⟩
   rw [hm] at CM;have Z:Hid (jO v false s kind f=(some x,false)):=qI (by rw [Y.o,if_pos ⟨Jn.o,hm⟩]);clear hm;have aa:=HF.o;go_upto_region 7 with (refine CM.o.mono ?_;rintro e L ⟨rfl,K⟩;have U:=qI K;clear K b0 b1 b2 b3 b4);have Gk:Hid (zb [] M L):=qI (H.o.then U.o);have Jo:=qI (U.o.heap Je.o Wz);have I:=qI (Gk.o.heap Gn.o Wz);obtain⟨b0,b1,b2,b3,b4⟩:=qa Jo.o;obtain⟨⟨r0,r1,r2,r3,r4⟩,z⟩:=HZ.o _ I.o;clear aa;go_wp2_with fail;change bodyPost _ _ _ _ _ (ky L w.heap.size k3 m3 s3 (.slice p3 i3 c3') (.slice q3 j3 e3));have b:=xE L w.heap.size k3 m3 s3 (.slice p3 i3 c3') (.slice q3 j3 e3);obtain⟨B,A,D,u,C⟩:=qa (qZ I.o k3 m3 s3 (.slice p3 i3 c3') (.slice q3 j3 e3));revert b B A D u C;generalize ky L w.heap.size k3 m3 s3 (.slice p3 i3 c3') (.slice q3 j3 e3)=WF;intro b B A D u C;refine bodyPost_ret (v:=.agg #[.int .i64 k3,.int .i64 m3,.string s3,.slice p3 i3 c3',.slice q3 j3 e3]) (by simp [results,results77,go_sem,B,A,D,u,C]) rfl ?_;rw [Z.o];have af:=Gv.o;have ag:=Jb.o;have ab:=U.o.size;have ad:=b.size;refine⟨⟨_,rfl,((Jf.o.k0 U.o).kept b (by intro k hk;simp at hk;subst hk;omega)).mono (fun g' ⟨h5,h6⟩=>⟨Ws,Ws⟩)⟩,(Gq.o.k0 Gk.o).kept b (by intro i a;simp at a;subst a;exact W.o),((X.o.then Gk.o).mono Wz).trans b (by intro i a;simp at a;subst a;exact .inr (XA))⟩
end
def b9 {n:Nat}(v:VS (V n))(bad:Bool)(s:ByteArray)(most:Int):ByteArray×Bool:=
 let r:=jO v bad s 4 (fun x=>decide (((Zx n x).size:Int)≤most))
 (match r.1 with | none=>⟨#[]⟩ | some x=>Zx n x,r.2)
def fmap {n:Nat}(v:VS (V n))(bad:Bool)(s:ByteArray):Option (V n)×Bool:=jO v bad s 6 (fun _=>true)
def QD {n:Nat}(v:VS (V n))(bad:Bool)(s:ByteArray)(most:Int):Option (V n)×Bool:=jO v bad s 5 (fun x=>decide ((bI n x:Int)≤most))
theorem fieldStr (W:World)(k m:Int)(s:ByteArray)(a b:Value):(Instr.field 25 (.agg #[.int .i64 k,.int .i64 m,.string s,a,b]) 2).run prog W = .ok (.string s) W:=Wr
theorem fieldLst (W:World)(k m:Int)(s:ByteArray)(a b:Value):(Instr.field 25 (.agg #[.int .i64 k,.int .i64 m,.string s,a,b]) 3).run prog W = .ok a W:=Wr
theorem enterText:∀ (args:Array Value) (w:World),(callFunc 80 args).run prog w = .ok (.enter 80 args) w:=enters_of func80 Wr rfl
theorem enterList:∀ (args:Array Value) (w:World),(callFunc 79 args).run prog w = .ok (.enter 79 args) w:=enters_of func79 Wr rfl
theorem enterAny:∀ (args:Array Value) (w:World),(callFunc 78 args).run prog w = .ok (.enter 78 args) w:=enters_of func78 Wr rfl
theorem Rep.gone {n:Nat}{S:Nat→Prop}{w:World}{cs:List Value}{x:V n}(h:Rep n S w cs x):∃ s p c q j d,cs=[.int .i64 (jh n x),.int .i64 (numV n x),.string s,.slice p (bI n x) c,.slice q j d]∧s=Zx n x:=by
 obtain⟨k,m,s,p,i,c,q,j,d,rfl⟩:=h.conv;obtain⟨rfl,rfl,h3,b,e,a⟩:=h.heads;simp only [Value.slice.injEq] at a;obtain⟨rfl,rfl,rfl⟩:=a;exact⟨s,_,_,q,j,d,rfl,h3⟩
section
variable {n : Nat} {w : World} {x : V n} {S : Nat → Prop} {cs : List Value}
theorem mayText_any (h:Rep n S w cs x){a:Nat}{b:Int}(f:w.cell? ⟨a,0,none⟩=some (.int .i64 b)) : zJ w 80 #[.agg cs.toArray,.pointer (some ⟨a,0,none⟩)] (.bool (decide (((Zx n x).size:Int)≤b))):=by
 obtain⟨s,p,c,q,j,d,rfl,e⟩:=h.gone;rw [← e];clear e h;have c1:∀ o:Obj,(w.alloc o).cell? ⟨a,0,none⟩=some (.int .i64 b):=fun o=>((zb.refl [] w).alloc o).cell f Wz
 have i:Hid (∀ o:Obj,zb [] w (w.alloc o)):=qI (fun o=>(zb.refl [] w).alloc o);clear f;go_enter func80,ntmps80;go_wp2;go_ret;exact⟨rfl,i.o _⟩
theorem mayList_any (h:Rep n S w cs x){a:Nat}{b:Int}(e:w.cell? ⟨a,0,none⟩=some (.int .i64 b)) : zJ w 79 #[.agg cs.toArray,.pointer (some ⟨a,0,none⟩)] (.bool (decide ((bI n x:Int)≤b))):=by
 obtain⟨s,p,c,q,j,d,rfl,f⟩:=h.gone;generalize bI n x=z;clear f h;have c1:∀ o:Obj,(w.alloc o).cell? ⟨a,0,none⟩=some (.int .i64 b):=fun o=>((zb.refl [] w).alloc o).cell e Wz
 have i:Hid (∀ o:Obj,zb [] w (w.alloc o)):=qI (fun o=>(zb.refl [] w).alloc o);clear e;go_enter func79,ntmps79;go_wp2;go_ret;exact⟨rfl,i.o _⟩
theorem mayAny_any (h:Rep n S w cs x):zJ w 78 #[.agg cs.toArray] (.bool true):=by
 obtain⟨s,p,c,q,j,d,rfl,a⟩:=h.gone;clear a h;go_enter func78,ntmps78;go_wp2;go_ret;exact⟨rfl,Wd.alloc _⟩
end
section
variable {n : Nat} {w : World} {g : Nat} {v : VS (V n)} {bad : Bool}
theorem ftext_any (h:Fld n w g v bad)(t:zP (n+1) v)(s:ByteArray)(a:Int):Calls prog 34 #[.pointer (some ⟨g,0,none⟩),.string s,.int .i64 a] w fun e w'=>e = .returned (.string (b9 v bad s a).1)∧Fld n w' g v (b9 v bad s a).2∧zb [g] w w':=by
 obtain⟨z,k⟩:=XE (w.alloc (.cells #[.int .i64 a] 3));have p:Hid (zb [] w z):=qI (kA1 k.o);have A:z.cell? ⟨w.heap.size,0,none⟩=some (.int .i64 a):=by rw [k.o];exact za (ze rfl) rfl
 have j:=qI (zbA 80 #[.pointer (some ⟨w.heap.size,0,none⟩)] (fun x=>decide (((Zx n x).size:Int)≤a)) (h.k0 p.o) t s 4 enterText (fun x S y cs d D=>mayText_any D (d.cell A Wz)));have i:Hid (b9 v bad s a=(match (jO v bad s 4 (fun x=>decide (((Zx n x).size:Int)≤a))).1 with | none=>⟨#[]⟩ | some x=>Zx n x,(jO v bad s 4 (fun x=>decide (((Zx n x).size:Int)≤a))).2)):=qI rfl;clear A h t;revert j i;generalize jO v bad s 4 (fun x=>decide (((Zx n x).size:Int)≤a))=R;intro j i;obtain⟨r,b⟩:=R;simp only at j i;have C:=fieldStr;cases r with
 | none=>go_enter func34,ntmps34;go_upto_region 1 with fail;rw [← k.o];go_wp2_with (go_at_call 77;refine j.o.mono ?_;rintro e y ⟨l,f,d⟩;change e=_ at l;subst l;unfold kg;have m:=qI f;have q:=qI d;clear f d);go_ret;rw [i.o];exact⟨rfl,m.o,(p.o.mono Wz).trans' q.o⟩
 | some x=>go_enter func34,ntmps34;go_upto_region 1 with fail;rw [← k.o];go_wp2_with (go_at_call 77;refine j.o.mono ?_;rintro e y ⟨⟨cs,l,u⟩,f,d⟩;obtain⟨s3,p3,c3,q3,j3,d3,rfl,hs3⟩:=u.rep.gone;subst l;have B:=qI hs3;clear hs3;have m:=qI f;have q:=qI d;clear f d u);go_ret;rw [i.o];exact⟨by show _=Ending.returned (.string (Zx n x));rw [← B.o];rfl,m.o,(p.o.mono Wz).trans' q.o⟩
theorem fmap_any (h:Fld n w g v bad)(K:zP (n+1) v)(s:ByteArray):Calls prog 32 #[.pointer (some ⟨g,0,none⟩),.string s] w fun e w'=>Given n w w' e (fmap v bad s).1∧Fld n w' g v (fmap v bad s).2∧zb [g] w w':=by
 obtain⟨I,E⟩:=XE (w.alloc (.cells #[.int .i64 0,.int .i64 0,.string ⟨#[]⟩,.slice none 0 0,.slice none 0 0] 25));have G:Hid (zb [] w I):=qI (kA1 E.o);have L:Hid (I.heap[w.heap.size]? = some (.cells #[.int .i64 0,.int .i64 0,.string ⟨#[]⟩,.slice none 0 0,.slice none 0 0] 25 (0,0))):=qI (by rw [E.o];exact ze rfl);have M:Hid (I.heap.size=w.heap.size+1):=qI (by rw [E.o];simp);have F:Hid (g<w.heap.size):=qI h.lt;have A:=qI (zbA 78 #[] (fun _=>true) (h.k0 G.o) K s 6 enterAny (fun x S l cs d N=>mayAny_any N));have D:Hid (fmap v bad s=jO v bad s 6 (fun _=>true)):=qI rfl;clear h K;revert A D;generalize jO v bad s 6 (fun _=>true)=R;intro A D;obtain⟨r,b⟩:=R;simp only at A D;cases r with
 | none=>go_enter func32,ntmps32;go_upto_region 1 with fail;rw [← E.o];go_wp2_with (go_at_call 77;refine A.o.mono ?_;rintro e l ⟨B,C,d⟩;change e=_ at B;subst B;unfold kg;have J:=qI C;have H:=qI d;have m:=qI (d.heap L.o (by have:=F.o;simp;omega));obtain⟨r0,r1,r2,r3,r4⟩:=qa m.o;have z:∀ j,l.frozen? ⟨w.heap.size,j,none⟩=false:=fun j=>zh m.o;clear C d);change bodyPost _ _ _ _ _ (ky l w.heap.size 0 0 ⟨#[]⟩ (.slice none 0 0) (.slice none 0 0));have a:=xE l w.heap.size 0 0 ⟨#[]⟩ (.slice none 0 0) (.slice none 0 0);obtain⟨q,p,y,u,t⟩:=qa (qZ m.o 0 0 ⟨#[]⟩ (.slice none 0 0) (.slice none 0 0));revert a q p y u t;generalize ky l w.heap.size 0 0 ⟨#[]⟩ (.slice none 0 0) (.slice none 0 0)=WF;intro a q p y u t;refine bodyPost_ret (v:=kg) (by simp [results,results32,go_sem,q,p,y,u,t,kg]) rfl ?_;rw [D.o];exact⟨rfl,J.o.kept a (by intro i f;simp at f;subst f;exact F.o),((G.o.mono Wz).trans' H.o).trans a (by intro i f;simp at f;subst f;exact .inr (XA))⟩
 | some x=>go_enter func32,ntmps32;go_upto_region 1 with fail;rw [← E.o];go_wp2_with (go_at_call 77;refine A.o.mono ?_;rintro e l ⟨B,C,d⟩;obtain⟨k3,m3,s3,p3,i3,c3,q3,j3,e3,rfl,ho⟩:=vo B;have Q:=qI ho;have J:=qI C;have H:=qI d;have m:=qI (d.heap L.o (by have:=F.o;simp;omega));obtain⟨r0,r1,r2,r3,r4⟩:=qa m.o;have z:∀ j,l.frozen? ⟨w.heap.size,j,none⟩=false:=fun j=>zh m.o;clear C d ho B);change bodyPost _ _ _ _ _ (ky l w.heap.size k3 m3 s3 (.slice p3 i3 c3) (.slice q3 j3 e3));have a:=xE l w.heap.size k3 m3 s3 (.slice p3 i3 c3) (.slice q3 j3 e3);obtain⟨q,p,y,u,t⟩:=qa (qZ m.o k3 m3 s3 (.slice p3 i3 c3) (.slice q3 j3 e3));revert a q p y u t;generalize ky l w.heap.size k3 m3 s3 (.slice p3 i3 c3) (.slice q3 j3 e3)=WF;intro a q p y u t;refine bodyPost_ret (v:=.agg #[.int .i64 k3,.int .i64 m3,.string s3,.slice p3 i3 c3,.slice q3 j3 e3]) (by simp [results,results32,go_sem,q,p,y,u,t]) rfl ?_;rw [D.o];have P:=M.o;have O:=a.size;exact⟨⟨_,rfl,(Q.o.kept a (by intro k d;simp at d;subst d;omega)).mono (fun g' ⟨h5,h6⟩=>⟨Ws,Ws⟩)⟩,J.o.kept a (by intro i f;simp at f;subst f;exact F.o),((G.o.mono Wz).trans' H.o).trans a (by intro i f;simp at f;subst f;exact .inr (XA))⟩
def Q9 (n:Nat)(w w':World)(e:Ending):Option (V n)→Prop
 | none=>e = .returned (.slice none 0 0)
 | some x=>∃ s p c q j d,e = .returned (.slice p (bI n x) c)∧jr n (fun g=>w.heap.size≤g∧g<w'.heap.size) w' [.int .i64 (jh n x),.int .i64 (numV n x),.string s,.slice p (bI n x) c,.slice q j d] x
theorem flist_any (h:Fld n w g v bad)(y:zP (n+1) v)(s:ByteArray)(a:Int):Calls prog 33 #[.pointer (some ⟨g,0,none⟩),.string s,.int .i64 a] w fun e w'=>Q9 n w w' e (QD v bad s a).1∧Fld n w' g v (QD v bad s a).2∧zb [g] w w':=by
 obtain⟨u,k⟩:=XE (w.alloc (.cells #[.int .i64 a] 3));have q:Hid (zb [] w u):=qI (kA1 k.o);have D:Hid (u.heap.size=w.heap.size+1):=qI (by rw [k.o];simp);have A:u.cell? ⟨w.heap.size,0,none⟩=some (.int .i64 a):=by rw [k.o];exact za (ze rfl) rfl
 have j:=qI (zbA 79 #[.pointer (some ⟨w.heap.size,0,none⟩)] (fun x=>decide ((bI n x:Int)≤a)) (h.k0 q.o) y s 5 enterList (fun x S z cs d E=>mayList_any E (d.cell A Wz)));have i:Hid (QD v bad s a=jO v bad s 5 (fun x=>decide ((bI n x:Int)≤a))):=qI rfl;clear A h y;revert j i;generalize jO v bad s 5 (fun x=>decide ((bI n x:Int)≤a))=R;intro j i;obtain⟨r,b⟩:=R;simp only at j i;have C:=fieldLst;cases r with
 | none=>go_enter func33,ntmps33;go_upto_region 1 with fail;rw [← k.o];go_wp2_with (go_at_call 77;refine j.o.mono ?_;rintro e z ⟨l,f,d⟩;change e=_ at l;subst l;unfold kg;have m:=qI f;have t:=qI d;clear f d);go_ret;rw [i.o];exact⟨rfl,m.o,(q.o.mono Wz).trans' t.o⟩
 | some x=>go_enter func33,ntmps33;go_upto_region 1 with fail;rw [← k.o];go_wp2_with (go_at_call 77;refine j.o.mono ?_;rintro e z ⟨⟨cs,l,p⟩,f,d⟩;obtain⟨s3,p3,c3,q3,j3,d3,rfl,-⟩:=p.rep.gone;subst l;have m:=qI f;have t:=qI d;have F:=qI p;clear f d p);go_ret;rw [i.o];have B:=D.o;exact⟨⟨_,_,_,_,_,_,rfl,F.o.mono (fun g' ⟨h5,h6⟩=>⟨Ws,h6⟩)⟩,m.o,(q.o.mono Wz).trans' t.o⟩
end
theorem JF (s:ByteArray)(d:s.size≤140737488355328)(w:World):Calls prog 58 #[.string s] w fun e w'=>(match xo s with | none=>e = .returned (.tuple #[.slice none 0 0,.int .i64 10]) | some l=>∃ a c,e = .returned (.tuple #[.slice a l.length c,.int .i64 0])∧zp w' (.slice a l.length c) l∧∀ g,yx (.slice a l.length c)=some g→w.heap.size≤g)∧zb [] w w':=by
 unfold xo;by_cases h:s.size%2=0∧s.data.toList.all yW=true
 ·rw [if_pos h];refine (unhex_yes s d h.1 h.2 w).mono ?_;rintro e w' ⟨⟨a,c,rfl,f⟩,i⟩;exact⟨⟨a,c,rfl,by
   have b:=Slc.of_row f;exact b,fun g j=>(f.lt g (yI j)).1⟩,i⟩
 ·rw [if_neg h];refine unhex_no s d ?_ w;rw [not_and] at h;rcases Nat.mod_two_eq_zero_or_one s.size with b | b
  ·exact .inr (by simpa using h b)
  ·exact .inl b
def ZO:List UInt8:=List.replicate 32 0
def jx:yX:=⟨0,0,ZO⟩
theorem vU {w:World}(d:Region.wanted op (yielded ops a.tmps)=true)(x:Operand)(f:op.op = .load 51 x){g:Nat}(j:yR w g k)(i:k.root.length=32)(b:a.eval x = .pointer (some ⟨g,0,none⟩))(h:wpList prog ops Q rest (a.put op.dst (.agg (yU k))) w):wpList prog ops Q (op::rest) a w:=
 BigFrame.wpList_want d fun _ e=>wp_load_mid 51 x f g 0 b (bl k) _ j.range underlying51 rfl (by rw [xS i];exact K6) (e _ _ h)
theorem keyL_one (k:yX):∀ v∈bl k,v.oneCell'=true:=by
 intro v hv;rcases List.mem_cons.1 hv with rfl | hv;·rfl
 rcases List.mem_cons.1 hv with rfl | hv;·rfl
 exact qE _ v hv
theorem yR.there {w:World}{g:Nat}{k:yX}(h:yR w g k)(b:k.root.length=32):w.there g 0 34:=fun j d=>by
 rw [Nat.zero_add];have a:j<(bl k).length:=by rw [xS b];exact d
 exact⟨by rw [za (v:=(bl k)[j]) h (by simp [yU,a])];rfl,zh h⟩
theorem yR.lt {w:World}{g:Nat}(h:yR w g k):g<w.heap.size:=lt_of_block h
theorem yR.put {w:World}{g:Nat}{d:yX}(h:yR w g k)(p:k.root.length=32)(b:d.root.length=32):yR (w.setCells g 0 (bl d)) g d:=by
 obtain⟨j,q,h2,h3⟩:=qC g (bl d) 0 w _ h;have l:(yU k).size=34:=by simp [yU,xS p]
 have e:j=yU d:=by
  apply Array.ext;·rw [h2,l];simp [yU,xS b]
  ·intro i a n;have f:i<34:=by rw [h2,l] at a;exact a
   have m:=h3 i (by rw [l];exact f);rw [if_pos (by rw [xS b];omega),Array.getElem?_eq_getElem a,Nat.sub_zero,List.getElem?_eq_getElem (by rw [xS b];exact f)] at m;rw [Option.some.inj m];simp [yU]
 unfold yR;rw [q,e]
theorem yR.setRoot {w:World}{g:Nat}{r a:List UInt8}(n:yR w g ⟨b,h,r⟩)(m:r.length=32)(d:a.length=32):yR (w.setCells g 2 (a.map bv)) g ⟨b,h,a⟩:=by
 obtain⟨f,s,h2,h3⟩:=qC g (a.map bv) 2 w _ n;have k:(yU ⟨b,h,r⟩).size=34:=by simp [yU,bl,m]
 have e:f=yU ⟨b,h,a⟩:=by
  apply Array.ext';apply List.ext_getElem?;intro i;have l:(yU ⟨b,h,a⟩).toList = .int .i64 b :: .int .i64 h::a.map bv:=rfl;rw [l,Array.getElem?_toList];by_cases p:i<34
  ·rw [h3 i (by rw [k];exact p)];by_cases q:2≤i;·rw [if_pos (by simp [d];omega)];obtain⟨j,rfl⟩:∃ j,i=j+2:=⟨i - 2,Ws⟩;rfl
   ·rw [if_neg Ws];obtain rfl | rfl:i=0∨i=1:=Ws
    ·rfl
    ·rfl
  ·rw [Array.getElem?_eq_none (by rw [h2,k];omega),List.getElem?_eq_none (by simp [d];omega)]
 unfold yR;rw [s,e]
theorem Yz {w:World}(e:op.guard=none)(x y:Operand)(m:op.op = .store 51 x y){g:Nat}{k0:yX}(i:yR w g k0)(b:k0.root.length=32)(f:k.root.length=32)(j:a.eval x = .pointer (some ⟨g,0,none⟩))(l:a.eval y = .agg (yU k))(h:∀ w',yR w' g k→zb [g] w w'→wpList prog ops Q rest (a.put op.dst undef) w'):wpList prog ops Q (op::rest) a w:=by
 have d:(yU k).size=34:=by simp [yU,xS f]
 refine wpList_store_mid e 51 x y m g 0 (yU k) j l (by rw [d];exact i.there b) (by rw [d];exact K6) (all_oneCell_toArray (keyL_one k)) (h _ ?_ (yN _ _ _ _));exact i.put b f
theorem yR.var {w:World}{g:Nat}(h:yR w g k)(a:k.root.length=32):(loadVar 51 ⟨g,0,none⟩).run prog w = .ok (.agg (yU k)) w:=run_loadVar_mid (P:=prog) w g 0 51 (bl k) _ h.range underlying51 rfl (by rw [xS a];exact K6)
theorem KZ {w:World}(e:op.guard=none)(x y:Operand)(q:op.op = .store 49 x y){g:Nat}{r l:List UInt8}(k:yR w g ⟨b,h,r⟩)(f:r.length=32)(i:l.length=32)(n:a.eval x = .pointer (some ⟨g,2,none⟩))(s:a.eval y = .agg (l.map bv).toArray)(p:∀ w',yR w' g ⟨b,h,l⟩→zb [g] w w'→wpList prog ops Q rest (a.put op.dst undef) w'):wpList prog ops Q (op::rest) a w:=by
 have d:(l.map bv).toArray.size=32:=by simp [i]
 refine wpList_store_mid e 49 x y q g 2 (l.map bv).toArray n s (fun j t=>?_) (by rw [d];exact kG) (one32 _) (p _ ?_ (yN _ _ _ _));·rw [d] at t;have m:=k.there f (2+j) Ws;rw [Nat.zero_add] at m;exact m
 ·exact k.setRoot f i
theorem KW {n:Nat}{v:VS (V n)}{bad:Bool}{kind:Int}{a:V n→Bool}{x:V n}{b:Bool}(h:jO v bad s kind a=(some x,b)):x∈v.kids∧a x=true∧jh n x=kind:=by
 unfold jO at h;split at h;·cases h
 ·split at h;·cases h
  ·rename_i y d;split at h
   ·rename_i hc;simp only [Prod.mk.injEq,Option.some.injEq] at h;obtain⟨rfl,-⟩:=h;unfold Qw at d;split at d;·obtain⟨p,hp,rfl⟩:=Option.map_eq_some_iff.1 d;exact⟨kN (List.mem_of_find?_eq_some hp),hc.2,hc.1⟩
    ·cases d
   ·cases h
theorem ftext_le {n:Nat}(v:VS (V n))(bad:Bool)(s:ByteArray)(a:Nat):(b9 v bad s a).1.size≤a:=by
 unfold b9;cases h:jO v bad s 4 (fun x=>decide (((Zx n x).size:Int)≤a)) with
 | mk r b=>
  cases r with
  | none=>exact XB
  | some x=>have:=(KW h).2.1;simp only [decide_eq_true_eq] at this;show (Zx n x).size≤a;omega
theorem fmap_small {n:Nat}{v:VS (V (n+1))}{bad:Bool}(a:zP (n+2) v):zP (n+1) ((fmap v bad s).1.getD (KK:VS (V n))):=by
 unfold fmap;cases h:jO v bad s 6 (fun _=>true) with
 | mk r b=>
  cases r with
  | none=>exact za1
  | some x=>exact a.kid (KW h).1
def b8 (s:ByteArray):Bool:=match xo s with | none=>false | some l=>decide (l.length=32)
structure RoleS where
 keys:List ByteArray
 thr:Int
theorem zbv {w:World}{a:Option Addr}{c:Nat}(O:zp w (.slice a seed.length c) seed)(M:seed.length≤64)(leaf f b:Nat)(u:leaf<4294967296)(C:f<65536)(H:b<256)(s:qK w) : zJ w 89 #[.slice a seed.length c,.int .i64 leaf,.int .i64 f,.int .i64 b] (.agg ((kr seed leaf f b).map bv).toArray):=by
 obtain⟨E,J⟩:=XE (w.alloc (.cells z32 49));have A:Hid (zb [] w E):=qI (kA1 J.o);have Gt:Hid (yy E w.heap.size (qS ya 0)):=qI (by rw [J.o];exact ze rfl);have K:=qI (QN leaf 4 E Wo Wo (.inr u));have G:=qI (fun w2=>QN f 2 w2 Wo Wo (.inr C));have HS:=qI M;have HB:=qI (O.k0 A.o);have Gi:=qI (s.k0 A.o);have F:Hid (∀ (d:World) (q a2:Option Addr) (c4 c2:Nat),zb [] E d→zp d (.slice q 4 c4) (jN leaf 4)→zp d (.slice a2 2 c2) (jN f 2)→Calls prog 135 #[.string ⟨#[108,97,109,112,111,114,116,32,115,101,99,114,101,116]⟩,.slice (some ⟨d.heap.size+1,0,none⟩) 4 4] ((d.alloc (.cells #[.int .u8 (b:Int)] 5)).alloc (.cells #[.slice a seed.length c,.slice q 4 c4,.slice a2 2 c2,.slice (some ⟨d.heap.size,0,none⟩) 1 1] 32)) fun e w'=>e = .returned (.agg ((kr seed leaf f b).map bv).toArray)∧zb [] d w'):=qI (fun d q a2 c4 c2 N h4 h2=>by
  have h:=(zb.refl [] d).alloc (.cells #[.int .u8 (b:Int)] 5);have m:zp (d.alloc (.cells #[.int .u8 (b:Int)] 5)) (.slice (some ⟨d.heap.size,0,none⟩) 1 1) [UInt8.ofNat b]:=by
   have L:=ZV d (bv (UInt8.ofNat b)) 5 _ rfl;have P:bv (UInt8.ofNat b) = .int .u8 (b:Int):=by rw [zaG,Int.emod_eq_of_lt Ws Ws]
   rw [P] at L;exact⟨rfl,by rw [List.map_cons,List.map_nil,P];exact L.2⟩
  have x:=tag_new ⟨#[108,97,109,112,111,114,116,32,115,101,99,114,101,116]⟩ (d.alloc (.cells #[.int .u8 (b:Int)] 5)) [.slice a seed.length c,.slice q 4 c4,.slice a2 2 c2,.slice (some ⟨d.heap.size,0,none⟩) 1 1] [seed,jN leaf 4,jN f 2,[UInt8.ofNat b]]
   (zM.cons (R:=zp _) ((HB.o.k0 N).k0 h) (zM.cons (R:=zp _) (by have p:=h4.k0 h;unfold zp;rw [xB];unfold zp at p;rw [xB] at p;exact p) (zM.cons (R:=zp _) (by have p:=h2.k0 h;unfold zp;rw [xB];unfold zp at p;rw [xB] at p;exact p) (zM.cons (R:=zp _) m (zM.nil _))))) (fun l u=>by
    have:=HS.o;simp only [List.mem_cons,List.not_mem_nil,or_false] at u;rcases u with rfl | rfl | rfl | rfl
    ·omega
    ·rw [xB];decide
    ·rw [xB];decide
    ·exact Nat.le_of_ble_eq_true rfl) Wo (Nat.le_of_ble_eq_true rfl) ((Gi.o.k0 N).k0 h)
  have W:(d.alloc (.cells #[.int .u8 (b:Int)] 5)).heap.size=d.heap.size+1:=Wz;rw [W] at x;exact x.mono fun e w' ⟨h6,h7⟩=>⟨h6,h.then h7⟩)
 generalize B:kr seed leaf f b=sl at F;have U:Hid (sl.length=32):=qI (by rw [← B,vV]);have A:=A;have aa:(b:Int)<256:=Ws;generalize seed.length=sn at F;clear O s M B u C H;go_enter func89,ntmps89;go_upto_region 1 with fail;refine xg J.o ?_;go_upto_region 2 with (go_at_call 96;refine K.o.mono ?_;rintro e w2 ⟨v4,rfl,k,t⟩;obtain⟨q,c4,rfl,-,-⟩:=k.1.form;rw [xB] at k ⊢;have X:=qI k;have I:=qI t;clear k t);go_upto_region 3 with (go_at_call 96;refine (G.o w2).mono ?_;rintro e d ⟨v2,rfl,j,z⟩;obtain⟨a2,c2,rfl,-,-⟩:=j.1.form;rw [xB] at j ⊢;have Jr:=qI j;have D:=qI z;clear j z);have Z:Hid (zp d (.slice q 4 c4) (jN leaf 4)):=qI (by have m:=X.o.1;unfold zp at m ⊢;rw [xB] at m ⊢;exact m.k0 D.o);have Jt:Hid (zp d (.slice a2 2 c2) (jN f 2)):=qI (by have m:=Jr.o.1;unfold zp at m ⊢;rw [xB] at m ⊢;exact m);go_wp2_with first
  | (go_at_call 135;refine (F.o _ _ _ _ _ (I.o.then D.o) Z.o Jt.o).mono ?_;rintro e w4 ⟨rfl,n⟩;have Gg:=qI n;have Gu:=qI (Gt.o.k0 ((I.o.then D.o).then n));clear n)
  | (refine zL Wk (.tmp 8) (.tmp 30) Wk Gu.o (yu _ _) U.o Wk Wk ?_;intro w5 x r;have H5:=qI x;have Y:=qI r;clear x r)
 have y:=H5.o.var U.o;refine bodyPost_ret (v:=.agg (sl.map bv).toArray) (by simp only [results,results89];simp [y,Sem.run_bind,asAddr,Act.put]) rfl ⟨rfl,?_⟩;exact (A.o.then ((I.o.then D.o).then Gg.o)).trans Y.o (by intro i Q;simp at Q;subst Q;exact .inr (XA))
theorem ZC (w:World)(s:List UInt8)(n:s.length=32)(j:qK w) : zJ w 88 #[.agg (s.map bv).toArray] (.agg ((qe s).map bv).toArray):=by
 obtain⟨a,l⟩:=XE ((w.alloc (.cells (s.map bv).toArray 49)).alloc (.cells z32 49));have r:Hid (zb [] w a):=qI (kA2 l.o);have B:Hid (yy a (w.heap.size+1) (qS ya 0)):=qI (by rw [l.o];exact ze Wz);have p:Hid (yy a w.heap.size s):=qI (by rw [l.o];exact ((zb.refl [] _).alloc _).heap (ze rfl) Wz);have u:Hid (Calls prog 98 #[.slice (some ⟨a.heap.size,0,none⟩) 1 1] (a.alloc (.cells #[.slice (some ⟨w.heap.size,0,none⟩) 32 32] 32)) fun e w'=>e = .returned (.agg ((qe s).map bv).toArray)∧zb [] a w'):=qI (by
  have b:=(zb.refl [] a).alloc (.cells #[.slice (some ⟨w.heap.size,0,none⟩) 32 32] 32);have z:zp a (.slice (some ⟨w.heap.size,0,none⟩) 32 32) s:=⟨Wz,.inr (.inr ⟨_,0,32,by rw [n],Ws,Wo,⟨p.o.range,p.o.lt⟩⟩)⟩;have x:=of_any _ a.heap.size 0 1 [.slice (some ⟨w.heap.size,0,none⟩) 32 32] [s] (Kv a [.slice (some ⟨w.heap.size,0,none⟩) 32 32] _) ((zM.nil _).cons (z.k0 b)) (by simp;omega) Wz ((j.k0 r.o).k0 b);rw [List.flatten_cons,List.flatten_nil,List.append_nil] at x;exact x.mono fun e w' ⟨h6,h7⟩=>⟨h6,b.then h7⟩)
 generalize k:qe s=sl at u;have t:Hid (sl.length=32):=qI (by rw [← k,yK]);clear n j k;go_enter func88,ntmps88;go_upto_region 1 with fail;refine xg l.o ?_;go_wp2_with first
  | (go_at_call 98;refine u.o.mono ?_;rintro e F ⟨rfl,d⟩;have A:=qI d;have C:=qI (B.o.k0 d);clear d)
  | (refine zL Wk (.tmp 2) (.tmp 5) Wk C.o (yu _ _) t.o Wk Wk ?_;intro E m h;have D:=qI m;have y:=qI h;clear m h)
 have f:=D.o.var t.o;refine bodyPost_ret (v:=.agg (sl.map bv).toArray) (by simp only [results,results88];simp [f,Sem.run_bind,asAddr,Act.put]) rfl ⟨rfl,?_⟩;exact (r.o.then A.o).trans y.o (by intro i q;simp at q;subst q;exact .inr Ws)
theorem YK {w:World}{p:Nat}{L:List UInt8}(h:qG W p w L)(z:L.length≤1000000)(k:qK w) : zJ w 90 #[.pointer (some ⟨p,0,none⟩)] (.agg ((JS tKey [L]).map bv).toArray):=by
 obtain⟨a,c,u,h2⟩:=h.val;obtain⟨d,q⟩:=XE (w.alloc (.cells z32 49));have m:Hid (zb [] w d):=qI (kA1 q.o);have A:Hid (yy d w.heap.size (qS ya 0)):=qI (by rw [q.o];exact ze rfl);have n:Hid (Calls prog 135 #[.string ⟨#[108,97,109,112,111,114,116,32,107,101,121]⟩,.slice (some ⟨d.heap.size,0,none⟩) 1 1] (d.alloc (.cells #[.slice a L.length c] 32)) fun e w'=>e = .returned (.agg ((JS tKey [L]).map bv).toArray)∧zb [] d w'):=
  qI (tag_new ⟨#[108,97,109,112,111,114,116,32,107,101,121]⟩ d [.slice a L.length c] [L] ((zM.nil _).cons ((Slc.of_row h2).k0 m.o)) (by simp;omega) Wo (Nat.succ_le_succ (XB)) (k.k0 m.o))
 have c0:=za (o:=0) (m.o.heap u Wz) rfl;generalize l:JS tKey [L]=sl at n;have t:Hid (sl.length=32):=qI (by rw [← l,bU]);clear h u h2 z k l;generalize L.length=ln at n c0;go_enter func90,ntmps90;go_upto_region 1 with fail;refine xg q.o ?_;go_wp2_with first
  | (go_at_call 135;refine n.o.mono ?_;rintro e E ⟨rfl,b⟩;have y:=qI b;have B:=qI (A.o.k0 b);clear b)
  | (refine zL Wk (.tmp 2) (.tmp 8) Wk B.o (yu _ _) t.o Wk Wk ?_;intro D r j;have C:=qI r;have x:=qI j;clear r j)
 have f:=C.o.var t.o;refine bodyPost_ret (v:=.agg (sl.map bv).toArray) (by simp only [results,results90];simp [f,Sem.run_bind,asAddr,Act.put]) rfl ⟨rfl,?_⟩;exact (m.o.then y.o).trans x.o (by intro i s;simp at s;subst s;exact .inr (XA))
theorem zbs {w:World}{a:Option Addr}{n c:Nat}(d:n≤64)(leaf:Nat)(f:leaf≤1073741824) : Calls prog 86 #[.slice a n c,.int .i64 leaf] w fun e w'=>e = .returned (.bool true)∧w=w':=by
 have b:(n:Int)≤64:=Ws;have h:(leaf:Int)≤1073741824:=Ws;clear d f;go_enter func86,ntmps86;go_wp2;go_ret;exact⟨rfl,rfl⟩
theorem duo_len (seed:List UInt8)(leaf b:Nat):(duoL seed leaf b).length=64:=by rw [duoL,List.length_append,yK,yK]
theorem zbi {α:Type}(f:Nat→List α)(n:Nat)(h:∀ b,(f b).length=n):∀ k,(((List.range k).map f).flatten).length=n*k
 | 0=>rfl
 | k+1=>by rw [List.range_succ,List.map_append,List.flatten_append,List.length_append,zbi f n h k];simp [h,Nat.mul_add]
theorem bZ {α:Type}(f:Nat→List α)(k:Nat):((List.range (k+1)).map f).flatten=((List.range k).map f).flatten++f k:=by
 rw [List.range_succ,List.map_append,List.flatten_append];simp
theorem lamLeaf_any {w:World}{a:Option Addr}{c:Nat}(K:zp w (.slice a seed.length c) seed)(D:seed.length≤64)(leaf:Nat)(hl:leaf≤1000)(s:qK w) : zJ w 46 #[.slice a seed.length c,.int .i64 leaf,.int .i64 8] (.tuple #[.agg ((zad seed leaf 8).map bv).toArray,.int .i64 0]):=by
 obtain⟨f,I⟩:=XE (w.alloc (.cells z32 49));have H:Hid (zb [] w f):=qI (kA1 I.o);have Gt:Hid (yy f w.heap.size (qS ya 0)):=qI (by rw [I.o];exact ze rfl);have CM:Hid (Calls prog 85 #[.int .i64 8] f fun e w'=>e = .returned (.bool true)∧f=w'):=qI (vR 8 Wo Wo f);have P:=qI (zbs (w:=f) (a:=a) (c:=c) D leaf Ws);have HS:=qI D;have HB:=qI (K.k0 H.o);have A:=qI (s.k0 H.o);have C:Hid (∀ (j:World) (b d:Nat),zb [] f j→b<8→d<2→Calls prog 89 #[.slice a seed.length c,.int .i64 leaf,.int .i64 b,.int .i64 d] j fun e w'=>e = .returned (.agg ((kr seed leaf b d).map bv).toArray)∧zb [] j w'):=qI (fun j b d E N h2=>zbv (HB.o.k0 E) HS.o leaf b d Ws Ws Ws (A.o.k0 E));clear K D hl s;go_enter func46,ntmps46;go_upto_region 1 with fail;refine xg I.o ?_;generalize Y:seed.length=sn at P C;go_wp2_with first
  | (go_at_call 85;refine CM.o.mono ?_;rintro e w' ⟨rfl,rfl⟩)
  | (go_at_call 86;refine P.o.mono ?_;rintro e w' ⟨rfl,rfl⟩)
 obtain⟨W2,Q⟩:=XE (f.alloc (.cells #[.slice none 0 0] 125));have Ju:Hid (qG f f.heap.size W2 []):=qI (by rw [Q.o];exact sumsNew f);rw [← Q.o];go_loopw [9,23] (fun _ i wr=>∃ k:Nat,i = .int .i64 k∧k≤8∧qG f f.heap.size wr ((List.range k).map (duoL seed leaf)).flatten) (fun _ i _=>8-(intOf i).toNat);case atStart=>exact⟨0,rfl,XB,Ju.o⟩
 case round=>
  obtain⟨k,rfl,E,t⟩:=hrel;have l:=qI t;have M:=qI (zbi (duoL seed leaf) 64 (duo_len seed leaf) k);have Jv:=qI (bZ (duoL seed leaf) k);clear t;rcases Nat.lt_or_ge k 8 with h8 | h8
  ·have aa:(k:Int)<8:=by omega
   have u:=qI (C.o wr k 0 l.o.kept h8 Wo);have z:Hid (yL wr 89 #[.slice a sn c,.int .i64 leaf,.int .i64 k,.int .i64 1] (.agg ((kr seed leaf k 1).map bv).toArray)):=qI (fun j h=>C.o j k 1 (l.o.kept.then h) h8 Wo);have p:Hid (yL wr 88 #[.agg ((kr seed leaf k 0).map bv).toArray] (.agg ((qe (kr seed leaf k 0)).map bv).toArray)):=qI (fun j h=>ZC j _ (vV _ _ _ _) ((A.o.k0 l.o.kept).k0 h));have m:Hid (yL wr 88 #[.agg ((kr seed leaf k 1).map bv).toArray] (.agg ((qe (kr seed leaf k 1)).map bv).toArray)):=qI (fun j h=>ZC j _ (vV _ _ _ _) ((A.o.k0 l.o.kept).k0 h));have F:Hid (∀ j,zb [] wr j→Calls prog 87 #[.pointer (some ⟨f.heap.size,0,none⟩),.agg ((qe (kr seed leaf k 0)).map bv).toArray,.agg ((qe (kr seed leaf k 1)).map bv).toArray] j fun e w'=>e = .returned (.tuple #[])∧qG f f.heap.size w' ((List.range (k+1)).map (duoL seed leaf)).flatten):=qI (fun j h=>by
    have N:=bu (l.o.k0 h) (yK (kr seed leaf k 0)) (yK (kr seed leaf k 1)) (XC M.o);rw [Jv.o,duoL,← List.append_assoc];exact N)
   generalize qe (kr seed leaf k 0)=u0 at p F;generalize qe (kr seed leaf k 1)=u1 at m F;generalize kr seed leaf k 0=s0 at u p;generalize kr seed leaf k 1=s1 at z m;go_wp2_with first
    | (go_at_call 87;refine (F.o _ (((B.o.then G.o).then O.o).then Jw.o)).mono ?_;rintro e w7 ⟨rfl,U⟩;have X:=qI U;clear U)
    | (go_at_call 88;refine (m.o _ ((B.o.then G.o).then O.o)).mono ?_;rintro e w6 ⟨rfl,h6⟩;have Jw:=qI h6;clear h6)
    | (go_at_call 89;refine (z.o _ (B.o.then G.o)).mono ?_;rintro e w5 ⟨rfl,y⟩;have O:=qI y;clear y)
    | (go_at_call 88;refine (p.o _ B.o).mono ?_;rintro e w4 ⟨rfl,L⟩;have G:=qI L;clear L)
    | (go_at_call 89;refine u.o.mono ?_;rintro e j ⟨rfl,h3⟩;have B:=qI h3;clear h3)
   case roundEnd=>exact⟨⟨k+1,by go_num,Ws,X.o⟩,by simp [intOf];omega⟩
  ·obtain rfl:k=8:=by omega
   have J:Hid (zJ wr 90 #[.pointer (some ⟨f.heap.size,0,none⟩)] (.agg ((zad seed leaf 8).map bv).toArray)):=qI (YK l.o (XC M.o) (A.o.k0 l.o.kept));generalize q:zad seed leaf 8=sl at J;have W:Hid (sl.length=32):=qI (by rw [← q,qN]);have Jx:=qI (Gt.o.k0 l.o.kept);have Jy:=qI q;clear q;go_wp2_with first
    | (go_at_call 90;refine J.o.mono ?_;rintro e w4 ⟨rfl,n⟩;have Gg:=qI n;have Gu:=qI (Jx.o.k0 n);clear n)
    | (refine zL Wk (.tmp 6) (.tmp 40) Wk Gu.o (yu _ _) W.o Wk Wk ?_;intro w5 y r;have H5:=qI y;have Z:=qI r;clear y r)
   have x:=H5.o.var W.o;refine bodyPost_ret (v:=.tuple #[.agg (sl.map bv).toArray,.int .i64 0]) (by simp only [results,results46];simp [x,Sem.run_bind,asAddr,Act.put]) rfl ⟨by rw [Jy.o],?_⟩;exact ((H.o.then l.o.kept).then Gg.o).trans Z.o (by intro i R;simp at R;subst R;exact .inr (XA))
theorem ty32:xG prog 78 49 32 32 (.agg z32):=⟨underlying78,Wr,rfl,Wo⟩
theorem za7 {cs:List Value}{n:Nat}(h:cs.length=n)(d:0<n)(z:Value):Instr.fill (fun i=>some (i*n,n)) ((Array.range (1*n)).map (z.cells[· % z.cells.size]!)) [(0,.agg cs.toArray)]=some cs.toArray:=by
 have a:cs.toArray.size=n:=by simp [h]
 obtain⟨r,e,h2,h3⟩:=Go.Great.fill_dense (s:=n) d [.agg cs.toArray] 0 ((Array.range (1*n)).map (z.cells[· % z.cells.size]!)) (by intro v hv;simp only [List.mem_singleton] at hv;subst hv;exact a) Wz;refine e.trans (congrArg some (Array.ext_getElem? fun i=>?_));rw [h3 i];by_cases b:i<n;·rw [if_pos (by simp;omega),show i/n-0=0 by rw [Nat.div_eq_of_lt b],show i%n=i from Nat.mod_eq_of_lt b];rfl
 ·rw [if_neg (by simp;omega),Array.getElem?_eq_none (by rw [Array.size_map,Array.size_range];omega),Array.getElem?_eq_none (by rw [a];omega)]
theorem qL {e n:Nat}(m:Tryz.prog.underlying t=some (.slice e))(i:(Tryz.prog.info? e).map (·.size)=some n)(j:((Tryz.prog.info? e).bind (·.zero)).isSome=true)(q:0<n)(hm:n≤1000){w:World}(k:op.guard=none)(x:Operand)(r:op.op = .buildSlice t 1 #[(0,x)]){cs:List Value}(s:cs.length=n)(l:a.eval x = .agg cs.toArray)(h:wpList prog ops Q rest (a.put op.dst (.slice (some ⟨w.heap.size,0,none⟩) 1 1)) (w.alloc (.cells cs.toArray e))):wpList prog ops Q (op::rest) a w:=by
 obtain⟨d,f⟩:∃ d,Tryz.prog.info? e=some d:=by
  cases p:Tryz.prog.info? e with
  | none=>rw [p] at i;cases i
  | some d=>exact⟨d,rfl⟩
 have b:d.size=n:=by rw [f] at i;simpa using i
 obtain⟨z,j⟩:∃ z,d.zero=some z:=by rw [f] at j;exact Option.isSome_iff_exists.1 j
 exact wpList_buildSlice k _ _ 1 #[(0,x)] r cs.toArray d z m f j (by rw [b];omega) (by rw [b];have:(2:Nat) ^ 24=16777216:=rfl;omega) (by
  have u:=za7 s q z;simp only [List.map_toArray,List.map_cons,List.map_nil,l,b];exact u) h
theorem JW:((Tryz.prog.info? 49).bind (·.zero)).isSome=true:=Wr
structure jJ (W:World)(g:Nat)(w:World)(a1:Option Addr)(c1:Nat)(a2:Option Addr)(c2:Nat)(r o:List (List UInt8)):Prop where
 kept:zb [] W w
 new_:W.heap.size≤g
 box:w.heap[g]? = some (.cells #[.slice a1 r.length c1,.slice a2 o.length c2] 85 (0,0))
 rev:w.ownsRow W.heap.size 49 32 (.slice a1 r.length c1) r.length (r.flatten.map bv)
 oth:w.ownsRow W.heap.size 49 32 (.slice a2 o.length c2) o.length (o.flatten.map bv)
 apart:∀ b,(Value.slice a1 r.length c1).ownBlock=some b→(Value.slice a2 o.length c2).ownBlock≠some b
theorem jJ.k0 {w:World}{g:Nat}{c1:Nat}{c2:Nat}{o:List (List UInt8)}(h:jJ W g w a1 c1 a2 c2 r o)(k:zb [] w w'):jJ W g w' a1 c1 a2 c2 r o:=
 ⟨h.kept.then k,h.new_,k.heap h.box Wz,zk h.rev k Wz,zk h.oth k Wz,h.apart⟩
theorem out_new (w:World):jJ w w.heap.size (w.alloc (.cells #[.slice none 0 0,.slice none 0 0] 85)) none 0 none 0 [] []:=
 ⟨(zb.refl _ w).alloc _,XA,ze rfl,World.ownsRow_nil _ _ _ _,World.ownsRow_nil _ _ _ _,fun _ h=>nomatch h⟩
theorem jJ.push0 {w:World}{g:Nat}{c1:Nat}{c2:Nat}{o:List (List UInt8)}(h:jJ W g w a1 c1 a2 c2 r o){x:List UInt8}(f:w'.ownsRow W.heap.size 49 32 (.slice a5 (r.length+1) c5) (r.length+1) (r.flatten.map bv++x.map bv))(p:zb (Value.slice a1 r.length c1).ownBlock.toList w w')(m:(Value.slice a5 (r.length+1) c5).ownBlock=(Value.slice a1 r.length c1).ownBlock∨(Value.slice a5 (r.length+1) c5).ownBlock=some w.heap.size) : w'.cell? ⟨g,0,none⟩=some (.slice a1 r.length c1)∧w'.frozen? ⟨g,0,none⟩=false∧jJ W g (w'.setCell ⟨g,0,none⟩ (.slice a5 (r.length+1) c5)) a5 c5 a2 c2 (r++[x]) o:=by
 have s:g ∉ (Value.slice a1 r.length c1).ownBlock.toList:=fun d=>xM (yA h.rev (XD d)) (zU h.box) Wo rfl;have a:=p.heap h.box s;have k:zb [g] w' (w'.setCell ⟨g,0,none⟩ (.slice a5 (r.length+1) c5)):=Wd.setCell (.inl Wz) _;have l:∀ b,(Value.slice a2 o.length c2).ownBlock=some b→b ∉ (Value.slice a1 r.length c1).ownBlock.toList:=fun b e d=>h.apart b (XD d) e;have j:(r++[x]).length=r.length+1:=Wz;have q:((r++[x]).flatten).map bv=r.flatten.map bv++x.map bv:=Wz;refine⟨za a rfl,zh a,⟨?_,h.new_,?_,?_,?_,?_⟩⟩;·exact ((h.kept.trans p (fun i u=>.inr (h.rev.lt i (XD u)).1))).setCell (.inr h.new_) _
 ·rw [j];exact zd a rfl
 ·rw [j,q];exact zk f k (fun b e d=>by
   simp at d;subst d;exact xM (yA f e) (zU a) Wo rfl)
 ·exact zk (zk h.oth p l) k (fun b e d=>by
   simp at d;subst d;exact xM (yA (zk h.oth p l) e) (zU a) Wo rfl)
 ·intro b n t;rw [j] at n;rcases m with m | m;·exact h.apart b (m ▸ n) t
  ·rw [m] at n;have:=(h.oth.lt b t).2;cases n;omega
theorem jJ.push1 {w:World}{g:Nat}{c1:Nat}{c2:Nat}{o:List (List UInt8)}(h:jJ W g w a1 c1 a2 c2 r o){x:List UInt8}(f:w'.ownsRow W.heap.size 49 32 (.slice a5 (o.length+1) c5) (o.length+1) (o.flatten.map bv++x.map bv))(n:zb (Value.slice a2 o.length c2).ownBlock.toList w w')(m:(Value.slice a5 (o.length+1) c5).ownBlock=(Value.slice a2 o.length c2).ownBlock∨(Value.slice a5 (o.length+1) c5).ownBlock=some w.heap.size) : w'.cell? ⟨g,1,none⟩=some (.slice a2 o.length c2)∧w'.frozen? ⟨g,1,none⟩=false∧jJ W g (w'.setCell ⟨g,1,none⟩ (.slice a5 (o.length+1) c5)) a1 c1 a5 c5 r (o++[x]):=by
 have s:g ∉ (Value.slice a2 o.length c2).ownBlock.toList:=fun d=>xM (yA h.oth (XD d)) (zU h.box) Wo rfl;have a:=n.heap h.box s;have k:zb [g] w' (w'.setCell ⟨g,1,none⟩ (.slice a5 (o.length+1) c5)):=Wd.setCell (.inl Wz) _;have l:∀ b,(Value.slice a1 r.length c1).ownBlock=some b→b ∉ (Value.slice a2 o.length c2).ownBlock.toList:=fun b e d=>h.apart b e (XD d);have j:(o++[x]).length=o.length+1:=Wz;have q:((o++[x]).flatten).map bv=o.flatten.map bv++x.map bv:=Wz;refine⟨za a rfl,zh a,⟨?_,h.new_,?_,?_,?_,?_⟩⟩;·exact ((h.kept.trans n (fun i u=>.inr (h.oth.lt i (XD u)).1))).setCell (.inr h.new_) _
 ·rw [j];exact zd a rfl
 ·exact zk (zk h.rev n l) k (fun b e d=>by
   simp at d;subst d;exact xM (yA (zk h.rev n l) e) (zU a) Wo rfl)
 ·rw [j,q];exact zk f k (fun b e d=>by
   simp at d;subst d;exact xM (yA f e) (zU a) Wo rfl)
 ·intro b t p;rw [j] at p;rcases m with m | m;·exact h.apart b t (m ▸ p)
  ·rw [m] at p;have:=(h.rev.lt b t).2;cases p;omega
def pairRepFact (n:Nat)(key:ByteArray)(v:V n):kM (zb []):=⟨fun u _ w=>∃ k m s p i c q j d,u = .agg #[.string key,.int .i64 k,.int .i64 m,.string s,.slice p i c,.slice q j d]∧Rep n (fun _=>True) w [.int .i64 k,.int .i64 m,.string s,.slice p i c,.slice q j d] v,
 fun _ _ _ _ ⟨k,m,s,p,i,c,q,j,d,h1,h2⟩ kk=>⟨k,m,s,p,i,c,q,j,d,h1,h2.k0 kk⟩⟩
def put2 (w:World)(g:Nat)(a b:Value):World:=(w.setCell ⟨g,0,none⟩ a).setCell ⟨g,1,none⟩ b
theorem Zr (w:World)(g:Nat)(a b:Value):zb [g] w (put2 w g a b):=((zb.refl [g] w).setCell (.inl Wz) _).setCell (.inl Wz) _
theorem put2_at {w:World}{g:Nat}{c0 c1:Value}{f:Nat×Nat}(h:w.heap[g]? = some (.cells #[c0,c1] t f))(a b:Value):(put2 w g a b).heap[g]? = some (.cells #[a,b] t f):=by
 unfold put2;have e:=zd (i:=0) (v:=a) (d:=#[a,c1]) h rfl;exact zd (i:=1) (v:=b) (d:=#[a,b]) e rfl
end Go.Proofs.YtjccecajigmfkaaGreatDoor

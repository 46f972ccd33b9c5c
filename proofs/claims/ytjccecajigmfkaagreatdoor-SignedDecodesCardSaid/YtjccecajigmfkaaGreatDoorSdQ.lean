/- Parts of one proof, merged: XJI XIB. -/
import Derived.Test.YtjccecajigmfkaaGreatDoorSdP
import Derived.Test.YtjccecajigmfkaaGreatDoorSdN
set_option linter.all false
set_option maxHeartbeats 12800000
set_option maxRecDepth 10000
namespace Go.Proofs.YtjccecajigmfkaaGreatDoor
open Go.Proofs.Tryz
open Go.RowKit
variable {Q:Exit→Act→World→Prop}{S:Nat→Prop}{a:Option Addr}{l:List UInt8}{lcs:List (List Value)}{mcs:List (ByteArray×List Value)}{n:Nat}{op:Oper}{ops:Array Oper}{rest:List Oper}{w w':World}
theorem zbs:∀ (k:Nat) (s:S8) (l:List UInt8),l.length≤k→(vN s l).2.length=l.length%64
 | 0,s,l,h=>by rw [ZJ s l Ws];show l.length=_;omega
 | k+1,s,l,h=>by
  rcases Xr l.length 64 with h64 | h64;·rw [ZJ s l h64];show l.length=_;omega
  ·rw [QO s l h64,zbs k _ _ (by simp;omega),XW];omega
theorem yr.kept {X:List Nat}{g:Nat}(h:yr w g l)(k:zb X w w')(a:g ∉ X):yr w' g l:=k.heap h a
theorem yr.k0 {g:Nat}(h:yr w g l)(k:zb [] w w'):yr w' g l:=h.kept k Wz
theorem zH {a:Act}(e:op.guard=none)(x y:Operand)(m:op.op = .store 49 x y){g:Nat}{l0:List UInt8}(i:yr w g l0)(d:l0.length=32)(f:l.length=32)(k:a.eval x = .pointer (some ⟨g,0,none⟩))(j:a.eval y = .agg (l.map bv).toArray)(h:∀ w',yr w' g l→zb [g] w w'→wpList prog ops Q rest (a.put op.dst undef) w'):wpList prog ops Q (op::rest) a w:=by
 have b:(l.map bv).toArray.size=32:=by simp [f]
 refine wpList_store_mid e 49 x y m g 0 (l.map bv).toArray k j (by rw [b];exact i.there 32 d) (by rw [b];exact ja) (one32 _) (h _ ?_ (yO _ _ _ _));exact i.put (by rw [f,d])
theorem xa {a:Act}(b:op.guard=none)(x:Operand)(i:op.op = .load 49 x){g:Nat}(f:yr w g l)(d:l.length=32)(e:a.eval x = .pointer (some ⟨g,0,none⟩))(h:wpList prog ops Q rest (a.put op.dst (.agg (l.map bv).toArray)) w):wpList prog ops Q (op::rest) a w:=
 wpList_load_mid b 49 x i g 0 e (l.map bv) _ f.range underlying49 rfl (by rw [Xb,d];exact ja) h
theorem yr.var {g:Nat}(h:yr w g l)(a:l.length=32):(loadVar 49 ⟨g,0,none⟩).run prog w = .ok (.agg (l.map bv).toArray) w:=run_loadVar_mid (P:=prog) w g 0 49 (l.map bv) _ h.range underlying49 rfl (by rw [Xb,a];exact ja)
structure Qg (w:World)(q:Nat)(l:List UInt8)(wr:World):Prop where
 hash:∃ v,yx wr q (vN zX l).1 v l.length∧zm wr v (vN zX l).2∧∀ g,yt v=some g→g≠q
 kept:zb [] w wr
 res:yr wr w.heap.size (ku zX 0)
 ks:kg wr
theorem of_any (w:World)(g o cap:Nat)(b:List Value)(d:List (List UInt8))(l:Row w g o b)(h:zL (zm w) b d)(m:d.flatten.length≤100000000)(hn:b.length≤1000000)(s:kg w) : zG w 98 #[.slice (some ⟨g,o,none⟩) b.length cap] (.agg ((qj d.flatten).map bv).toArray):=by
 have Gn:=qI l;have X:=qI h;have Gh:=qI m;have HN:=qI hn;have Gy:=qI s;have Gz:=qI (K9 s);have ad:(b.length:Int)≤1000000:=Ws;have Gt:Hid (d.length=b.length):=qI h.1.symm;clear l h m s hn;go_enter func98,ntmps98;go_upto_region 1 with fail;change Code.wp _ _ _ _ (w.alloc (.cells z32 49));obtain⟨N,P⟩:=XE (w.alloc (.cells z32 49));have Gu:Hid (zb [] w N):=qI (kA1 P.o);have Gv:Hid (yr N w.heap.size (ku zX 0)):=qI (by rw [P.o];exact zd rfl);rw [← P.o];go_wp2_with (go_at_call 144;refine (new_any N).mono ?_;rintro e w2 ⟨q,rfl,hq,u,F⟩;have HQ:=qI hq;have Ja:=qI u;have M:=qI F;clear hq u F);have J:Hid (w.heap.size<q):=qI (XH HQ.o Gv.o.lt);go_loopw [5,9] (fun _ i wr=>∃ k:Nat,i = .int .i64 k∧k≤b.length∧Qg w q (d.take k).flatten wr) (fun _ i _=>b.length-(intOf i).toNat);case atStart=>exact⟨0,rfl,XB,⟨⟨_,Ja.o,xt _ _,by simp [yt]⟩,Gu.o.then M.o,M.o.heap Gv.o Wz,Gy.o.k0 (Gu.o.then M.o)⟩⟩
 case round=>
  obtain⟨k,rfl,hk,⟨⟨v,hh,W,hv⟩,C,f,p⟩⟩:=hrel;have G:=qI hh;have U:=qI W;have HV:=qI hv;have I:=qI C;have Z:=qI f;have Y:=qI p;have R:Hid ((d.take k).flatten.length≤100000000):=qI (X7 (vU d k) Gh.o);clear hh W hv C f p;rcases Xr k b.length with hlt | hlt
  ·have aa:(k:Int)<b.length:=by omega
   have c0:=I.o.cell (Gn.o.at hlt) Wz;have j:k<d.length:=by rw [Gt.o];exact hlt
   have Gw:Hid (zm wr b[k] d[k]):=qI ((X.o.2 k _ _ (XN hlt) (XN j)).k0 I.o);have H:Hid ((d.take (k+1)).flatten=(d.take k).flatten++d[k]):=qI (qv d k j);have Jb:Hid ((d.take (k+1)).flatten.length≤100000000):=qI (X7 (vU d (k+1)) Gh.o);have Jc:Hid (∀ g,yt b[k]=some g→g≠q):=qI (fun g Q=>by
    have r:=(X.o.2 k _ _ (XN hlt) (XN j)).lt Q;have h2:=J.o;omega)
   have O:Hid (Calls prog 145 #[.pointer (some ⟨q,0,none⟩),b[k]] wr fun e w'=>e = .returned (.int .i64 d[k].length)∧Qg w q (d.take (k+1)).flatten w'):=qI (by
    have r:=J7 wr q _ v b[k] _ d[k] _ G.o U.o HV.o Gw.o Jc.o (Nat.le_of_lt (KT _ _)) (by have:=Jb.o;rw [H.o,XM] at this;omega) Ws (XC R.o) Y.o (XH Gz.o J.o);refine r.mono ?_;rintro e w' ⟨rfl,⟨v',x,B,L⟩,z,E⟩;rw [← YZ _ zX _ d[k] (XA),← H.o] at x B;refine⟨rfl,⟨v',?_,B,fun g Q=>?_⟩,I.o.trans z (by intro i D;simp at D;subst D;exact .inr (XC J.o)),z.heap Z.o (by have:=J.o;simp;omega),E⟩;·rw [H.o,XM,Int.natCast_add];rw [← H.o];exact x
    ·have h2:=(L g Q).1;have h3:=G.o.lt;omega)
   generalize K:d[k].length=lk at O;clear K;obtain⟨va,vn,vc,t,-,-⟩:∃ a n c,b[k] = .slice a n c∧True∧True:=by obtain⟨a,c,r,-,-⟩:=Gw.o.form;exact⟨_,_,_,r,trivial,trivial⟩
   rw [t] at c0 O;have e9:o+k*1=o+k:=Ws;clear t;go_wp2_with (go_at_call 145;refine O.o.mono ?_;rintro e w3 ⟨rfl,A⟩;have Ga:=qI A;clear A);case roundEnd=>exact⟨⟨k+1,by go_num,Ws,Ga.o⟩,by simp [intOf];omega⟩
  ·obtain rfl:k=b.length:=by omega
   have HT:Hid (d.take b.length=d):=qI (by rw [← Gt.o];exact Xw);rw [HT.o] at G U R;have CS:Hid (zG wr 146 #[.pointer (some ⟨q,0,none⟩)] (.agg ((qj d.flatten).map bv).toArray)):=qI (by
    have r:=sum_any wr q _ v _ d.flatten.length G.o U.o (KT _ _) (XC R.o) Y.o;rw [← YZ _ zX _ _ (XA),zbs _ _ _ (XA)] at r;exact r)
   have ab:((qj d.flatten).map bv).toArray.size=32:=by simp [yP]
   go_wp2_with first
    | (go_at_call 146;refine CS.o.mh ?_;rintro e w4 rfl Gx)
    | (refine zH Wk (.tmp 2) (.tmp 18) Wk (Z.o.k0 Gx.o) (yp _ _) (yP _) Wk Wk ?_;intro w5 h5 y;have H5:=qI h5;have Jd:=qI y;clear h5 y)
   have f:=H5.o.var (yP _);refine bodyPost_ret (v:=.agg ((qj d.flatten).map bv).toArray) (by simp only [results,results98];simp [f,Sem.run_bind,asAddr,Act.put]) rfl ⟨rfl,?_⟩;exact (I.o.then Gx.o).trans Jd.o (by intro i D;simp at D;subst D;exact .inr (XA))
structure yY where
 bits:Int
 height:Int
 root:List UInt8
variable {k:yY}
def bf (k:yY):List Value:=.int .i64 k.bits :: .int .i64 k.height::k.root.map bv
def yV (k:yY):Array Value:=(bf k).toArray
theorem xW (h:k.root.length=32):(bf k).length=34:=by simp [bf,h]
def xw (b:Int):Bool:=decide (8≤b)&&(decide (b≤256)&&decide (b%8=0))
def yl (k:yY):Bool:=xw k.bits&&(decide (0≤k.height)&&decide (k.height≤6))
def yS (w:World)(g:Nat)(k:yY):Prop:=w.heap[g]? = some (.cells (yV k) 51 (0,0))
theorem yS.k0 {g:Nat}(h:yS w g k)(a:zb [] w w'):yS w' g k:=a.heap h Wz
theorem yS.c0 {g:Nat}(h:yS w g k):w.cell? ⟨g,0,none⟩=some (.int .i64 k.bits):=za h rfl
theorem yS.c1 {g:Nat}(h:yS w g k):w.cell? ⟨g,1,none⟩=some (.int .i64 k.height):=za h rfl
theorem yS.range {g:Nat}(h:yS w g k):w.rangeAt g 0 (bf k):=fun j v hv=>by
 rw [Xd];exact za h (by simpa [yV] using hv)
theorem yS.root {w:World}{g:Nat}{k:yY}(h:yS w g k)(a:k.root.length=32):zm w (.slice (some ⟨g,2,none⟩) 32 32) k.root:=by
 refine⟨Wz,.inr (.inr ⟨g,2,32,by rw [a],Ws,Wo,⟨fun j u b=>?_,lt_of_block h⟩⟩)⟩;refine za h ?_;rw [yV,uB,bf,show 2+j=j+1+1 by omega,uK,uK];exact b
theorem J4:(Tryz.prog.info? 51).map (·.size)=some 34:=Wr
theorem yN {a:Act}(b:op.guard=none)(x:Operand)(i:op.op = .load 51 x){g:Nat}(f:yS w g k)(d:k.root.length=32)(e:a.eval x = .pointer (some ⟨g,0,none⟩))(h:wpList prog ops Q rest (a.put op.dst (.agg (yV k))) w):wpList prog ops Q (op::rest) a w:=
 wpList_load_mid b 51 x i g 0 e (bf k) _ f.range underlying51 rfl (by rw [xW d];exact J4) h
theorem bp (b:Int)(l:-9223372036854775808≤b)(k:b≤9223372036854775807)(w:World):Calls prog 85 #[.int .i64 b] w fun e w'=>e = .returned (.bool (xw b))∧w=w':=by
 have f:Hid (xw b=(decide (8≤b)&&(decide (b≤256)&&decide (b%8=0)))):=qI rfl;by_cases i:8≤b
 ·have a:decide (8≤b)=true:=XT i;by_cases h:b≤256
  ·have d:decide (b≤256)=true:=XT h;by_cases j:b%8=0;all_goals
    go_enter func85,ntmps85;go_wp2;go_ret;exact⟨by rw [f.o,a,d];simp [j],rfl⟩
  ·have d:decide (b≤256)=false:=XO h;go_enter func85,ntmps85;go_wp2;go_ret;exact⟨by rw [f.o,a,d];rfl,rfl⟩
 ·have a:decide (8≤b)=false:=XO i;go_enter func85,ntmps85;go_wp2;go_ret;exact⟨by rw [f.o,a];rfl,rfl⟩
def YR (b:Int):Prop:=-9223372036854775808≤b∧b≤9223372036854775807
theorem bV (k:yY)(i:YR k.bits)(w:World):zG w 44 #[.agg (yV k)] (.bool (yl k)):=by
 have b:Hid (yl k=(xw k.bits&&(decide (0≤k.height)&&decide (k.height≤6)))):=qI rfl;obtain⟨l,d⟩:=XE (w.alloc (.cells (yV k) 51));have h:Hid (zb [] w l):=qI (kA1 d.o);have j:Hid (yS l w.heap.size k):=qI (by rw [d.o];exact zd rfl);have a:=qI (fun w1:World=>bp k.bits i.1 i.2 w1);have c0:=j.o.c0;have c1:=j.o.c1;revert b a;generalize xw k.bits=r;intro b a;cases r with
 | false=>go_enter func44,ntmps44;go_upto_region 1 with fail;rw [← d.o];go_wp2_with (go_at_call 85;refine (a.o _).mono ?_;rintro e w2 ⟨rfl,rfl⟩);go_ret;exact⟨by rw [b.o];rfl,h.o⟩
 | true=>
  by_cases m:0≤k.height;·have f:decide (0≤k.height)=true:=XT m;go_enter func44,ntmps44;go_upto_region 1 with fail;rw [← d.o];go_wp2_with (go_at_call 85;refine (a.o _).mono ?_;rintro e w2 ⟨rfl,rfl⟩);go_ret;exact⟨by rw [b.o,f];rfl,h.o⟩
  ·have f:decide (0≤k.height)=false:=XO m;go_enter func44,ntmps44;go_upto_region 1 with fail;rw [← d.o];go_wp2_with (go_at_call 85;refine (a.o _).mono ?_;rintro e w2 ⟨rfl,rfl⟩);go_ret;exact⟨by rw [b.o,f];rfl,h.o⟩
theorem zbQ (n:Int)(w:World):zG w 143 #[.int .i64 n] (.agg #[.int .i64 3,.int .i64 n,.string ⟨#[]⟩,.slice none 0 0,.slice none 0 0]):=by
 go_enter func143,ntmps143;go_wp2;exact bodyPost_ret (v:=.agg #[.int .i64 3,.int .i64 n,.string ⟨#[]⟩,.slice none 0 0,.slice none 0 0]) (by simp [results,results143,go_sem]) rfl ⟨rfl,Wd.alloc _⟩
theorem vq (s:ByteArray)(w:World):zG w 55 #[.string s] (.agg #[.int .i64 4,.int .i64 0,.string s,.slice none 0 0,.slice none 0 0]):=by
 go_enter func55,ntmps55;go_wp2;exact bodyPost_ret (v:=.agg #[.int .i64 4,.int .i64 0,.string s,.slice none 0 0,.slice none 0 0]) (by simp [results,results55,go_sem]) rfl ⟨rfl,Wd.alloc _⟩
theorem Zn (key:ByteArray)(k m:Int)(s:ByteArray)(p:Option Addr)(i c:Nat)(q:Option Addr)(j d:Nat)(w:World):zG w 142 #[.string key,.agg #[.int .i64 k,.int .i64 m,.string s,.slice p i c,.slice q j d]] (.agg #[.string key,.int .i64 k,.int .i64 m,.string s,.slice p i c,.slice q j d]):=by
 go_enter func142,ntmps142;go_wp2;exact bodyPost_ret (v:=.agg #[.string key,.int .i64 k,.int .i64 m,.string s,.slice p i c,.slice q j d]) (by simp [results,results142,go_sem]) rfl ⟨rfl,(Wd.alloc _).alloc _⟩
def vD {α:Type}(m:List (ByteArray×α)):VS α:=⟨6,0,⟨#[]⟩,[],m⟩
def jL {α:Type}(l:List α):VS α:=⟨5,0,⟨#[]⟩,l,[]⟩
def intV {α:Type}(n:Int):VS α:=⟨3,n,⟨#[]⟩,[],[]⟩
def kB {α:Type}(s:ByteArray):VS α:=⟨4,0,s,[],[]⟩
theorem rep_map {m:List (ByteArray×V n)}{c:Nat}(b:Slc w 6 (.slice a m.length c) m.length (yM mcs))(hm:zL (YQ (Rep n S w)) mcs m)(d:∀ g,yt (.slice a m.length c)=some g→S g):Rep (n+1) S w [.int .i64 6,.int .i64 0,.string ⟨#[]⟩,.slice none 0 0,.slice a m.length c] (vD m):=
 ⟨.slice none 0 0,_,[],mcs,{ cells:=rfl,slcl:=xt _ _,alll:=zL.nil _,slcm:=b,allm:=hm,inl:=by simp [yt],inm:=d,wfk:=zaV (i:=6) Wo Wo,wfn:=zaV (i:=0) Wo Wo }⟩
theorem rep_list {l:List (V n)}{c:Nat}(b:Slc w 5 (.slice a l.length c) l.length lcs.flatten)(hm:zL (Rep n S w) lcs l)(d:∀ g,yt (.slice a l.length c)=some g→S g):Rep (n+1) S w [.int .i64 5,.int .i64 0,.string ⟨#[]⟩,.slice a l.length c,.slice none 0 0] (jL l):=
 ⟨_,.slice none 0 0,lcs,[],{ cells:=rfl,slcl:=b,alll:=hm,slcm:=xt _ _,allm:=zL.nil _,inl:=d,inm:=by simp [yt],wfk:=zaV (i:=5) Wo Wo,wfn:=zaV (i:=0) Wo Wo }⟩
theorem rep_int (S:Nat→Prop)(w:World)(z:Int)(h:YR z):Rep (n+1) S w [.int .i64 3,.int .i64 z,.string ⟨#[]⟩,.slice none 0 0,.slice none 0 0] (intV z):=zbn S w (intV z) rfl rfl (zaV (i:=3) Wo Wo) (zaV h.1 h.2)
theorem ZM (S:Nat→Prop)(w:World)(s:ByteArray):Rep (n+1) S w [.int .i64 4,.int .i64 0,.string s,.slice none 0 0,.slice none 0 0] (kB s):=zbn S w (kB s) rfl rfl (zaV (i:=4) Wo Wo) (zaV (i:=0) Wo Wo)
def New (n:Nat)(w w':World)(e:Ending)(v:V n):Prop:=∃ cs:List Value,e = .returned (.agg cs.toArray)∧jH n (fun g=>w.heap.size≤g∧g<w'.heap.size) w' cs v
theorem ZO {m:List (ByteArray×V n)}{c:Nat}(y:Slc w 6 (.slice a m.length c) m.length (yM mcs))(hm:zL (YQ (Rep n S w)) mcs m)(l:zP (n+1) (vD m)) : Calls prog 54 #[.slice a m.length c] w fun e w'=>New (n+1) w w' e (vD m)∧zb [] w w':=by
 obtain⟨s,p⟩:=XE (w.alloc (.cells #[.int .i64 0,.int .i64 0,.string ⟨#[]⟩,.slice none 0 0,.slice none 0 0] 25));have t:Hid (zb [] w s):=qI (kA1 p.o);have D:Hid (s.heap[w.heap.size]? = some (.cells #[.int .i64 0,.int .i64 0,.string ⟨#[]⟩,.slice none 0 0,.slice none 0 0] 25 (0,0))):=qI (by rw [p.o];exact zd rfl);have F:=qI (Z9 (n+1) (vD m) (rep_map (S:=fun _=>True) (y.k0 t.o) (hm.mono fun _ _ _ r=>⟨r.1,(r.2.k0 t.o).mono (fun _ _ _=>trivial)⟩) (fun _ _=>trivial)) l);clear y hm l;go_enter func54,ntmps54;go_upto_region 1 with fail;rw [← p.o];go_wp2_with (go_at_call 53;refine F.o.mono ?_;rintro e q ⟨⟨I,rfl,f⟩,d⟩;obtain⟨k3,m3,s3,x3,j3,c3,y3,l3,e3,rfl⟩:=f.rep.conv;have G:=qI f;have B:=qI d;have b:=qI (d.heap D.o Wz);have M:=za (o:=0) (v:=.int .i64 0) b.o rfl;have O:=za (o:=1) (v:=.int .i64 0) b.o rfl;have N:=za (o:=2) (v:=.string ⟨#[]⟩) b.o rfl;have Q:=za (o:=3) (v:=.slice none 0 0) b.o rfl;have P:=za (o:=4) (v:=.slice none 0 0) b.o rfl;have z:∀ j,q.frozen? ⟨w.heap.size,j,none⟩=false:=fun j=>zh b.o;clear f d);change bodyPost _ _ _ _ _ (xU q w.heap.size k3 m3 s3 (.slice x3 j3 c3) (.slice y3 l3 e3));have h:=yv q w.heap.size k3 m3 s3 (.slice x3 j3 c3) (.slice y3 l3 e3);have u:=xE b.o k3 m3 s3 (.slice x3 j3 c3) (.slice y3 l3 e3);revert h u;generalize xU q w.heap.size k3 m3 s3 (.slice x3 j3 c3) (.slice y3 l3 e3)=WF;intro h u;obtain⟨E,H,L,C,K⟩:=yD u;refine bodyPost_ret (v:=.agg #[.int .i64 k3,.int .i64 m3,.string s3,.slice x3 j3 c3,.slice y3 l3 e3]) (by simp [results,results54,go_sem,E,H,L,C,K]) rfl ⟨?_,(t.o.then B.o).trans h (by intro i A;simp at A;subst A;exact .inr (XA))⟩;have J:s.heap.size=w.heap.size+1:=by rw [p.o];simp
 exact⟨_,rfl,(G.o.kept h (by intro k x;simp at x;subst x;omega)).mono (fun g ⟨h5,h6⟩=>⟨Ws,uT h6 h.size⟩)⟩
theorem valList_any {l:List (V n)}{c:Nat}(y:Slc w 5 (.slice a l.length c) l.length lcs.flatten)(hm:zL (Rep n S w) lcs l)(m:zP (n+1) (jL l)) : Calls prog 57 #[.slice a l.length c] w fun e w'=>New (n+1) w w' e (jL l)∧zb [] w w':=by
 obtain⟨s,p⟩:=XE (w.alloc (.cells #[.int .i64 0,.int .i64 0,.string ⟨#[]⟩,.slice none 0 0,.slice none 0 0] 25));have t:Hid (zb [] w s):=qI (kA1 p.o);have D:Hid (s.heap[w.heap.size]? = some (.cells #[.int .i64 0,.int .i64 0,.string ⟨#[]⟩,.slice none 0 0,.slice none 0 0] 25 (0,0))):=qI (by rw [p.o];exact zd rfl);have F:=qI (Z9 (n+1) (jL l) (rep_list (S:=fun _=>True) (y.k0 t.o) (hm.mono fun _ _ _ r=>(r.k0 t.o).mono (fun _ _ _=>trivial)) (fun _ _=>trivial)) m);clear y hm m;go_enter func57,ntmps57;go_upto_region 1 with fail;rw [← p.o];go_wp2_with (go_at_call 53;refine F.o.mono ?_;rintro e q ⟨⟨I,rfl,f⟩,d⟩;obtain⟨k3,m3,s3,x3,j3,c3,y3,l3,e3,rfl⟩:=f.rep.conv;have G:=qI f;have B:=qI d;have b:=qI (d.heap D.o Wz);have M:=za (o:=0) (v:=.int .i64 0) b.o rfl;have O:=za (o:=1) (v:=.int .i64 0) b.o rfl;have N:=za (o:=2) (v:=.string ⟨#[]⟩) b.o rfl;have Q:=za (o:=3) (v:=.slice none 0 0) b.o rfl;have P:=za (o:=4) (v:=.slice none 0 0) b.o rfl;have z:∀ j,q.frozen? ⟨w.heap.size,j,none⟩=false:=fun j=>zh b.o;clear f d);change bodyPost _ _ _ _ _ (xU q w.heap.size k3 m3 s3 (.slice x3 j3 c3) (.slice y3 l3 e3));have h:=yv q w.heap.size k3 m3 s3 (.slice x3 j3 c3) (.slice y3 l3 e3);have u:=xE b.o k3 m3 s3 (.slice x3 j3 c3) (.slice y3 l3 e3);revert h u;generalize xU q w.heap.size k3 m3 s3 (.slice x3 j3 c3) (.slice y3 l3 e3)=WF;intro h u;obtain⟨E,H,L,C,K⟩:=yD u;refine bodyPost_ret (v:=.agg #[.int .i64 k3,.int .i64 m3,.string s3,.slice x3 j3 c3,.slice y3 l3 e3]) (by simp [results,results57,go_sem,E,H,L,C,K]) rfl ⟨?_,(t.o.then B.o).trans h (by intro i A;simp at A;subst A;exact .inr (XA))⟩;have J:s.heap.size=w.heap.size+1:=by rw [p.o];simp
 exact⟨_,rfl,(G.o.kept h (by intro k x;simp at x;subst x;omega)).mono (fun g ⟨h5,h6⟩=>⟨Ws,uT h6 h.size⟩)⟩
end Go.Proofs.YtjccecajigmfkaaGreatDoor

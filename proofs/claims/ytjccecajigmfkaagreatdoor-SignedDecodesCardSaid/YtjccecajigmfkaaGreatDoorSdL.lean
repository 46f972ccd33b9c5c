/- Parts of one proof, merged: XKN XKO XKP XKQ XPC XPD XQA. -/
import Derived.Shelf.SlSortCmp.NoneTotal
import Derived.Test.YtjccecajigmfkaaGreatDoorSdK
import Derived.Test.YtjccecajigmfkaaGreatDoorSdJ
set_option linter.all false
set_option maxHeartbeats 12800000
set_option maxRecDepth 10000
namespace Go.Proofs.YtjccecajigmfkaaGreatDoor
open Go.Proofs.Tryz
open Go.RowKit
open Go.Sort (grow flatK size_flatK get_flatK putRowK HoldsK)
variable {D cap n:Nat}{α β:Type}
def cmpZ (a b:ByteArray):Int:=if ltB a b=true then -1 else if ltB b a=true then 1 else 0
theorem less_eq (a b:ByteArray):Op.bytesLess a.toList b.toList=ltB a b:=by
 rw [ByteArray.toList_eq,ByteArray.toList_eq,KP];rfl
theorem compare_any (a b:ByteArray)(w:World):Calls prog 170 #[.string a,.string b] w fun e w'=>e = .returned (.int .i64 (cmpZ a b))∧w=w':=by
 by_cases d:ltB a b=true
 ·have j:Op.bytesLess a.toList b.toList=true:=by rw [less_eq];exact d
  have h:Hid (cmpZ a b = -1):=qI (by unfold cmpZ;rw [XK d]);clear d;go_enter func170,ntmps170;go_wp2;go_ret;rw [h.o];exact⟨rfl,rfl⟩
 have j:Op.bytesLess a.toList b.toList=false:=by rw [less_eq];simpa using d
 by_cases h2:ltB b a=true
 ·have f:a≠b:=fun e=>by subst e;exact d h2
  have k:=(k7 f).1;have h:Hid (cmpZ a b=1):=qI (by unfold cmpZ;rw [XJ d,XK h2]);clear d h2 f;go_enter func170,ntmps170;go_wp2;go_ret;rw [h.o];exact⟨rfl,rfl⟩
 ·have i:a=b:=ltB_none d h2;have k:=(jv i).1;have h:Hid (cmpZ a b=0):=qI (by unfold cmpZ;rw [XJ d,XJ h2]);clear d h2 i;go_enter func170,ntmps170;go_wp2;go_ret;rw [h.o];exact⟨rfl,rfl⟩
structure PC where
 key:ByteArray
 k:Int
 m:Int
 s:ByteArray
 p:Option Addr
 i:Nat
 c:Nat
 q:Option Addr
 j:Nat
 d:Nat
variable {ms:List PC}
instance pcInh:Inhabited PC:=⟨⟨⟨#[]⟩,0,0,⟨#[]⟩,none,0,0,none,0,0⟩⟩
def PC.cs (x:PC):List Value:=[.int .i64 x.k,.int .i64 x.m,.string x.s,.slice x.p x.i x.c,.slice x.q x.j x.d]
def PC.enc (x:PC):List Value:=.string x.key::x.cs
def PC.cf (x y:PC):Int:=cmpZ x.key y.key
theorem PC.enc_len (x:PC):x.enc.length=6:=rfl
theorem PC.enc_one (x:PC):∀ v∈x.enc,v.oneCell'=true:=by
 intro v hv;simp only [PC.enc,PC.cs,XY,Xi,uC] at hv;rcases hv with rfl | rfl | rfl | rfl | rfl | rfl <;> rfl
theorem byKey_any (x y:PC)(w:World):Calls prog 121 #[.agg x.enc.toArray,.agg y.enc.toArray] w fun e w'=>e = .returned (.int .i64 (x.cf y))∧w'=grow (w.drewN 0) #[.cells x.enc.toArray 41,.cells y.enc.toArray 41]:=by
 obtain⟨key,k,m,s,p,i,c,q,j,d⟩:=x;obtain⟨a,h,l,r,u,t,n,b,v,f⟩:=y;have z:Hid (grow (w.drewN 0) #[.cells #[.string key,.int .i64 k,.int .i64 m,.string s,.slice p i c,.slice q j d] 41,.cells #[.string a,.int .i64 h,.int .i64 l,.string r,.slice u t n,.slice b v f] 41]=(w.alloc (.cells #[.string key,.int .i64 k,.int .i64 m,.string s,.slice p i c,.slice q j d] 41)).alloc (.cells #[.string a,.int .i64 h,.int .i64 l,.string r,.slice u t n,.slice b v f] 41)):=qI (by
  rw [Sort.alloc_eq_grow,Sort.alloc_eq_grow,Sort.grow_grow];rfl)
 show Calls prog 121 #[.agg #[.string key,.int .i64 k,.int .i64 m,.string s,.slice p i c,.slice q j d],.agg #[.string a,.int .i64 h,.int .i64 l,.string r,.slice u t n,.slice b v f]] w fun e w'=>e = .returned (.int .i64 (cmpZ key a))∧w'=grow (w.drewN 0) #[.cells #[.string key,.int .i64 k,.int .i64 m,.string s,.slice p i c,.slice q j d] 41,.cells #[.string a,.int .i64 h,.int .i64 l,.string r,.slice u t n,.slice b v f] 41];rw [z.o];go_enter func121,ntmps121;go_wp2_with (go_at_call 170;refine (compare_any key a _).mono ?_;rintro e w2 ⟨rfl,rfl⟩);go_ret;exact⟨rfl,rfl⟩
theorem ltOf_key (x y:PC):ltOf PC.cf x y=ltB x.key y.key:=by
 unfold ltOf PC.cf cmpZ;by_cases a:ltB x.key y.key=true;·rw [XK a,a];rfl
 ·rw [XJ a];have b:ltB x.key y.key=false:=by simpa using a
  rw [b];split <;> rfl
theorem swo_keys:Sort.SWO (ltOf PC.cf):=by
 have e:=ltOf_key;refine⟨fun x=>?_,fun x y z a h2=>?_,fun x y z a h2=>?_⟩;·rw [e];unfold ltB;simp
 ·rw [e] at a h2 ⊢;unfold ltB at *;rw [decide_eq_true_iff] at *;exact List.lt_trans a h2
 ·rw [e] at a h2 ⊢;unfold ltB at *;rw [ul] at *;rw [List.not_lt] at *;exact List.le_trans h2 a
theorem agg_pair (w:World):(isAgg 41).run prog w = .ok true w:=isAgg41 w
theorem size_pair (w:World):(Go.sizeOf 41).run prog w = .ok 6 w:=sizeOf41 w
theorem enter_byKey:∀ (args:Array Value) (w:World),(callFunc 121 args).run prog w = .ok (.enter 121 args) w:=enters_of func121 Wr rfl
theorem enc_get (a:List PC)(t:Nat)(h:t<a.length*6):(a.flatMap PC.enc)[t]? = some (((a[t/6]'(Ws)).enc)[t%6]!):=by
 have d:a.flatMap PC.enc=(a.map PC.enc).flatten:=by simp [List.flatMap]
 have h2:=jb (size:=6) (a.map PC.enc) (t/6) (t%6) (by intro c hc;obtain⟨x,_,rfl⟩:=Xm.1 hc;rfl) (by simp;omega) Ws;have e:t/6*6+t%6=t:=Ws;rw [e] at h2;rw [d,h2,uJ];have b:t%6<(a[t/6]'(Ws)).enc.length:=by rw [PC.enc_len];omega
 rw [XN b];congr 1;exact (getElem!_pos (a[t/6]'(Ws)).enc (t%6) b).symm
theorem Ks (a:List PC):(a.flatMap PC.enc).length=a.length*6:=by
 induction a with
 | nil=>rfl
 | cons x a ih=>rw [um,XM,ih,PC.enc_len,XP];omega
theorem zcv {w:World}{B g:Nat}(s:w.ownsRow B 41 6 (.slice (some ⟨g,0,none⟩) n cap) n (ms.flatMap PC.enc))(Y:ms.length=n)(J:n≤1000000) : Calls prog 120 #[.slice (some ⟨g,0,none⟩) n cap,.func (.func 121) #[] #[]] w fun e w'=> e = .returned (.tuple #[])∧∃ ds:List PC,ds.Perm ms∧ds.Pairwise (fun x y=>ltB y.key x.key=false)∧w'.ownsRow B 41 6 (.slice (some ⟨g,0,none⟩) n cap) n (ds.flatMap PC.enc)∧zb [g] w w':=by
 subst Y;obtain⟨hl,X⟩:=s;obtain⟨b,H,v,hc,hm,E,G⟩:∃ b,B≤g∧w.heap[g]? = some (.cells b 41 (0,0))∧ms.length≤cap∧cap≤maxLen∧b.size=cap*6∧b.toList.take (ms.length*6)=ms.flatMap PC.enc:=by
  rcases X with ⟨h,_⟩ | ⟨g',F,b,hv,P,K,R,O,W,Z⟩;·cases h
  ·simp only [XU,Xt,Addr.mk.injEq,and_true,true_and] at hv;obtain⟨rfl,rfl⟩:=hv;exact⟨b,P,K,R,O,W,Z⟩
 have C:ms.length*6≤cap*6:=uY 6 hc;have I:HoldsK PC.enc 6 w g 0 ms.toArray:=by
  intro j q;rw [size_flatK] at q;have f:j<ms.length*6:=by simpa using q
  rw [get_flatK _ _ _ _ q,Xd];have d:b[j]? = some ((ms[j/6]'(Ws)).enc[j%6]!):=by rw [← enc_get ms j f,← G,X9,XK f,uP]
  refine⟨?_,zh v⟩;rw [za v d];have h2:j/6<ms.toArray.size:=by simp;omega
  rw [getElem!_pos ms.toArray (j/6) h2];simp
 have r:CmpLays prog 121 #[] PC.enc 6 PC.cf g 0 ms.toArray.size w:=by intro m os dk _ x y;exact (byKey_any x y _).mono fun e w' ⟨d,h2⟩=>⟨d,0,_,h2⟩
 refine (AnyQ.slices_SortFunc Tryz.shSort 6 agg_pair size_pair PC.enc PC.enc_len PC.enc_one PC.cf swo_keys 121 #[] g 0 cap ms.toArray w enter_byKey r I (lt_of_block v) (by simp;omega)).mono ?_;rintro e w' ⟨rfl,a,m,os,hp,p,rfl⟩;obtain⟨D,_,p3⟩:=hp;have k:a.size=ms.length:=by simpa using D
 obtain⟨L,u,N,M,U⟩:=sort_world PC.enc 6 v m a os (by rw [k,E];exact C);have l:a.toList.Perm ms:=by
  have d:(a.extract 0 ms.toArray.size)=a:=by rw [← D];exact Array.extract_size
  have h2:(ms.toArray.extract 0 ms.toArray.size)=ms.toArray:=Array.extract_size;rw [d,h2] at p3;simpa using p3
 refine⟨rfl,a.toList,l,?_,⟨?_,.inr ⟨g,cap,u,rfl,H,N,hc,hm,by rw [M];exact E,?_⟩⟩,L⟩
 ·rw [ut];intro i j Q q A;have z:i<a.size:=by simpa using Q
  have f:j<a.size:=by simpa using q
  have d:=p i j (XB) A (by rw [← D];exact f);rw [getElem!_pos a i z,getElem!_pos a j f] at d;have h2:ltOf PC.cf a[j] a[i]=ltB a[j].key a[i].key:=ltOf_key _ _;rw [h2] at d;simpa using d
 ·rw [Ks,ue,k]
 ·apply VL;intro t;rw [X9];by_cases d:t<ms.length*6;·rw [XK d,uP,U t Ws,XK (by rw [k];exact d),enc_get a.toList t (by rw [ue,k];exact d)];have h2:t/6<a.size:=Ws;rw [getElem!_pos a (t/6) h2];simp
  ·rw [XJ d,uQ (by rw [Ks,ue,k];omega)]
theorem row_cells {w:World}{base e size o g:Nat}{v:Value}{xs c:List Value}(h:w.ownsRow base e size v n xs)(hv:v.ownBlock=some g)(C:o+c.length≤n*size) : (∃ ys,(w.setCells g o c).ownsRow base e size v n ys∧ys.length=xs.length∧∀ j,ys[j]? = if o≤j∧j<o+c.length then c[j-o]? else xs[j]?)∧w.there g o c.length∧zb [g] w (w.setCells g o c):=by
 obtain⟨u,h2⟩:=h;rcases h2 with ⟨rfl,_⟩ | ⟨p,cap,f,rfl,y,m,b,hm,s,t⟩;·simp [Value.ownBlock] at hv
 ·simp [Value.ownBlock] at hv;subst hv;have x:n*size≤cap*size:=uY size b;obtain⟨a,A,r,B⟩:=qN p c o w f m;have k:∀ j,(a.toList.take (n*size))[j]? = if o≤j∧j<o+c.length then c[j-o]? else xs[j]?:=by
   intro j;rw [X9];by_cases l:j<n*size
   ·rw [XK l,uP,B j Ws];by_cases q:o≤j∧j<o+c.length;·rw [XK q,XK q]
    ·rw [XJ q,XJ q,← t,X9,XK l,uP]
   ·rw [XJ l,XJ Ws,uQ Ws]
  have d:(a.toList.take (n*size)).length=n*size:=by rw [Xe,ue,r,s];omega
  refine⟨⟨a.toList.take (n*size),⟨d,.inr ⟨p,cap,a,rfl,y,A,b,hm,by rw [r];exact s,rfl⟩⟩,by rw [d,u],k⟩,?_,yO _ _ _ _⟩;intro j l;have z:o+j<f.size:=Ws;have i:w.cell? ⟨p,o+j,none⟩=some f[o+j]:=za m (by simp [z]);exact⟨by rw [i];rfl,zh m⟩
theorem take_set (f:α→β)(g:α→β)(l:List α)(k:Nat)(h:k<l.length):((l.take k).map f++(l.drop k).map g).set k (f l[k])=(l.take (k+1)).map f++(l.drop (k+1)).map g:=by
 rw [xQ f l k h,X0 h,Xf,List.set_append];have e:((l.take k).map f).length=k:=by simp;omega
 rw [XJ Ws,e,VN,List.set_cons_zero,Xv];rfl
theorem mixed_get (f:α→β)(g:α→β)(l:List α)(k:Nat)(h:k<l.length):((l.take k).map f++(l.drop k).map g)[k]? = some (g l[k]):=by
 have e:((l.take k).map f).length=k:=by simp;omega
 rw [Xx Ws,e,VN,X0 h];rfl
theorem right_nodup {v:VS (V n)}(h:zn (n+1) v=true):(v.m.map (fun p=>p.1)).Nodup:=by
 rcases vZ (bc h) with q | q | q | q | q | q;·rw [q.2.2.2.2];exact VC
 ·rw [q.2.2.2.2];exact VC
 ·rw [q.2.2.2.2];exact VC
 ·rw [q.2.2.2.2];exact VC
 ·rw [q.2.2.2];exact VC
 ·have:=q.2.2.2.2;unfold xe at this;rw [XR,decide_eq_true_iff] at this;exact this.2
theorem pcs_of {S:Nat→Prop}{w:World}:∀ {mcs:List (ByteArray×List Value)}{ms:List (ByteArray×V n)},zL (YQ (Rep n S w)) mcs ms→∃ ds:List PC,mcs=ds.map (fun x=>(x.key,x.cs))∧yM mcs=ds.flatMap PC.enc:=by
 intro mcs;induction mcs with
 | nil=>intro ms _;exact⟨[],rfl,rfl⟩
 | cons p mcs ih=>
  intro ms h
  match ms,h with
  | [],h=>exact absurd h.1 Wz
  | q::ms,h=>obtain⟨ds,l,h2⟩:=ih (ms:=ms) ⟨by simpa using h.1,fun j a b u r=>h.2 (j+1) a b (by simpa using u) (by simpa using r)⟩;have f:=(h.2 0 p q rfl rfl).2;obtain⟨key,cs⟩:=p;obtain⟨k,m,s,a,b,e⟩:=f.five;simp only at e;subst e;obtain⟨v,i,c,t,j,d,rfl,rfl⟩:=f.sl;refine⟨⟨key,k,m,s,v,i,c,t,j,d⟩:: ds,by rw [Xf,l];rfl,?_⟩;rw [um,← h2];rfl
theorem Slc.at6 {w:World}{x:Value}{m:Nat}{ms:List (ByteArray×List Value)}(h:Slc w 6 x m (yM ms))(h6:∀ c,c∈ms.map xA→c.length=6){j:Nat}(r:j<ms.length){k i:Int}{s:ByteArray}{a b:Value}(e:ms[j].2=[.int .i64 k,.int .i64 i,.string s,a,b]) : ∃ g o cap,x = .slice (some ⟨g,o,none⟩) m cap∧w.cell? ⟨g,o+j*6,none⟩=some (.string ms[j].1)∧w.cell? ⟨g,o+j*6+1,none⟩=some (.int .i64 k)∧w.cell? ⟨g,o+j*6+2,none⟩=some (.int .i64 i)∧w.cell? ⟨g,o+j*6+3,none⟩=some (.string s)∧w.cell? ⟨g,o+j*6+4,none⟩=some a∧w.cell? ⟨g,o+j*6+5,none⟩=some b:=by
 rw [qi] at h;have q:=YT (ms.map xA) h6;rw [Xb] at q;have hm:=h.1;rcases h.2 with ⟨_,p⟩ | ⟨p,_⟩ | ⟨g,o,cap,f,_,_,d⟩
 ·omega
 ·omega
 have hc:∀ i,i<6→(ms.map xA).flatten[j*6+i]? = (xA ms[j])[i]?:=fun i l=>by rw [jb (ms.map xA) j i h6 (by simpa using r) l,uJ]
 have n:xA ms[j]=[.string ms[j].1,.int .i64 k,.int .i64 i,.string s,a,b]:=by show Value.string ms[j].1::ms[j].2=_;rw [e]
 rw [n] at hc;refine⟨g,o,cap,f,?_,?_,?_,?_,?_,?_⟩;·exact d.cells (j*6+0) _ (hc 0 Wo)
 all_goals rw [uS]
 ·exact d.cells (j*6+1) _ (hc 1 Wo)
 ·exact d.cells (j*6+2) _ (hc 2 Wo)
 ·exact d.cells (j*6+3) _ (hc 3 Wo)
 ·exact d.cells (j*6+4) _ (hc 4 Wo)
 ·exact d.cells (j*6+5) _ (hc 5 Wo)
theorem pair_set {ms:List (ByteArray×List Value)}(h6:∀ c,c∈ms.map xA→c.length=6){k:Nat}(a:k<ms.length){c ys:List Value}(hc:c.length=5)(d:∀ j,ys[j]? = if k*6+1≤j∧j<k*6+1+c.length then c[j-(k*6+1)]? else (yM ms)[j]?):ys=yM (ms.set k (ms[k].1,c)):=by
 apply VL;intro j;rw [d j,qi,qi,List.map_set,flat_set (size:=6) (ms.map xA) k (xA (ms[k].1,c)) h6 (by simp [xA,hc]),Xb,hc];by_cases q:k*6+1≤j∧j<k*6+1+5;·rw [XK q,XK ⟨a,Ws,Ws⟩];show _=(Value.string ms[k].1::c)[j-k*6]?;rw [show j-k*6=(j-(k*6+1))+1 by omega,uK]
 ·rw [XJ q];by_cases b:j=k*6;·subst b;rw [XK ⟨a,Ws,Ws⟩,VN];have:=jb (size:=6) (ms.map xA) k 0 h6 (by simpa using a) Wo;rw [Nat.add_zero] at this;rw [this,uJ];rfl
  ·rw [XJ Ws]
structure SortL {n:Nat}(B:Nat)(W2:World)(v:VS (V n))(vl vm:Value)(k:Nat)(wr:World)(ls:List (List Value)):Prop where
 row:wr.ownsRow B 25 5 vl v.l.length ls.flatten
 all:zL (Rep n (fun g=>B≤g∧vl.ownBlock≠some g∧vm.ownBlock≠some g) wr) ls ((v.l.take k).map (zK n)++(v.l.drop k).map id)
 kept:zb vl.ownBlock.toList W2 wr
structure SortM {n:Nat}(B:Nat)(W2:World)(v:VS (V n))(vl vm:Value)(k:Nat)(wr:World)(ms:List (ByteArray×List Value)):Prop where
 row:wr.ownsRow B 41 6 vm v.m.length (yM ms)
 all:zL (YQ (Rep n (fun g=>B≤g∧vl.ownBlock≠some g∧vm.ownBlock≠some g) wr)) ms ((v.m.take k).map (fun p=>(p.1,zK n p.2))++(v.m.drop k).map id)
 kept:zb vm.ownBlock.toList W2 wr
theorem Rep.conv {S:Nat→Prop}{w:World}{cs:List Value}{v:V n}(h:Rep n S w cs v):∃ k m s p i c q j d,cs=[.int .i64 k,.int .i64 m,.string s,.slice p i c,.slice q j d]:=by
 obtain⟨k,m,s,a,b,rfl⟩:=h.five;obtain⟨p,i,c,q,j,d,rfl,rfl⟩:=h.sl;exact⟨k,m,s,p,i,c,q,j,d,rfl⟩
theorem sortAny {w:World}{B:Nat}{a:Option Addr}(b:w.ownsRow B 41 6 (.slice a n cap) n (ms.flatMap PC.enc))(j:n≤1000000) : Calls prog 120 #[.slice a n cap,.func (.func 121) #[] #[]] w fun e w'=> e = .returned (.tuple #[])∧∃ ds:List PC,ds.Perm ms∧ds.Pairwise (fun x y=>ltB y.key x.key=false)∧w'.ownsRow B 41 6 (.slice a n cap) n (ds.flatMap PC.enc)∧zb (Value.slice a n cap).ownBlock.toList w w':=by
 have l:ms.length=n:=by have:=b.1;rw [Ks] at this;omega
 cases a with
 | none=>
  have m:n=0∧cap=0:=by
   rcases b.2 with ⟨h,d⟩ | ⟨g,f,i,hv,_⟩;·simp only [XU] at h;exact⟨h.2.1,h.2.2⟩
   ·simp only [XU] at hv;cases hv.1
  obtain⟨rfl,rfl⟩:=m;have:ms=[]:=Xh l;subst this;exact (AnyF.slices_SortFunc_none Tryz.shSort none 0 _ w).mono fun e w' ⟨d,h2⟩=>⟨d,[],List.Perm.refl _,List.Pairwise.nil,by rw [h2];exact b,by rw [h2];exact Wd⟩
 | some ad=>
  have k:∃ g,ad=⟨g,0,none⟩:=by
   rcases b.2 with ⟨h,d⟩ | ⟨g,f,i,hv,_⟩;·simp only [XU] at h;cases h.1
   ·simp only [XU,Xt] at hv;exact⟨g,hv.1⟩
  obtain⟨g,rfl⟩:=k;exact (zcv b l j).mono fun e w' ⟨d,ds,h2,h3,h4,h5⟩=>⟨d,ds,h2,h3,h4,by simpa [Value.ownBlock] using h5⟩
theorem sorted_pairs {R:List Value→V n→Prop}{b:List PC}{xs:List (ByteArray×V n)}(h:zL (YQ R) (ms.map (fun x=>(x.key,x.cs))) xs)(hp:b.Perm ms)(u:b.Pairwise (fun x y=>ltB y.key x.key=false))(t:(xs.map (fun p=>p.1)).Nodup) : zL (YQ R) (b.map (fun x=>(x.key,x.cs))) (xs.mergeSort leK):=by
 obtain⟨ys,m,h2⟩:=h.perm (hp.map _);have a:∀ i (f:i<b.length) (e:i<ys.length),ys[i].1=b[i].key:=fun i f e=>by have:=(h2.2 i _ ys[i] (XN (by simpa using f)) (XN e)).1;simpa using this.symm
 have q:b.length=ys.length:=by simpa using h2.1
 have d:ys.Pairwise (fun x y=>leK x y=true):=by rw [ut];intro i j f s l;have h3:=(ut.1 u) i j Ws Ws l;unfold ltB at h3;rw [ul,List.not_lt] at h3;unfold leK;rw [decide_eq_true_iff,a i Ws f,a j Ws s];exact h3
 have k:(ys.map (fun p=>p.1)).Nodup:=(m.map (fun p:ByteArray×V n=>p.1)).nodup_iff.2 t;have r:ys=xs.mergeSort leK:=sorted_unique (m.trans (List.mergeSort_perm xs leK).symm) d (List.pairwise_mergeSort leK_trans leK_total xs) k;rw [← r];exact h2
def vH (n : Nat) : Prop := ∀ (v : V n) {S : Nat → Prop} {w : World} {cs : List Value}, Rep n S w cs v → zP n v → zn n v = true →
    Calls prog 68 #[.agg cs.toArray] w fun e w'=>(∃ cs':List Value,e = .returned (.agg cs'.toArray)∧yC n w.heap.size w' cs' (zK n v))∧zb [] w w'
theorem zaU (ay:vH n):vH (n+1):=fun (v:VS (V n)) {S}{w}{cs} h hs hrt=>by
  have Jk:=qI hs;have Jl:=qI hrt;have Jr:=qI (right_nodup hrt);have IH:=qI ay;have aY:v.l.length≤20000:=XC hs.few;have bd:v.m.length≤20000:=XC hs.few;obtain⟨kd,nm,st,a,ca,ea,b,cb,eb,rfl⟩:=h.conv;obtain⟨W0,Gy⟩:=XE ((w.alloc (.cells #[.int .i64 kd,.int .i64 nm,.string st,.slice a ca ea,.slice b cb eb] 25)).alloc (.cells #[.int .i64 0,.int .i64 0,.string ⟨#[]⟩,.slice none 0 0,.slice none 0 0] 25));have Gg:Hid (W0.heap.size=w.heap.size+2):=qI (by rw [Gy.o];simp);have Jm:Hid (zb [] w W0):=qI (kA2 Gy.o);have Js:Hid (W0.heap[w.heap.size+1]? = some (.cells #[.int .i64 0,.int .i64 0,.string ⟨#[]⟩,.slice none 0 0,.slice none 0 0] 25 (0,0))):=qI (by
   rw [Gy.o];exact zd Wz)
  have CC:=qI (clone_any (n+1) v (h.k0 Jm.o) hs);clear h hs hrt;go_enter func68,ntmps68;go_wp2_with fail;rw [← Gy.o];refine CC.o.mono ?_;rintro e w1 ⟨⟨bb,rfl,aa⟩,aG⟩;have Jt:=qI aa.rep;obtain⟨vl,vm,lcs,mcs,rfl,az,a4,a0,aB,a2,aC⟩:=aa;obtain⟨P,M,rfl,-,-⟩:=(Slc.of_row az).form;obtain⟨J,cm,rfl,-,-⟩:=(Slc.of_row a0).form;have Gq:=qI az;have Ju:=qI a4;have Gn:=qI a0;have Jv:=qI aB;have Jn:=qI (And.intro a2 aC);have Ga:=qI aG;clear az a4 a0 aB a2 aC aG CC;obtain⟨W2,Gr⟩:=XE (w1.alloc (.cells #[.int .i64 v.kind,.int .i64 v.num,.string v.s,.slice P v.l.length M,.slice J v.m.length cm] 25));have Gb:Hid (zb [] w1 W2):=qI (kA1 Gr.o);have Gz:Hid (yA W2 w1.heap.size v.kind v.num v.s (.slice P v.l.length M) (.slice J v.m.length cm)):=qI (by rw [Gr.o];exact xr _ _ _ _ _ _ _);have Gs:Hid (W2.heap.size=w1.heap.size+1):=qI (by rw [Gr.o];simp);obtain⟨c0,c1,c2,c3,c4⟩:=Gz.o;rw [Gr.o] at c0 c1 c2 c3 c4;go_wp2_with fail;rw [← Gr.o];clear c0 c1 c2 c3 c4
  have Jw:Hid (SortL W0.heap.size W2 v (.slice P v.l.length M) (.slice J v.m.length cm) 0 W2 lcs):=qI {
   row:=zk Gq.o Gb.o Wz
   all:=by simpa using Ju.o.mono fun _ _ _ r=>r.k0 Gb.o
   kept:=Wd }
  go_loopw [11] (fun i wr=>∃ (k:Nat) (ls:List (List Value)),i = .int .i64 k∧k≤v.l.length∧SortL W0.heap.size W2 v (.slice P v.l.length M) (.slice J v.m.length cm) k wr ls) (fun i _=>v.l.length-(intOf i).toNat);case atStart=>exact⟨0,_,rfl,XB,Jw.o⟩
  case round=>
   obtain⟨k,ls,rfl,hk,ak⟩:=hrel;have C:=qI ak;clear ak;by_cases I:k<v.l.length
   ·have a8:(k:Int)<v.l.length:=by omega
    obtain⟨g,rfl,aN,aL⟩:∃ g,P=some ⟨g,0,none⟩∧W0.heap.size≤g∧g<w1.heap.size:=by
     rcases Gq.o.2 with ⟨_,h0⟩ | ⟨g,cap,aM,hv,r1,r2,_⟩;·omega
     ·simp only [XU] at hv;exact⟨g,hv.1,r1,lt_of_block r2⟩
    have ar:ls.length=v.l.length:=by rw [C.o.all.1];simp;omega
    have ad:k<ls.length:=Ws;have E:=C.o.all.2 k ls[k] v.l[k] (XN ad) (mixed_get (zK n) id v.l k I);obtain⟨xk,xm,xs,xp,xi,xc,xq,xj,xd,ex⟩:=E.conv;obtain⟨g',o',a6,ai,q0,q1,q2,q3,q4⟩:=(Slc.of_row C.o.row).at5 (fun c hc=>by obtain⟨y,_,r⟩:=C.o.all.mem_left hc;exact r.len) ad ex;simp only [XU,Xt,Addr.mk.injEq,and_true,true_and] at ai;obtain⟨⟨rfl,rfl⟩,-⟩:=ai;rw [ex] at E;have Ja:=qI E;have Gt:Hid (zb [g] W2 wr):=qI (by have:=C.o.kept;simpa [Value.ownBlock] using this);have aj:g≠w1.heap.size:=Ws;have y3:=(Gz.o.kept Gt.o (by simpa using Ne.symm aj)).c3;have Gp:=qI (Jk.o.kid (YP (XX I)));have Jb:=qI (vY Jl.o (YP (XX I)));clear E;rw [Xd] at q0 q1 q2 q3 q4;go_wp2_with fail;refine zu (n:=11) (fun w':World=>w'.cell? ⟨w1.heap.size,3,none⟩=some (.slice (some ⟨g,0,none⟩) v.l.length M)∧w'.cell? ⟨g,k*5,none⟩=some (.int .i64 xk)∧w'.cell? ⟨g,k*5+1,none⟩=some (.int .i64 xm)∧w'.cell? ⟨g,k*5+2,none⟩=some (.string xs)∧w'.cell? ⟨g,k*5+3,none⟩=some (.slice xp xi xc)∧w'.cell? ⟨g,k*5+4,none⟩=some (.slice xq xj xd)) 10 Wr Wr ?_;change zT _ _ _ _ _ _ _ _ _ wr.drew;have d:(fun w':World=>w'.cell? ⟨w1.heap.size,3,none⟩=some (.slice (some ⟨g,0,none⟩) v.l.length M)∧w'.cell? ⟨g,k*5,none⟩=some (.int .i64 xk)∧w'.cell? ⟨g,k*5+1,none⟩=some (.int .i64 xm)∧w'.cell? ⟨g,k*5+2,none⟩=some (.string xs)∧w'.cell? ⟨g,k*5+3,none⟩=some (.slice xp xi xc)∧w'.cell? ⟨g,k*5+4,none⟩=some (.slice xq xj xd)) wr.drew:=⟨y3,q0,q1,q2,q3,q4⟩;have Ge:Hid (zb [] wr wr.drew):=qI Wd.drew;clear y3 q0 q1 q2 q3 q4;revert d Ge;generalize wr.drew=WD;intro d Ge;refine zF ?_;intro O R B hR;have t:jA R:=by subst hR;exact fun _ _ _ _ _ h=>h
    refine qT 0 ?_ B rfl rfl Wr t (fun w f=>?_) d ?_;rotate_left;·obtain⟨Q,N,U,X,W,Y⟩:=f;exact zg
    try simp only [XI]
    refine qT 1 ?_ B rfl rfl Wr t (fun w f=>?_) d ?_;rotate_left;·obtain⟨Q,N,U,X,W,Y⟩:=f;exact zg
    try simp only [XI]
    refine qT 2 ?_ B rfl rfl Wr t (fun w f=>?_) d ?_;rotate_left;·obtain⟨Q,N,U,X,W,Y⟩:=f;exact zg
    try simp only [XI]
    refine qT 3 ?_ B rfl rfl Wr t (fun w f=>?_) d ?_;rotate_left;·obtain⟨Q,N,U,X,W,Y⟩:=f;exact zg
    try simp only [XI]
    refine qT 4 ?_ B rfl rfl Wr t (fun w f=>?_) d ?_;rotate_left;·obtain⟨Q,N,U,X,W,Y⟩:=f;exact zg
    try simp only [XI]
    refine qT 5 ?_ B rfl rfl Wr t (fun w f=>?_) d ?_;rotate_left;·obtain⟨Q,N,U,X,W,Y⟩:=f;exact zg
    try simp only [XI]
    refine qT 6 ?_ B rfl rfl Wr t (fun w f=>?_) d ?_;rotate_left;·obtain⟨Q,N,U,X,W,Y⟩:=f;exact zg
    try simp only [XI]
    refine qT 7 ?_ B rfl rfl Wr t (fun w f=>?_) d ?_;rotate_left;·obtain⟨Q,N,U,X,W,Y⟩:=f;exact zg
    try simp only [XI]
    refine qO 8 B rfl Wr (fun K L=>?_);go_simp;refine Calls.mono (IH.o v.l[k] (Ja.o.k0 Ge.o) Gp.o Jb.o) ?_;rintro e w3 ⟨⟨c3,rfl,G⟩,u⟩;have Gk:=qI G.rep;have Gd:=qI (Ge.o.then u);have Z:(fun w':World=>w'.cell? ⟨w1.heap.size,3,none⟩=some (.slice (some ⟨g,0,none⟩) v.l.length M)∧w'.cell? ⟨g,k*5,none⟩=some (.int .i64 xk)∧w'.cell? ⟨g,k*5+1,none⟩=some (.int .i64 xm)∧w'.cell? ⟨g,k*5+2,none⟩=some (.string xs)∧w'.cell? ⟨g,k*5+3,none⟩=some (.slice xp xi xc)∧w'.cell? ⟨g,k*5+4,none⟩=some (.slice xq xj xd)) w3:=⟨u.cell d.1 Wz,u.cell d.2.1 Wz,u.cell d.2.2.1 Wz,u.cell d.2.2.2.1 Wz,u.cell d.2.2.2.2.1 Wz,u.cell d.2.2.2.2.2 Wz⟩;have Gl:Hid (wr.heap.size≤WD.heap.size∧WD.heap.size≤w3.heap.size):=qI ⟨Ge.o.size,u.size⟩;clear G u;refine L _ _ (.inr Z) ?_;clear L K;try simp only [XI]
    clear d;have d:=Z;clear Z;refine qO 9 B rfl Wr (fun K L=>?_);go_simp;refine L _ _ (.inr d) ?_;clear L K;try simp only [XI]
    have z:c3.length=5:=Gk.o.len;have ap:∀ x,x∈ls→x.length=5:=fun c hc=>by obtain⟨y,_,r⟩:=C.o.all.mem_left hc;exact r.len
    obtain⟨af,ah,an⟩:=kf (i:=k) (g:=g) (c:=c3) (zk C.o.row Gd.o Wz) ap rfl ar I z;have Jc:=qI af;have Gm:=qI an;clear af an ap;refine qO 10 B rfl Wr (fun K L=>?_);refine wp_store_mid 25 (.tmp 23) (.tmp 22) rfl g (k*5) c3.toArray rfl rfl (by rw [X2,z];exact ah) (by rw [X2,z];kernel_rfl) (all_oneCell_toArray Gk.o.one) ?_;refine L _ _ (.inl rfl) ?_;clear L K;try simp only [XI]
    refine zE B Wr ?_ _;subst hR;try clear t B O
    clear ah d z;go_wp2;case roundEnd=>
     have aS:=Gg.o;have aK:=Gs.o;have aO:=Gt.o.size;have aP:=Gl.o
     refine⟨⟨k+1,ls.set k c3,by go_num,Ws,{
      row:=Jc.o
      all:=?_
      kept:=?_ }⟩,by simp [intOf];omega⟩
     ·rw [← take_set (zK n) id v.l k I];refine zL.set (C.o.all.mono fun c y _ r=>r.move ((Gd.o.mono Wz).trans' Gm.o) ?_) k (Gk.o.move Gm.o ?_);·intro i j ⟨H,h2,h3⟩;exact⟨by intro q;simp at q;subst q;exact h2 rfl,H,h2,h3⟩
      ·intro i j H;have aI:=Gn.o.lt;refine⟨by intro q;simp at q;omega,Ws,?_,?_⟩;·intro q;simp [Value.ownBlock] at q;omega
       ·intro q;have:=(aI i q).2;omega
     ·have H:=(C.o.kept.then Gd.o).trans Gm.o (by intro i j;simp at j;subst j;exact .inl (by simp [Value.ownBlock]));exact H
   ·obtain rfl:k=v.l.length:=by omega
    obtain⟨WL,rfl⟩:=XF wr;obtain⟨aV,rfl⟩:=XF ls;have Gf:=qI C.o;have D:Hid (∀ i,i∈(Value.slice P v.l.length M).ownBlock.toList→W0.heap.size≤i∧i<w1.heap.size∧kind w1 i=25+2):=qI fun i j=>⟨(Gq.o.lt i (XD j)).1,(Gq.o.lt i (XD j)).2,yw Gq.o (XD j)⟩
    have A:Hid (∀ i,(Value.slice J v.m.length cm).ownBlock=some i→W0.heap.size≤i∧i<w1.heap.size∧kind w1 i=41+2):=qI fun i j=>⟨(Gn.o.lt i j).1,(Gn.o.lt i j).2,yw Gn.o j⟩;have Jd:Hid (zb (Value.slice P v.l.length M).ownBlock.toList w1 WL):=qI ((Gb.o.mono Wz).trans' Gf.o.kept);have Gu:Hid (W2.heap.size≤WL.heap.size):=qI Gf.o.kept.size;have aq:=Gz.o.kept Gf.o.kept (by intro q;have:=D.o _ q;omega);have Gv:=qI aq
    have Je:Hid (SortM W0.heap.size WL v (.slice P v.l.length M) (.slice J v.m.length cm) 0 WL mcs):=qI {
     row:=zk Gn.o Jd.o (fun i j q=>by have H:=(A.o i j).2.2;have h2:=(D.o i q).2.2;rw [H] at h2;exact absurd h2 Wo)
     all:=by simpa using Jv.o.mono fun _ _ _ r=>⟨r.1,r.2.move Jd.o (fun i j ⟨H,h2,h3⟩=>⟨fun q=>h2 (XD q),H,h2,h3⟩)⟩
     kept:=Wd }
    obtain⟨c0,c1,c2,c3,c4⟩:=aq;clear C;go_wp2_with fail;clear c0 c1 c2 c3 c4;go_loopw [28] (fun i wr=>∃ (k:Nat) (ms:List (ByteArray×List Value)),i = .int .i64 k∧k≤v.m.length∧SortM W0.heap.size WL v (.slice P v.l.length M) (.slice J v.m.length cm) k wr ms) (fun i _=>v.m.length-(intOf i).toNat);case atStart=>exact⟨0,_,rfl,XB,Je.o⟩
    case round=>
     obtain⟨k,ls,rfl,hk,ak⟩:=hrel;have C:=qI ak;clear ak;by_cases I:k<v.m.length
     ·have a8:(k:Int)<v.m.length:=by omega
      obtain⟨g,rfl,aN,aL⟩:∃ g,J=some ⟨g,0,none⟩∧W0.heap.size≤g∧g<w1.heap.size:=by
       rcases Gn.o.2 with ⟨_,h0⟩ | ⟨g,cap,aM,hv,r1,r2,_⟩;·omega
       ·simp only [XU] at hv;exact⟨g,hv.1,r1,lt_of_block r2⟩
      have ar:ls.length=v.m.length:=by rw [C.o.all.1];simp;omega
      have ad:k<ls.length:=Ws;have ao:=C.o.all.2 k ls[k] v.m[k] (XN ad) (mixed_get (fun p:ByteArray×V n=>(p.1,zK n p.2)) id v.m k I);obtain⟨xk,xm,xs,xp,xi,xc,xq,xj,xd,ex⟩:=ao.2.conv;have aw:∀ c,c∈ls.map xA→c.length=6:=fun c hc=>by obtain⟨p,hp,rfl⟩:=Xm.1 hc;obtain⟨y,_,r⟩:=C.o.all.mem_left hp;simp [xA,r.2.len]
      obtain⟨g',o',a6,ai,-,q0,q1,q2,q3,q4⟩:=(Slc.of_row C.o.row).at6 aw ad ex;simp only [XU,Xt,Addr.mk.injEq,and_true,true_and] at ai;obtain⟨⟨rfl,rfl⟩,-⟩:=ai;have E:=ao.2;rw [ex] at E;have Ja:=qI E;have Jf:=qI ao.1;have Gt:Hid (zb [g] WL wr):=qI (by have:=C.o.kept;simpa [Value.ownBlock] using this);have aj:g≠w1.heap.size:=Ws;have y3:=(Gv.o.kept Gt.o (by simpa using Ne.symm aj)).c4;have Gp:=qI (Jk.o.kid (Zj (XX I)));have Jb:=qI (vY Jl.o (Zj (XX I)));have aT:=qI aw;clear E ao aw;rw [Xd] at q0 q1 q2 q3 q4;go_wp2_with fail;refine zu (n:=13) (fun w':World=>w'.cell? ⟨w1.heap.size,4,none⟩=some (.slice (some ⟨g,0,none⟩) v.m.length cm)∧w'.cell? ⟨g,k*6+1,none⟩=some (.int .i64 xk)∧w'.cell? ⟨g,k*6+2,none⟩=some (.int .i64 xm)∧w'.cell? ⟨g,k*6+3,none⟩=some (.string xs)∧w'.cell? ⟨g,k*6+4,none⟩=some (.slice xp xi xc)∧w'.cell? ⟨g,k*6+5,none⟩=some (.slice xq xj xd)) 12 Wr Wr ?_;change zT _ _ _ _ _ _ _ _ _ wr.drew;have d:(fun w':World=>w'.cell? ⟨w1.heap.size,4,none⟩=some (.slice (some ⟨g,0,none⟩) v.m.length cm)∧w'.cell? ⟨g,k*6+1,none⟩=some (.int .i64 xk)∧w'.cell? ⟨g,k*6+2,none⟩=some (.int .i64 xm)∧w'.cell? ⟨g,k*6+3,none⟩=some (.string xs)∧w'.cell? ⟨g,k*6+4,none⟩=some (.slice xp xi xc)∧w'.cell? ⟨g,k*6+5,none⟩=some (.slice xq xj xd)) wr.drew:=⟨y3,q0,q1,q2,q3,q4⟩;have Ge:Hid (zb [] wr wr.drew):=qI Wd.drew;clear y3 q0 q1 q2 q3 q4;revert d Ge;generalize wr.drew=WD;intro d Ge;refine zF ?_;intro O R B hR;have t:jA R:=by subst hR;exact fun _ _ _ _ _ h=>h
      refine qT 0 ?_ B rfl rfl Wr t (fun w f=>?_) d ?_;rotate_left;·obtain⟨Q,N,U,X,W,Y⟩:=f;exact zg
      try simp only [XI]
      refine qT 1 ?_ B rfl rfl Wr t (fun w f=>?_) d ?_;rotate_left;·obtain⟨Q,N,U,X,W,Y⟩:=f;exact zg
      try simp only [XI]
      refine qT 2 ?_ B rfl rfl Wr t (fun w f=>?_) d ?_;rotate_left;·obtain⟨Q,N,U,X,W,Y⟩:=f;exact zg
      try simp only [XI]
      refine qT 3 ?_ B rfl rfl Wr t (fun w f=>?_) d ?_;rotate_left;·obtain⟨Q,N,U,X,W,Y⟩:=f;exact zg
      try simp only [XI]
      refine qT 4 ?_ B rfl rfl Wr t (fun w f=>?_) d ?_;rotate_left;·obtain⟨Q,N,U,X,W,Y⟩:=f;exact zg
      try simp only [XI]
      refine qT 5 ?_ B rfl rfl Wr t (fun w f=>?_) d ?_;rotate_left;·obtain⟨Q,N,U,X,W,Y⟩:=f;exact zg
      try simp only [XI]
      refine qT 6 ?_ B rfl rfl Wr t (fun w f=>?_) d ?_;rotate_left;·obtain⟨Q,N,U,X,W,Y⟩:=f;exact zg
      try simp only [XI]
      refine qT 7 ?_ B rfl rfl Wr t (fun w f=>?_) d ?_;rotate_left;·obtain⟨Q,N,U,X,W,Y⟩:=f;exact zg
      try simp only [XI]
      refine qT 8 ?_ B rfl rfl Wr t (fun w f=>?_) d ?_;rotate_left;·obtain⟨Q,N,U,X,W,Y⟩:=f;exact zg
      try simp only [XI]
      refine qO 9 B rfl Wr (fun K L=>?_);go_simp;refine Calls.mono (IH.o v.m[k].2 (Ja.o.k0 Ge.o) Gp.o Jb.o) ?_;rintro e w3 ⟨⟨c3,rfl,G⟩,u⟩;have Gk:=qI G.rep;have Gd:=qI (Ge.o.then u);have Z:(fun w':World=>w'.cell? ⟨w1.heap.size,4,none⟩=some (.slice (some ⟨g,0,none⟩) v.m.length cm)∧w'.cell? ⟨g,k*6+1,none⟩=some (.int .i64 xk)∧w'.cell? ⟨g,k*6+2,none⟩=some (.int .i64 xm)∧w'.cell? ⟨g,k*6+3,none⟩=some (.string xs)∧w'.cell? ⟨g,k*6+4,none⟩=some (.slice xp xi xc)∧w'.cell? ⟨g,k*6+5,none⟩=some (.slice xq xj xd)) w3:=⟨u.cell d.1 Wz,u.cell d.2.1 Wz,u.cell d.2.2.1 Wz,u.cell d.2.2.2.1 Wz,u.cell d.2.2.2.2.1 Wz,u.cell d.2.2.2.2.2 Wz⟩;have Gl:Hid (wr.heap.size≤WD.heap.size∧WD.heap.size≤w3.heap.size):=qI ⟨Ge.o.size,u.size⟩;clear G u;refine L _ _ (.inr Z) ?_;clear L K;try simp only [XI]
      clear d;have d:=Z;clear Z;refine qO 10 B rfl Wr (fun K L=>?_);go_simp;refine L _ _ (.inr d) ?_;clear L K;try simp only [XI]
      refine qO 11 B rfl Wr (fun K L=>?_);go_simp;refine L _ _ (.inr d) ?_;clear L K;try simp only [XI]
      have z:c3.length=5:=Gk.o.len;have av:k*6+1+c3.length≤v.m.length*6:=by rw [z];omega
      obtain⟨⟨ys,af,-,a5⟩,ah,an⟩:=row_cells (g:=g) (o:=k*6+1) (c:=c3) (zk C.o.row Gd.o Wz) rfl av;have aQ:=pair_set aT.o ad z a5;subst aQ;have Jc:=qI af;have Gm:=qI an;clear af an a5 av;refine qO 12 B rfl Wr (fun K L=>?_);refine wp_store_mid 25 (.tmp 42) (.tmp 40) rfl g (k*6+1) c3.toArray rfl rfl (by rw [X2];exact ah) (by rw [X2,z];kernel_rfl) (all_oneCell_toArray Gk.o.one) ?_;refine L _ _ (.inl rfl) ?_;clear L K;try simp only [XI]
      refine zE B Wr ?_ _;subst hR;try clear t B O
      clear ah d z;go_wp2;case roundEnd=>
       have aS:=Gg.o;have aK:=Gs.o;have ba:=Gu.o;have aO:=Gt.o.size;have aP:=Gl.o
       refine⟨⟨k+1,ls.set k (ls[k].1,c3),by go_num,Ws,{
        row:=Jc.o
        all:=?_
        kept:=?_ }⟩,by simp [intOf];omega⟩
       ·rw [← take_set (fun p:ByteArray×V n=>(p.1,zK n p.2)) id v.m k I];refine zL.set (C.o.all.mono fun c y _ r=>⟨r.1,r.2.move ((Gd.o.mono Wz).trans' Gm.o) ?ga⟩) k ⟨Jf.o,Gk.o.move Gm.o ?gb⟩;case ga=>intro i j ⟨H,h2,h3⟩;exact⟨by intro q;simp at q;subst q;exact h3 rfl,H,h2,h3⟩
        case gb=>
         intro i j H;refine⟨by intro q;simp at q;omega,Ws,?_,?_⟩;·intro q;have:=D.o i (Option.mem_toList.2 q);omega
         ·intro q;simp [Value.ownBlock] at q;omega
       ·exact (C.o.kept.then Gd.o).trans Gm.o (by intro i j;simp at j;subst j;exact .inl (by simp [Value.ownBlock]))
     ·obtain rfl:k=v.m.length:=by omega
      obtain⟨aH,a3,au⟩:=pcs_of C.o.all;have CS:=qI (sortAny (ms:=aH) (by rw [← au];exact C.o.row) Ws);have Jx:=qI a3;have ag:=Gv.o.kept C.o.kept (by intro q;have:=A.o _ (XD q);omega);have Jg:=qI ag;have c4:=ag.c4;clear a3 au ag;go_wp2_with fail;refine CS.o.mono ?_;rintro e w5 ⟨rfl,ds,aJ,a9,ae,aE⟩;have Jy:=qI aJ;have Jz:=qI a9;have Ma:=qI ae;have Jh:=qI aE;clear aJ a9 ae aE c4;obtain⟨c0,c1,c2,c3,c4⟩:=Jg.o.kept Jh.o (by intro q;have:=A.o _ (XD q);omega);have Jo:Hid (zb ((Value.slice P v.l.length M).ownBlock.toList++(Value.slice J v.m.length cm).ownBlock.toList) w1 w5):=qI (((Jd.o.mono (fun i j=>uu _ j)).trans' (C.o.kept.mono (fun i j=>VE _ j))).trans' (Jh.o.mono (fun i j=>VE _ j)));have F:w5.heap[w.heap.size+1]? = some (.cells #[.int .i64 0,.int .i64 0,.string ⟨#[]⟩,.slice none 0 0,.slice none 0 0] 25 (0,0)):=Jo.o.heap (Ga.o.heap Js.o Wz) (by
       intro q;have hz:=Gg.o;rcases uO.1 q with q | q;·have:=D.o _ q;omega
       ·have:=A.o _ (XD q);omega)
      have Mb:=qI F;have r0:=za (o:=0) (v:=.int .i64 0) F rfl;have r1:=za (o:=1) (v:=.int .i64 0) F rfl;have r2:=za (o:=2) (v:=.string ⟨#[]⟩) F rfl;have r3:=za (o:=3) (v:=.slice none 0 0) F rfl;have r4:=za (o:=4) (v:=.slice none 0 0) F rfl;have Q:=zh (o:=0) F;have N:=zh (o:=1) F;have U:=zh (o:=2) F;have X:=zh (o:=3) F;have W:=zh (o:=4) F;clear F;go_wp2_with fail;have ab:=ze (v:=.slice J v.m.length cm) (i:=4) (ze (v:=.slice P v.l.length M) (i:=3) (ze (v:=.string v.s) (i:=2) (ze (v:=.int .i64 v.num) (i:=1) (ze (v:=.int .i64 v.kind) (i:=0) Mb.o rfl) rfl) rfl) rfl) rfl;have KF:zb [w.heap.size+1] w5 (((((w5.setCell ⟨w.heap.size+1,0,none⟩ (.int .i64 v.kind)).setCell ⟨w.heap.size+1,1,none⟩ (.int .i64 v.num)).setCell ⟨w.heap.size+1,2,none⟩ (.string v.s)).setCell ⟨w.heap.size+1,3,none⟩ (.slice P v.l.length M)).setCell ⟨w.heap.size+1,4,none⟩ (.slice J v.m.length cm)):=
       ((((Wd.setCell (p:=⟨w.heap.size+1,0,none⟩) (.inl Wz) _).setCell (p:=⟨w.heap.size+1,1,none⟩) (.inl Wz) _).setCell (p:=⟨w.heap.size+1,2,none⟩) (.inl Wz) _).setCell (p:=⟨w.heap.size+1,3,none⟩) (.inl Wz) _).setCell (p:=⟨w.heap.size+1,4,none⟩) (.inl Wz) _
      have x0:=za (o:=0) (v:=.int .i64 v.kind) ab rfl;have x1:=za (o:=1) (v:=.int .i64 v.num) ab rfl;have x2:=za (o:=2) (v:=.string v.s) ab rfl;have x3:=za (o:=3) (v:=.slice P v.l.length M) ab rfl;have x4:=za (o:=4) (v:=.slice J v.m.length cm) ab rfl;clear ab c0 c1 c2 c3 c4 r0 r1 r2 r3 r4 Q N U X W;revert KF x0 x1 x2 x3 x4;generalize ((((w5.setCell ⟨w.heap.size+1,0,none⟩ (.int .i64 v.kind)).setCell ⟨w.heap.size+1,1,none⟩ (.int .i64 v.num)).setCell ⟨w.heap.size+1,2,none⟩ (.string v.s)).setCell ⟨w.heap.size+1,3,none⟩ (.slice P v.l.length M)).setCell ⟨w.heap.size+1,4,none⟩ (.slice J v.m.length cm)=WF;intro KF x0 x1 x2 x3 x4;have aZ:=Gg.o;have aX:=Ga.o.size;have aK:=Gb.o.size;have bk:=Gu.o;have aW:=C.o.kept.size;have a1:∀ i,(Value.slice J v.m.length cm).ownBlock=some i→(Value.slice P v.l.length M).ownBlock≠some i:=fun i j q=>by have H:=(A.o i j).2.2;have h2:=(D.o i (Option.mem_toList.2 q)).2.2;rw [H] at h2;exact absurd h2 Wo
      have ax:∀ i,W0.heap.size≤i→(Value.slice J v.m.length cm).ownBlock≠some i→i ∉ (Value.slice J v.m.length cm).ownBlock.toList++[w.heap.size+1]:=fun i H h2 q=>by
       rcases uO.1 q with q | q;·exact h2 (XD q)
       ·simp at q;omega
      have aF:zb ((Value.slice J v.m.length cm).ownBlock.toList++[w.heap.size+1]) wr WF:=(Jh.o.mono (fun i j=>uu _ j)).trans' (KF.mono (fun i j=>VE _ j));have a7:zb ((Value.slice J v.m.length cm).ownBlock.toList++[w.heap.size+1]) WL WF:=(C.o.kept.mono (fun i j=>uu _ j)).trans' aF;have aD:zL (YQ (Rep n (fun g=>W0.heap.size≤g∧(Value.slice P v.l.length M).ownBlock≠some g∧(Value.slice J v.m.length cm).ownBlock≠some g) wr)) (aH.map (fun x=>(x.key,x.cs))) (v.m.map (kR (zK n))):=by have H:=C.o.all;rw [Xw,uV,X3,Xn,Jx.o] at H;exact H
      have aA:=sorted_pairs aD Jy.o Jz.o (by rw [uL];exact Jr.o);have bm:(ds.map (fun x=>(x.key,x.cs))).length=v.m.length:=by rw [aA.1,List.length_mergeSort,Xb]
      have aU:yM (ds.map (fun x=>(x.key,x.cs)))=ds.flatMap PC.enc:=by unfold yM;rw [List.flatMap_map];rfl
      have aa:yC (n+1) w.heap.size WF [.int .i64 v.kind,.int .i64 v.num,.string v.s,.slice P v.l.length M,.slice J v.m.length cm] (zK (n+1) v):=by
       rw [Zm];refine⟨_,_,aV,ds.map (fun x=>(x.key,x.cs)),rfl,?H,?h2,?h3,?h4,Jn.o.1,Jn.o.2⟩;case H=>simp only [Xb];exact qA (zk Gf.o.row a7 (fun i j=>ax i ((D.o i (Option.mem_toList.2 j)).1) (fun q=>a1 i q j))) (fun i j=>by have:=(D.o i (Option.mem_toList.2 j)).1;omega)
       case h2=>have H:=Gf.o.all;rw [Xw,uV,X3,Xn] at H;exact H.mono fun _ _ _ r=>r.move a7 (fun i _ ⟨q1,q2,q3⟩=>⟨ax i q1 q3,Ws,q2,q3⟩)
       case h3=>simp only [List.length_mergeSort,Xb];rw [aU];exact qA (zk Ma.o KF (fun i j q=>by have:=(A.o i j).1;simp at q;omega)) (fun i j=>by have:=(A.o i j).1;omega)
       case h4=>exact aA.mono fun _ _ _ r=>⟨r.1,r.2.move aF (fun i _ ⟨q1,q2,q3⟩=>⟨ax i q1 q3,Ws,q2,q3⟩)⟩
      have aR:zb [] w WF:=((Jm.o.then Ga.o).trans Jo.o (fun i j=>by
       rcases uO.1 j with j | j;·have:=(D.o i j).1;exact .inr Ws
       ·have:=(A.o i (XD j)).1;exact .inr Ws)).trans KF (fun i j=>by simp at j;exact .inr Ws)
      exact bodyPost_ret (v:=.agg #[.int .i64 v.kind,.int .i64 v.num,.string v.s,.slice P v.l.length M,.slice J v.m.length cm]) (by simp [results,results68,go_sem,x0,x1,x2,x3,x4]) rfl ⟨⟨_,rfl,aa⟩,aR⟩
theorem ZD:∀ (n:Nat),vH n
 | 0=>fun v {_}{_}{_} h _ _=>h.elim
 | n+1=>zaU (ZD n)
theorem Kj:∀ (n:Nat) (v:V n) {S:Nat→Prop}{w:World}{cs:List Value},Rep n S w cs v→zP n v→zn n v=true→Calls prog 68 #[.agg cs.toArray] w fun e w'=>(∃ cs':List Value,e = .returned (.agg cs'.toArray)∧yC n w.heap.size w' cs' (zK n v))∧zb [] w w':=fun n=>ZD n
section
variable {w : World} {p B : Nat} {S : ByteArray} {x : PX}
theorem PS.places (h:PS w p S B x):∃ (i c:Nat) (e:Int),PAt w p S i c e∧i≤S.size∧c≤B:=by
 obtain⟨i,c,e,a,h2,h3,_⟩:=h;exact⟨i,c,e,a,h2,h3⟩
theorem Qe {W:List UInt8}{r:List UInt8}(h:W.isPrefixOf r=true):W.length≤r.length:=by
 rw [List.isPrefixOf_iff_prefix] at h;exact h.length_le
theorem xY (h:PS w p S B x)(J:S.size≤262144)(W:ByteArray) : Calls prog 176 #[.pointer (some ⟨p,0,none⟩),.string W] w fun r w'=>r = .returned (.bool (kh W.data.toList x))∧PS w' p S B (Zy W.data.toList x)∧zb [p] w w':=by
 cases x with
 | inl e0=>obtain⟨i,c,l,D,hc,h2,h3⟩:=h.open_bad;obtain⟨c0,c1,c2,c3,t⟩:=l.cells;obtain⟨-,f⟩:=zq (a:=e0) (b:=0) Ws;have H:=qI h;clear h l t;go_enter func176,ntmps176;go_wp2;go_ret;exact⟨rfl,H.o,Wd⟩
 | inr q=>
  obtain⟨r,c⟩:=q;have A:=qI (jz h J);obtain⟨i,l,D,hc,n⟩:=h.open_ok;obtain⟨c0,c1,c2,c3,t⟩:=l.cells;have H:=qI h;have I:=qI l;have P:=qI n;have N:=qI (xf n D);cases j:W.data.toList.isPrefixOf r with
  | false=>
   have s:Hid (kh W.data.toList (.inr (r,c))=false):=qI j;have m:=qI (fun w'=>kS (zw r) W w');simp only [zJ,j] at m;clear h l t n j;go_enter func176,ntmps176;go_wp2_with (first
    | (go_at_call 75;refine A.o.mono ?_;rintro F w1 ⟨rfl,d⟩;have u:=qI d;clear d)
    | (go_at_call 218;refine (m.o _).mono ?_;rintro K w2 ⟨rfl,rfl⟩))
   go_ret;rw [s.o,vi s.o];exact⟨rfl,H.o.k0 u.o,u.o.mono Wz⟩
  | true=>
   have s:Hid (kh W.data.toList (.inr (r,c))=true):=qI j;have m:=qI (fun w'=>kS (zw r) W w');simp only [zJ,j] at m;have k:=Qe j;have z:Hid (W.data.toList.length=W.size):=qI Wz;have y:i+W.size≤S.size:=XH N.o z.o;have E:(i:Int)+W.size≤262144:=Ws;have M:Hid (S.data.toList.drop (i+W.size)=r.drop W.data.toList.length):=qI (by rw [z.o,← n,uD]);clear h l t n j k;go_enter func176,ntmps176;go_wp2_with (first
    | (go_at_call 75;refine A.o.mono ?_;rintro F w1 ⟨rfl,d⟩;have u:=qI d;have e:=d.heap I.o Wz;have L:=qI e;have O:=za (o:=1) (v:=.int .i64 i) e rfl;have Q:=zh (o:=1) e;clear d e c0 c1 c2 c3)
    | (go_at_call 218;refine (m.o _).mono ?_;rintro K w2 ⟨rfl,rfl⟩))
   go_ret;rw [s.o,vt s.o];have G:=PAt.set1 (w:=w1) L.o (i+W.size);refine⟨rfl,?_,(u.o.mono Wz).trans' (yc _ _ _ _)⟩;have C:=PS.good G y hc;rw [M.o] at C;exact C
theorem ZG (h:PS w p S B x)(t:S.size≤262144)(W:ByteArray) : Calls prog 225 #[.pointer (some ⟨p,0,none⟩),.string W] w fun r w'=>r = .returned (.tuple #[])∧PS w' p S B (Zk W.data.toList x)∧zb [p] w w':=by
 have f:=qI (xY h t W);clear h;cases d:kh W.data.toList x with
 | true=>rw [d] at f;have n:=qI (QQ d);have q:=qI (vt d);clear d;go_enter func225,ntmps225;go_wp2_with (go_at_call 176;refine f.o.mono ?_;rintro s w1 ⟨rfl,a,b⟩;have m:=qI a;have l:=qI b;clear a b);go_end0;rw [n.o,← q.o];exact⟨rfl,m.o,l.o⟩
 | false=>rw [d] at f;have n:=qI (Zr d);have q:=qI (vi d);clear d;go_enter func225,ntmps225;go_wp2_with (go_at_call 176;refine f.o.mono ?_;rintro s w1 ⟨rfl,a,b⟩;rw [q.o] at a;have m:=qI a;have l:=qI b;obtain⟨i,c,e,h1,hi,hc⟩:=a.places;obtain⟨c0,c1,c2,c3,fz⟩:=h1.cells;clear a b h1 fz);refine (qC m.o i 50 hi Wo Wo).mono ?_;rintro u w2 ⟨rfl,j,k⟩;go_wp2_with fail;go_end0;rw [n.o];exact⟨rfl,j,l.o.trans' k⟩
theorem digits_low:∀ (j:Nat) b,(⟨#[48,49,50,51,52,53,54,55,56,57]⟩:ByteArray).data.toList[j]? = some b→b.toNat<128:=by
 intro j b h;have hm:b∈([48,49,50,51,52,53,54,55,56,57]:List UInt8):=uj h;simp only [XY,Xi,uC] at hm;rcases hm with rfl | rfl | rfl | rfl | rfl | rfl | rfl | rfl | rfl | rfl <;> decide
theorem libTrimDigits (s:List UInt8)(w:World):Calls prog 172 #[.string (zw s),.string ⟨#[48,49,50,51,52,53,54,55,56,57]⟩] w fun e w'=>e = .returned (.string (zw (s.dropWhile yh)))∧zb [] w w':=
 (zaC (zw s) ⟨#[48,49,50,51,52,53,54,55,56,57]⟩ w Wo digits_low).mono fun e w' ⟨h1,h2⟩=>⟨by rw [h1,zJ];exact congrArg (fun l=>Ending.returned (Value.string (zw l))) (trim_digits s),h2⟩
theorem prun_any {r:List UInt8}{c:Nat}(h:PS w p S B (.inr (r,c)))(z:S.size≤262144) : zG w 226 #[.pointer (some ⟨p,0,none⟩)] (.int .i64 ((r.takeWhile yh).length:Nat)):=by
 have H:=qI h;have d:Hid (∀ f,zb [] w f→Calls prog 75 #[.pointer (some ⟨p,0,none⟩)] f fun e w2=>e = .returned (.string (zw r))∧zb [] f w2):=qI (fun f k=>jz (h.k0 k) z);have j:=qI (libTrimDigits r);obtain⟨i,v,x,hc,t⟩:=h.open_ok;have C:=xf t x;obtain⟨y,A⟩:=run_len r;have l:=zZ r;have n:=zZ (r.dropWhile yh);have q:Hid (((r.takeWhile yh).length:Int)=((zw r).size:Int)-((zw (r.dropWhile yh)).size:Int)):=qI Ws;have s:((zw (r.dropWhile yh)).size:Int)≤(zw r).size:=Ws;have b2:((zw r).size:Int)≤262144:=Ws;clear h v t C y A l n;revert d j q s b2;generalize zw (r.dropWhile yh)=T2;generalize zw r=T1;intro d j q s b2;go_enter func226,ntmps226;go_wp2_with fail;refine (d.o _ Wd).mono ?_;rintro e w1 ⟨rfl,a⟩;have u:=qI a;clear a;go_wp2_with fail;refine (d.o _ u.o).mono ?_;rintro e w2 ⟨rfl,b⟩;have D:=qI (u.o.then b);clear b;go_wp2_with (go_at_call 172;refine (j.o _).mono ?_;rintro e E ⟨rfl,m⟩);go_ret;rw [q.o];exact⟨rfl,D.o.then m⟩
end
section
variable {w : World} {p B : Nat} {S : ByteArray} {x : PX}
theorem vg {r t a:List UInt8}{c:Nat}(h:xJ r = .inr (t,a)):Zb (.inr (r,c)) = .inr (a,c)∧bo (.inr (r,c))=t:=by
 unfold Zb bo;simp only [h];exact⟨trivial,trivial⟩
theorem bC {r:List UInt8}{c:Nat}{e:Int}(h:xJ r = .inl e):Zb (.inr (r,c)) = .inl e∧bo (.inr (r,c))=[]:=by
 unfold Zb bo;simp only [h];exact⟨trivial,trivial⟩
theorem K1 (h:PS w p S B x)(hT:qD p w)(hS:S.size≤262144) : Calls prog 175 #[.pointer (some ⟨p,0,none⟩)] w fun e w'=>e = .returned (.string (zw (bo x)))∧PS w' p S B (Zb x)∧zb [p] w w':=by
 cases x with
 | inl e0=>obtain⟨i,c,s,R,hc,h2,h3⟩:=h.open_bad;obtain⟨c0,c1,c2,c3,I⟩:=s.cells;obtain⟨-,f⟩:=zq (a:=e0) (b:=0) Ws;have H:=qI h;clear h s I;go_enter func175,ntmps175;go_wp2;go_ret;exact⟨rfl,H.o,Wd⟩
 | inr q=>
  obtain⟨r,c⟩:=q;have O:=qI (jz h hS);obtain⟨i,s,R,hc,J⟩:=h.open_ok;obtain⟨c0,c1,c2,c3,I⟩:=s.cells;have H:=qI h;have P:=qI s;have Q:=xf J R;have Y:=qI J;have N:Hid (∀ w',zb [] w w'→Calls prog 221 #[.string (zw r)] w' fun e w2=>Qu r e∧zb [] w' w2):=qI (fun w' k=>by
   have E:=utfUnquote (hT.here.k0 k) (zw r) (by rw [zZ];omega);rw [zJ] at E;exact E)
  cases u:xJ r with
  | inl e0=>obtain⟨n,z⟩:=bC (c:=c) u;have n:=qI n;have z:=qI z;have he:=unq_err u;obtain⟨f1,f2⟩:=zq (a:=e0) (b:=0) Ws;have G:0<e0∧e0≤1000:=Ws;have K:=qI u;clear h s I J u he;go_enter func175,ntmps175;go_wp2_with (go_at_call 75;refine O.o.mono ?_;rintro X w1 ⟨rfl,j⟩;have F:=qI j;clear j);refine (N.o _ F.o).mono ?_;rintro e2 w2 ⟨m,l⟩;unfold Qu at m;rw [K.o] at m;obtain⟨k,Z,rfl⟩:=m;have C:=qI (F.o.then l);have d:=C.o.heap P.o Wz;have W:=za (o:=1) (v:=.int .i64 i) d rfl;have A:i+k≤S.size:=Ws;have D:(i:Int)+k≤262144:=Ws;clear l d c0 c1 c2 c3;go_wp2_with fail;refine (qC (H.o.k0 C.o) (i+k) e0 A G.1 G.2).mono ?_;rintro e3 w3 ⟨rfl,M,L⟩;go_wp2;go_ret;rw [n.o,z.o];exact⟨rfl,M,(C.o.mono Wz).trans' L⟩
  | inr y=>obtain⟨t,r'⟩:=y;obtain⟨n,z⟩:=vg (c:=c) u;have n:=qI n;have z:=qI z;have K:=qI u;clear h s I J u;go_enter func175,ntmps175;go_wp2_with (go_at_call 75;refine O.o.mono ?_;rintro X w1 ⟨rfl,j⟩;have F:=qI j;clear j);refine (N.o _ F.o).mono ?_;rintro e2 w2 ⟨m,l⟩;unfold Qu at m;rw [K.o] at m;obtain⟨k,Z,hd,U,rfl⟩:=m;have C:=qI (F.o.then l);have d:=C.o.heap P.o Wz;have Mc:=qI d;have W:=za (o:=1) (v:=.int .i64 i) d rfl;have d2:=zh (o:=1) d;have A:i+k≤S.size:=Ws;have D:(i:Int)+k≤262144:=Ws;have HD:Hid (S.data.toList.drop (i+k)=r'):=qI (by rw [← uD,Y.o,hd]);clear l d c0 c1 c2 c3 hd;go_wp2;go_ret;rw [n.o,z.o];have E:=PS.good (PAt.set1 Mc.o (i+k)) A hc;rw [HD.o] at E;exact⟨rfl,E,(C.o.mono Wz).trans' (yc _ _ _ _)⟩
end
def zak (D:Nat)(e:Ending):Prop:=if 9007199254740991<D then e = .returned (.tuple #[.int .i64 0,.bool false]) else e = .returned (.tuple #[.int .i64 D,.bool true])
theorem sumAns_big (h:9007199254740991<D):zak D (.returned (.tuple #[.int .i64 0,.bool false])):=by unfold zak;rw [XK h]
theorem sumAns_fine (h:D≤9007199254740991):zak D (.returned (.tuple #[.int .i64 D,.bool true])):=by unfold zak;rw [XJ Ws]
theorem psum_any (s:ByteArray)(H:s.size≤262144)(hd:∀ c,c∈s.data.toList→48≤c.toNat∧c.toNat≤57)(w:World) : Calls prog 227 #[.string s] w fun e w'=>zak (zU s.data.toList) e∧zb [] w w':=by
 have F:=qI hd;have z:Hid (s.data.toList.length=s.size):=qI Wz;clear hd;go_enter func227,ntmps227;go_wp2_with fail;go_loopw [4] (fun n wr=>∃ pos:Nat,wr=w.iter s pos∧pos≤s.size∧n = .int .i64 (zU (s.data.toList.take pos))∧zU (s.data.toList.take pos)≤9007199254740991) (fun _ wr=>s.size-wr.iterPos w.heap.size);case atStart=>exact⟨0,rfl,XB,rfl,XB⟩
 case round=>
  obtain⟨pos,rfl,E,rfl,b⟩:=hrel;by_cases hp:pos<s.size
  ·have f:pos<s.data.toList.length:=by rw [z.o];exact hp
   have hc:=F.o (s[pos]'hp) (XX f);have h:=sum_take s.data.toList pos f;have k:=sum_mono s.data.toList (pos+1);have i:=decode_ascii s pos hp Ws;have a:∀ d,(Instr.next (.pointer (some ⟨w.heap.size,0,none⟩)) true d).run prog (w.iter s pos)=_:=fun d=>run_next_any w s pos d hp;rw [i] at a;have q:Hid (zU (s.data.toList.take (pos+1))=10*zU (s.data.toList.take pos)+((s[pos]'hp).toNat-48)):=qI h;have r:=qI k;have v:(zU (s.data.toList.take pos):Int)≤9007199254740991:=Ws;clear i h k b f;revert hc q a v r;generalize (s[pos]'hp)=c;generalize zU (s.data.toList.take pos)=D;generalize j:zU (s.data.toList.take (pos+1))=D2;intro hc a q r v;have u:=qI j;clear j;obtain⟨l,p⟩:=hc;have y:(48:Int)≤c.toNat:=Ws;have B:(c.toNat:Int)≤57:=Ws;have t:Hid ((D2:Int)=10*D+(c.toNat-48)):=qI (XC q.o);by_cases A:9007199254740991<10*(D:Int)+(c.toNat-48);·have G:Hid (9007199254740991<zU s.data.toList):=qI (XH t.o r.o);clear l p;go_wp2;go_ret2;exact⟨sumAns_big G.o,Wd.alloc _⟩
   ·clear l p;go_wp2_with fail;go_roundw;case rel=>exact⟨pos+1,rfl,Ws,by rw [u.o,t.o],by have:=t.o;have:=u.o;omega⟩
    case measure=>simp;omega
  ·obtain rfl:pos=s.size:=by omega
   have a:∀ d,(Instr.next (.pointer (some ⟨w.heap.size,0,none⟩)) true d).run prog (w.iter s s.size)=_:=fun d=>run_next_end w s s.size d hp;have C:Hid (s.data.toList.take s.size=s.data.toList):=qI (Xl (by rw [z.o];exact XA));have m:=qI b;clear b;go_wp2;go_ret2;have x:=m.o;rw [C.o] at x;rw [C.o];exact⟨sumAns_fine x,Wd.alloc _⟩
def qa:PX→Nat | .inl _=>0 | .inr ([],_)=>0 | .inr (c::_,_)=>c.toNat
def zbZ (S:ByteArray)(p:Nat)(w:World):Nat:=
 match w.heap[p]? with
 | some (.cells c _ _)=>(match (c[1]? : Option Value),(c[2]? : Option Value) with | some (Value.int _ i),some (Value.int _ e)=>if e=0 then S.size-i.toNat+1 else 0 | _,_=>0)
 | _=>0
section
variable {w : World} {p B : Nat} {S : ByteArray} {x : PX}
theorem jK {c:Nat}{r:List UInt8}(h:QS w p S B (.inr (r,c))):zbZ S p w=r.length+1:=by
 obtain⟨i,a,d,hc,b⟩:=h.open_ok;have:=xf b d;unfold QAt at a;unfold zbZ;rw [a];simp;omega
theorem QB {e:Int}(h:QS w p S B (.inl e)):zbZ S p w=0:=by
 obtain⟨i,c,a,b,hc,h2,h3⟩:=h.open_bad;unfold QAt at a;unfold zbZ;rw [a];have:e≠0:=Ws;simp [this]
theorem QS.places (h:QS w p S B x):∃ (i c:Nat) (e:Int),QAt w p S i c e∧i≤S.size∧c≤B:=by
 obtain⟨i,c,e,a,h2,h3,_⟩:=h;exact⟨i,c,e,a,h2,h3⟩
theorem at_drop {i:Nat}{c:UInt8}{t:List UInt8}(h:S.data.toList.drop i=c::t):∃ h:i<S.size,S[i]'h=c:=by
 have a:i<S.data.toList.length:=by
  rcases Xr i S.data.toList.length with g | g;·exact g
  ·rw [List.drop_eq_nil_of_le g] at h;cases h
 have b:i<S.size:=by simpa using a
 refine⟨b,?_⟩;rw [X0 a] at h;exact (List.cons.inj h).1
theorem Zz (h:QS w p S B x)(H:S.size≤262144) : Calls prog 127 #[.pointer (some ⟨p,0,none⟩)] w fun r w'=>r = .returned (.int .u8 (qa x:Int))∧zb [] w w':=by
 cases x with
 | inl n=>
  obtain⟨i,c,e,j,hc,h2,h3⟩:=h.open_bad;obtain⟨c0,c1,c2,c3,l⟩:=e.cells;obtain⟨-,f⟩:=zq (a:=n) (b:=0) Ws;have k:=zt c2;clear h e l;go_enter func127,ntmps127;go_wp2_with fail;refine zI w Wr Wr Wd ?_;clear c0 c1 c2 c3;repeat go_big_quiet_step (fail)
  refine wpQuiet_nil ?_;intro w2 d;clear k;go_wp2;go_ret;exact⟨rfl,d⟩
 | inr q=>
  obtain⟨r,c⟩:=q;obtain⟨i,e,j,hc,m⟩:=h.open_ok;obtain⟨c0,c1,c2,c3,l⟩:=e.cells;have n:=zt c0;have y:=zt c1;have k:=zt c2;have E:=qI c0;have A:=qI c1;cases r with
  | nil=>
   have z:=xf m j;simp only [Xo,Nat.add_zero] at z;have u:(S.size:Int)≤(i:Int):=Ws;clear h e l m z j hc;go_enter func127,ntmps127;go_wp2_with fail;refine zI w Wr Wr Wd ?_;clear c0 c1 c2 c3;repeat go_big_quiet_step (fail)
   refine wpQuiet_nil ?_;intro w2 d;clear n y k;go_wp2;go_ret;exact⟨rfl,d⟩
  | cons a t=>
   obtain⟨D,I⟩:=at_drop m;have u:¬ (S.size:Int)≤(i:Int):=Ws;have v:(i:Int)<S.size:=Ws;clear h e l m j hc;go_enter func127,ntmps127;go_wp2_with fail;refine zI w Wr Wr Wd ?_;clear c0 c1 c2 c3;repeat go_big_quiet_step (fail)
   refine wpQuiet_nil ?_;intro w2 d;have G:=qI d;have F:=zt (d.cell E.o Wz);have C:=zt (d.cell A.o Wz);clear n y k d;go_wp2_with fail;refine zI w2 Wr Wr Wd ?_;repeat go_big_quiet_step (fail)
   refine wpQuiet_nil ?_;intro J s;clear F C;go_wp2;go_ret;exact⟨rfl,G.o.then s⟩
theorem xH (h:QS w p S B x)(k:Nat)(e:Int)(t:k≤S.size)(n:0<e)(m:e≤1000) : Calls prog 83 #[.pointer (some ⟨p,0,none⟩),.int .i64 k,.int .i64 e] w fun r w'=>r = .returned (.tuple #[])∧QS w' p S B (bh e x)∧zb [p] w w':=by
 cases x with
 | inl e0=>obtain⟨i,c,d,l,hc,h2,h3⟩:=h.open_bad;obtain⟨c0,c1,c2,c3,j⟩:=d.cells;obtain⟨f,-⟩:=zq (a:=e0) (b:=0) Ws;have H:=qI h;clear h d j;go_enter func83,ntmps83;go_wp2_with fail;go_end0;exact⟨rfl,H.o,Wd⟩
 | inr q=>obtain⟨r,c⟩:=q;obtain⟨i,d,l,hc,s⟩:=h.open_ok;obtain⟨c0,c1,c2,c3,j⟩:=d.cells;have u:=j 1;have v:=j 2;have H:=qI d;clear h d j s;go_enter func83,ntmps83;go_wp2_with fail;go_end0;exact⟨rfl,QS.bad ((H.o.set1 k).set2 e) t hc n m,(yc _ _ _ _).trans' (yc _ _ _ _)⟩
theorem blank_cases (x:PX):(∃ c a t,x = .inr (a::t,c)∧vh a=true)∨(xg x=x∧∀ k:Nat,k=32∨k=9∨k=10∨k=13→qa x≠k):=by
 match x with
 | .inl e=>exact .inr ⟨rfl,fun k d=>by show 0≠k;omega⟩
 | .inr ([],c)=>exact .inr ⟨rfl,fun k d=>by show 0≠k;omega⟩
 | .inr (a::t,c)=>
  cases b:vh a with
  | true=>exact .inl ⟨c,a,t,rfl,b⟩
  | false=>
   refine .inr ⟨?_,fun k d e=>?_⟩;·show (Sum.inr (zo (a::t),c):PX)=_;unfold zo;rw [List.dropWhile_cons_of_neg (by rw [b];decide)]
   ·have e':a.toNat=k:=e;have f:a=UInt8.ofNat k:=by rw [← e'];simp
    rcases d with rfl | rfl | rfl | rfl <;> (rw [f] at b;exact absurd b Wo)
theorem qL (h:QS w p S B x)(hS:S.size≤262144) : Calls prog 126 #[.pointer (some ⟨p,0,none⟩)] w fun r w'=>r = .returned (.tuple #[])∧QS w' p S B (xg x)∧zb [p] w w':=by
 have H:=qI h;clear h;go_enter func126,ntmps126;go_wp2_with fail;go_loopw [] (fun wr=>∃ y:PX,QS wr p S B y∧Hid (xg y=xg x)∧zb [p] w wr) (fun wr=>zbZ S p wr);case atStart=>exact⟨x,H.o,qI rfl,Wd⟩
 case round=>
  obtain⟨y,hy,Gp,N⟩:=hrel;have Z:=qI hy;have Jq:=qI N;have C:Hid (∀ w',zb [] wr w'→Calls prog 127 #[.pointer (some ⟨p,0,none⟩)] w' fun r E=>r = .returned (.int .u8 (qa y:Int))∧zb [] w' E):=qI (fun w' k=>Zz (Z.o.k0 k) hS);clear hy N;rcases blank_cases y with ⟨c,a,t,rfl,J⟩ | ⟨L,n⟩
  ·have hm:=jK Z.o;have W:=qI hm;obtain⟨i,h1,hi,hc,hr⟩:=Z.o.open_ok;obtain⟨K,ha⟩:=at_drop hr;have H1:=qI h1;have HI:Hid (i<S.size∧c≤B):=qI ⟨K,hc⟩;have HR:=qI hr;have aa:(i:Int)<262144:=Ws;have X:Hid (xg (.inr (t,c))=xg x):=qI (by
    rw [← Gp.o];show (Sum.inr (zo t,c):PX) = .inr (zo (a::t),c);unfold zo;rw [List.dropWhile_cons_of_pos J])
   have hd:(a.toNat=32)∨(a.toNat≠32∧a.toNat=9)∨(a.toNat≠32∧a.toNat≠9∧a.toNat=10)∨(a.toNat≠32∧a.toNat≠9∧a.toNat≠10∧a.toNat=13):=by
    unfold vh at J;simp only [uW,beq_iff_eq] at J;rcases J with ((rfl | rfl) | rfl) | rfl
    ·exact .inl rfl
    ·exact .inr (.inl ⟨Wo,rfl⟩)
    ·exact .inr (.inr (.inl ⟨Wo,Wo,rfl⟩))
    ·exact .inr (.inr (.inr ⟨Wo,Wo,Wo,rfl⟩))
   have j:Hid (∀ w',zb [] wr w'→Calls prog 127 #[.pointer (some ⟨p,0,none⟩)] w' fun r E=>r = .returned (.int .u8 (a.toNat:Int))∧zb [] w' E):=C;clear hm h1 hi hc hr K ha J C;have R:Hid (∀ w2,zb [] wr w2→w2.cell? ⟨p,1,none⟩=some (.int .i64 i)∧w2.frozen? ⟨p,1,none⟩=false):=qI (fun w2 k=>by
    have U:=k.heap H1.o Wz;exact⟨za (o:=1) U rfl,zh (o:=1) U⟩)
   have Q:Hid (∀ w2,zb [] wr w2→QS (w2.setCell ⟨p,1,none⟩ (.int .i64 ((i:Int)+1))) p S B (.inr (t,c))∧zb [p] w (w2.setCell ⟨p,1,none⟩ (.int .i64 ((i:Int)+1)))):=qI (fun w2 k=>by
    rw [show (i:Int)+1=((i+1:Nat):Int) by omega];have U:QAt w2 p S i c 0:=k.heap H1.o Wz;have h8:=QS.good (B:=B) (U.set1 (i+1)) (XC HI.o) HI.o.2;rw [← uD,HR.o] at h8;exact⟨h8,(Jq.o.then k).trans' (yc _ _ _ _)⟩)
   rcases hd with F | ⟨F,M⟩ | ⟨F,M,g3⟩ | ⟨F,M,g3,g4⟩;·obtain⟨I,-⟩:=yq (a:=(a.toNat:Int)) (b:=32) Ws;clear F;go_wp2_with fail;refine (j.o _ Wd).mono ?_;rintro e w1 ⟨rfl,d⟩;have m:=qI d;clear d;obtain⟨d1,d2⟩:=R.o _ m.o;obtain⟨s,v⟩:=Q.o _ m.o;have u:=qI s;have G:=qI v;clear s v;go_wp2;case roundEnd=>exact⟨⟨_,u.o,X,G.o⟩,by rw [W.o,jK u.o];simp⟩
   ·obtain⟨I,-⟩:=zq (a:=(a.toNat:Int)) (b:=32) Ws;obtain⟨P,-⟩:=yq (a:=(a.toNat:Int)) (b:=9) Ws;clear F M;go_wp2_with fail;refine (j.o _ Wd).mono ?_;rintro e w1 ⟨rfl,d⟩;have m:=qI d;clear d;go_wp2_with fail;refine (j.o _ m.o).mono ?_;rintro e w2 ⟨rfl,f⟩;have q:=qI (m.o.then f);clear f;obtain⟨d1,d2⟩:=R.o _ q.o;obtain⟨s,v⟩:=Q.o _ q.o;have u:=qI s;have G:=qI v;clear s v;go_wp2;case roundEnd=>exact⟨⟨_,u.o,X,G.o⟩,by rw [W.o,jK u.o];simp⟩
   ·obtain⟨I,-⟩:=zq (a:=(a.toNat:Int)) (b:=32) Ws;obtain⟨P,-⟩:=zq (a:=(a.toNat:Int)) (b:=9) Ws;obtain⟨Y,-⟩:=yq (a:=(a.toNat:Int)) (b:=10) Ws;clear F M g3;go_wp2_with fail;refine (j.o _ Wd).mono ?_;rintro e w1 ⟨rfl,d⟩;have m:=qI d;clear d;go_wp2_with fail;refine (j.o _ m.o).mono ?_;rintro e w2 ⟨rfl,f⟩;have q:=qI (m.o.then f);clear f;go_wp2_with fail;refine (j.o _ q.o).mono ?_;rintro e w3 ⟨rfl,l⟩;have D:=qI (q.o.then l);clear l;obtain⟨d1,d2⟩:=R.o _ D.o;obtain⟨s,v⟩:=Q.o _ D.o;have u:=qI s;have G:=qI v;clear s v;go_wp2;case roundEnd=>exact⟨⟨_,u.o,X,G.o⟩,by rw [W.o,jK u.o];simp⟩
   ·obtain⟨I,-⟩:=zq (a:=(a.toNat:Int)) (b:=32) Ws;obtain⟨P,-⟩:=zq (a:=(a.toNat:Int)) (b:=9) Ws;obtain⟨Y,-⟩:=zq (a:=(a.toNat:Int)) (b:=10) Ws;obtain⟨f4,-⟩:=yq (a:=(a.toNat:Int)) (b:=13) Ws;clear F M g3 g4;go_wp2_with fail;refine (j.o _ Wd).mono ?_;rintro e w1 ⟨rfl,d⟩;have m:=qI d;clear d;go_wp2_with fail;refine (j.o _ m.o).mono ?_;rintro e w2 ⟨rfl,f⟩;have q:=qI (m.o.then f);clear f;go_wp2_with fail;refine (j.o _ q.o).mono ?_;rintro e w3 ⟨rfl,l⟩;have D:=qI (q.o.then l);clear l;go_wp2_with fail;refine (j.o _ D.o).mono ?_;rintro e w4 ⟨rfl,A⟩;have O:=qI (D.o.then A);clear A;obtain⟨d1,d2⟩:=R.o _ O.o;obtain⟨s,v⟩:=Q.o _ O.o;have u:=qI s;have G:=qI v;clear s v;go_wp2;case roundEnd=>exact⟨⟨_,u.o,X,G.o⟩,by rw [W.o,jK u.o];simp⟩
  ·have HE:Hid (y=xg x):=qI (by rw [← Gp.o,L]);obtain⟨I,-⟩:=zq (a:=(qa y:Int)) (b:=32) (XC (n 32 Ws));obtain⟨P,-⟩:=zq (a:=(qa y:Int)) (b:=9) (XC (n 9 Ws));obtain⟨Y,-⟩:=zq (a:=(qa y:Int)) (b:=10) (XC (n 10 Ws));obtain⟨f4,-⟩:=zq (a:=(qa y:Int)) (b:=13) (XC (n 13 Ws));clear L n;revert C I P Y f4;generalize (qa y:Int)=z;intro C I P Y f4;go_wp2_with fail;refine (C.o _ Wd).mono ?_;rintro e w1 ⟨rfl,d⟩;have m:=qI d;clear d;go_wp2_with fail;refine (C.o _ m.o).mono ?_;rintro e w2 ⟨rfl,f⟩;have q:=qI (m.o.then f);clear f;go_wp2_with fail;refine (C.o _ q.o).mono ?_;rintro e w3 ⟨rfl,l⟩;have D:=qI (q.o.then l);clear l;go_wp2_with fail;refine (C.o _ D.o).mono ?_;rintro e w4 ⟨rfl,A⟩;have O:=qI (D.o.then A);clear A;go_wp2_with fail;go_end0;rw [← HE.o];exact⟨rfl,Z.o.k0 O.o,Jq.o.then O.o⟩
end
end Go.Proofs.YtjccecajigmfkaaGreatDoor

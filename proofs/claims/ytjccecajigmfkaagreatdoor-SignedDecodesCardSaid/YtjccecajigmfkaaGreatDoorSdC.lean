/- Parts of one proof, merged: XVR XVF XLast XQ XG XJA XLib XOr XCO XMap. -/
import Derived.Test.YtjccecajigmfkaaGreatDoorSdB
import Derived.OrdersHeld
import Derived.Deep.DrawnRows
import Derived.Deep.RegionHeld3
import Derived.BigQuiet
import Derived.Laws.BitsLemmas
import Derived.Outline
import Derived.WalkSpells
import Derived.Lib.AppendZeros
import Derived.RangeFuncNested
import Derived.RangeFuncBound
import Derived.RangeFuncCalls
import Derived.OrdersIn
import Derived.TacticsIn
import Derived.OwnWalkIn
import Derived.Maps.OwnSet
import Derived.StringKeys
set_option linter.all false
set_option maxHeartbeats 12800000
set_option maxRecDepth 10000
namespace Go.Proofs.YtjccecajigmfkaaGreatDoor
open Go.Proofs.Tryz
open Go.RowKit
variable {W:World}{X:List Nat}{a:Act}{args:Array Value}{f:FuncId}{i:Nat}{m:Int}{s:ByteArray}{t:Nat}{w':World}
def xA (p:ByteArray×List Value):List Value:=.string p.1::p.2
def yM (l:List (ByteArray×List Value)):List Value:=l.flatMap xA
def YQ {α:Type}(R:List Value→α→Prop)(p:ByteArray×List Value)(q:ByteArray×α):Prop:=p.1=q.1∧R p.2 q.2
structure yj {α:Type}(R:List Value→α→Prop)(S:Nat→Prop)(w:World)(cs:List Value)(v:VS α)(vl vm:Value)(lcs:List (List Value))(mcs:List (ByteArray×List Value)):Prop where
 cells:cs=[.int .i64 v.kind,.int .i64 v.num,.string v.s,vl,vm]
 slcl:Slc w 5 vl v.l.length lcs.flatten
 alll:zL R lcs v.l
 slcm:Slc w 6 vm v.m.length (yM mcs)
 allm:zL (YQ R) mcs v.m
 inl:∀ g,yt vl=some g→S g
 inm:∀ g,yt vm=some g→S g
 wfk:(Lit.int .i64 v.kind).wf=true
 wfn:(Lit.int .i64 v.num).wf=true
def Rep:(n:Nat)→(Nat→Prop)→World→List Value→V n→Prop
 | 0,_,_,_,_=>False
 | n+1,S,w,cs,(v:VS (V n))=>∃ vl vm lcs mcs,yj (Rep n S w) S w cs v vl vm lcs mcs
theorem Rep.open_ {n:Nat}{S:Nat→Prop}{w:World}{cs:List Value}{v:VS (V n)}(h:Rep (n+1) S w cs v):∃ vl vm lcs mcs,yj (Rep n S w) S w cs v vl vm lcs mcs:=h
theorem yj.close {n:Nat}{S:Nat→Prop}{w:World}{cs:List Value}{v:VS (V n)}{vl vm:Value}{lcs:List (List Value)}{mcs:List (ByteArray×List Value)}(h:yj (Rep n S w) S w cs v vl vm lcs mcs):Rep (n+1) S w cs v:=⟨vl,vm,lcs,mcs,h⟩
theorem Rep.five:∀ {n:Nat}{S:Nat→Prop}{w:World}{cs:List Value}{v:V n},Rep n S w cs v→∃ k m s vl vm,cs=[.int .i64 k,.int .i64 m,.string s,vl,vm]
 | 0,_,_,_,_,h=>h.elim
 | _+1,_,_,_,_,h=>by
  obtain⟨vl,vm,lcs,mcs,h⟩:=h
  exact⟨_,_,_,_,_,h.cells⟩
theorem Rep.len {n:Nat}{S:Nat→Prop}{w:World}{cs:List Value}{v:V n}(h:Rep n S w cs v):cs.length=5:=by
 obtain⟨k,m,s,vl,vm,rfl⟩:=h.five
 rfl
theorem Rep.kept:∀ {n:Nat}{S:Nat→Prop}{X:List Nat}{w w':World}{cs:List Value}{v:V n},Rep n S w cs v→zb X w w'→(∀ k,k∈X→¬ S k)→Rep n S w' cs v
 | 0,_,_,_,_,_,_,h,_,_=>h.elim
 | n+1,S,X,w,w',cs,v,h,k,hX=>by
  obtain⟨vl,vm,lcs,mcs,h⟩:=h
  exact⟨vl,vm,lcs,mcs,{
   cells:=h.cells
   slcl:=h.slcl.kept k (fun g a b=>hX g b (h.inl g a))
   alll:=h.alll.mono fun _ _ _ r=>Rep.kept r k hX
   slcm:=h.slcm.kept k (fun g a b=>hX g b (h.inm g a))
   allm:=h.allm.mono fun _ _ _ r=>⟨r.1,Rep.kept r.2 k hX⟩
   inl:=h.inl
   inm:=h.inm
   wfk:=h.wfk
   wfn:=h.wfn }⟩
theorem Rep.k0 {n:Nat}{S:Nat→Prop}{w:World}{cs:List Value}{v:V n}(h:Rep n S w cs v)(k:zb [] w w'):Rep n S w' cs v:=h.kept k Wz
theorem Rep.mono:∀ {n:Nat}{S T:Nat→Prop}{w:World}{cs:List Value}{v:V n},Rep n S w cs v→(∀ k,k<w.heap.size→S k→T k)→Rep n T w cs v
 | 0,_,_,_,_,_,h,_=>h.elim
 | n+1,S,T,w,cs,v,h,hT=>by
  obtain⟨vl,vm,lcs,mcs,h⟩:=h
  exact⟨vl,vm,lcs,mcs,{
   cells:=h.cells
   slcl:=h.slcl
   alll:=h.alll.mono fun _ _ _ r=>Rep.mono r hT
   slcm:=h.slcm
   allm:=h.allm.mono fun _ _ _ r=>⟨r.1,Rep.mono r.2 hT⟩
   inl:=fun g a=>hT g (h.slcl.lt a) (h.inl g a)
   inm:=fun g a=>hT g (h.slcm.lt a) (h.inm g a)
   wfk:=h.wfk
   wfn:=h.wfn }⟩
theorem jb {size:Nat}:∀ (ls:List (List Value)) (j i:Nat),(∀ c,c∈ls→c.length=size)→(hj:j<ls.length)→i<size→ls.flatten[j*size+i]? = ls[j][i]?
 | [],j,i,_,hj,_=>by simp at hj
 | c::ls,0,i,h,_,hi=>by
  have hc:=h c (Xp ..)
  rw [Xu,Nat.zero_mul,Xd,Xz Ws]
  rfl
 | c::ls,j+1,i,h,hj,hi=>by
  have hc:=h c (Xp ..)
  rw [Xu,Xx (by rw [hc,Nat.add_mul];omega),hc,show (j+1)*size+i-size=j*size+i by rw [Nat.add_mul];omega]
  exact jb ls j i (fun d hd=>h d (Xj _ hd)) (by simpa using hj) hi
theorem YT {size:Nat}:∀ (ls:List (List Value)),(∀ c,c∈ls→c.length=size)→ls.flatten.length=ls.length*size
 | [],_=>by simp
 | c::ls,h=>by
  rw [Xu,XM,YT ls (fun d hd=>h d (Xj _ hd)),h c (Xp ..),XP,Nat.add_mul]
  omega
theorem qi (l:List (ByteArray×List Value)):yM l=(l.map xA).flatten:=by simp [yM,List.flatMap]
section
variable {n : Nat} {S : Nat → Prop} {w : World} {cs : List Value} {v : VS (V n)} {vl vm : Value} {lcs : List (List Value)} {mcs : List (ByteArray × List Value)}
theorem yj.lens (h:yj (Rep n S w) S w cs v vl vm lcs mcs):lcs.length=v.l.length∧mcs.length=v.m.length:=⟨h.alll.1,h.allm.1⟩
theorem yj.five_l (h:yj (Rep n S w) S w cs v vl vm lcs mcs):∀ c,c∈lcs→c.length=5:=by
 intro c hc
 obtain⟨j,a,rfl⟩:=uI hc
 exact (h.alll.2 j _ _ (XN a) (XN (by rw [← h.alll.1];exact a))).len
theorem yj.six_m (h:yj (Rep n S w) S w cs v vl vm lcs mcs):∀ c,c∈mcs.map xA→c.length=6:=by
 intro c hc
 obtain⟨p,hp,rfl⟩:=Xm.1 hc
 obtain⟨j,a,rfl⟩:=uI hp
 have:=(h.allm.2 j _ _ (XN a) (XN (by rw [← h.allm.1];exact a))).2.len
 simp [xA,this]
theorem yj.at_lx (h:yj (Rep n S w) S w cs v vl vm lcs mcs){w':World}(k:zb [] w w')(j:Nat)(m:j<v.l.length) : ∃ g o cap kd nm s a b,vl = .slice (some ⟨g,o,none⟩) v.l.length cap∧w'.cell? ⟨g,o+j*5,none⟩=some (.int .i64 kd)∧w'.cell? ⟨g,o+j*5+1,none⟩=some (.int .i64 nm)∧w'.cell? ⟨g,o+j*5+2,none⟩=some (.string s)∧w'.cell? ⟨g,o+j*5+3,none⟩=some a∧w'.cell? ⟨g,o+j*5+4,none⟩=some b∧Rep n S w' [.int .i64 kd,.int .i64 nm,.string s,a,b] v.l[j]∧lcs[j]? = some [.int .i64 kd,.int .i64 nm,.string s,a,b]:=by
 have d:j<lcs.length:=by rw [h.lens.1];exact m
 have f:=h.alll.2 j _ _ (XN d) (XN m)
 obtain⟨kd,nm,s,a,b,e⟩:=f.five
 rcases (h.slcl.k0 k).2 with ⟨_,h0⟩ | ⟨h0,_⟩ | ⟨g,o,cap,hsv,_,_,hrow⟩
 ·omega
 ·omega
 have hc:∀ i,i<5→lcs.flatten[j*5+i]? = lcs[j][i]?:=fun i p=>jb lcs j i h.five_l d p
 rw [e] at hc f
 refine⟨g,o,cap,kd,nm,s,a,b,hsv,?_,?_,?_,?_,?_,f.k0 k,by rw [XN d,e]⟩
 ·exact hrow.cells (j*5+0) _ (hc 0 Wo)
 all_goals rw [uS]
 ·exact hrow.cells (j*5+1) _ (hc 1 Wo)
 ·exact hrow.cells (j*5+2) _ (hc 2 Wo)
 ·exact hrow.cells (j*5+3) _ (hc 3 Wo)
 ·exact hrow.cells (j*5+4) _ (hc 4 Wo)
theorem yj.at_l (h:yj (Rep n S w) S w cs v vl vm lcs mcs){w':World}(k:zb [] w w')(j:Nat)(e:j<v.l.length) : ∃ g o cap kd nm s a b,vl = .slice (some ⟨g,o,none⟩) v.l.length cap∧w'.cell? ⟨g,o+j*5,none⟩=some (.int .i64 kd)∧w'.cell? ⟨g,o+j*5+1,none⟩=some (.int .i64 nm)∧w'.cell? ⟨g,o+j*5+2,none⟩=some (.string s)∧w'.cell? ⟨g,o+j*5+3,none⟩=some a∧w'.cell? ⟨g,o+j*5+4,none⟩=some b∧Rep n S w' [.int .i64 kd,.int .i64 nm,.string s,a,b] v.l[j]:=by
 obtain⟨g,o,cap,kd,nm,s,a,b,m,d,h2,h3,f,i,h6,_⟩:=h.at_lx k j e
 exact⟨g,o,cap,kd,nm,s,a,b,m,d,h2,h3,f,i,h6⟩
theorem yj.at_mx (h:yj (Rep n S w) S w cs v vl vm lcs mcs){w':World}(k:zb [] w w')(j:Nat)(p:j<v.m.length) : ∃ g o cap kd nm s a b,vm = .slice (some ⟨g,o,none⟩) v.m.length cap∧w'.cell? ⟨g,o+j*6,none⟩=some (.string v.m[j].1)∧w'.cell? ⟨g,o+j*6+1,none⟩=some (.int .i64 kd)∧w'.cell? ⟨g,o+j*6+2,none⟩=some (.int .i64 nm)∧w'.cell? ⟨g,o+j*6+3,none⟩=some (.string s)∧w'.cell? ⟨g,o+j*6+4,none⟩=some a∧w'.cell? ⟨g,o+j*6+5,none⟩=some b∧Rep n S w' [.int .i64 kd,.int .i64 nm,.string s,a,b] v.m[j].2∧mcs[j]? = some (v.m[j].1,[.int .i64 kd,.int .i64 nm,.string s,a,b]):=by
 have d:j<mcs.length:=by rw [h.lens.2];exact p
 have l:=h.allm.2 j _ _ (XN d) (XN p)
 obtain⟨kd,nm,s,a,b,e⟩:=l.2.five
 rcases (h.slcm.k0 k).2 with ⟨_,h0⟩ | ⟨h0,_⟩ | ⟨g,o,cap,hsv,_,_,hrow⟩
 ·omega
 ·omega
 have hc:∀ i,i<6→(yM mcs)[j*6+i]? = (xA mcs[j])[i]?:=fun i q=>by
  rw [qi,jb (mcs.map xA) j i h.six_m (by simpa using d) q,uJ]
 have r:xA mcs[j]=[.string v.m[j].1,.int .i64 kd,.int .i64 nm,.string s,a,b]:=by
  show Value.string mcs[j].1::mcs[j].2=_
  rw [e,l.1]
 have f:=l.2
 rw [e] at f
 rw [r] at hc
 refine⟨g,o,cap,kd,nm,s,a,b,hsv,?_,?_,?_,?_,?_,?_,f.k0 k,by rw [XN d];exact congrArg some (Prod.ext l.1 e)⟩
 ·exact hrow.cells (j*6+0) _ (hc 0 Wo)
 all_goals rw [uS]
 ·exact hrow.cells (j*6+1) _ (hc 1 Wo)
 ·exact hrow.cells (j*6+2) _ (hc 2 Wo)
 ·exact hrow.cells (j*6+3) _ (hc 3 Wo)
 ·exact hrow.cells (j*6+4) _ (hc 4 Wo)
 ·exact hrow.cells (j*6+5) _ (hc 5 Wo)
theorem yj.at_m (h:yj (Rep n S w) S w cs v vl vm lcs mcs){w':World}(k:zb [] w w')(j:Nat)(f:j<v.m.length) : ∃ g o cap kd nm s a b,vm = .slice (some ⟨g,o,none⟩) v.m.length cap∧w'.cell? ⟨g,o+j*6,none⟩=some (.string v.m[j].1)∧w'.cell? ⟨g,o+j*6+1,none⟩=some (.int .i64 kd)∧w'.cell? ⟨g,o+j*6+2,none⟩=some (.int .i64 nm)∧w'.cell? ⟨g,o+j*6+3,none⟩=some (.string s)∧w'.cell? ⟨g,o+j*6+4,none⟩=some a∧w'.cell? ⟨g,o+j*6+5,none⟩=some b∧Rep n S w' [.int .i64 kd,.int .i64 nm,.string s,a,b] v.m[j].2:=by
 obtain⟨g,o,cap,kd,nm,s,a,b,p,e,h2,h3,l,i,h6,d,_⟩:=h.at_mx k j f
 exact⟨g,o,cap,kd,nm,s,a,b,p,e,h2,h3,l,i,h6,d⟩
theorem yj.forms (h:yj (Rep n S w) S w cs v vl vm lcs mcs):∃ a c b d,vl = .slice a v.l.length c∧vm = .slice b v.m.length d∧cs=[.int .i64 v.kind,.int .i64 v.num,.string v.s,.slice a v.l.length c,.slice b v.m.length d]:=by
 obtain⟨a,c,f,-,-⟩:=h.slcl.form
 obtain⟨b,d,e,-,-⟩:=h.slcm.form
 exact⟨a,c,b,d,f,e,by rw [h.cells,f,e]⟩
end
theorem zbn {n:Nat}(S:Nat→Prop)(w:World)(v:VS (V n))(a:v.l=[])(hm:v.m=[])(b:(Lit.int .i64 v.kind).wf=true)(d:(Lit.int .i64 v.num).wf=true):Rep (n+1) S w [.int .i64 v.kind,.int .i64 v.num,.string v.s,.slice none 0 0,.slice none 0 0] v:=
 ⟨.slice none 0 0,.slice none 0 0,[],[],{
  cells:=rfl
  slcl:=by rw [a];exact xt _ _
  alll:=by rw [a];exact zL.nil _
  slcm:=by rw [hm];exact xt _ _
  allm:=by rw [hm];exact zL.nil _
  inl:=by simp [yt]
  inm:=by simp [yt]
  wfk:=b
  wfn:=d }⟩
section
variable {P : Program} {ops : Array Oper} {Q : Exit → Act → World → Prop} {md : Region.Mode} {S : World → Prop} {L : Nat}
def zT (P:Program)(md:Region.Mode)(ops:Array Oper)(Q:Exit→Act→World→Prop)(S:World→Prop)(L:Nat):Nat→Array Bool→Act→World→Prop
 | 0,listed,a,w=>Region.ready md ops listed=[]∧Q .normal a w
 | fuel+1,listed,a,w=>
  (Region.ready md ops listed=[]→Q .normal a w) ∧
  ∀ i∈Region.ready md ops listed,wpOp P ops Q i (fun a' w'=>(i=L∨S w')∧zT P md ops Q S L fuel (listed.setIfInBounds i true) a' w') a w
theorem Q9:∀ (fuel:Nat) (listed:Array Bool) (a:Act) (w:World),zT P md ops Q S L fuel listed a w→wpAny P md ops Q fuel listed a w
 | 0,_,_,_,h=>h
 | fuel+1,_,_,_,h=>⟨h.1,fun i hi=>wpOp_mono (fun a' w' h'=>Q9 fuel _ a' w' h'.2) (h.2 i hi)⟩
def zbX (md:Region.Mode)(ops:Array Oper)(L i:Nat):Bool:=((ops[L]?).map (·.after.any fun e=>Region.binds md e&&e.on == i)).getD false
def late (md:Region.Mode)(ops:Array Oper)(L i:Nat):Bool:=zbX md ops L i || decide (ops.size≤L)
theorem wpAnyT_first {i:Nat}{t:Oper}{v:Value}(J:ops[i]? = some t)(q:∀ (j:Nat) (o:Oper) cs b,ops[j]? = some o→o.op≠.select cs b)(U:∀ c a w,Q (.panic c) (a.put t.dst v) w→Q (.panic c) a w)(m:late md ops L i=true) : ∀ (fuel:Nat) (listed:Array Bool) (a:Act) (w:World), (∀ j oj,ops[j]? = some oj→j≠i→listed.getD j true=false→(∀ e∈oj.after,Region.binds md e=true→e.on≠i)→t.apart ops oj=true)→i∈Region.ready md ops listed→YieldsIf P ops S t v a→S w→zT P md ops Q S L fuel (listed.setIfInBounds i true) (a.put t.dst v) w→zT P md ops Q S L (fuel+1) listed a w:=by
 intro fuel
 induction fuel with
 | zero=>
  intro listed a w _ u D A H
  refine⟨fun h=>(by rw [h] at u;cases u),fun j E=>?_⟩
  by_cases d:j=i
  ·subst d;exact D.wpOp J A ⟨.inr A,H⟩
  ·have:=ready_mono E d
   rw [H.1] at this
   cases this
 | succ fuel ih=>
  intro listed a w l u D A H
  refine⟨fun h=>(by rw [h] at u;cases u),fun j E=>?_⟩
  by_cases d:j=i
  ·subst d;exact D.wpOp J A ⟨.inr A,H⟩
  ·have n:=H.2 j (ready_mono E d)
   obtain⟨s,oj,f,z⟩:=mem_ready.1 E
   have r:∀ e∈oj.after,Region.binds md e=true→e.on≠i:=fun e I x K=>by
    have n:=z e I x
    have N:=(mem_ready.1 u).1
    rw [K] at n
    rcases Xr i listed.size with h' | h'
    ·simp [h'] at N n;rw [N] at n;cases n
    ·simp [Xy h'] at n
   have G:j≠L:=by
    intro e
    subst e
    unfold late at m
    rw [uW] at m
    rcases m with m | m
    rotate_left
    ·have n:ops.size≤j:=by simpa using m
     rw [Xy n] at f
     cases f
    unfold zbX at m
    rw [f] at m
    simp only [uv,VB,Array.any_eq_true'] at m
    obtain⟨e,I,x⟩:=m
    simp only [XR,beq_iff_eq] at x
    exact r e I x.1 x.2
   have h2:=wpOp_putIf f (l j oj f d s r) (fun cs b=>q i t cs b J) (fun cs b=>q j oj cs b f) U D n
   have p:∀ k ok,ops[k]? = some ok→k≠i→(listed.setIfInBounds j true).getD k true=false →
     (∀ e∈ok.after,Region.binds md e=true→e.on≠i)→t.apart ops ok=true:=fun k ok R F B M=>by
    refine l k ok R F ?_ M
    by_cases C:j=k
    ·subst C;exact s
    ·rw [getD_set_ne true C] at B;exact B
   refine wpOp_mono (fun O w' h3=>?_) h2
   have y:S w':=by
    rcases h3.2.1 with g | g
    ·exact absurd g G
    ·exact g
   refine⟨.inr y,ih (listed.setIfInBounds j true) O w' p (ready_mono u (Ne.symm d)) h3.1 y ?_⟩
   rw [Array.setIfInBounds_comm _ _ d]
   exact h3.2.2
theorem wpAnyT_take {i:Nat}{e:Oper}{v:Value}{d:Nat}{b:Array Bool}{a:Act}{w:World}(f:ops[i]? = some e)(n:Region.noSelect ops=true)(p:Region.free md ops b i=true)(k:(Region.ready md ops b).contains i=true)(m:late md ops L i=true)(q:∀ c a w,Q (.panic c) (a.put e.dst v) w→Q (.panic c) a w)(l:YieldsIf P ops S e v a)(j:S w)(h:zT P md ops Q S L d (b.setIfInBounds i true) (a.put e.dst v) w):zT P md ops Q S L (d+1) b a w:=
 wpAnyT_first f (Region.noSelect_spec n) q m d b a w (Region.free_spec f p) (by simpa using k) l j h
theorem wpAnyT_one {i:Nat}{e:Oper}{d:Nat}{b:Array Bool}{a:Act}{w:World}(m:ops[i]? = some e)(f:Region.ready md ops b=[i])(p:Region.wanted e (yielded ops a.tmps)=true)(h:∀ K:Act→World→Prop,(∀ a' w',(i=L∨S w')→zT P md ops Q S L d (b.setIfInBounds i true) a' w'→K a' w')→e.wp P a w K Q):zT P md ops Q S L (d+1) b a w:=by
 refine⟨fun k=>(by rw [f] at k;cases k),?_⟩
 rw [f]
 intro j n
 have:j=i:=by simpa using n
 subst this
 unfold wpOp
 rw [m]
 simp only
 rw [XK p]
 exact .inl (h _ fun a' w' l h2=>⟨l,h2⟩)
theorem wpAnyT_done {listed:Array Bool}{a:Act}{w:World}(hr:Region.ready md ops listed=[])(h:Q .normal a w) :
  ∀ fuel,zT P md ops Q S L fuel listed a w
 | 0=>⟨hr,h⟩
 | _+1=>⟨fun _=>h,by rw [hr];simp⟩
theorem zbP {id:Nat}{a:Act}{w:World}(S:World→Prop)(L:Nat)(hm:P.follows .mixedOrders=true)(h:zT P .any ops Q S L ops.size (Array.replicate ops.size false) a { w with drawn:=w.drawn+1 }):(Code.region id ops true).wp P Q a w:=
 wp_region_any hm (Q9 _ _ _ _ h)
theorem zu {id n:Nat}{a:Act}{w:World}(S:World→Prop)(L:Nat)(b:ops.size=n)(hm:P.follows .mixedOrders=true)(h:zT P .any ops Q S L n (Array.replicate n false) a { w with drawn:=w.drawn+1 }):(Code.region id ops true).wp P Q a w:=by
 subst b
 exact zbP S L hm h
theorem zF {d:Nat}{b:Array Bool}{a:Act}{w:World}(h:∀ O R,O=ops→R=Q→zT P md O R S L d b a w):zT P md ops Q S L d b a w:=h _ _ rfl rfl
theorem qY {O:Array Oper}{i dst:Nat}{f:Oper}{v:Value}{e:Nat}{b:Array Bool}{a:Act}{w:World}(q:O=ops)(j:ops[i]? = some f)(hd:f.dst=some dst)(p:Region.noSelect ops=true)(r:Region.free md ops b i=true)(m:(Region.ready md ops b).contains i=true)(n:late md ops L i=true)(s:∀ c a (d:Nat) v w,Q (.panic c) (a.put (some d) v) w→Q (.panic c) a w)(l:YieldsIf P ops S f v a)(k:S w)(h:zT P md O Q S L e (b.setIfInBounds i true) (a.put (some dst) v) w):zT P md O Q S L (e+1) b a w:=by
 subst q
 exact wpAnyT_take j p r m n (fun c a w h=>s c a dst v w (by rw [hd] at h;exact h)) l k (by rw [hd];exact h)
theorem wpAnyT_one' {O:Array Oper}{i:Nat}{e:Oper}{d:Nat}{b:Array Bool}{a:Act}{w:World}(l:O=ops)(j:ops[i]? = some e)(f:Region.ready md ops b=[i])(k:Region.wanted e (yielded ops a.tmps)=true)(h:∀ K:Act→World→Prop,(∀ a' w',(i=L∨S w')→zT P md O Q S L d (b.setIfInBounds i true) a' w'→K a' w')→e.wp P a w K Q):zT P md O Q S L (d+1) b a w:=by
 subst l
 exact wpAnyT_one j f k h
theorem qT (i:Nat)(v:Value){O:Array Oper}{dst:Nat}{j:Oper}{e:Nat}{b:Array Bool}{a:Act}{w:World}(n:O=ops)(k:ops[i]? = some j)(hd:j.dst=some dst)(f:(Region.noSelect ops&&(Region.free md ops b i&&((Region.ready md ops b).contains i&&(late md ops L i&&Region.wanted j (yielded ops a.tmps)))))=true)(p:∀ c a (d:Nat) v w,Q (.panic c) (a.put (some d) v) w→Q (.panic c) a w)(m:∀ w,S w→(execOp a.eval j).run P w = .ok (.value v) w)(l:S w)(h:zT P md O Q S L e (b.setIfInBounds i true) (a.put (some dst) v) w):zT P md O Q S L (e+1) b a w:=by
 simp only [XR] at f
 exact qY n k hd f.1 f.2.1 f.2.2.1 f.2.2.2.1 p (.inl ⟨f.2.2.2.2,m⟩) l h
theorem qO (i:Nat){O:Array Oper}{e:Oper}{d:Nat}{b:Array Bool}{a:Act}{w:World}(k:O=ops)(j:ops[i]? = some e)(f:((Region.ready md ops b == [i])&&Region.wanted e (yielded ops a.tmps))=true)(h:∀ K:Act→World→Prop,(∀ a' w',(i=L∨S w')→zT P md O Q S L d (b.setIfInBounds i true) a' w'→K a' w')→e.wp P a w K Q):zT P md O Q S L (d+1) b a w:=by
 rw [XR,beq_iff_eq] at f
 exact wpAnyT_one' k j f.1 f.2 h
theorem zE {O:Array Oper}{b:Array Bool}{a:Act}{w:World}(f:O=ops)(e:Region.ready md ops b=[])(h:Q .normal a w)(d:Nat):zT P md O Q S L d b a w:=by
 subst f
 exact wpAnyT_done e h d
end
structure Ext (W:World) where
 w:World
 k:zb [] W w
variable {z:Ext W}
instance extInh (W:World):Nonempty (Ext W):=⟨⟨W,Wd⟩⟩
theorem zI {P:Program}{id:Nat}{Q:Exit→Act→World→Prop}{w:World}{l:List Oper}(W:World)(hm:P.follows .mixedOrders=true)(b:Region.lexB .any l.toArray=true)(d:zb [] W w)(h:wpQuiet P l.toArray (fun w'=>∃ z:Ext W,w'=z.w) (fun a'=>∀ w',zb [] W w'→Q .normal a' w') l a):(Code.region id l.toArray true).wp P Q a w:=
 wp_region_quiet (C:=fun w'=>∃ z:Ext W,w'=z.w) hm b ⟨⟨_,d.drew⟩,rfl⟩ (by
  have e:(fun a':Act=>∀ w',(∃ z:Ext W,w'=z.w)→Q .normal a' w')=fun a'=>∀ w',zb [] W w'→Q .normal a' w':=funext fun a'=>propext ⟨fun h w' k=>h w' ⟨⟨w',k⟩,rfl⟩,fun h w' ⟨z,e⟩=>e ▸ h z.w z.k⟩
  rw [e]
  simpa using h)
theorem zt {p:Addr}{v:Value}(h:W.cell? p=some v):∀ z:Ext W,z.w.cell? p=some v:=fun z=>z.k.cell h Wz
theorem zbo {P:Program}{v:Value}(h:Calls P f args z.w fun e w'=>e = .returned v∧zb [] z.w w') : Calls P f args z.w fun e w''=>e = .returned v∧∃ z':Ext W,w''=z'.w:=
 h.mono fun _ _ ⟨h1,h2⟩=>⟨h1,⟨_,z.k.trans' h2⟩,rfl⟩
theorem ext_same {P:Program}{v:Value}(h:Calls P f args z.w fun e w'=>e = .returned v∧z.w=w') : Calls P f args z.w fun e w''=>e = .returned v∧∃ z':Ext W,w''=z'.w:=
 h.mono fun _ _ ⟨h1,h2⟩=>⟨h1,z,h2.symm⟩
theorem qM {P:Program}{e size bytes:Nat}{z:Value}(T:qq P t e size bytes z){w:World}{base:Nat}{v:Value}{n:Nat}{xs:List Value}(i:w.ownsRow base e size v n xs){l:Value}{m:Nat}{news:List Value}(j:Slc w size l m news)(y:∀ u∈news,u.oneCell'=true)(k:n+m≤maxLen)(d:(n+m)*bytes≤140737488355328)(f:base≤w.heap.size){o:Oper}{K:Act→World→Prop}{Q:Exit→Act→World→Prop}(s x:Operand)(r:o.op = .call { callee:=.builtin .append,args:=#[s,x],argTypes:=#[t,t] })(p:a.eval s=v)(q:a.eval x=l)(h:∀ b c w',w'.ownsRow base e size (.slice b (n+m) c) (n+m) (xs++news)→zb v.ownBlock.toList w w'→((Value.slice b (n+m) c).ownBlock=v.ownBlock∨(Value.slice b (n+m) c).ownBlock=some w.heap.size)→K (a.put o.dst (.slice b (n+m) c)) w') : Oper.wp P o a w K Q:=by
 obtain⟨C,w',A,h2,h3,D,B⟩:=bA T w o.type base v n xs i l m news j y k d f
 obtain⟨b,c,rfl,-,-⟩:=(Slc.of_row h2).form
 unfold Oper.wp execOp
 simp only [r,resolve,invoke,builtin,Sem.run_bind,Sem.run_pure,Result.andThen_ok,List.map_toArray,Xf,X3,p,q,A]
 exact h b c w' h2 h3 B
theorem KN {w:World}{b:Nat}{c:Array Value}{f:Nat×Nat}(h:w.heap[b]? = some (.cells c t f))(v:Value):(w.setCell ⟨b,i,none⟩ v).heap[b]? = some (.cells (c.setIfInBounds i v) t f):=by
 simp [World.setCell,VF,h]
theorem yO (g:Nat):∀ (vs:List Value) (o:Nat) (w:World),zb [g] w (w.setCells g o vs)
 | [],o,w=>Wd
 | v::r,o,w=>((zb.refl [g] w).setCell (p:=⟨g,o,none⟩) (.inl Wz) v).trans' (yO g r (o+1) _)
theorem qN (g:Nat){e:Nat}{f:Nat×Nat}:∀ (vs:List Value) (o:Nat) (w:World) (cur:Array Value),w.heap[g]? = some (.cells cur e f) →
  ∃ cur',(w.setCells g o vs).heap[g]? = some (.cells cur' e f)∧cur'.size=cur.size∧∀ j,j<cur.size→cur'[j]? = if o≤j∧j<o+vs.length then vs[j-o]? else cur[j]?
 | [],o,w,cur,h=>⟨cur,h,rfl,fun j hj=>by rw [XJ Wz]⟩
 | v::r,o,w,cur,h=>by
  have h1:(w.setCell ⟨g,o,none⟩ v).heap[g]? = some (.cells (cur.setIfInBounds o v) e f):=by simp [World.setCell,VF,h]
  obtain⟨cur',h2,h3,d⟩:=qN g r (o+1) _ _ h1
  refine⟨cur',h2,by rw [h3];simp,?_⟩
  intro j hj
  rw [d j (by simpa using hj)]
  simp only [XP]
  by_cases b:j=o
  ·subst b
   rw [XJ Ws,XK Ws]
   simp [hj]
  ·by_cases a:o+1≤j∧j<o+1+r.length
   ·rw [XK a,XK Ws]
    rw [show j-o=(j-(o+1))+1 by omega]
    rfl
   ·rw [XJ a,XJ Ws]
    rw [uN]
    rw [XJ Ws]
theorem ze {w:World}{b:Nat}{c:Array Value}{f:Nat×Nat}{v:Value}(h:w.heap[b]? = some (.cells c t f)){d:Array Value}(hd:c.setIfInBounds i v=d):(w.setCell ⟨b,i,none⟩ v).heap[b]? = some (.cells d t f):=by
 subst hd;exact KN h v
theorem zd {w:World}{o:Obj}{g:Nat}(a:w.heap.size=g):(w.alloc o).heap[g]? = some o:=by
 subst a;exact heap_alloc_new w o
structure vG (w:World)(g:Nat)(key:ByteArray)(k m:Int)(s:ByteArray)(a b:Value):Prop where
 c0:w.cell? ⟨g,0,none⟩=some (.string key)
 c1:w.cell? ⟨g,1,none⟩=some (.int .i64 k)
 c2:w.cell? ⟨g,2,none⟩=some (.int .i64 m)
 c3:w.cell? ⟨g,3,none⟩=some (.string s)
 c4:w.cell? ⟨g,4,none⟩=some a
 c5:w.cell? ⟨g,5,none⟩=some b
theorem pbox_at {w:World}{g:Nat}(e:w.heap.size=g)(key:ByteArray)(k m:Int)(s:ByteArray)(a b:Value)(t:Nat):vG (w.alloc (.cells #[.string key,.int .i64 k,.int .i64 m,.string s,a,b] t)) g key k m s a b:=by
 subst e
 have d:=heap_alloc_new w (.cells #[.string key,.int .i64 k,.int .i64 m,.string s,a,b] t)
 exact⟨za d rfl,za d rfl,za d rfl,za d rfl,za d rfl,za d rfl⟩
theorem vG.kept {w:World}{g:Nat}{key:ByteArray}{k:Int}{a b:Value}(h:vG w g key k m s a b)(d:zb X w w')(e:g ∉ X):vG w' g key k m s a b:=
 ⟨d.cell h.c0 e,d.cell h.c1 e,d.cell h.c2 e,d.cell h.c3 e,d.cell h.c4 e,d.cell h.c5 e⟩
theorem vG.k0 {w:World}{g:Nat}{key:ByteArray}{k:Int}{a b:Value}(h:vG w g key k m s a b)(d:zb [] w w'):vG w' g key k m s a b:=h.kept d Wz
theorem Rep.move {n:Nat}{S T:Nat→Prop}{w:World}{cs:List Value}{v:V n}(h:Rep n S w cs v)(a:zb X w w')(b:∀ g,g<w.heap.size→S g→g ∉ X∧T g):Rep n T w' cs v:=
 ((h.mono (T:=fun g=>g ∉ X∧T g) b).kept a (fun g d q=>q.1 d)).mono (fun _ _ q=>q.2)
theorem Rep.sl {n:Nat}{S:Nat→Prop}{w:World}{k:Int}{a b:Value}{v:V n}(h:Rep n S w [.int .i64 k,.int .i64 m,.string s,a,b] v):∃ p i c q j d,a = .slice p i c∧b = .slice q j d:=by
 match n,v,h with
 | n+1,v,h=>
  obtain⟨vl,vm,lcs,mcs,h⟩:=h
  obtain⟨p,c,q,d,_,_,e⟩:=h.forms
  simp only [VG] at e
  exact⟨_,_,_,_,_,_,e.2.2.2.1,e.2.2.2.2.1⟩
def KM (up down:Int)(x:Int):Int:=bits .or .u32 (x*up%4294967296) (x/down)
def bx (k up down:Int):Prop:=(k=2∧up=1073741824∧down=4)∨(k=6∧up=67108864∧down=64)∨(k=7∧up=33554432∧down=128)∨(k=11∧up=2097152∧down=2048)∨(k=13∧up=524288∧down=8192)∨(k=17∧up=32768∧down=131072)∨(k=18∧up=16384∧down=262144)∨(k=19∧up=8192∧down=524288)∨(k=22∧up=1024∧down=4194304)∨(k=25∧up=128∧down=33554432)
theorem rotl_any (w:World)(x:Int)(k:Int)(up a:Int)(h:bx k up a) : zG w 253 #[.int .u32 x,.int .i64 (-k)] (.int .u32 (KM up a x)):=by
 unfold bx at h
 have m:bits BinOp.and IntKind.u64 (IntKind.u64.wrap (-2)) 31=30:=Wr
 have n:bits BinOp.and IntKind.u64 (IntKind.u64.wrap (-6)) 31=26:=Wr
 have p:bits BinOp.and IntKind.u64 (IntKind.u64.wrap (-7)) 31=25:=Wr
 have j:bits BinOp.and IntKind.u64 (IntKind.u64.wrap (-11)) 31=21:=Wr
 have i:bits BinOp.and IntKind.u64 (IntKind.u64.wrap (-13)) 31=19:=Wr
 have b:bits BinOp.and IntKind.u64 (IntKind.u64.wrap (-17)) 31=15:=Wr
 have e:bits BinOp.and IntKind.u64 (IntKind.u64.wrap (-18)) 31=14:=Wr
 have f:bits BinOp.and IntKind.u64 (IntKind.u64.wrap (-19)) 31=13:=Wr
 have l:bits BinOp.and IntKind.u64 (IntKind.u64.wrap (-22)) 31=10:=Wr
 have d:bits BinOp.and IntKind.u64 (IntKind.u64.wrap (-25)) 31=7:=Wr
 rcases h with ⟨rfl,rfl,rfl⟩ | ⟨rfl,rfl,rfl⟩ | ⟨rfl,rfl,rfl⟩ | ⟨rfl,rfl,rfl⟩ | ⟨rfl,rfl,rfl⟩ | ⟨rfl,rfl,rfl⟩ | ⟨rfl,rfl,rfl⟩ | ⟨rfl,rfl,rfl⟩ | ⟨rfl,rfl,rfl⟩ | ⟨rfl,rfl,rfl⟩
 all_goals
  go_enter func253,ntmps253
  go_wp2_with fail
  go_ret
  exact⟨by simp [KM],Wd⟩
theorem jy (w:World)(x:Int)(k:Int)(up a:Int)(h:bx k up a) : zG w 235 #[.int .u32 x,.int .i64 k] (.int .u32 (KM up a x)):=by
 have d:=qI (rotl_any w x k up a h)
 unfold bx at h
 rcases h with ⟨rfl,rfl,rfl⟩ | ⟨rfl,rfl,rfl⟩ | ⟨rfl,rfl,rfl⟩ | ⟨rfl,rfl,rfl⟩ | ⟨rfl,rfl,rfl⟩ | ⟨rfl,rfl,rfl⟩ | ⟨rfl,rfl,rfl⟩ | ⟨rfl,rfl,rfl⟩ | ⟨rfl,rfl,rfl⟩ | ⟨rfl,rfl,rfl⟩
 all_goals
  go_enter func235,ntmps235
  go_wp2_with fail
  refine d.o.mono ?_
  rintro e w' ⟨rfl,b⟩
  go_wp2_with fail
  go_ret
  exact⟨rfl,b⟩
theorem vS:qq prog 32 5 1 1 (.int .u8 0):=⟨underlying32,Wr,rfl,Wo⟩
def qw (w w':World)(v:Value)(l:List UInt8):Prop:=zm w' v l∧∀ g,yt v=some g→w.heap.size≤g∧kind w' g=5+2
theorem ji {w:World}{v:Value}{n:Nat}{l:List UInt8}(h:w'.ownsRow w.heap.size 5 1 v n (l.map bv)):qw w w' v l:=by
 have b:l.length=n:=by have:=h.1;simpa using this
 subst b
 exact⟨Slc.of_row h,fun g a=>⟨(h.lt g (yL a)).1,yw h (yL a)⟩⟩
@[go_sem] theorem eqlNilBytes (w:World)(a:Option Addr)(n c:Nat):(binOp .eql 32 (.slice a n c) (.slice none 0 0)).run prog w = .ok (.bool a.isNone) w:=Lib.run_eql_slice_nil w _ _ a n c 0 0 underlying32
theorem bg (v:Value)(l:List UInt8)(w:World)(h:zm w v l)(p:l.length≤lim) : Calls prog 45 #[v] w fun e w'=>∃ v',e = .returned v'∧qw w w' v' l∧zb [] w w':=by
 rcases h.2 with ⟨rfl,i⟩ | h2
 ·have:l=[]:=Xh i
  subst this
  go_enter func45,ntmps45
  go_wp2
  go_ret
  exact⟨_,rfl,⟨xt _ _,by simp [yt]⟩,Wd⟩
 ·obtain⟨m,cap,rfl⟩:∃ m cap,v = .slice (some m) l.length cap:=by
   rcases h2 with ⟨i,a,c,rfl,_⟩ | ⟨g,o,c,rfl,_⟩
   ·exact⟨a,c,by rw [i]⟩
   ·exact⟨_,_,rfl⟩
  have k:=(zb.refl [] w).alloc (.cells #[] 5)
  have d:=World.ownsRow_made (base:=w.heap.size) (size:=1) (e:=5) w #[] 0 (XA) Wo rfl
  have f:=h.k0 k
  go_enter func45,ntmps45
  go_wp2_with (at_builtin;refine zz vS d f (qr l) (by simp only [maxLen,lim] at *;omega) (by simp only [lim] at *;omega) Wz rfl _ _ rfl rfl rfl ?_;intro v' w1 b j _ n)
  go_ret
  exact⟨_,rfl,ji (by simpa using b),k.trans j (by simp [Value.ownBlock])⟩
theorem grow_any (n:Nat)(w:World)(k:n≤lim) : Calls prog 233 #[.slice none 0 0,.int .i64 n] w fun e w'=>∃ v',e = .returned v'∧w'.ownsRow w.heap.size 5 1 v' 0 []∧zb [] w w':=by
 obtain⟨i,m,q,r,p⟩:=info_parts vS.info
 by_cases t:0<n
 ·have a:=Lib.run_append_nil_zeros w 32 3 32 5 i (.int .u8 0) .i64 .i64 underlying32 underlying3 m q n t Ws (by simp only [lim] at k;omega) (by simp only [lim] at k;rw [p];omega)
  have j:=grownCap_ge w n 0 5
  have d:=grownCap_le_maxLen w n 0 5 (by simp only [lim,maxLen] at *;omega)
  have b:(Builtin.zeroCells (Value.int IntKind.u8 0).cells n++Builtin.zeroCells (Value.int IntKind.u8 0).cells (grownCap w n 0 5-n)).size=grownCap w n 0 5*1:=by
   simp only [Array.size_append,size_zeroCells];simp [Value.cells];omega
  revert a j d b
  generalize grownCap w n 0 5=cap
  generalize (Builtin.zeroCells (Value.int IntKind.u8 0).cells n++Builtin.zeroCells (Value.int IntKind.u8 0).cells (cap-n))=cs
  intro a j d b
  have f:=qI d
  have h:=qI b
  have s:(n:Int)≤140737488351232:=by simp only [lim] at k;omega
  have l:=qI a
  clear d b k m q r p a
  go_enter func233,ntmps233
  go_wp2_with (at_builtin;refine Lib.wpList_append_run _ rfl _ _ _ _ rfl _ _ rfl rfl _ _ l.o ?_)
  go_ret
  refine⟨_,rfl,⟨rfl,.inr ⟨w.heap.size,cap,cs,rfl,XA,heap_alloc_new w.drew _,XB,f.o,h.o,Wz⟩⟩,((zb.refl _ w).drew).alloc _⟩
 ·obtain rfl:n=0:=by omega
  go_enter func233,ntmps233
  go_wp2
  go_ret
  exact⟨_,rfl,World.ownsRow_nil _ _ _ _,Wd⟩
theorem zcn (g o cap:Nat)(a:List Value)(b:List (List UInt8))(w:World)(u:Row w g o a)(q:zL (zm w) a b)(p:b.flatten.length≤lim)(J:a.length≤lim) : Calls prog 187 #[.slice (some ⟨g,o,none⟩) a.length cap] w fun e w'=>∃ v',e = .returned v'∧qw w w' v' b.flatten∧zb [] w w':=by
 have X:a.length≤140737488351232:=by simpa only [lim] using J
 have I:∀ j,(b.take j).flatten.length≤140737488351232:=fun j=>by have:=vU b j;simp only [lim] at p;omega
 have t:=q.1
 have r:=qI I
 have m:=qI t
 have P:=qI p
 clear J I t p
 go_enter func187,ntmps187
 go_wp2_with fail
 go_loop [3,11] (fun s i=>∃ k:Nat,k≤a.length∧i = .int .i64 k∧s = .int .i64 (b.take k).flatten.length) (fun _ i=>a.length-(intOf i).toNat)
 case atStart=>exact⟨0,XB,rfl,Wz⟩
 case round=>
  obtain⟨k,J,rfl,rfl⟩:=hrel
  by_cases h:k<a.length
  ·have d:k<b.length:=by rw [← m.o];exact h
   have hc:=u.at h
   have F:=q.2 k a[k] b[k] (by simp [h]) (by simp [d])
   have Y:=qI F
   obtain⟨a1,c1,hv,-,-⟩:=F.form
   rw [hv] at hc
   have y:=qI (qv b k d)
   have D:=r.o k
   have C:=r.o (k+1)
   have W:(b.take k).flatten.length+b[k].length≤140737488351232:=by rw [y.o,XM] at C;exact C
   clear F hv C
   revert D W y
   generalize H:(b.take k).flatten.length=n1
   generalize G:b[k].length=n2 at hc ⊢
   intro y D W
   have M:=qI H
   have K:=qI G
   clear H G
   go_wp2_with fail
   go_round
   case rel=>
    refine⟨k+1,Ws,by go_num,?_⟩
    rw [y.o,XM,M.o,K.o]
    go_num
   case measure=>simp [intOf];omega
  ·obtain rfl:k=a.length:=by omega
   have B:b.take a.length=b:=by rw [m.o];exact Xw
   rw [B]
   have l0:=r.o a.length
   rw [B] at l0
   clear B
   revert l0
   generalize R:b.flatten.length=N
   intro l0
   have HN:=qI R
   clear R
   have E:N≤lim:=by simp only [lim];exact l0
   have U:=grow_any N w E
   have Q:=qI U
   clear U E
   go_wp2_with (go_at_call 233;refine Q.o.mono ?_;rintro e w1 ⟨v1,rfl,x,L⟩)
   clear Q
   go_loopw [6,27] (fun v i wr=>∃ k:Nat,k≤a.length∧i = .int .i64 k∧wr.ownsRow w.heap.size 5 1 v (b.take k).flatten.length ((b.take k).flatten.map bv)∧zb [] w wr) (fun _ i _=>a.length-(intOf i).toNat)
   case atStart=>exact⟨0,XB,rfl,by simpa using x,L⟩
   case round=>
    obtain⟨k,J,rfl,f,n⟩:=hrel
    by_cases h:k<a.length
    ·have d:k<b.length:=by rw [← m.o];exact h
     have hc:=(u.kept n Wz).at h
     have F:=(q.2 k a[k] b[k] (by simp [h]) (by simp [d])).k0 n
     have y:=qI (qv b k d)
     have D:=r.o (k+1)
     rw [y.o,XM] at D
     have C:=qI D
     clear D
     have z:=n.size
     have l:=qI f
     clear f
     go_wp2_with (at_builtin;refine zz vS l.o F (qr _) (by have:=C.o;simp only [maxLen];omega) (XC C.o) z rfl _ _ rfl rfl rfl ?_;intro v' w2 A O _ aa)
     go_roundw
     case rel=>
      refine⟨k+1,Ws,by go_num,?_,n.trans O ?_⟩
      ·rw [y.o,XM,Xc];exact A
      ·intro i Z
       exact .inr ((World.ownsRow.lt l.o i (XD Z)).1)
     case measure=>simp [intOf];omega
    ·obtain rfl:k=a.length:=by omega
     have B:b.take a.length=b:=by rw [m.o];exact Xw
     rw [B] at f
     have l:=qI f
     clear f B
     go_wp2
     go_ret
     exact⟨_,rfl,ji l.o,n⟩
theorem concat2 (g cap:Nat)(h v2:Value)(d f:List UInt8)(w:World)(b:Row w g 0 [h,v2])(i:zm w h d)(h2:zm w v2 f)(a:d.length+f.length≤lim) : Calls prog 187 #[.slice (some ⟨g,0,none⟩) 2 cap] w fun e w'=>∃ v',e = .returned v'∧qw w w' v' (d++f)∧zb [] w w':=by
 have:=zcn g 0 cap [h,v2] [d,f] w b ((zL.nil _).cons h2 |>.cons i) (by simpa using a) (by simp [lim])
 simpa using this
theorem concat3 (g cap:Nat)(h v2 v3:Value)(b d f:List UInt8)(w:World)(a:Row w g 0 [h,v2,v3])(j:zm w h b)(h2:zm w v2 d)(h3:zm w v3 f)(i:b.length+d.length+f.length≤lim) : Calls prog 187 #[.slice (some ⟨g,0,none⟩) 3 cap] w fun e w'=>∃ v',e = .returned v'∧qw w w' v' (b++(d++f))∧zb [] w w':=by
 have:=zcn g 0 cap [h,v2,v3] [b,d,f] w a ((zL.nil _).cons h3 |>.cons h2 |>.cons j) (by simp;omega) (by simp [lim])
 simpa using this
theorem JM (w:World)(xs:List Value)(t:Nat):Row (w.alloc (.cells xs.toArray t)) w.heap.size 0 xs:=by
 refine⟨?_,Wz⟩
 intro j u a
 rw [Xd,cell_of_row _ w.heap.size j xs.toArray t (0,0) (heap_alloc_new w _)]
 simpa using a
structure jd (R:World→World→Prop) where
 p:Value→Nat×Nat→World→Prop
 st:∀ v b w w',p v b w→R w w'→p v b w'
def jd.is {R:World→World→Prop}(v:Value):jd R:=⟨fun u _ _=>u=v,fun _ _ _ _ h _=>h⟩
def jd.any {R:World→World→Prop}:jd R:=⟨fun _ _ _=>True,fun _ _ _ _ h _=>h⟩
def js {R:World→World→Prop}(fs:List (jd R))(i:Nat):jd R:=fs.getD i jd.any
def Zd:List (Option Nat)→Nat→(Nat→Value)→Act→Act
 | [],_,_,a=>a
 | d::ds,k,x,a=>Zd ds (k+1) x (a.put d (x k))
def Zw (a:Act):Option Nat→Value
 | some d=>a.tmps.getD d undef
 | none=>undef
def jj (ops:Array Oper)(k j:Nat):Bool:=((ops[k]?).map (·.after.any fun e=>Region.binds .any e&&e.on == j)).getD false
def YU (ops:Array Oper)(k:Nat):Bool:=((ops[k]?).map (·.after.all fun e=>!Region.binds .any e || decide (e.on<k))).getD false
def Z1:List (Option Nat)→Bool
 | []=>true
 | none::l=>Z1 l
 | some d::l=>!l.contains (some d)&&Z1 l
def ordB (ops:Array Oper)(L n:Nat):Bool:=
 decide (L<ops.size)&&(List.range ops.size).all (YU ops)&&(List.range L).all (fun j=>(List.range (L+1)).any (fun k=>decide (j<k)&&jj ops k j))&&Z1 (ops.toList.map (·.dst)) &&
  (ops.toList.map (·.dst)).all (fun d=>d.all (fun d=>decide (d<n)))&&(List.range ops.size).all (fun k=>decide (k≤L) || jj ops k (k-1))
theorem bQ:∀ {l:List (Option Nat)},Z1 l=true→∀ (i j:Nat) (d:Nat),l[i]? = some (some d)→l[j]? = some (some d)→i=j
 | [],_,i,_,_,h,_=>by simp at h
 | none::l,h,i,j,d,hi,hj=>by
  cases i with
  | zero=>simp at hi
  | succ i=>
   cases j with
   | zero=>simp at hj
   | succ j=>rw [bQ (l:=l) h i j d (by simpa using hi) (by simpa using hj)]
 | some e::l,h,i,j,d,hi,hj=>by
  simp only [Z1,XR,Bool.not_eq_true',List.contains_eq_mem,ul] at h
  cases i with
  | zero=>
   cases j with
   | zero=>rfl
   | succ j=>
    simp only [List.getElem?_cons_zero,Xt] at hi
    subst hi
    exact absurd (uj (by simpa using hj)) h.1
  | succ i=>
   cases j with
   | zero=>
    simp only [List.getElem?_cons_zero,Xt] at hj
    subst hj
    exact absurd (uj (by simpa using hi)) h.1
   | succ j=>rw [bQ (l:=l) h.2 i j d (by simpa using hi) (by simpa using hj)]
theorem ZH (a:Act)(d t:Nat)(v:Value)(hd:d<a.tmps.size):(a.put (some d) v).tmps.getD t undef=if t=d then v else a.tmps.getD t undef:=by
 simp only [Act.put,Xg,uN]
 by_cases h:d=t
 ·subst h;simp [hd]
 ·rw [XJ h,XJ (Ne.symm h)]
theorem puts_size:∀ (ds:List (Option Nat)) (k:Nat) (x:Nat→Value) (a:Act),(Zd ds k x a).tmps.size=a.tmps.size
 | [],_,_,_=>rfl
 | d::ds,k,x,a=>by
  rw [Zd,puts_size ds]
  cases d <;> simp [Act.put]
theorem zaA:∀ (ds:List (Option Nat)) (k:Nat) (x:Nat→Value) (a:Act),(Zd ds k x a).defers=a.defers
 | [],_,_,_=>rfl
 | d::ds,k,x,a=>by
  rw [Zd,zaA ds]
  cases d <;> simp [Act.put]
theorem zbO:∀ (ds:List (Option Nat)) (k:Nat) (x:Nat→Value) (a:Act) (t:Nat),some t ∉ ds→(∀ d,some d∈ds→d<a.tmps.size)→(Zd ds k x a).tmps.getD t undef=a.tmps.getD t undef
 | [],_,_,_,_,_,_=>rfl
 | d::ds,k,x,a,t,h,hz=>by
  have hs:(a.put d (x k)).tmps.size=a.tmps.size:=by cases d <;> simp [Act.put]
  rw [Zd,zbO ds _ _ _ t (fun g=>h (Xj _ g)) (fun e b=>by rw [hs];exact hz e (Xj _ b))]
  cases d with
  | none=>rfl
  | some d=>
   rw [ZH a d t _ (hz d (Xp ..)),XJ (fun e=>h (by rw [e];exact Xp ..))]
theorem puts_at:∀ (ds:List (Option Nat)) (k:Nat) (x:Nat→Value) (a:Act) (i d:Nat),Z1 ds=true→(∀ d,some d∈ds→d<a.tmps.size)→ds[i]? = some (some d)→(Zd ds k x a).tmps.getD d undef=x (k+i)
 | [],_,_,_,_,_,_,_,h=>by simp at h
 | e::ds,k,x,a,i,d,hn,hz,h=>by
  have hs:(a.put e (x k)).tmps.size=a.tmps.size:=by cases e <;> simp [Act.put]
  have b:∀ d,some d∈ds→d<(a.put e (x k)).tmps.size:=fun d hd=>by rw [hs];exact hz d (Xj _ hd)
  rw [Zd]
  cases i with
  | zero=>
   simp only [List.getElem?_cons_zero,Xt] at h
   subst h
   simp only [Z1,XR,Bool.not_eq_true',List.contains_eq_mem,ul] at hn
   rw [zbO ds _ _ _ d hn.1 b,ZH a d d _ (hz d (Xp ..)),XK rfl]
   rfl
  | succ i=>
   rw [puts_at ds (k+1) x _ i d (by
    cases e with
    | none=>exact hn
    | some e=>simp only [Z1,XR] at hn;exact hn.2) b (by simpa using h)]
   congr 1;omega
theorem act_puts {e:List (Option Nat)}{b:Act}(s:Z1 e=true)(k:∀ d,some d∈e→d<a.tmps.size)(u:b.tmps.size=a.tmps.size)(hd:b.defers=a.defers)(v:∀ t,some t ∉ e→b.tmps.getD t undef=a.tmps.getD t undef) : b=Zd e 0 (fun j=>Zw b (e.getD j none)) a:=by
 have key:b.tmps=(Zd e 0 (fun j=>Zw b (e.getD j none)) a).tmps:=by
  apply Array.ext
  ·rw [puts_size,u]
  ·intro t m h2
   have q:b.tmps[t]=b.tmps.getD t undef:=by simp [Xg,m]
   have r:(Zd e 0 (fun j=>Zw b (e.getD j none)) a).tmps[t]=(Zd e 0 (fun j=>Zw b (e.getD j none)) a).tmps.getD t undef:=by rw [Xg,uh h2];rfl
   rw [q,r]
   by_cases hm:some t∈e
   ·obtain⟨i,n,l⟩:=uI hm
    have h:e[i]? = some (some t):=by rw [XN n,l]
    rw [puts_at e 0 _ a i t s k h,Xd,Xq,h]
    rfl
   ·rw [zbO e 0 _ a t hm k,v t hm]
 have f:=zaA e 0 (fun j=>Zw b (e.getD j none)) a
 rw [← hd] at f
 cases b
 rename_i w y
 generalize x:Zd e 0 _ a=p at key f ⊢
 cases p
 simp only at key f
 subst key;subst f
 rfl
def Qy (W w':World)(L:Nat)(b:Nat→Nat×Nat):Prop:=(∀ j,j<L→W.heap.size≤(b j).1∧(b j).1≤(b j).2∧(b j).2≤w'.heap.size)∧∀ i j,i<L→j<L→i≠j→(b i).2≤(b j).1∨(b j).2≤(b i).1
section
variable {P : Program} {ops : Array Oper} {R : World → World → Prop}
def Qh (P:Program)(ops:Array Oper)(R:World→World→Prop)(fs:List (jd R))(W:World)(F:(Nat→Value)→Act):List Oper→Nat→Prop
 | [],_=>True
 | o::l, i => (∀ x w, R W w → ∀ b : Nat → Nat×Nat, (∀ j, jj ops i j = true → (js fs j).p (x j) (b j) w) →
     wpList P ops (fun e a' w'=>e = .normal∧∃ v,a'=(F x).put o.dst v∧(js fs i).p (match o.dst with | some _=>v | none=>undef) (w.heap.size,w'.heap.size) w'∧R w w') [o] (F x) w)∧Qh P ops R fs W F l (i+1)
theorem stepsF_at {fs:List (jd R)}{W:World}{F:(Nat→Value)→Act}:∀ (l:List Oper) (k i:Nat) (o:Oper),Qh P ops R fs W F l k→l[i]? = some o→∀ x w,R W w→∀ b:Nat→Nat×Nat,(∀ j,jj ops (k+i) j=true→(js fs j).p (x j) (b j) w) →
  wpList P ops (fun e a' w'=>e = .normal∧∃ v,a'=(F x).put o.dst v∧(js fs (k+i)).p (match o.dst with | some _=>v | none=>undef) (w.heap.size,w'.heap.size) w'∧R w w') [o] (F x) w
 | [],_,_,_,_,h=>by simp at h
 | o::l,k,0,o',h,ho=>by
  simp only [List.getElem?_cons_zero,Xt] at ho
  subst ho
  exact h.1
 | o::l,k,i+1,o',h,ho=>by
  have:=stepsF_at l (k+1) i o' h.2 (by simpa using ho)
  rw [show k+1+i=k+(i+1) by omega] at this
  exact this
theorem wpOp_of_list {Q l:Exit→Act→World→Prop}{K:Act→World→Prop}{i:Nat}{o:Oper}{a:Act}{w:World}(q:ops[i]? = some o)(h:wpList P ops Q [o] a w)(b:∀ a' w',Q .normal a' w'→K a' w')(hp:∀ c a w,Q (.panic c) a w→l (.panic c) a w)(m:LetsOut Q→LetsOut l):wpOp P ops l i K a w:=by
 unfold wpOp
 rw [q]
 simp only
 unfold wpList at h
 split at h
 ·rename_i k
  rw [XK k]
  rcases h with h | h
  ·refine .inl ?_
   unfold Oper.wp at *
   generalize (execOp a.eval o).run P w=r at *
   cases r with
   | ok n w'=>
    cases n <;> simp only [Oper.upon] at h ⊢
    case value v=>exact b _ _ h
    case skip=>exact b _ _ h
    case defer d=>exact b _ _ h
    case enter f args=>
     exact Calls.mono h (fun e p j=>by cases e <;> first | exact b _ _ j | exact hp _ _ _ j | exact m j)
    case row r args=>exact Rows.mono h (fun _ _ j=>b _ _ j)
   | halt x w'=>cases x <;> simp only [Oper.upon] at h ⊢ <;> exact hp _ _ _ h
  ·exact .inr ⟨h.1,m h.2⟩
 ·rename_i k
  rw [XJ k]
  exact b _ _ h
structure Mid (ops:Array Oper)(fs:List (jd R))(W:World)(L:Nat)(b:Act)(listed:Array Bool)(a:Act)(w:World)(bs:Nat→Nat×Nat):Prop where
 size:listed.size=ops.size
 last:∀ k,L≤k→listed.getD k false=false
 closed:∀ k j,listed.getD k false=true→jj ops k j=true→listed.getD j false=true
 tmps:a.tmps.size=b.tmps.size
 defers:a.defers=b.defers
 rest:∀ t,some t ∉ ops.toList.map (·.dst)→a.tmps.getD t undef=b.tmps.getD t undef
 late:∀ k d,L≤k→(ops.toList.map (·.dst))[k]? = some (some d)→a.tmps.getD d undef=b.tmps.getD d undef
 rel:R W w
 facts:∀ j,listed.getD j false=true→(js fs j).p (Zw a ((ops.toList.map (·.dst)).getD j none)) (bs j) w
 within:∀ j,listed.getD j false=true→W.heap.size≤(bs j).1∧(bs j).1≤(bs j).2∧(bs j).2≤w.heap.size
 apart:∀ i j,listed.getD i false=true→listed.getD j false=true→i≠j→(bs i).2≤(bs j).1∨(bs j).2≤(bs i).1
theorem Kt {md:Region.Mode}{a:Array Bool}{i:Nat}:i∈Region.ready md ops a→a.getD i true=false∧∃ o,ops[i]? = some o∧∀ e∈o.after,Region.binds md e=true→a.getD e.on false=true:=fun h=>by
 obtain⟨b,o,h2,h3⟩:=mem_ready.1 h
 exact⟨b,o,h2,h3⟩
theorem jQ {a:Array Bool}{i j:Nat}{o:Oper}(k:ops[i]? = some o)(h:∀ e∈o.after,Region.binds .any e=true→a.getD e.on false=true)(b:jj ops i j=true):a.getD j false=true:=by
 unfold jj at b
 rw [k] at b
 simp only [uv,VB,Array.any_eq_true'] at b
 obtain⟨e,f,d⟩:=b
 simp only [XR,beq_iff_eq] at d
 rw [← d.2]
 exact h e f d.1
theorem jk {l:Array Bool}{i:Nat}(h:l.getD i true=false):l.getD i false=false∧i<l.size:=by
 by_cases a:i<l.size
 ·simp [Xg,a] at h ⊢;exact h
 ·simp [Xg,a] at h
theorem all_of_last {a:Array Bool}{L:Nat}(hc:∀ k j,a.getD k false=true→jj ops k j=true→a.getD j false=true)(i:∀ j,jj ops L j=true→a.getD j false=true)(d:(List.range L).all (fun j=>(List.range (L+1)).any (fun k=>decide (j<k)&&jj ops k j))=true):∀ (m j:Nat),L-j=m→j<L→a.getD j false=true:=by
 intro m
 induction m using Nat.strongRecOn with
 | _ m ih=>
  intro j hm f
  have b:=Xk.1 d j (ur.2 f)
  obtain⟨k,h,h2⟩:=List.any_eq_true.1 b
  simp only [XR,Xa] at h2
  have l:=ur.1 h
  by_cases e:k=L
  ·subst e;exact i j h2.2
  ·exact hc k j (ih (L-k) Ws k rfl Ws) h2.2
theorem zbb {a:Array Bool}{n:Nat}(s:ops.size=n)(r:a.size=n)(p:∀ k,k<n→YU ops k=true):∀ (m:Nat),m<n→a.getD m false=false→Region.ready .any ops a≠[]:=by
 intro m
 induction m using Nat.strongRecOn with
 | _ m ih=>
  intro hm h
  obtain⟨o,i⟩:∃ o,ops[m]? = some o:=⟨_,uh Ws⟩
  by_cases b:∀ e∈o.after,Region.binds .any e=true→a.getD e.on false=true
  ·intro e
   have:m∈Region.ready .any ops a:=mem_ready.2 ⟨by
    have l:m<a.size:=Ws
    simp [Xg,l] at h ⊢;exact h,o,i,b⟩
   rw [e] at this
   cases this
  ·simp only [Classical.not_forall] at b
   obtain⟨e,j,f,q⟩:=b
   have d:=p m hm
   unfold YU at d
   rw [i] at d
   simp only [uv,VB,Array.all_eq_true_iff_forall_mem] at d
   have h2:=d e j
   simp only [f,Bool.not_true,Bool.false_or,Xa] at h2
   exact ih e.on h2 Ws (by simpa using q)
def vF (l:Array Bool):Nat:=l.toList.countP (fun b=>!b)
theorem unlisted_set {l:Array Bool}{i:Nat}(h:l.getD i true=false):vF (l.setIfInBounds i true)+1=vF l:=by
 have e:=(jk h).2
 have hv:l[i]=false:=by simpa [Xg,e] using h
 unfold vF
 rw [Array.toList_setIfInBounds]
 have d:i<l.toList.length:=by simpa using e
 rw [List.countP_set d]
 have a:l.toList[i]=false:=by simpa using hv
 rw [a]
 have:0<l.toList.countP (fun b=>!b):=List.countP_pos_iff.2 ⟨false,by rw [← a];exact XX d,rfl⟩
 simp only [Bool.not_false,Bool.not_true,if_true,uM,if_false]
 omega
theorem unlisted_pos {l:Array Bool}{i:Nat}(a:i<l.size)(h:l.getD i false=false):0<vF l:=by
 have hv:l[i]=false:=by simpa [Xg,a] using h
 exact List.countP_pos_iff.2 ⟨false,by rw [← hv];exact Array.getElem_mem_toList a,rfl⟩
theorem tail_any {Q:Exit→Act→World→Prop}{L:Nat}(G:∀ k,k<ops.size→YU ops k=true)(B:∀ k,k<ops.size→L<k→jj ops k (k-1)=true):∀ (tl:List Oper) (k:Nat) (fuel:Nat) (listed:Array Bool) (a:Act) (w:World), L≤k→ops.toList.drop k=tl→listed.size=ops.size→(∀ j,j<k→j<ops.size→listed.getD j false=true)→(∀ j,k≤j→listed.getD j false=false)→tl.length≤fuel→wpList P ops Q tl a w→wpAny P .any ops Q fuel listed a w:=by
 intro tl
 induction tl with
 | nil=>
  intro k fuel listed a w _ d y b _ _ h
  have D:ops.size≤k:=by simpa using List.drop_eq_nil_iff.1 d
  refine wpAny_done ?_ h fuel
  rw [List.eq_nil_iff_forall_not_mem]
  intro j x
  have r:=jk (Kt x).1
  rw [b j Ws Ws] at r
  cases r.1
 | cons o rest ih=>
  intro k fuel listed a w M d y b p E h
  have D:k<ops.size:=by
   rcases Xr k ops.size with m | m
   ·exact m
   ·rw [List.drop_eq_nil_of_le (by simpa using m)] at d;cases d
  have F:ops[k]? = some o:=by
   have m:(ops.toList.drop k)[0]? = some o:=by rw [d];rfl
   rw [uq,Nat.add_zero,uP] at m
   exact m
  have q:ops.toList.drop (k+1)=rest:=by
   rw [← uD,d]
   rfl
  obtain⟨f,rfl⟩:∃ f,fuel=f+1:=⟨fuel - 1,by simp only [XP] at E;omega⟩
  refine⟨fun K=>absurd K (zbb rfl y G k D (p k (XA))),fun i H=>?_⟩
  obtain⟨A,I,n,u⟩:=Kt H
  have s:=jk A
  have C:i=k:=by
   rcases Nat.lt_trichotomy i k with m | m | m
   ·rw [b i m Ws] at s;cases s.1
   ·exact m
   ·have h2:=B i Ws Ws
    have h3:=jQ n u h2
    rw [p (i-1) Ws] at h3
    cases h3
  subst C
  obtain rfl:o=I:=by rw [F] at n;exact Option.some.inj n
  have l:∀ t w',wpList P ops Q rest t w'→wpAny P .any ops Q f (listed.setIfInBounds i true) t w':=fun t w' J=>by
   refine ih (i+1) f _ t w' Ws q (by rw [Array.size_setIfInBounds];exact y) (fun j x v=>?_) (fun j x=>?_) (by simp only [XP] at E;omega) J
   ·simp only [Xg,uN]
    by_cases e:i=j
    ·rw [XK e,XK Ws];rfl
    ·rw [XJ e]
     have:=b j Ws v
     rwa [Xg] at this
   ·simp only [Xg,uN]
    rw [XJ Ws]
    have:=p j Ws
    rwa [Xg] at this
  unfold wpOp
  rw [F]
  simp only
  unfold wpList at h
  split at h
  ·rename_i z
   rw [XK z]
   rcases h with h | h
   ·exact .inl (Oper.wp_mono l h)
   ·exact .inr h
  ·rename_i z
   rw [XJ z]
   exact l _ _ h
theorem any_late {n:Nat}{Q:Exit→Act→World→Prop}{a:Act}{w:World}{os:List Oper}(R:World→World→Prop)(W:World)(L:Nat)(fs:List (jd R)){F G:(Nat→Value)→Act}(hn:a.tmps.size=n)(hB:ordB os.toArray L n=true)(hR:R W w.drew)(al:∀ x y z,R x y→R y z→R x z)(M:∀ x y,R x y→x.heap.size≤y.heap.size)(hF:∀ x,Zd (os.map (·.dst)) 0 x a=F x)(hG:∀ x,(∀ k,L≤k→k<os.length→x k=Zw a ((os.map (·.dst)).getD k none))→F x=G x)(I:Qh P os.toArray R fs W G (os.take L) 0)(U:∀ x w',R W w'→∀ b:Nat→Nat×Nat,(∀ j,j<L→(js fs j).p (x j) (b j) w')→Qy W w' L b→wpList P os.toArray Q (os.drop L) (F x) w'):wpAny P .any os.toArray Q os.toArray.size (Array.replicate os.toArray.size false) a { w with drawn:=w.drawn+1 }:=by
 subst hn
 have aq:=hB
 unfold ordB at hB
 simp only [XR,beq_iff_eq] at hB
 obtain⟨⟨⟨⟨⟨h1,h2⟩,h3⟩,h4⟩,h5⟩,h6⟩:=hB
 have h1:L<os.length:=by simpa using h1
 have au:os.toArray.size=os.length:=Wz
 have ae:∀ k,k<os.toArray.size→YU os.toArray k=true:=fun k r=>Xk.1 h2 k (ur.2 r)
 have ag:∀ k,k<os.toArray.size→L<k→jj os.toArray k (k-1)=true:=fun k r hl=>by
  have:=Xk.1 h6 k (ur.2 r)
  simp only [uW,Xa] at this
  exact this.resolve_left Ws
 have hz:∀ d,some d∈os.map (·.dst)→d<a.tmps.size:=fun d hd=>by
  have:=Xk.1 h5 _ hd
  simpa using this
 have N:os.toArray.toList.map (·.dst)=os.map (·.dst):=rfl
 have ab:∀ (q:Nat) (f:Array Bool) (b:Act) (v:World) (Y:Nat→Nat×Nat),vF f≤q→Mid os.toArray fs W L a f b v Y→wpAny P .any os.toArray Q q f b v:=by
  intro q
  induction q with
  | zero=>
   intro f b v Y hu l
   have:=unlisted_pos (i:=L) (by rw [l.size];omega) (l.last L (XA))
   omega
  | succ q ih=>
   intro f b v Y hu l
   refine⟨fun h0=>absurd h0 (zbb rfl l.size ae L Ws (l.last L (XA))),fun i hi=>?_⟩
   obtain⟨af,o,X,A⟩:=Kt hi
   have hb:b=F (fun j=>Zw b ((os.map (·.dst)).getD j none)):=by
    rw [← hF]
    exact act_puts h4 hz l.tmps l.defers l.rest
   have ak:vF (f.setIfInBounds i true)≤q:=XC (unlisted_set af)
   have ah:=(jk af).2
   by_cases ao:i=L
   ·subst ao
    have s:∀ j,j<i→f.getD j false=true:=fun j m=>all_of_last l.closed (fun j m=>jQ X A m) h3 _ j rfl m
    have h9:=U _ v l.rel Y (fun j m=>l.facts j (s j m)) ⟨fun j m=>l.within j (s j m),fun i j hi m=>l.apart i j (s i hi) (s j m)⟩
    rw [← hb] at h9
    have am:(os.drop i).length≤q+1:=by
     refine X7 ?_ hu
     have K:f.toList.drop i=List.replicate (os.length-i) false:=by
      apply uZ
      ·rw [XW,ue,l.size,List.length_replicate];simp
      ·intro j aj ar
       rw [List.getElem_drop,List.getElem_replicate]
       have E:=l.last (i+j) Ws
       have D:i+j<f.size:=by rw [XW,ue] at aj;omega
       simpa [Xg,D] using E
     unfold vF
     conv=>rhs;rw [← uG i f.toList,List.countP_append,K]
     have hc:List.countP (fun b=>!b) (List.replicate (os.length-i) false)=os.length-i:=by rw [List.countP_replicate];rfl
     rw [XW,hc]
     omega
    exact (tail_any ae ag _ i (q+1) f b v (XA) Wk l.size (fun j m _=>s j m) l.last am h9).2 i hi
   ·have ad:i<L:=by
     rcases Xr i L with E | E
     ·exact E
     ·have D:=jQ X A (ag i (by rw [← l.size];exact ah) Ws)
      rw [l.last (i-1) Ws] at D
      cases D
    have aa:os[i]? = some o:=by simpa using X
    have ap:(os.take L)[i]? = some o:=by rw [X9,XK ad];exact aa
    have h9:=stepsF_at (os.take L) 0 i o I ap (fun j=>Zw b ((os.map (·.dst)).getD j none)) v l.rel Y (fun j m=>l.facts j (jQ X A (by rw [← Xd i];exact m)))
    have an:=hb.trans (hG _ (fun k r _=>by
     show Zw b ((os.map (·.dst)).getD k none)=_
     cases hd:(os.map (·.dst)).getD k none with
     | none=>rfl
     | some d=>exact l.late k d r (by
       rw [N]
       rw [Xq] at hd
       cases E:(os.map (·.dst))[k]? with
       | none=>rw [E] at hd;cases hd
       | some z=>rw [E] at hd;exact congrArg some hd)))
    rw [← an,Xd] at h9
    have B:(os.map (·.dst))[i]? = some o.dst:=by rw [Xs,aa];rfl
    refine wpOp_of_list X h9 (fun a' w' ⟨_,u,e1,e2,e3⟩=>ih _ _ _ (fun j=>if i=j then (v.heap.size,w'.heap.size) else Y j) ak ?_) (fun _ _ _ h=>nomatch h.1) (fun⟨_,_,h⟩=>nomatch h.1)
    have C:∀ j,(f.setIfInBounds i true).getD j false=if i=j then true else f.getD j false:=fun j=>by
     simp only [Xg,uN]
     by_cases e:i=j
     ·rw [XK e,XK e,XK ah];rfl
     ·rw [XJ e,XJ e]
    have J:∀ d,o.dst=some d→d<b.tmps.size:=fun d hd=>by rw [l.tmps];exact hz d (by rw [← hd];exact uj B)
    subst e1
    refine⟨by rw [Array.size_setIfInBounds];exact l.size,fun k r=>by rw [C,XJ Ws];exact l.last k r,?_,?_,?_,?_,?_,al _ _ _ l.rel e3,?_,?_,?_⟩
    ·intro k j r hw
     rw [C] at r ⊢
     split
     ·rfl
     split at r
     ·rename_i e;subst e;exact jQ X A hw
     ·exact l.closed k j r hw
    ·rw [← l.tmps];cases o.dst <;> simp [Act.put]
    ·rw [← l.defers];cases o.dst <;> simp [Act.put]
    ·intro t ht
     rw [← l.rest t ht]
     cases hd:o.dst with
     | none=>rfl
     | some d=>rw [ZH b d t _ (J d hd),XJ (fun e=>ht (by rw [e,← hd];exact uj B))]
    ·intro k d r Z
     rw [← l.late k d r Z]
     cases hd:o.dst with
     | none=>rfl
     | some d'=>rw [ZH b d' d _ (J d' hd),XJ (fun e=>by
       subst e
       have:=bQ h4 i k d (by rw [B,hd]) Z
       omega)]
    ·intro j m
     rw [N]
     by_cases e:i=j
     ·subst e
      rw [Xq,B,XK rfl]
      show (js fs i).p (Zw (b.put o.dst u) o.dst) _ w'
      cases hd:o.dst with
      | none=>rw [hd] at e2;exact e2
      | some d=>
       rw [hd] at e2
       show (js fs i).p ((b.put (some d) u).tmps.getD d undef) _ w'
       rw [ZH b d d _ (J d hd),XK rfl]
       exact e2
     ·rw [C,XJ e] at m
      have D:=(js fs j).st _ _ _ _ (l.facts j m) e3
      rw [XJ e]
      rw [N] at D
      cases hd:o.dst with
      | none=>exact D
      | some d=>
       have H:(os.map (·.dst)).getD j none≠some d:=fun O=>by
        have:(os.map (·.dst))[j]? = some (some d):=by
         rw [Xq] at O
         cases E:(os.map (·.dst))[j]? with
         | none=>rw [E] at O;cases O
         | some z=>rw [E] at O;exact congrArg some O
        exact e (bQ h4 i j d (by rw [B,hd]) this)
       cases h6:(os.map (·.dst)).getD j none with
       | none=>rw [h6] at D;exact D
       | some c=>
        rw [h6] at D
        show (js fs j).p ((b.put (some d) u).tmps.getD c undef) _ w'
        rw [ZH b d c _ (J d hd),XJ (fun O=>H (by rw [h6,O]))]
        exact D
    ·intro j m
     by_cases e:i=j
     ·rw [XK e]
      exact⟨M _ _ l.rel,M _ _ e3,XA⟩
     ·rw [XJ e]
      rw [C,XJ e] at m
      have:=l.within j m
      have:=M _ _ e3
      omega
    ·intro j k m r H
     rw [C] at m r
     by_cases e:i=j
     ·rw [XK e]
      have ai:i≠k:=fun h=>H (e.symm.trans h)
      rw [XJ ai] at r ⊢
      have:=l.within k r
      exact .inr this.2.2
     ·rw [XJ e] at m ⊢
      by_cases e':i=k
      ·rw [XK e']
       have:=l.within j m
       exact .inl this.2.2
      ·rw [XJ e'] at r ⊢
       exact l.apart j k m r H
 refine ab os.toArray.size _ a _ (fun _=>(0,0)) ?_ ?_
 ·unfold vF
  exact X7 List.countP_le_length Wz
 ·refine⟨Wz,?_,?_,rfl,rfl,fun _ _=>rfl,fun _ _ _ _=>rfl,hR,?_,?_,?_⟩
  ·intro k _
   simp only [Xg,uw]
   split <;> rfl
  ·intro k j r
   exfalso
   simp only [Xg,uw] at r
   split at r <;> simp at r
  ·intro j m
   exfalso
   simp only [Xg,uw] at m
   split at m <;> simp at m
  ·intro j m
   exfalso
   simp only [Xg,uw] at m
   split at m <;> simp at m
  ·intro j k m
   exfalso
   simp only [Xg,uw] at m
   split at m <;> simp at m
theorem Qa {id n:Nat}{Q:Exit→Act→World→Prop}{a:Act}{w:World}{os:List Oper}(R:World→World→Prop)(W:World)(L:Nat)(fs:List (jd R)){F G:(Nat→Value)→Act}(hm:P.follows .mixedOrders=true)(q:a.tmps.size=n)(i:ordB os.toArray L n=true)(r:R W w.drew)(f:∀ x y z,R x y→R y z→R x z)(h:∀ x y,R x y→x.heap.size≤y.heap.size)(l:∀ x,Zd (os.map (·.dst)) 0 x a=F x)(m:∀ x,(∀ k,L≤k→k<os.length→x k=Zw a ((os.map (·.dst)).getD k none))→F x=G x)(d:Qh P os.toArray R fs W G (os.take L) 0)(e:∀ x w',R W w'→∀ b:Nat→Nat×Nat,(∀ j,j<L→(js fs j).p (x j) (b j) w')→Qy W w' L b→wpList P os.toArray Q (os.drop L) (F x) w'):(Code.region id os.toArray true).wp P Q a w:=
 wp_region_any hm (any_late R W L fs q i r f h l m d e)
theorem zaS {id n:Nat}{Q:Exit→Act→World→Prop}{a:Act}{w:World}{os:List Oper}(R:World→World→Prop)(W:World)(L:Nat)(fs:List (jd R)){F:(Nat→Value)→Act}(hm:P.follows .mixedOrders=true)(l:a.tmps.size=n)(i:ordB os.toArray L n=true)(m:R W w.drew)(f:∀ x y z,R x y→R y z→R x z)(h:∀ x y,R x y→x.heap.size≤y.heap.size)(k:∀ x,Zd (os.map (·.dst)) 0 x a=F x)(d:Qh P os.toArray R fs W F (os.take L) 0)(e:∀ x w',R W w'→∀ b:Nat→Nat×Nat,(∀ j,j<L→(js fs j).p (x j) (b j) w')→Qy W w' L b→wpList P os.toArray Q (os.drop L) (F x) w'):(Code.region id os.toArray true).wp P Q a w:=
 Qa R W L fs hm l i m f h k (fun _ _=>rfl) d e
theorem Kf {id n:Nat}{Q:Exit→Act→World→Prop}{a:Act}{w:World}{os:List Oper}(L:Nat)(fs:List (jd (zb []))){F G:(Nat→Value)→Act}(hm:P.follows .mixedOrders=true)(m:a.tmps.size=n)(f:ordB os.toArray L n=true)(i:∀ x,Zd (os.map (·.dst)) 0 x a=F x)(l:∀ x,(∀ k,L≤k→k<os.length→x k=Zw a ((os.map (·.dst)).getD k none))→F x=G x)(d:Qh P os.toArray (zb []) fs w G (os.take L) 0)(e:∀ x w',zb [] w w'→∀ b:Nat→Nat×Nat,(∀ j,j<L→(js fs j).p (x j) (b j) w')→Qy w w' L b→wpList P os.toArray Q (os.drop L) (F x) w'):(Code.region id os.toArray true).wp P Q a w:=
 Qa (zb []) w L fs hm m f (zb.refl [] w).drew (fun _ _ _ h k=>h.then k) (fun _ _ h=>h.size) i l d e
theorem yG {id n:Nat}{Q:Exit→Act→World→Prop}{a:Act}{w:World}{os:List Oper}(L:Nat)(fs:List (jd (zb []))){F:(Nat→Value)→Act}(hm:P.follows .mixedOrders=true)(l:a.tmps.size=n)(f:ordB os.toArray L n=true)(i:∀ x,Zd (os.map (·.dst)) 0 x a=F x)(d:Qh P os.toArray (zb []) fs w F (os.take L) 0)(e:∀ x w',zb [] w w'→∀ b:Nat→Nat×Nat,(∀ j,j<L→(js fs j).p (x j) (b j) w')→Qy w w' L b→wpList P os.toArray Q (os.drop L) (F x) w'):(Code.region id os.toArray true).wp P Q a w:=
 zaS (zb []) w L fs hm l f (zb.refl [] w).drew (fun _ _ _ h k=>h.then k) (fun _ _ h=>h.size) i d e
end
theorem qB {p:Prop}(h:p:=by (simp only [List.map,Zd,Act.put,VK,List.set_cons_zero,List.set_cons_succ];rfl)):p:=h
abbrev fI {R:World→World→Prop}(v:Value):jd R:=jd.is v
abbrev fT {R:World→World→Prop}:jd R:=jd.is (.bool true)
abbrev fF {R:World→World→Prop}:jd R:=jd.is (.bool false)
abbrev fU {R:World→World→Prop}:jd R:=jd.is undef
def je (cs:List Value)(n m:Nat):jd (zb []):=⟨fun v b w=>∃ g,v = .slice (some ⟨g,0,none⟩) n n∧b.1≤g∧g<b.2∧Slc w m (.slice (some ⟨g,0,none⟩) n n) n cs,fun _ _ _ _ ⟨g,h1,h3,h4,h2⟩ k=>⟨g,h1,h3,h4,h2.k0 k⟩⟩
def boxFact (t:Nat):jd (zb []):=⟨fun v b w=>∃ g,b.1≤g∧g<b.2∧v = .pointer (some ⟨g,0,none⟩)∧w.heap[g]? = some (.cells #[.int .i64 0,.int .i64 0,.string ⟨#[]⟩,.slice none 0 0,.slice none 0 0] t (0,0)),fun _ _ _ _ ⟨g,h0,h3,h1,h2⟩ k=>⟨g,h0,h3,h1,k.heap h2 Wz⟩⟩
section
variable {P : Program} {ops : Array Oper} {Q : Exit → Act → World → Prop} {l n : Nat}
theorem rows_wide {m:Nat}{row:String}{args:Array Value}{w:World}{R:Value→World→Prop}(h:Rows P row args w R):RowsIn (Fence.wide.inRound l) m P row args w R:=
 fun c cs _=>let ⟨v,w',r,s⟩:=h c cs;⟨v,w',r,stepsIn_wide.2 s⟩
theorem op_round {o:Oper}{a:Act}{w:World}{K:Act→World→Prop}(hd:∀ c,o.op≠.defer c)(h:o.wp P a w K Q):o.wpIn (Fence.wide.inRound l) n P a w K Q:=by
 refine⟨fun _ _=>trivial,?_⟩
 rw [Oper.semAt_eq _ _ _ hd]
 unfold Oper.wp at h
 generalize (execOp a.eval o).run P w=r at h
 cases r with
 | ok x w'=>
  cases x <;> first
   | exact h
   | exact⟨fun b=>by simp [Fence.wide,Fence.inRound] at b,CallsIn.inRound l (callsIn_wide.2 (Calls.mono h (fun e f d=>by cases e <;> exact d)))⟩
   | exact⟨fun b=>by simp [Fence.wide,Fence.inRound] at b,rows_wide h⟩
   | exact h.elim
 | halt x w'=>cases x <;> first | exact h | exact h.elim
theorem opAt_round (hd:∀ o,o∈ops→∀ c,o.op≠.defer c)(j:¬ LetsOut Q){i:Nat}{K f:Act→World→Prop}(b:∀ a w,K a w→f a w){a:Act}{w:World}(h:wpOp P ops Q i K a w):wpOpIn (Fence.wide.inRound l) n P ops Q i f a w:=by
 unfold wpOp at h
 unfold wpOpIn
 cases d:ops[i]? with
 | none=>rw [d] at h;exact b _ _ h
 | some o=>
  rw [d] at h
  simp only at h ⊢
  by_cases e:Region.wanted o (yielded ops a.tmps)=true
  ·rw [XK e] at h ⊢
   rcases h with h | h
   ·exact op_round (hd o (Array.mem_of_getElem? d)) (Oper.wp_mono b h)
   ·exact absurd h.2 j
  ·rw [XJ e] at h ⊢
   exact⟨fun _ _=>trivial,b _ _ h⟩
theorem any_round (hd:∀ o,o∈ops→∀ c,o.op≠.defer c)(hQ:¬ LetsOut Q){md:Region.Mode}:∀ (fuel:Nat) (listed:Array Bool) (a:Act) (w:World),wpAny P md ops Q fuel listed a w→wpAnyIn (Fence.wide.inRound l) n P md ops Q fuel listed a w
 | 0,_,_,_,h=>h
 | fuel+1,_,_,_,h=>⟨h.1,fun i hi=>opAt_round hd hQ (fun a w=>any_round hd hQ fuel _ a w) (h.2 i hi)⟩
def noDefer (os:List Oper):Bool:=os.all fun o=>match o.op with | .defer _=>false | _=>true
theorem noDefer_of {os:List Oper}(h:noDefer os=true):∀ o,o∈os→∀ c,o.op≠.defer c:=fun o b c e=>by
 have a:=Xk.1 h o b
 rw [e] at a
 cases a
theorem Y7 {id k:Nat}{a:Act}{w:World}{os:List Oper}(L:Nat)(fs:List (jd (zb []))){F:(Nat→Value)→Act}(hm:P.follows .mixedOrders=true)(f:noDefer os=true)(m:¬ LetsOut Q)(r:a.tmps.size=k)(i:ordB os.toArray L k=true)(q:∀ x,Zd (os.map (·.dst)) 0 x a=F x)(d:Qh P os.toArray (zb []) fs w F (os.take L) 0)(e:∀ x w',zb [] w w'→∀ b:Nat→Nat×Nat,(∀ j,j<L→(js fs j).p (x j) (b j) w')→Qy w w' L b→wpList P os.toArray Q (os.drop L) (F x) w'):(Code.region id os.toArray true).wpIn (Fence.wide.inRound l) n P Q a w:=
 wpIn_region_any hm (any_round (fun o s=>noDefer_of f o (by simpa using s)) m _ _ _ _ (any_late (zb []) w L fs r i (zb.refl [] w).drew (fun _ _ _ h k=>h.then k) (fun _ _ h=>h.size) q (fun _ _=>rfl) d e))
end
open Go.Maps (Keyed)
def jg (P:Program)(w:World)(k b c:Nat)(M:Lit→Option Value):Prop:=
 ∃ D,w.ownsMap P k heldE b c D∧Maps.size D=c∧∀ kl,M kl=look D kl∧(Maps.has D kl=(M kl).isSome)
section
variable {P : Program} {w : World} {k b c : Nat} {M : Lit → Option Value}
theorem jg.at (h:jg P w k b c M):bl P w k b c M:=by
 obtain⟨D,a,-,h3⟩:=h;exact⟨D,a,h3⟩
theorem jg.lt (h:jg P w k b c M):b<w.heap.size:=h.at.lt
theorem jg.kind (h:jg P w k b c M):kind w b=1:=h.at.kind
theorem jg.kept {X:List Nat}{w':World}(h:jg P w k b c M)(i:zb X w w')(e:b ∉ X):jg P w' k b c M:=by
 obtain⟨D,⟨f,a,d,h2⟩,j,h3⟩:=h;exact⟨D,⟨f,a,i.heap d e,h2⟩,j,h3⟩
theorem jg.k0 {w':World}(h:jg P w k b c M)(a:zb [] w w'):jg P w' k b c M:=h.kept a (Xi)
theorem mapIs_made (P:Program)(w:World)(k:Nat):jg P (w.alloc (.map #[] 0)) k w.heap.size 0 (fun _=>none):=
 ⟨.map [],World.ownsMap_made _ _ _ _,rfl,fun a=>⟨by simp [look,DataW.atKey],by simp [Maps.has]⟩⟩
theorem turned_kept {w':World}(h:w.mapTurned w' b):zb [b] w w'∧w'.heap.size=w.heap.size:=by
 refine⟨Wd.grown h.grown (fun k e=>by simp at e;simp [e]),?_⟩;obtain⟨_,_,_,_,_,rfl⟩:=h;simp [Go.ChangeMaps.setBlock]
theorem jg.update {t e:TypeId}(h:jg P w k b c M)(K:Keyed P k)(u:P.underlying t=some (.map k e))(G:c<maxLen){key:Value}{i:Lit}(f:keyOf P k key=some i)(val:Value) : ∃ w',(Instr.mapUpdate t (.map (some b)) key val).run P w = .ok () w'∧jg P w' k b (if (M i).isSome then c else c+1) (fun z=>if z.sameKey i then some val else M z)∧zb [b] w w'∧w'.heap.size=w.heap.size:=by
 obtain⟨D,a,E,h3⟩:=h;obtain⟨w',m,v,B⟩:=a.store K u G f (val:=val) (R:=heldE) (d:=.held val) (ps:=[]) rfl;have j:=Maps.size_put (k:=i) (a.tidy K) (.held val);rw [(h3 i).2,E] at j;obtain⟨A,s⟩:=turned_kept B;refine⟨w',m,⟨_,?_,j,?_⟩,A,s⟩;·obtain⟨C,l,y,F,x,r⟩:=v;refine⟨C,l,y,F,?_,r⟩;rw [r] at j;rw [← j];simp [Maps.size,Go.length_sorted]
 ·intro z;show (if z.sameKey i then some val else M z)=look (D.put i (.held val)) z∧Maps.has (D.put i (.held val)) z=(if z.sameKey i then some val else M z).isSome;by_cases p:z.sameKey i=true;·have q:=WideAt.sameKey_eq p;subst q;rw [XK p];refine⟨?_,Maps.has_put_same a.isMap (Zt K f) _⟩;rw [look,Maps.atKey_put_same a.isMap (Zt K f)]
  ·have n:z≠i:=by intro e;subst e;exact p (WideAt.sameKey_self (Zt K f))
   rw [XJ p];exact⟨by rw [look,Maps.atKey_put_other n];exact (h3 z).1,by rw [Maps.has_put_other n];exact (h3 z).2⟩
end
end Go.Proofs.YtjccecajigmfkaaGreatDoor

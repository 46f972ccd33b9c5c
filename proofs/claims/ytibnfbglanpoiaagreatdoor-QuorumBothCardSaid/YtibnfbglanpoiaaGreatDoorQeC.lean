/- Parts of one proof, merged: XLast XQ XVR XG XVF XJA XLib XOr XCO XMap. -/
import Derived.OrdersHeld
import Derived.Deep.DrawnRows
import Derived.Deep.RegionHeld3
import Derived.BigQuiet
import Derived.Test.YtibnfbglanpoiaaGreatDoorQeB
import Derived.Laws.BitsLemmas
import Derived.Outline
import Derived.WalkSpells
import Derived.Lib.AppendZeros
import Derived.RangeFuncNested
import Derived.RangeFuncBound
import Derived.RangeFuncCalls
import Derived.OrdersIn
import Derived.TacticsIn
import Derived.OwnWalkIn
import Derived.Maps.OwnSet
import Derived.StringKeys
set_option linter.all false
set_option maxHeartbeats 12800000
set_option maxRecDepth 10000
namespace Go.Proofs.YtibnfbglanpoiaaGreatDoor
open Go.Proofs.Tryz
section
variable {P : Program} {ops : Array Oper} {Q : Exit → Act → World → Prop} {md : Region.Mode} {S : World → Prop} {L : Nat}
def zX (P:Program) (md:Region.Mode) (ops:Array Oper) (Q:Exit→Act→World→Prop) (S:World→Prop) (L:Nat):Nat→Array Bool→Act→World→Prop
 | 0,listed,a,w=>Region.ready md ops listed=[]∧Q .normal a w
 | fuel+1,listed,a,w=>
  (Region.ready md ops listed=[]→Q .normal a w) ∧
  ∀ i∈Region.ready md ops listed,wpOp P ops Q i (fun a' w'=>(i=L∨S w')∧zX P md ops Q S L fuel (listed.setIfInBounds i true) a' w') a w
theorem Z8:∀ (fuel:Nat) (listed:Array Bool) (a:Act) (w:World),zX P md ops Q S L fuel listed a w→wpAny P md ops Q fuel listed a w
 | 0,_,_,_,h=>h
 | fuel+1,_,_,_,h=>⟨h.1,fun i hi=>wpOp_mono (fun a' w' h'=>Z8 fuel _ a' w' h'.2) (h.2 i hi)⟩
def waitsFor (md:Region.Mode) (ops:Array Oper) (L i:Nat):Bool:=((ops[L]?).map (·.after.any fun e=>Region.binds md e&&e.on == i)).getD false
def late (md:Region.Mode) (ops:Array Oper) (L i:Nat):Bool:=waitsFor md ops L i || decide (ops.size≤L)
theorem wpAnyT_first {i:Nat}{oi:Oper}{v:Value}(hi:ops[i]? = some oi) (hsel:∀ (j:Nat) (o:Oper) cs b,ops[j]? = some o→o.op≠.select cs b)
  (hQ:∀ c a w,Q (.panic c) (a.put oi.dst v) w→Q (.panic c) a w) (hL:late md ops L i=true) :
  ∀ (fuel:Nat) (listed:Array Bool) (a:Act) (w:World),
   (∀ j oj,ops[j]? = some oj→j≠i→listed.getD j true=false→(∀ e∈oj.after,Region.binds md e=true→e.on≠i)→oi.apart ops oj=true) →
   i∈Region.ready md ops listed→YieldsIf P ops S oi v a→S w →
   zX P md ops Q S L fuel (listed.setIfInBounds i true) (a.put oi.dst v) w→zX P md ops Q S L (fuel+1) listed a w:=by
 intro fuel
 induction fuel with
 | zero=>
  intro listed a w _ hr hy hS H
  refine⟨fun h=>(by rw [h] at hr;cases hr),fun j hj=>?_⟩
  by_cases hji:j=i
  ·subst hji;exact hy.wpOp hi hS ⟨.inr hS,H⟩
  ·have:=ready_mono hj hji
   rw [H.1] at this
   cases this
 | succ fuel ih=>
  intro listed a w hfree hr hy hS H
  refine⟨fun h=>(by rw [h] at hr;cases hr),fun j hj=>?_⟩
  by_cases hji:j=i
  ·subst hji;exact hy.wpOp hi hS ⟨.inr hS,H⟩
  ·have h1:=H.2 j (ready_mono hj hji)
   obtain⟨hjun,oj,hoj,hall⟩:=mem_ready.1 hj
   have hnot:∀ e∈oj.after,Region.binds md e=true→e.on≠i:=fun e he hb heq=>by
    have h1:=hall e he hb
    have h0:=(mem_ready.1 hr).1
    rw [heq] at h1
    rcases Nat.lt_or_ge i listed.size with h' | h'
    ·simp [h'] at h0 h1;rw [h0] at h1;cases h1
    ·simp [Array.getElem?_eq_none h'] at h1
   have hjL:j≠L:=by
    intro e
    subst e
    unfold late at hL
    rw [Bool.or_eq_true] at hL
    rcases hL with hL | hL
    rotate_left
    ·have h1:ops.size≤j:=by simpa using hL
     rw [Array.getElem?_eq_none h1] at hoj
     cases hoj
    unfold waitsFor at hL
    rw [hoj] at hL
    simp only [Option.map_some,Option.getD_some,Array.any_eq_true'] at hL
    obtain⟨e,he,hb⟩:=hL
    simp only [Bool.and_eq_true,beq_iff_eq] at hb
    exact hnot e he hb.1 hb.2
   have h2:=wpOp_putIf hoj (hfree j oj hoj hji hjun hnot) (fun cs b=>hsel i oi cs b hi) (fun cs b=>hsel j oj cs b hoj) hQ hy h1
   have hfree':∀ k ok,ops[k]? = some ok→k≠i→(listed.setIfInBounds j true).getD k true=false →
     (∀ e∈ok.after,Region.binds md e=true→e.on≠i)→oi.apart ops ok=true:=fun k ok hk hki hun hno=>by
    refine hfree k ok hk hki ?_ hno
    by_cases hjk:j=k
    ·subst hjk;exact hjun
    ·rw [getD_set_ne true hjk] at hun;exact hun
   refine wpOp_mono (fun a' w' h3=>?_) h2
   have hS':S w':=by
    rcases h3.2.1 with g | g
    ·exact absurd g hjL
    ·exact g
   refine⟨.inr hS',ih (listed.setIfInBounds j true) a' w' hfree' (ready_mono hr (Ne.symm hji)) h3.1 hS' ?_⟩
   rw [Array.setIfInBounds_comm _ _ hji]
   exact h3.2.2
theorem wpAnyT_take {i:Nat}{oi:Oper}{v:Value}{fuel:Nat}{listed:Array Bool}{a:Act}{w:World}(hi:ops[i]? = some oi)
  (hs:Region.noSelect ops=true) (hf:Region.free md ops listed i=true) (hr:(Region.ready md ops listed).contains i=true) (hL:late md ops L i=true)
  (hQ:∀ c a w,Q (.panic c) (a.put oi.dst v) w→Q (.panic c) a w) (hy:YieldsIf P ops S oi v a) (hS:S w)
  (h:zX P md ops Q S L fuel (listed.setIfInBounds i true) (a.put oi.dst v) w):zX P md ops Q S L (fuel+1) listed a w:=
 wpAnyT_first hi (Region.noSelect_spec hs) hQ hL fuel listed a w (Region.free_spec hi hf) (by simpa using hr) hy hS h
theorem wpAnyT_one {i:Nat}{oi:Oper}{fuel:Nat}{listed:Array Bool}{a:Act}{w:World}(hi:ops[i]? = some oi) (hr:Region.ready md ops listed=[i]) (hw:Region.wanted oi (yielded ops a.tmps)=true)
  (h:∀ K:Act→World→Prop,(∀ a' w',(i=L∨S w')→zX P md ops Q S L fuel (listed.setIfInBounds i true) a' w'→K a' w')→oi.wp P a w K Q):zX P md ops Q S L (fuel+1) listed a w:=by
 refine⟨fun h0=>(by rw [hr] at h0;cases h0),?_⟩
 rw [hr]
 intro j hj
 have:j=i:=by simpa using hj
 subst this
 unfold wpOp
 rw [hi]
 simp only
 rw [if_pos hw]
 exact .inl (h _ fun a' w' h1 h2=>⟨h1,h2⟩)
theorem wpAnyT_done {listed:Array Bool}{a:Act}{w:World}(hr:Region.ready md ops listed=[]) (h:Q .normal a w) :
  ∀ fuel,zX P md ops Q S L fuel listed a w
 | 0=>⟨hr,h⟩
 | _+1=>⟨fun _=>h,by rw [hr];simp⟩
theorem J2 {id:Nat}{a:Act}{w:World}(S:World→Prop) (L:Nat) (hm:P.follows .mixedOrders=true)
  (h:zX P .any ops Q S L ops.size (Array.replicate ops.size false) a { w with drawn:=w.drawn+1 }):(Code.region id ops true).wp P Q a w:=
 wp_region_any hm (Z8 _ _ _ _ h)
theorem zv {id n:Nat}{a:Act}{w:World}(S:World→Prop) (L:Nat) (hn:ops.size=n) (hm:P.follows .mixedOrders=true)
  (h:zX P .any ops Q S L n (Array.replicate n false) a { w with drawn:=w.drawn+1 }):(Code.region id ops true).wp P Q a w:=by
 subst hn
 exact J2 S L hm h
theorem zL {fuel:Nat}{listed:Array Bool}{a:Act}{w:World}
  (h:∀ O R,O=ops→R=Q→zX P md O R S L fuel listed a w):zX P md ops Q S L fuel listed a w:=h _ _ rfl rfl
theorem qt {O:Array Oper}{i dst:Nat}{oi:Oper}{v:Value}{fuel:Nat}{listed:Array Bool}{a:Act}{w:World}(hO:O=ops) (hi:ops[i]? = some oi) (hd:oi.dst=some dst)
  (hs:Region.noSelect ops=true) (hf:Region.free md ops listed i=true) (hr:(Region.ready md ops listed).contains i=true) (hL:late md ops L i=true)
  (hQ:∀ c a (d:Nat) v w,Q (.panic c) (a.put (some d) v) w→Q (.panic c) a w) (hy:YieldsIf P ops S oi v a) (hS:S w)
  (h:zX P md O Q S L fuel (listed.setIfInBounds i true) (a.put (some dst) v) w):zX P md O Q S L (fuel+1) listed a w:=by
 subst hO
 exact wpAnyT_take hi hs hf hr hL (fun c a w h=>hQ c a dst v w (by rw [hd] at h;exact h)) hy hS (by rw [hd];exact h)
theorem wpAnyT_one' {O:Array Oper}{i:Nat}{oi:Oper}{fuel:Nat}{listed:Array Bool}{a:Act}{w:World}(hO:O=ops) (hi:ops[i]? = some oi) (hr:Region.ready md ops listed=[i]) (hw:Region.wanted oi (yielded ops a.tmps)=true)
  (h:∀ K:Act→World→Prop,(∀ a' w',(i=L∨S w')→zX P md O Q S L fuel (listed.setIfInBounds i true) a' w'→K a' w')→oi.wp P a w K Q):zX P md O Q S L (fuel+1) listed a w:=by
 subst hO
 exact wpAnyT_one hi hr hw h
theorem qT (i:Nat) (v:Value) {O:Array Oper}{dst:Nat}{oi:Oper}{fuel:Nat}{listed:Array Bool}{a:Act}{w:World}(hO:O=ops) (hi:ops[i]? = some oi) (hd:oi.dst=some dst)
  (hb:(Region.noSelect ops&&(Region.free md ops listed i&&((Region.ready md ops listed).contains i&&(late md ops L i&&Region.wanted oi (yielded ops a.tmps)))))=true)
  (hQ:∀ c a (d:Nat) v w,Q (.panic c) (a.put (some d) v) w→Q (.panic c) a w) (hy:∀ w,S w→(execOp a.eval oi).run P w = .ok (.value v) w) (hS:S w)
  (h:zX P md O Q S L fuel (listed.setIfInBounds i true) (a.put (some dst) v) w):zX P md O Q S L (fuel+1) listed a w:=by
 simp only [Bool.and_eq_true] at hb
 exact qt hO hi hd hb.1 hb.2.1 hb.2.2.1 hb.2.2.2.1 hQ (.inl ⟨hb.2.2.2.2,hy⟩) hS h
theorem qO (i:Nat) {O:Array Oper}{oi:Oper}{fuel:Nat}{listed:Array Bool}{a:Act}{w:World}(hO:O=ops) (hi:ops[i]? = some oi) (hb:((Region.ready md ops listed == [i])&&Region.wanted oi (yielded ops a.tmps))=true)
  (h:∀ K:Act→World→Prop,(∀ a' w',(i=L∨S w')→zX P md O Q S L fuel (listed.setIfInBounds i true) a' w'→K a' w')→oi.wp P a w K Q):zX P md O Q S L (fuel+1) listed a w:=by
 rw [Bool.and_eq_true,beq_iff_eq] at hb
 exact wpAnyT_one' hO hi hb.1 hb.2 h
theorem zF {O:Array Oper}{listed:Array Bool}{a:Act}{w:World}(hO:O=ops) (hr:Region.ready md ops listed=[]) (h:Q .normal a w) (fuel:Nat):zX P md O Q S L fuel listed a w:=by
 subst hO
 exact wpAnyT_done hr h fuel
end
structure Ext (W:World) where
 w:World
 k:zb [] W w
instance extInh (W:World):Nonempty (Ext W):=⟨⟨W,Wd⟩⟩
theorem yn {P:Program}{id:Nat}{Q:Exit→Act→World→Prop}{a:Act}{w:World}{l:List Oper}(W:World) (hm:P.follows .mixedOrders=true) (hB:Region.lexB .any l.toArray=true) (hC:zb [] W w)
  (h:wpQuiet P l.toArray (fun w'=>∃ z:Ext W,w'=z.w) (fun a'=>∀ w',zb [] W w'→Q .normal a' w') l a):(Code.region id l.toArray true).wp P Q a w:=
 wp_region_quiet (C:=fun w'=>∃ z:Ext W,w'=z.w) hm hB ⟨⟨_,hC.drew⟩,rfl⟩ (by
  have e:(fun a':Act=>∀ w',(∃ z:Ext W,w'=z.w)→Q .normal a' w')=fun a'=>∀ w',zb [] W w'→Q .normal a' w':=funext fun a'=>propext ⟨fun h w' k=>h w' ⟨⟨w',k⟩,rfl⟩,fun h w' ⟨z,e⟩=>e ▸ h z.w z.k⟩
  rw [e]
  simpa using h)
theorem zz {W:World}{p:Addr}{v:Value}(h:W.cell? p=some v):∀ z:Ext W,z.w.cell? p=some v:=fun z=>z.k.cell h Wz
theorem Zm {P:Program}{f:FuncId}{args:Array Value}{W:World}{z:Ext W}{v:Value}(h:Calls P f args z.w fun e w'=>e = .returned v∧zb [] z.w w') :
  Calls P f args z.w fun e w''=>e = .returned v∧∃ z':Ext W,w''=z'.w:=
 h.mono fun _ _ ⟨h1,h2⟩=>⟨h1,⟨_,z.k.trans' h2⟩,rfl⟩
theorem ext_same {P:Program}{f:FuncId}{args:Array Value}{W:World}{z:Ext W}{v:Value}(h:Calls P f args z.w fun e w'=>e = .returned v∧z.w=w') :
  Calls P f args z.w fun e w''=>e = .returned v∧∃ z':Ext W,w''=z'.w:=
 h.mono fun _ _ ⟨h1,h2⟩=>⟨h1,z,h2.symm⟩
open Go.RowKit
def xg (p:ByteArray×List Value):List Value:=.string p.1::p.2
def yk (l:List (ByteArray×List Value)):List Value:=l.flatMap xg
def vS {α:Type}(R:List Value→α→Prop) (p:ByteArray×List Value) (q:ByteArray×α):Prop:=p.1=q.1∧R p.2 q.2
structure yY {α:Type}(R:List Value→α→Prop) (S:Nat→Prop) (w:World) (cs:List Value) (v:VS α) (vl vm:Value) (lcs:List (List Value)) (mcs:List (ByteArray×List Value)):Prop where
 cells:cs=[.int .i64 v.kind,.int .i64 v.num,.string v.s,vl,vm]
 slcl:Slc w 5 vl v.l.length lcs.flatten
 alll:zH R lcs v.l
 slcm:Slc w 6 vm v.m.length (yk mcs)
 allm:zH (vS R) mcs v.m
 inl:∀ g,zW vl=some g→S g
 inm:∀ g,zW vm=some g→S g
 wfk:(Lit.int .i64 v.kind).wf=true
 wfn:(Lit.int .i64 v.num).wf=true
def Rep:(n:Nat)→(Nat→Prop)→World→List Value→V n→Prop
 | 0,_,_,_,_=>False
 | n+1,S,w,cs,(v:VS (V n))=>∃ vl vm lcs mcs,yY (Rep n S w) S w cs v vl vm lcs mcs
theorem Rep.open_ {n:Nat}{S:Nat→Prop}{w:World}{cs:List Value}{v:VS (V n)}(h:Rep (n+1) S w cs v):∃ vl vm lcs mcs,yY (Rep n S w) S w cs v vl vm lcs mcs:=h
theorem Rep.five:∀ {n:Nat}{S:Nat→Prop}{w:World}{cs:List Value}{v:V n},Rep n S w cs v→∃ k m s vl vm,cs=[.int .i64 k,.int .i64 m,.string s,vl,vm]
 | 0,_,_,_,_,h=>h.elim
 | _+1,_,_,_,_,h=>by
  obtain⟨vl,vm,lcs,mcs,h⟩:=h
  exact⟨_,_,_,_,_,h.cells⟩
theorem Rep.len {n:Nat}{S:Nat→Prop}{w:World}{cs:List Value}{v:V n}(h:Rep n S w cs v):cs.length=5:=by
 obtain⟨k,m,s,vl,vm,rfl⟩:=h.five
 rfl
theorem Rep.kept:∀ {n:Nat}{S:Nat→Prop}{X:List Nat}{w w':World}{cs:List Value}{v:V n},Rep n S w cs v→zb X w w'→(∀ k,k∈X→¬ S k)→Rep n S w' cs v
 | 0,_,_,_,_,_,_,h,_,_=>h.elim
 | n+1,S,X,w,w',cs,v,h,k,hX=>by
  obtain⟨vl,vm,lcs,mcs,h⟩:=h
  exact⟨vl,vm,lcs,mcs,{
   cells:=h.cells
   slcl:=h.slcl.kept k (fun g hg hx=>hX g hx (h.inl g hg))
   alll:=h.alll.mono fun _ _ _ r=>Rep.kept r k hX
   slcm:=h.slcm.kept k (fun g hg hx=>hX g hx (h.inm g hg))
   allm:=h.allm.mono fun _ _ _ r=>⟨r.1,Rep.kept r.2 k hX⟩
   inl:=h.inl
   inm:=h.inm
   wfk:=h.wfk
   wfn:=h.wfn }⟩
theorem Rep.kept0 {n:Nat}{S:Nat→Prop}{w w':World}{cs:List Value}{v:V n}(h:Rep n S w cs v) (k:zb [] w w'):Rep n S w' cs v:=h.kept k Wz
theorem Rep.mono:∀ {n:Nat}{S T:Nat→Prop}{w:World}{cs:List Value}{v:V n},Rep n S w cs v→(∀ k,k<w.heap.size→S k→T k)→Rep n T w cs v
 | 0,_,_,_,_,_,h,_=>h.elim
 | n+1,S,T,w,cs,v,h,hT=>by
  obtain⟨vl,vm,lcs,mcs,h⟩:=h
  exact⟨vl,vm,lcs,mcs,{
   cells:=h.cells
   slcl:=h.slcl
   alll:=h.alll.mono fun _ _ _ r=>Rep.mono r hT
   slcm:=h.slcm
   allm:=h.allm.mono fun _ _ _ r=>⟨r.1,Rep.mono r.2 hT⟩
   inl:=fun g hg=>hT g (h.slcl.lt hg) (h.inl g hg)
   inm:=fun g hg=>hT g (h.slcm.lt hg) (h.inm g hg)
   wfk:=h.wfk
   wfn:=h.wfn }⟩
theorem zH.map_right {α β γ:Type}{R:α→β→Prop}{Q:α→γ→Prop}{f:β→γ}{xs:List α}{ys:List β}(h:zH R xs ys) (hf:∀ x y,R x y→Q x (f y)):zH Q xs (ys.map f):=by
 refine⟨by simp [h.1],?_⟩
 intro j x z hx hz
 rw [List.getElem?_map,Option.map_eq_some_iff] at hz
 obtain⟨y,hy,rfl⟩:=hz
 exact hf x y (h.2 j x y hx hy)
theorem Rep.up:∀ {n:Nat}{S:Nat→Prop}{w:World}{cs:List Value}{v:V n},Rep n S w cs v→Rep (n+1) S w cs (Go.Proofs.YtibnfbglanpoiaaGreatDoor.up n v)
 | 0,_,_,_,_,h=>h.elim
 | n+1,S,w,cs,v,h=>by
  obtain⟨vl,vm,lcs,mcs,h⟩:=h
  exact⟨vl,vm,lcs,mcs,{
   cells:=h.cells
   slcl:=by have:=h.slcl;show Slc w 5 vl (v.l.map _).length _;rw [List.length_map];exact this
   alll:=h.alll.map_right fun _ _ r=>Rep.up r
   slcm:=by have:=h.slcm;show Slc w 6 vm (v.m.map _).length _;rw [List.length_map];exact this
   allm:=h.allm.map_right fun _ _ r=>⟨r.1,Rep.up r.2⟩
   inl:=h.inl
   inm:=h.inm
   wfk:=h.wfk
   wfn:=h.wfn }⟩
theorem kM {size:Nat}:∀ (ls:List (List Value)) (j i:Nat),(∀ c,c∈ls→c.length=size)→(hj:j<ls.length)→i<size→ls.flatten[j*size+i]? = ls[j][i]?
 | [],j,i,_,hj,_=>by simp at hj
 | c::ls,0,i,h,_,hi=>by
  have hc:=h c (List.mem_cons_self ..)
  rw [List.flatten_cons,Nat.zero_mul,Nat.zero_add,List.getElem?_append_left Ws]
  rfl
 | c::ls,j+1,i,h,hj,hi=>by
  have hc:=h c (List.mem_cons_self ..)
  rw [List.flatten_cons,List.getElem?_append_right (by rw [hc,Nat.add_mul];omega),hc,show (j+1)*size+i-size=j*size+i by rw [Nat.add_mul];omega]
  exact kM ls j i (fun d hd=>h d (List.mem_cons_of_mem _ hd)) (by simpa using hj) hi
theorem bF {size:Nat}:∀ (ls:List (List Value)),(∀ c,c∈ls→c.length=size)→ls.flatten.length=ls.length*size
 | [],_=>by simp
 | c::ls,h=>by
  rw [List.flatten_cons,List.length_append,bF ls (fun d hd=>h d (List.mem_cons_of_mem _ hd)),h c (List.mem_cons_self ..),List.length_cons,Nat.add_mul]
  omega
theorem qN (l:List (ByteArray×List Value)):yk l=(l.map xg).flatten:=by simp [yk,List.flatMap]
section
variable {n : Nat} {S : Nat → Prop} {w : World} {cs : List Value} {v : VS (V n)} {vl vm : Value} {lcs : List (List Value)} {mcs : List (ByteArray × List Value)}
theorem yY.lens (h:yY (Rep n S w) S w cs v vl vm lcs mcs):lcs.length=v.l.length∧mcs.length=v.m.length:=⟨h.alll.1,h.allm.1⟩
theorem yY.five_l (h:yY (Rep n S w) S w cs v vl vm lcs mcs):∀ c,c∈lcs→c.length=5:=by
 intro c hc
 obtain⟨j,hj,rfl⟩:=List.getElem_of_mem hc
 exact (h.alll.2 j _ _ (List.getElem?_eq_getElem hj) (List.getElem?_eq_getElem (by rw [← h.alll.1];exact hj))).len
theorem yY.six_m (h:yY (Rep n S w) S w cs v vl vm lcs mcs):∀ c,c∈mcs.map xg→c.length=6:=by
 intro c hc
 obtain⟨p,hp,rfl⟩:=List.mem_map.1 hc
 obtain⟨j,hj,rfl⟩:=List.getElem_of_mem hp
 have:=(h.allm.2 j _ _ (List.getElem?_eq_getElem hj) (List.getElem?_eq_getElem (by rw [← h.allm.1];exact hj))).2.len
 simp [xg,this]
theorem yY.at_lx (h:yY (Rep n S w) S w cs v vl vm lcs mcs) {w':World}(k:zb [] w w') (j:Nat) (hj:j<v.l.length) :
  ∃ g o cap kd nm s a b,vl = .slice (some ⟨g,o,none⟩) v.l.length cap∧w'.cell? ⟨g,o+j*5,none⟩=some (.int .i64 kd)∧w'.cell? ⟨g,o+j*5+1,none⟩=some (.int .i64 nm)∧w'.cell? ⟨g,o+j*5+2,none⟩=some (.string s) ∧
   w'.cell? ⟨g,o+j*5+3,none⟩=some a∧w'.cell? ⟨g,o+j*5+4,none⟩=some b∧Rep n S w' [.int .i64 kd,.int .i64 nm,.string s,a,b] v.l[j]∧lcs[j]? = some [.int .i64 kd,.int .i64 nm,.string s,a,b]:=by
 have hj':j<lcs.length:=by rw [h.lens.1];exact hj
 have hr:=h.alll.2 j _ _ (List.getElem?_eq_getElem hj') (List.getElem?_eq_getElem hj)
 obtain⟨kd,nm,s,a,b,e⟩:=hr.five
 rcases (h.slcl.kept0 k).2 with ⟨_,h0⟩ | ⟨h0,_⟩ | ⟨g,o,cap,hsv,_,_,hrow⟩
 ·omega
 ·omega
 have hc:∀ i,i<5→lcs.flatten[j*5+i]? = lcs[j][i]?:=fun i hi=>kM lcs j i h.five_l hj' hi
 rw [e] at hc hr
 refine⟨g,o,cap,kd,nm,s,a,b,hsv,?_,?_,?_,?_,?_,hr.kept0 k,by rw [List.getElem?_eq_getElem hj',e]⟩
 ·exact hrow.cells (j*5+0) _ (hc 0 Wo)
 all_goals rw [Nat.add_assoc]
 ·exact hrow.cells (j*5+1) _ (hc 1 Wo)
 ·exact hrow.cells (j*5+2) _ (hc 2 Wo)
 ·exact hrow.cells (j*5+3) _ (hc 3 Wo)
 ·exact hrow.cells (j*5+4) _ (hc 4 Wo)
theorem yY.at_l (h:yY (Rep n S w) S w cs v vl vm lcs mcs) {w':World}(k:zb [] w w') (j:Nat) (hj:j<v.l.length) :
  ∃ g o cap kd nm s a b,vl = .slice (some ⟨g,o,none⟩) v.l.length cap∧w'.cell? ⟨g,o+j*5,none⟩=some (.int .i64 kd)∧w'.cell? ⟨g,o+j*5+1,none⟩=some (.int .i64 nm)∧w'.cell? ⟨g,o+j*5+2,none⟩=some (.string s) ∧
   w'.cell? ⟨g,o+j*5+3,none⟩=some a∧w'.cell? ⟨g,o+j*5+4,none⟩=some b∧Rep n S w' [.int .i64 kd,.int .i64 nm,.string s,a,b] v.l[j]:=by
 obtain⟨g,o,cap,kd,nm,s,a,b,h0,h1,h2,h3,h4,h5,h6,_⟩:=h.at_lx k j hj
 exact⟨g,o,cap,kd,nm,s,a,b,h0,h1,h2,h3,h4,h5,h6⟩
theorem yY.at_mx (h:yY (Rep n S w) S w cs v vl vm lcs mcs) {w':World}(k:zb [] w w') (j:Nat) (hj:j<v.m.length) :
  ∃ g o cap kd nm s a b,vm = .slice (some ⟨g,o,none⟩) v.m.length cap∧w'.cell? ⟨g,o+j*6,none⟩=some (.string v.m[j].1)∧w'.cell? ⟨g,o+j*6+1,none⟩=some (.int .i64 kd)∧w'.cell? ⟨g,o+j*6+2,none⟩=some (.int .i64 nm)∧w'.cell? ⟨g,o+j*6+3,none⟩=some (.string s) ∧
   w'.cell? ⟨g,o+j*6+4,none⟩=some a∧w'.cell? ⟨g,o+j*6+5,none⟩=some b∧Rep n S w' [.int .i64 kd,.int .i64 nm,.string s,a,b] v.m[j].2∧mcs[j]? = some (v.m[j].1,[.int .i64 kd,.int .i64 nm,.string s,a,b]):=by
 have hj':j<mcs.length:=by rw [h.lens.2];exact hj
 have hr:=h.allm.2 j _ _ (List.getElem?_eq_getElem hj') (List.getElem?_eq_getElem hj)
 obtain⟨kd,nm,s,a,b,e⟩:=hr.2.five
 rcases (h.slcm.kept0 k).2 with ⟨_,h0⟩ | ⟨h0,_⟩ | ⟨g,o,cap,hsv,_,_,hrow⟩
 ·omega
 ·omega
 have hc:∀ i,i<6→(yk mcs)[j*6+i]? = (xg mcs[j])[i]?:=fun i hi=>by
  rw [qN,kM (mcs.map xg) j i h.six_m (by simpa using hj') hi,List.getElem_map]
 have e2:xg mcs[j]=[.string v.m[j].1,.int .i64 kd,.int .i64 nm,.string s,a,b]:=by
  show Value.string mcs[j].1::mcs[j].2=_
  rw [e,hr.1]
 have hr2:=hr.2
 rw [e] at hr2
 rw [e2] at hc
 refine⟨g,o,cap,kd,nm,s,a,b,hsv,?_,?_,?_,?_,?_,?_,hr2.kept0 k,by rw [List.getElem?_eq_getElem hj'];exact congrArg some (Prod.ext hr.1 e)⟩
 ·exact hrow.cells (j*6+0) _ (hc 0 Wo)
 all_goals rw [Nat.add_assoc]
 ·exact hrow.cells (j*6+1) _ (hc 1 Wo)
 ·exact hrow.cells (j*6+2) _ (hc 2 Wo)
 ·exact hrow.cells (j*6+3) _ (hc 3 Wo)
 ·exact hrow.cells (j*6+4) _ (hc 4 Wo)
 ·exact hrow.cells (j*6+5) _ (hc 5 Wo)
theorem yY.at_m (h:yY (Rep n S w) S w cs v vl vm lcs mcs) {w':World}(k:zb [] w w') (j:Nat) (hj:j<v.m.length) :
  ∃ g o cap kd nm s a b,vm = .slice (some ⟨g,o,none⟩) v.m.length cap∧w'.cell? ⟨g,o+j*6,none⟩=some (.string v.m[j].1)∧w'.cell? ⟨g,o+j*6+1,none⟩=some (.int .i64 kd)∧w'.cell? ⟨g,o+j*6+2,none⟩=some (.int .i64 nm)∧w'.cell? ⟨g,o+j*6+3,none⟩=some (.string s) ∧
   w'.cell? ⟨g,o+j*6+4,none⟩=some a∧w'.cell? ⟨g,o+j*6+5,none⟩=some b∧Rep n S w' [.int .i64 kd,.int .i64 nm,.string s,a,b] v.m[j].2:=by
 obtain⟨g,o,cap,kd,nm,s,a,b,h0,h1,h2,h3,h4,h5,h6,h7,_⟩:=h.at_mx k j hj
 exact⟨g,o,cap,kd,nm,s,a,b,h0,h1,h2,h3,h4,h5,h6,h7⟩
theorem yY.forms (h:yY (Rep n S w) S w cs v vl vm lcs mcs):∃ a c b d,vl = .slice a v.l.length c∧vm = .slice b v.m.length d∧cs=[.int .i64 v.kind,.int .i64 v.num,.string v.s,.slice a v.l.length c,.slice b v.m.length d]:=by
 obtain⟨a,c,e1,-,-⟩:=h.slcl.form
 obtain⟨b,d,e2,-,-⟩:=h.slcm.form
 exact⟨a,c,b,d,e1,e2,by rw [h.cells,e1,e2]⟩
end
theorem Ql {n:Nat}(S:Nat→Prop) (w:World) (v:VS (V n)) (hl:v.l=[]) (hm:v.m=[]) (hk:(Lit.int .i64 v.kind).wf=true) (hn:(Lit.int .i64 v.num).wf=true):Rep (n+1) S w [.int .i64 v.kind,.int .i64 v.num,.string v.s,.slice none 0 0,.slice none 0 0] v:=
 ⟨.slice none 0 0,.slice none 0 0,[],[],{
  cells:=rfl
  slcl:=by rw [hl];exact yV _ _
  alll:=by rw [hl];exact zH.nil _
  slcm:=by rw [hm];exact yV _ _
  allm:=by rw [hm];exact zH.nil _
  inl:=by simp [zW]
  inm:=by simp [zW]
  wfk:=hk
  wfn:=hn }⟩
theorem kE {P:Program}{t e size bytes:Nat}{z:Value}(T:yU P t e size bytes z) {w:World}{base:Nat}{v:Value}{n:Nat}{xs:List Value}(hown:w.ownsRow base e size v n xs)
  {vx:Value}{m:Nat}{news:List Value}(hsrc:Slc w size vx m news) (h1:∀ u∈news,u.oneCell'=true) (h63:n+m≤maxLen) (hbytes:(n+m)*bytes≤140737488355328) (hbase:base≤w.heap.size)
  {o:Oper}{a:Act}{K:Act→World→Prop}{Q:Exit→Act→World→Prop}(s x:Operand)
  (ho:o.op = .call { callee:=.builtin .append,args:=#[s,x],argTypes:=#[t,t] }) (hs:a.eval s=v) (hx:a.eval x=vx)
  (h:∀ b c w',w'.ownsRow base e size (.slice b (n+m) c) (n+m) (xs++news)→zb v.ownBlock.toList w w'→((Value.slice b (n+m) c).ownBlock=v.ownBlock∨(Value.slice b (n+m) c).ownBlock=some w.heap.size)→K (a.put o.dst (.slice b (n+m) c)) w') :
  Oper.wp P o a w K Q:=by
 obtain⟨v',w',hr,h2,h3,h4,h5⟩:=ve T w o.type base v n xs hown vx m news hsrc h1 h63 hbytes hbase
 obtain⟨b,c,rfl,-,-⟩:=(Slc.of_row h2).form
 unfold Oper.wp execOp
 simp only [ho,resolve,invoke,builtin,Sem.run_bind,Sem.run_pure,Result.andThen_ok,List.map_toArray,List.map_cons,List.map_nil,hs,hx,hr]
 exact h b c w' h2 h3 h5
theorem bT {P:Program}{t e size bytes:Nat}{z:Value}(T:yU P t e size bytes z) {w:World}{base:Nat}{v:Value}(hown:w.ownsRow base e size v 0 [])
  {vx:Value}{m:Nat}{news:List Value}(hsrc:Slc w size vx m news) (h1:∀ u∈news,u.oneCell'=true) (h63:m≤maxLen) (hbytes:m*bytes≤140737488355328) (hbase:base≤w.heap.size)
  {o:Oper}{a:Act}{K:Act→World→Prop}{Q:Exit→Act→World→Prop}(s x:Operand)
  (ho:o.op = .call { callee:=.builtin .append,args:=#[s,x],argTypes:=#[t,t] }) (hs:a.eval s=v) (hx:a.eval x=vx)
  (h:∀ b c w',w'.ownsRow base e size (.slice b m c) m news→zb v.ownBlock.toList w w'→((Value.slice b m c).ownBlock=v.ownBlock∨(Value.slice b m c).ownBlock=some w.heap.size)→K (a.put o.dst (.slice b m c)) w') :
  Oper.wp P o a w K Q:=by
 refine kE T hown hsrc h1 Ws (by rw [Nat.zero_add];exact hbytes) hbase s x ho hs hx ?_
 rw [Nat.zero_add,List.nil_append]
 exact h
theorem setCell_heap {w:World}{b i:Nat}{c:Array Value}{t:Nat}{f:Nat×Nat}(h:w.heap[b]? = some (.cells c t f)) (v:Value):(w.setCell ⟨b,i,none⟩ v).heap[b]? = some (.cells (c.setIfInBounds i v) t f):=by
 simp [World.setCell,Array.getElem?_modify,h]
theorem yo (g:Nat):∀ (vs:List Value) (o:Nat) (w:World),zb [g] w (w.setCells g o vs)
 | [],o,w=>Wd
 | v::r,o,w=>((zb.refl [g] w).setCell (p:=⟨g,o,none⟩) (.inl Wz) v).trans' (yo g r (o+1) _)
theorem xM (g:Nat) {e:Nat}{f:Nat×Nat}:∀ (vs:List Value) (o:Nat) (w:World) (cur:Array Value),w.heap[g]? = some (.cells cur e f) →
  ∃ cur',(w.setCells g o vs).heap[g]? = some (.cells cur' e f)∧cur'.size=cur.size∧∀ j,j<cur.size→cur'[j]? = if o≤j∧j<o+vs.length then vs[j-o]? else cur[j]?
 | [],o,w,cur,h=>⟨cur,h,rfl,fun j hj=>by rw [if_neg Wz]⟩
 | v::r,o,w,cur,h=>by
  have h1:(w.setCell ⟨g,o,none⟩ v).heap[g]? = some (.cells (cur.setIfInBounds o v) e f):=by simp [World.setCell,Array.getElem?_modify,h]
  obtain⟨cur',h2,h3,h4⟩:=xM g r (o+1) _ _ h1
  refine⟨cur',h2,by rw [h3];simp,?_⟩
  intro j hj
  rw [h4 j (by simpa using hj)]
  simp only [List.length_cons]
  by_cases e1:j=o
  ·subst e1
   rw [if_neg Ws,if_pos Ws]
   simp [hj]
  ·by_cases e2:o+1≤j∧j<o+1+r.length
   ·rw [if_pos e2,if_pos Ws]
    rw [show j-o=(j-(o+1))+1 by omega]
    rfl
   ·rw [if_neg e2,if_neg Ws]
    rw [Array.getElem?_setIfInBounds]
    rw [if_neg Ws]
theorem zg {w:World}{b i:Nat}{c:Array Value}{t:Nat}{f:Nat×Nat}{v:Value}(h:w.heap[b]? = some (.cells c t f)) {d:Array Value}(hd:c.setIfInBounds i v=d):(w.setCell ⟨b,i,none⟩ v).heap[b]? = some (.cells d t f):=by
 subst hd;exact setCell_heap h v
theorem zd {w:World}{o:Obj}{g:Nat}(hg:w.heap.size=g):(w.alloc o).heap[g]? = some o:=by
 subst hg;exact heap_alloc_new w o
structure jw (w:World) (g:Nat) (key:ByteArray) (k m:Int) (s:ByteArray) (a b:Value):Prop where
 c0:w.cell? ⟨g,0,none⟩=some (.string key)
 c1:w.cell? ⟨g,1,none⟩=some (.int .i64 k)
 c2:w.cell? ⟨g,2,none⟩=some (.int .i64 m)
 c3:w.cell? ⟨g,3,none⟩=some (.string s)
 c4:w.cell? ⟨g,4,none⟩=some a
 c5:w.cell? ⟨g,5,none⟩=some b
theorem pbox_at {w:World}{g:Nat}(hg:w.heap.size=g) (key:ByteArray) (k m:Int) (s:ByteArray) (a b:Value) (t:Nat):jw (w.alloc (.cells #[.string key,.int .i64 k,.int .i64 m,.string s,a,b] t)) g key k m s a b:=by
 subst hg
 have hb:=heap_alloc_new w (.cells #[.string key,.int .i64 k,.int .i64 m,.string s,a,b] t)
 exact⟨za hb rfl,za hb rfl,za hb rfl,za hb rfl,za hb rfl,za hb rfl⟩
theorem jw.kept {w w':World}{g:Nat}{key:ByteArray}{k m:Int}{s:ByteArray}{a b:Value}(h:jw w g key k m s a b) {X:List Nat}(hk:zb X w w') (hX:g ∉ X):jw w' g key k m s a b:=
 ⟨hk.cell h.c0 hX,hk.cell h.c1 hX,hk.cell h.c2 hX,hk.cell h.c3 hX,hk.cell h.c4 hX,hk.cell h.c5 hX⟩
theorem jw.kept0 {w w':World}{g:Nat}{key:ByteArray}{k m:Int}{s:ByteArray}{a b:Value}(h:jw w g key k m s a b) (hk:zb [] w w'):jw w' g key k m s a b:=h.kept hk Wz
theorem Rep.move {n:Nat}{S T:Nat→Prop}{X:List Nat}{w w':World}{cs:List Value}{v:V n}(h:Rep n S w cs v) (hk:zb X w w') (hS:∀ g,g<w.heap.size→S g→g ∉ X∧T g):Rep n T w' cs v:=
 ((h.mono (T:=fun g=>g ∉ X∧T g) hS).kept hk (fun g hx q=>q.1 hx)).mono (fun _ _ q=>q.2)
theorem Rep.sl {n:Nat}{S:Nat→Prop}{w:World}{k m:Int}{s:ByteArray}{a b:Value}{v:V n}(h:Rep n S w [.int .i64 k,.int .i64 m,.string s,a,b] v):∃ p i c q j d,a = .slice p i c∧b = .slice q j d:=by
 match n,v,h with
 | n+1,v,h=>
  obtain⟨vl,vm,lcs,mcs,h⟩:=h
  obtain⟨p,c,q,d,_,_,e⟩:=h.forms
  simp only [List.cons.injEq] at e
  exact⟨_,_,_,_,_,_,e.2.2.2.1,e.2.2.2.2.1⟩
theorem zH.pick {α β γ:Type}{R:α→β→Prop}{Q:α→γ→Prop}:∀ (xs:List α) (ys:List β),zH R xs ys→(∀ x y,y∈ys→R x y→∃ z,Q x z)→∃ zs,zH Q xs zs
 | [],_,_,_=>⟨[],zH.nil _⟩
 | x::xs,[],h,_=>by have:=h.1;simp at this
 | x::xs,y::ys,h,hq=>by
  obtain⟨z,hz⟩:=hq x y (List.mem_cons_self ..) (h.2 0 x y rfl rfl)
  obtain⟨zs,hzs⟩:=zH.pick xs ys ⟨by simpa using h.1,fun j a b ha hb=>h.2 (j+1) a b (by simpa using ha) (by simpa using hb)⟩ (fun a b hb=>hq a b (List.mem_cons_of_mem _ hb))
  exact⟨z::zs,hzs.cons hz⟩
def bm (n:Nat) (B:Nat) (S:Nat→Prop) (w:World) (cs:List Value) (v:V n):Prop:=Rep n S w cs v∧qV B n v
theorem bm.fit:∀ (n d:Nat) {B:Nat}{S:Nat→Prop}{w:World}{cs:List Value}{v:V n},bm n B S w cs v→zE n v≤d→∃ v':V d,bm d B S w cs v'
 | 0,_,_,_,_,_,_,h,_=>h.1.elim
 | n+1,0,_,_,_,_,v,_,hd=>by
  have:zE (n+1) v=1+qU (VS.kids (α:=V n) v |>.map (zE n)):=rfl
  omega
 | n+1,d+1,B,S,w,cs,v,h,hd=>by
  obtain⟨⟨vl,vm,lcs,mcs,h⟩,ht⟩:=h
  obtain⟨t1,t2,t3⟩:=ht
  have hk:∀ x,x∈VS.kids (α:=V n) v→zE n x≤d:=fun x hx=>by have:=depthV_kid hx;omega
  obtain⟨zl,hl⟩:=zH.pick (Q:=fun x (z:V d)=>bm d B S w x z) _ _ h.alll (fun x y hy hr=>bm.fit n d (v:=y) ⟨hr,t3 y (kZ hy)⟩ (hk y (kZ hy)))
  obtain⟨zm,hm⟩:=zH.pick (Q:=fun x (z:ByteArray×V d)=>vS (bm d B S w) x z∧z.1.size≤B) _ _ h.allm (fun x y hy hr=>by
   obtain⟨z,hz⟩:=bm.fit n d (v:=y.2) ⟨hr.2,t3 _ (k9 hy)⟩ (hk _ (k9 hy))
   exact⟨(y.1,z),⟨hr.1,hz⟩,t2 y hy⟩)
  have el:zl.length=(VS.l (α:=V n) v).length:=hl.1.symm.trans h.alll.1
  have em:zm.length=(VS.m (α:=V n) v).length:=hm.1.symm.trans h.allm.1
  have getl:∀ x,x∈zl→qV B d x:=fun x hx=>by
   obtain⟨j,hj,rfl⟩:=List.getElem_of_mem hx
   exact (hl.2 j _ _ (List.getElem?_eq_getElem (by rw [hl.1];exact hj)) (List.getElem?_eq_getElem hj)).2
  have getm:∀ p,p∈zm→qV B d p.2∧p.1.size≤B:=fun x hx=>by
   obtain⟨j,hj,rfl⟩:=List.getElem_of_mem hx
   have:=hm.2 j _ _ (List.getElem?_eq_getElem (by rw [hm.1];exact hj)) (List.getElem?_eq_getElem hj)
   exact⟨this.1.2.2,this.2⟩
  refine⟨(⟨VS.kind (α:=V n) v,VS.num (α:=V n) v,VS.s (α:=V n) v,zl,zm⟩:VS (V d)),⟨vl,vm,lcs,mcs,{
   cells:=h.cells
   slcl:=by have:=h.slcl;rw [← el] at this;exact this
   alll:=hl.mono fun _ _ _ r=>r.1
   slcm:=by have:=h.slcm;rw [← em] at this;exact this
   allm:=hm.mono fun _ _ _ r=>⟨r.1.1,r.1.2.1⟩
   inl:=h.inl
   inm:=h.inm
   wfk:=h.wfk
   wfn:=h.wfn }⟩,⟨t1.1,by rw [el];exact t1.2.1,by rw [em];exact t1.2.2⟩,fun p hp=>(getm p hp).2,fun x hx=>?_⟩
  rcases List.mem_append.1 hx with hx | hx
  ·exact getl x hx
  ·obtain⟨p,hp,rfl⟩:=List.mem_map.1 hx
   exact (getm p hp).1
def yy (up down:Int) (x:Int):Int:=bits .or .u32 (x*up%4294967296) (x/down)
def qi (k up down:Int):Prop:=(k=2∧up=1073741824∧down=4)∨(k=6∧up=67108864∧down=64)∨(k=7∧up=33554432∧down=128)∨(k=11∧up=2097152∧down=2048)∨(k=13∧up=524288∧down=8192)∨(k=17∧up=32768∧down=131072)∨(k=18∧up=16384∧down=262144)∨(k=19∧up=8192∧down=524288)∨(k=22∧up=1024∧down=4194304)∨(k=25∧up=128∧down=33554432)
theorem rotl_any (w:World) (x:Int) (k:Int) (up down:Int) (h:qi k up down) :
  CL w 209 #[.int .u32 x,.int .i64 (-k)] (.int .u32 (yy up down x)):=by
 unfold qi at h
 have hw2:bits BinOp.and IntKind.u64 (IntKind.u64.wrap (-2)) 31=30:=Wr
 have hw6:bits BinOp.and IntKind.u64 (IntKind.u64.wrap (-6)) 31=26:=Wr
 have hw7:bits BinOp.and IntKind.u64 (IntKind.u64.wrap (-7)) 31=25:=Wr
 have hw11:bits BinOp.and IntKind.u64 (IntKind.u64.wrap (-11)) 31=21:=Wr
 have hw13:bits BinOp.and IntKind.u64 (IntKind.u64.wrap (-13)) 31=19:=Wr
 have hw17:bits BinOp.and IntKind.u64 (IntKind.u64.wrap (-17)) 31=15:=Wr
 have hw18:bits BinOp.and IntKind.u64 (IntKind.u64.wrap (-18)) 31=14:=Wr
 have hw19:bits BinOp.and IntKind.u64 (IntKind.u64.wrap (-19)) 31=13:=Wr
 have hw22:bits BinOp.and IntKind.u64 (IntKind.u64.wrap (-22)) 31=10:=Wr
 have hw25:bits BinOp.and IntKind.u64 (IntKind.u64.wrap (-25)) 31=7:=Wr
 rcases h with ⟨rfl,rfl,rfl⟩ | ⟨rfl,rfl,rfl⟩ | ⟨rfl,rfl,rfl⟩ | ⟨rfl,rfl,rfl⟩ | ⟨rfl,rfl,rfl⟩ | ⟨rfl,rfl,rfl⟩ | ⟨rfl,rfl,rfl⟩ | ⟨rfl,rfl,rfl⟩ | ⟨rfl,rfl,rfl⟩ | ⟨rfl,rfl,rfl⟩
 all_goals
  go_enter func209,ntmps209
  go_wp2_with fail
  go_ret
  exact⟨by simp [yy],Wd⟩
theorem kG (w:World) (x:Int) (k:Int) (up down:Int) (h:qi k up down) :
  CL w 192 #[.int .u32 x,.int .i64 k] (.int .u32 (yy up down x)):=by
 have CR:=qI (rotl_any w x k up down h)
 unfold qi at h
 rcases h with ⟨rfl,rfl,rfl⟩ | ⟨rfl,rfl,rfl⟩ | ⟨rfl,rfl,rfl⟩ | ⟨rfl,rfl,rfl⟩ | ⟨rfl,rfl,rfl⟩ | ⟨rfl,rfl,rfl⟩ | ⟨rfl,rfl,rfl⟩ | ⟨rfl,rfl,rfl⟩ | ⟨rfl,rfl,rfl⟩ | ⟨rfl,rfl,rfl⟩
 all_goals
  go_enter func192,ntmps192
  go_wp2_with fail
  refine CR.o.mono ?_
  rintro e w' ⟨rfl,hk⟩
  go_wp2_with fail
  go_ret
  exact⟨rfl,hk⟩
theorem xV:yU Tryz.prog 53 5 1 1 (.int .u8 0):=⟨underlying53,Wr,rfl,Wo⟩
def qe (w w':World) (v:Value) (l:List UInt8):Prop:=zp w' v l∧∀ g,zW v=some g→w.heap.size≤g∧kind w' g=5+2
theorem qx {w w':World}{v:Value}{n:Nat}{l:List UInt8}(h:w'.ownsRow w.heap.size 5 1 v n (l.map bv)):qe w w' v l:=by
 have hn:l.length=n:=by have:=h.1;simpa using this
 subst hn
 exact⟨Slc.of_row h,fun g hg=>⟨(h.lt g (z6 hg)).1,yp h (z6 hg)⟩⟩
@[go_sem] theorem eqlNilBytes (w:World) (a:Option Addr) (n c:Nat):(binOp .eql 53 (.slice a n c) (.slice none 0 0)).run Tryz.prog w = .ok (.bool a.isNone) w:=Lib.run_eql_slice_nil w _ _ a n c 0 0 underlying53
theorem vh (v:Value) (l:List UInt8) (w:World) (h:zp w v l) (hl:l.length≤lim) :
  Calls Tryz.prog 36 #[v] w fun e w'=>∃ v',e = .returned v'∧qe w w' v' l∧zb [] w w':=by
 rcases h.2 with ⟨rfl,h0⟩ | h2
 ·have:l=[]:=List.eq_nil_of_length_eq_zero h0
  subst this
  go_enter func36,ntmps36
  go_wp2
  go_ret
  exact⟨_,rfl,⟨yV _ _,by simp [zW]⟩,Wd⟩
 ·obtain⟨ad,cap,rfl⟩:∃ ad cap,v = .slice (some ad) l.length cap:=by
   rcases h2 with ⟨h0,a,c,rfl,_⟩ | ⟨g,o,c,rfl,_⟩
   ·exact⟨a,c,by rw [h0]⟩
   ·exact⟨_,_,rfl⟩
  have h1:=(zb.refl [] w).alloc (.cells #[] 5)
  have hown:=World.ownsRow_made (base:=w.heap.size) (size:=1) (e:=5) w #[] 0 (Nat.le_refl _) Wo rfl
  have hsrc:=h.kept0 h1
  go_enter func36,ntmps36
  go_wp2_with (at_builtin;refine zk xV hown hsrc (yL l) (by simp only [maxLen,lim] at *;omega) (by simp only [lim] at *;omega) Wz rfl _ _ rfl rfl rfl ?_;intro v' w1 hown1 hk1 _ hb1)
  go_ret
  exact⟨_,rfl,qx (by simpa using hown1),h1.trans hk1 (by simp [Value.ownBlock])⟩
theorem grow_any (n:Nat) (w:World) (hn:n≤lim) :
  Calls Tryz.prog 190 #[.slice none 0 0,.int .i64 n] w fun e w'=>∃ v',e = .returned v'∧w'.ownsRow w.heap.size 5 1 v' 0 []∧zb [] w w':=by
 obtain⟨i,hi,hz,hs,hb⟩:=info_parts xV.info
 by_cases h0:0<n
 ·have hrun:=Lib.run_append_nil_zeros w 53 3 53 5 i (.int .u8 0) .i64 .i64 underlying53 underlying3 hi hz n h0 Ws (by simp only [lim] at hn;omega) (by simp only [lim] at hn;rw [hb];omega)
  have hge:=grownCap_ge w n 0 5
  have hmx:=grownCap_le_maxLen w n 0 5 (by simp only [lim,maxLen] at *;omega)
  have hsz:(Builtin.zeroCells (Value.int IntKind.u8 0).cells n++Builtin.zeroCells (Value.int IntKind.u8 0).cells (grownCap w n 0 5-n)).size=grownCap w n 0 5*1:=by
   simp only [Array.size_append,size_zeroCells];simp [Value.cells];omega
  revert hrun hge hmx hsz
  generalize grownCap w n 0 5=cap
  generalize (Builtin.zeroCells (Value.int IntKind.u8 0).cells n++Builtin.zeroCells (Value.int IntKind.u8 0).cells (cap-n))=cs
  intro hrun hge hmx hsz
  have hmx':=qI hmx
  have hsz':=qI hsz
  have hn2:(n:Int)≤140737488351232:=by simp only [lim] at hn;omega
  have hr':=qI hrun
  clear hmx hsz hn hi hz hs hb hrun
  go_enter func190,ntmps190
  go_wp2_with (at_builtin;refine Lib.wpList_append_run _ rfl _ _ _ _ rfl _ _ rfl rfl _ _ hr'.o ?_)
  go_ret
  refine⟨_,rfl,⟨rfl,.inr ⟨w.heap.size,cap,cs,rfl,Nat.le_refl _,heap_alloc_new w.drew _,Nat.zero_le _,hmx'.o,hsz'.o,Wz⟩⟩,((zb.refl _ w).drew).alloc _⟩
 ·obtain rfl:n=0:=by omega
  go_enter func190,ntmps190
  go_wp2
  go_ret
  exact⟨_,rfl,World.ownsRow_nil _ _ _ _,Wd⟩
theorem zaa (g o cap:Nat) (vals:List Value) (ls:List (List UInt8)) (w:World) (hrow:Row w g o vals) (hall:zH (zp w) vals ls) (hsum:ls.flatten.length≤lim) (hk:vals.length≤lim) :
  Calls Tryz.prog 152 #[.slice (some ⟨g,o,none⟩) vals.length cap] w fun e w'=>∃ v',e = .returned v'∧qe w w' v' ls.flatten∧zb [] w w':=by
 have hk':vals.length≤140737488351232:=by simpa only [lim] using hk
 have hle:∀ j,(ls.take j).flatten.length≤140737488351232:=fun j=>by have:=jJ ls j;simp only [lim] at hsum;omega
 have hlen:=hall.1
 have Hle:=qI hle
 have Hlen:=qI hlen
 have Hsum:=qI hsum
 clear hk hle hlen hsum
 go_enter func152,ntmps152
 go_wp2_with fail
 go_loop [3,11] (fun s i=>∃ k:Nat,k≤vals.length∧i = .int .i64 k∧s = .int .i64 (ls.take k).flatten.length) (fun _ i=>vals.length-(intOf i).toNat)
 case atStart=>exact⟨0,Nat.zero_le _,rfl,Wz⟩
 case round=>
  obtain⟨k,hk,rfl,rfl⟩:=hrel
  by_cases hlt:k<vals.length
  ·have hlt2:k<ls.length:=by rw [← Hlen.o];exact hlt
   have hc:=hrow.at hlt
   have hb:=hall.2 k vals[k] ls[k] (by simp [hlt]) (by simp [hlt2])
   have hb':=qI hb
   obtain⟨a1,c1,hv,-,-⟩:=hb.form
   rw [hv] at hc
   have hs:=qI (ql ls k hlt2)
   have l1:=Hle.o k
   have l2:=Hle.o (k+1)
   have l3:(ls.take k).flatten.length+ls[k].length≤140737488351232:=by rw [hs.o,List.length_append] at l2;exact l2
   clear hb hv l2
   revert l1 l3 hs
   generalize hn1:(ls.take k).flatten.length=n1
   generalize hn2:ls[k].length=n2 at hc ⊢
   intro hs l1 l3
   have Hn1:=qI hn1
   have Hn2:=qI hn2
   clear hn1 hn2
   go_wp2_with fail
   go_round
   case rel=>
    refine⟨k+1,Ws,by go_num,?_⟩
    rw [hs.o,List.length_append,Hn1.o,Hn2.o]
    go_num
   case measure=>simp [intOf];omega
  ·obtain rfl:k=vals.length:=by omega
   have e1:ls.take vals.length=ls:=by rw [Hlen.o];exact List.take_length
   rw [e1]
   have l0:=Hle.o vals.length
   rw [e1] at l0
   clear e1
   revert l0
   generalize hN:ls.flatten.length=N
   intro l0
   have HN:=qI hN
   clear hN
   have hNl:N≤lim:=by simp only [lim];exact l0
   have hg:=grow_any N w hNl
   have Hg:=qI hg
   clear hg hNl
   go_wp2_with (go_at_call 190;refine Hg.o.mono ?_;rintro e w1 ⟨v1,rfl,hown1,hk1⟩)
   clear Hg
   go_loopw [6,27] (fun v i wr=>∃ k:Nat,k≤vals.length∧i = .int .i64 k∧wr.ownsRow w.heap.size 5 1 v (ls.take k).flatten.length ((ls.take k).flatten.map bv)∧zb [] w wr) (fun _ i _=>vals.length-(intOf i).toNat)
   case atStart=>exact⟨0,Nat.zero_le _,rfl,by simpa using hown1,hk1⟩
   case round=>
    obtain⟨k,hk,rfl,hown,hkr⟩:=hrel
    by_cases hlt:k<vals.length
    ·have hlt2:k<ls.length:=by rw [← Hlen.o];exact hlt
     have hc:=(hrow.kept hkr Wz).at hlt
     have hb:=(hall.2 k vals[k] ls[k] (by simp [hlt]) (by simp [hlt2])).kept0 hkr
     have hs:=qI (ql ls k hlt2)
     have l1:=Hle.o (k+1)
     rw [hs.o,List.length_append] at l1
     have l2:=qI l1
     clear l1
     have hbase:=hkr.size
     have Hown:=qI hown
     clear hown
     go_wp2_with (at_builtin;refine zk xV Hown.o hb (yL _) (by have:=l2.o;simp only [maxLen];omega) (by have:=l2.o;omega) hbase rfl _ _ rfl rfl rfl ?_;intro v' w2 hown2 hk2 _ hb2)
     go_roundw
     case rel=>
      refine⟨k+1,Ws,by go_num,?_,hkr.trans hk2 ?_⟩
      ·rw [hs.o,List.length_append,List.map_append];exact hown2
      ·intro i hi
       exact .inr ((World.ownsRow.lt Hown.o i (Option.mem_toList.1 hi)).1)
     case measure=>simp [intOf];omega
    ·obtain rfl:k=vals.length:=by omega
     have e1:ls.take vals.length=ls:=by rw [Hlen.o];exact List.take_length
     rw [e1] at hown
     have Hown:=qI hown
     clear hown e1
     go_wp2
     go_ret
     exact⟨_,rfl,qx Hown.o,hkr⟩
theorem concat2 (g cap:Nat) (v1 v2:Value) (l1 l2:List UInt8) (w:World) (hrow:Row w g 0 [v1,v2]) (h1:zp w v1 l1) (h2:zp w v2 l2) (hsum:l1.length+l2.length≤lim) :
  Calls Tryz.prog 152 #[.slice (some ⟨g,0,none⟩) 2 cap] w fun e w'=>∃ v',e = .returned v'∧qe w w' v' (l1++l2)∧zb [] w w':=by
 have:=zaa g 0 cap [v1,v2] [l1,l2] w hrow ((zH.nil _).cons h2 |>.cons h1) (by simpa using hsum) (by simp [lim])
 simpa using this
theorem concat3 (g cap:Nat) (v1 v2 v3:Value) (l1 l2 l3:List UInt8) (w:World) (hrow:Row w g 0 [v1,v2,v3]) (h1:zp w v1 l1) (h2:zp w v2 l2) (h3:zp w v3 l3) (hsum:l1.length+l2.length+l3.length≤lim) :
  Calls Tryz.prog 152 #[.slice (some ⟨g,0,none⟩) 3 cap] w fun e w'=>∃ v',e = .returned v'∧qe w w' v' (l1++(l2++l3))∧zb [] w w':=by
 have:=zaa g 0 cap [v1,v2,v3] [l1,l2,l3] w hrow ((zH.nil _).cons h3 |>.cons h2 |>.cons h1) (by simp;omega) (by simp [lim])
 simpa using this
theorem Qf (w:World) (xs:List Value) (t:Nat):Row (w.alloc (.cells xs.toArray t)) w.heap.size 0 xs:=by
 refine⟨?_,Wz⟩
 intro j u hu
 rw [Nat.zero_add,cell_of_row _ w.heap.size j xs.toArray t (0,0) (heap_alloc_new w _)]
 simpa using hu
structure kf (R:World→World→Prop) where
 p:Value→Nat×Nat→World→Prop
 st:∀ v b w w',p v b w→R w w'→p v b w'
def kf.is {R:World→World→Prop}(v:Value):kf R:=⟨fun u _ _=>u=v,fun _ _ _ _ h _=>h⟩
def kf.any {R:World→World→Prop}:kf R:=⟨fun _ _ _=>True,fun _ _ _ _ h _=>h⟩
def kq {R:World→World→Prop}(fs:List (kf R)) (i:Nat):kf R:=fs.getD i kf.any
def vU:List (Option Nat)→Nat→(Nat→Value)→Act→Act
 | [],_,_,a=>a
 | d::ds,k,x,a=>vU ds (k+1) x (a.put d (x k))
def bC (a:Act):Option Nat→Value
 | some d=>a.tmps.getD d undef
 | none=>undef
def km (ops:Array Oper) (k j:Nat):Bool:=((ops[k]?).map (·.after.any fun e=>Region.binds .any e&&e.on == j)).getD false
def ZK (ops:Array Oper) (k:Nat):Bool:=((ops[k]?).map (·.after.all fun e=>!Region.binds .any e || decide (e.on<k))).getD false
def bQ:List (Option Nat)→Bool
 | []=>true
 | none::l=>bQ l
 | some d::l=>!l.contains (some d)&&bQ l
def ordB (ops:Array Oper) (L n:Nat):Bool:=
 decide (L<ops.size)&&(List.range ops.size).all (ZK ops)&&(List.range L).all (fun j=>(List.range (L+1)).any (fun k=>decide (j<k)&&km ops k j))&&bQ (ops.toList.map (·.dst)) &&
  (ops.toList.map (·.dst)).all (fun d=>d.all (fun d=>decide (d<n)))&&(List.range ops.size).all (fun k=>decide (k≤L) || km ops k (k-1))
theorem vR:∀ {l:List (Option Nat)},bQ l=true→∀ (i j:Nat) (d:Nat),l[i]? = some (some d)→l[j]? = some (some d)→i=j
 | [],_,i,_,_,h,_=>by simp at h
 | none::l,h,i,j,d,hi,hj=>by
  cases i with
  | zero=>simp at hi
  | succ i=>
   cases j with
   | zero=>simp at hj
   | succ j=>rw [vR (l:=l) h i j d (by simpa using hi) (by simpa using hj)]
 | some e::l,h,i,j,d,hi,hj=>by
  simp only [bQ,Bool.and_eq_true,Bool.not_eq_true',List.contains_eq_mem,decide_eq_false_iff_not] at h
  cases i with
  | zero=>
   cases j with
   | zero=>rfl
   | succ j=>
    simp only [List.getElem?_cons_zero,Option.some.injEq] at hi
    subst hi
    exact absurd (List.mem_of_getElem? (by simpa using hj)) h.1
  | succ i=>
   cases j with
   | zero=>
    simp only [List.getElem?_cons_zero,Option.some.injEq] at hj
    subst hj
    exact absurd (List.mem_of_getElem? (by simpa using hi)) h.1
   | succ j=>rw [vR (l:=l) h.2 i j d (by simpa using hi) (by simpa using hj)]
theorem bf (a:Act) (d t:Nat) (v:Value) (hd:d<a.tmps.size):(a.put (some d) v).tmps.getD t undef=if t=d then v else a.tmps.getD t undef:=by
 simp only [Act.put,Array.getD_eq_getD_getElem?,Array.getElem?_setIfInBounds]
 by_cases h:d=t
 ·subst h;simp [hd]
 ·rw [if_neg h,if_neg (Ne.symm h)]
theorem puts_size:∀ (ds:List (Option Nat)) (k:Nat) (x:Nat→Value) (a:Act),(vU ds k x a).tmps.size=a.tmps.size
 | [],_,_,_=>rfl
 | d::ds,k,x,a=>by
  rw [vU,puts_size ds]
  cases d <;> simp [Act.put]
theorem Q7:∀ (ds:List (Option Nat)) (k:Nat) (x:Nat→Value) (a:Act),(vU ds k x a).defers=a.defers
 | [],_,_,_=>rfl
 | d::ds,k,x,a=>by
  rw [vU,Q7 ds]
  cases d <;> simp [Act.put]
theorem KL:∀ (ds:List (Option Nat)) (k:Nat) (x:Nat→Value) (a:Act) (t:Nat),some t ∉ ds→(∀ d,some d∈ds→d<a.tmps.size)→(vU ds k x a).tmps.getD t undef=a.tmps.getD t undef
 | [],_,_,_,_,_,_=>rfl
 | d::ds,k,x,a,t,h,hz=>by
  have hs:(a.put d (x k)).tmps.size=a.tmps.size:=by cases d <;> simp [Act.put]
  rw [vU,KL ds _ _ _ t (fun g=>h (List.mem_cons_of_mem _ g)) (fun e he=>by rw [hs];exact hz e (List.mem_cons_of_mem _ he))]
  cases d with
  | none=>rfl
  | some d=>
   rw [bf a d t _ (hz d (List.mem_cons_self ..)),if_neg (fun e=>h (by rw [e];exact List.mem_cons_self ..))]
theorem puts_at:∀ (ds:List (Option Nat)) (k:Nat) (x:Nat→Value) (a:Act) (i d:Nat),bQ ds=true→(∀ d,some d∈ds→d<a.tmps.size)→ds[i]? = some (some d)→(vU ds k x a).tmps.getD d undef=x (k+i)
 | [],_,_,_,_,_,_,_,h=>by simp at h
 | e::ds,k,x,a,i,d,hn,hz,h=>by
  have hs:(a.put e (x k)).tmps.size=a.tmps.size:=by cases e <;> simp [Act.put]
  have hz':∀ d,some d∈ds→d<(a.put e (x k)).tmps.size:=fun d hd=>by rw [hs];exact hz d (List.mem_cons_of_mem _ hd)
  rw [vU]
  cases i with
  | zero=>
   simp only [List.getElem?_cons_zero,Option.some.injEq] at h
   subst h
   simp only [bQ,Bool.and_eq_true,Bool.not_eq_true',List.contains_eq_mem,decide_eq_false_iff_not] at hn
   rw [KL ds _ _ _ d hn.1 hz',bf a d d _ (hz d (List.mem_cons_self ..)),if_pos rfl]
   rfl
  | succ i=>
   rw [puts_at ds (k+1) x _ i d (by
    cases e with
    | none=>exact hn
    | some e=>simp only [bQ,Bool.and_eq_true] at hn;exact hn.2) hz' (by simpa using h)]
   congr 1;omega
theorem act_puts {ds:List (Option Nat)}{a b:Act}(hn:bQ ds=true) (hz:∀ d,some d∈ds→d<a.tmps.size) (hs:b.tmps.size=a.tmps.size) (hd:b.defers=a.defers) (ho:∀ t,some t ∉ ds→b.tmps.getD t undef=a.tmps.getD t undef) :
  b=vU ds 0 (fun j=>bC b (ds.getD j none)) a:=by
 have key:b.tmps=(vU ds 0 (fun j=>bC b (ds.getD j none)) a).tmps:=by
  apply Array.ext
  ·rw [puts_size,hs]
  ·intro t h1 h2
   have e1:b.tmps[t]=b.tmps.getD t undef:=by simp [Array.getD_eq_getD_getElem?,h1]
   have e2:(vU ds 0 (fun j=>bC b (ds.getD j none)) a).tmps[t]=(vU ds 0 (fun j=>bC b (ds.getD j none)) a).tmps.getD t undef:=by rw [Array.getD_eq_getD_getElem?,Array.getElem?_eq_getElem h2];rfl
   rw [e1,e2]
   by_cases hm:some t∈ds
   ·obtain⟨i,hi,he⟩:=List.getElem_of_mem hm
    have hg:ds[i]? = some (some t):=by rw [List.getElem?_eq_getElem hi,he]
    rw [puts_at ds 0 _ a i t hn hz hg,Nat.zero_add,List.getD_eq_getElem?_getD,hg]
    rfl
   ·rw [KL ds 0 _ a t hm hz,ho t hm]
 have e3:=Q7 ds 0 (fun j=>bC b (ds.getD j none)) a
 rw [← hd] at e3
 cases b
 rename_i tm df
 generalize hP:vU ds 0 _ a=p at key e3 ⊢
 cases p
 simp only at key e3
 subst key;subst e3
 rfl
def Z1 (W w':World) (L:Nat) (b:Nat→Nat×Nat):Prop:=(∀ j,j<L→W.heap.size≤(b j).1∧(b j).1≤(b j).2∧(b j).2≤w'.heap.size)∧∀ i j,i<L→j<L→i≠j→(b i).2≤(b j).1∨(b j).2≤(b i).1
section
variable {P : Program} {ops : Array Oper} {R : World → World → Prop}
def Zv (P:Program) (ops:Array Oper) (R:World→World→Prop) (fs:List (kf R)) (W:World) (F:(Nat→Value)→Act):List Oper→Nat→Prop
 | [],_=>True
 | o::l, i => (∀ x w, R W w → ∀ b : Nat → Nat×Nat, (∀ j, km ops i j = true → (kq fs j).p (x j) (b j) w) →
     wpList P ops (fun e a' w'=>e = .normal∧∃ v,a'=(F x).put o.dst v∧(kq fs i).p (match o.dst with | some _=>v | none=>undef) (w.heap.size,w'.heap.size) w'∧R w w') [o] (F x) w)∧Zv P ops R fs W F l (i+1)
theorem stepsF_at {fs:List (kf R)}{W:World}{F:(Nat→Value)→Act}:∀ (l:List Oper) (k i:Nat) (o:Oper),Zv P ops R fs W F l k→l[i]? = some o→∀ x w,R W w→∀ b:Nat→Nat×Nat,(∀ j,km ops (k+i) j=true→(kq fs j).p (x j) (b j) w) →
  wpList P ops (fun e a' w'=>e = .normal∧∃ v,a'=(F x).put o.dst v∧(kq fs (k+i)).p (match o.dst with | some _=>v | none=>undef) (w.heap.size,w'.heap.size) w'∧R w w') [o] (F x) w
 | [],_,_,_,_,h=>by simp at h
 | o::l,k,0,o',h,ho=>by
  simp only [List.getElem?_cons_zero,Option.some.injEq] at ho
  subst ho
  exact h.1
 | o::l,k,i+1,o',h,ho=>by
  have:=stepsF_at l (k+1) i o' h.2 (by simpa using ho)
  rw [show k+1+i=k+(i+1) by omega] at this
  exact this
theorem wpOp_of_list {Q Q':Exit→Act→World→Prop}{K:Act→World→Prop}{i:Nat}{o:Oper}{a:Act}{w:World}(ho:ops[i]? = some o) (h:wpList P ops Q [o] a w) (hK:∀ a' w',Q .normal a' w'→K a' w') (hp:∀ c a w,Q (.panic c) a w→Q' (.panic c) a w) (hl:LetsOut Q→LetsOut Q'):wpOp P ops Q' i K a w:=by
 unfold wpOp
 rw [ho]
 simp only
 unfold wpList at h
 split at h
 ·rename_i hw
  rw [if_pos hw]
  rcases h with h | h
  ·refine .inl ?_
   unfold Oper.wp at *
   generalize (execOp a.eval o).run P w=r at *
   cases r with
   | ok n w'=>
    cases n <;> simp only [Oper.upon] at h ⊢
    case value v=>exact hK _ _ h
    case skip=>exact hK _ _ h
    case defer d=>exact hK _ _ h
    case enter f args=>
     exact Calls.mono h (fun e w'' he=>by cases e <;> first | exact hK _ _ he | exact hp _ _ _ he | exact hl he)
    case row r args=>exact Rows.mono h (fun _ _ he=>hK _ _ he)
   | halt x w'=>cases x <;> simp only [Oper.upon] at h ⊢ <;> exact hp _ _ _ h
  ·exact .inr ⟨h.1,hl h.2⟩
 ·rename_i hw
  rw [if_neg hw]
  exact hK _ _ h
structure Mid (ops:Array Oper) (fs:List (kf R)) (W:World) (L:Nat) (b:Act) (listed:Array Bool) (a:Act) (w:World) (bs:Nat→Nat×Nat):Prop where
 size:listed.size=ops.size
 last:∀ k,L≤k→listed.getD k false=false
 closed:∀ k j,listed.getD k false=true→km ops k j=true→listed.getD j false=true
 tmps:a.tmps.size=b.tmps.size
 defers:a.defers=b.defers
 rest:∀ t,some t ∉ ops.toList.map (·.dst)→a.tmps.getD t undef=b.tmps.getD t undef
 late:∀ k d,L≤k→(ops.toList.map (·.dst))[k]? = some (some d)→a.tmps.getD d undef=b.tmps.getD d undef
 rel:R W w
 facts:∀ j,listed.getD j false=true→(kq fs j).p (bC a ((ops.toList.map (·.dst)).getD j none)) (bs j) w
 within:∀ j,listed.getD j false=true→W.heap.size≤(bs j).1∧(bs j).1≤(bs j).2∧(bs j).2≤w.heap.size
 apart:∀ i j,listed.getD i false=true→listed.getD j false=true→i≠j→(bs i).2≤(bs j).1∨(bs j).2≤(bs i).1
theorem YD {md:Region.Mode}{listed:Array Bool}{i:Nat}:i∈Region.ready md ops listed→listed.getD i true=false∧∃ o,ops[i]? = some o∧∀ e∈o.after,Region.binds md e=true→listed.getD e.on false=true:=fun h=>by
 obtain⟨h1,o,h2,h3⟩:=mem_ready.1 h
 exact⟨h1,o,h2,h3⟩
theorem kR {listed:Array Bool}{i j:Nat}{o:Oper}(ho:ops[i]? = some o) (h:∀ e∈o.after,Region.binds .any e=true→listed.getD e.on false=true) (hw:km ops i j=true):listed.getD j false=true:=by
 unfold km at hw
 rw [ho] at hw
 simp only [Option.map_some,Option.getD_some,Array.any_eq_true'] at hw
 obtain⟨e,he,hb⟩:=hw
 simp only [Bool.and_eq_true,beq_iff_eq] at hb
 rw [← hb.2]
 exact h e he hb.1
theorem ko {l:Array Bool}{i:Nat}(h:l.getD i true=false):l.getD i false=false∧i<l.size:=by
 by_cases hi:i<l.size
 ·simp [Array.getD_eq_getD_getElem?,hi] at h ⊢;exact h
 ·simp [Array.getD_eq_getD_getElem?,hi] at h
theorem all_of_last {listed:Array Bool}{L:Nat}(hc:∀ k j,listed.getD k false=true→km ops k j=true→listed.getD j false=true) (hL:∀ j,km ops L j=true→listed.getD j false=true)
  (hB:(List.range L).all (fun j=>(List.range (L+1)).any (fun k=>decide (j<k)&&km ops k j))=true):∀ (m j:Nat),L-j=m→j<L→listed.getD j false=true:=by
 intro m
 induction m using Nat.strongRecOn with
 | _ m ih=>
  intro j hm hj
  have h1:=List.all_eq_true.1 hB j (List.mem_range.2 hj)
  obtain⟨k,hk,h2⟩:=List.any_eq_true.1 h1
  simp only [Bool.and_eq_true,decide_eq_true_eq] at h2
  have hkL:=List.mem_range.1 hk
  by_cases e:k=L
  ·subst e;exact hL j h2.2
  ·exact hc k j (ih (L-k) Ws k rfl Ws) h2.2
theorem J6 {listed:Array Bool}{n:Nat}(hs:ops.size=n) (hl:listed.size=n) (hb:∀ k,k<n→ZK ops k=true):∀ (m:Nat),m<n→listed.getD m false=false→Region.ready .any ops listed≠[]:=by
 intro m
 induction m using Nat.strongRecOn with
 | _ m ih=>
  intro hm h
  obtain⟨o,ho⟩:∃ o,ops[m]? = some o:=⟨_,Array.getElem?_eq_getElem Ws⟩
  by_cases hall:∀ e∈o.after,Region.binds .any e=true→listed.getD e.on false=true
  ·intro e
   have:m∈Region.ready .any ops listed:=mem_ready.2 ⟨by
    have hi:m<listed.size:=Ws
    simp [Array.getD_eq_getD_getElem?,hi] at h ⊢;exact h,o,ho,hall⟩
   rw [e] at this
   cases this
  ·simp only [Classical.not_forall] at hall
   obtain⟨e,he,hbn,hf⟩:=hall
   have h1:=hb m hm
   unfold ZK at h1
   rw [ho] at h1
   simp only [Option.map_some,Option.getD_some,Array.all_eq_true_iff_forall_mem] at h1
   have h2:=h1 e he
   simp only [hbn,Bool.not_true,Bool.false_or,decide_eq_true_eq] at h2
   exact ih e.on h2 Ws (by simpa using hf)
def jq (l:Array Bool):Nat:=l.toList.countP (fun b=>!b)
theorem unlisted_set {l:Array Bool}{i:Nat}(h:l.getD i true=false):jq (l.setIfInBounds i true)+1=jq l:=by
 have hi:=(ko h).2
 have hv:l[i]=false:=by simpa [Array.getD_eq_getD_getElem?,hi] using h
 unfold jq
 rw [Array.toList_setIfInBounds]
 have hil:i<l.toList.length:=by simpa using hi
 rw [List.countP_set hil]
 have hv':l.toList[i]=false:=by simpa using hv
 rw [hv']
 have:0<l.toList.countP (fun b=>!b):=List.countP_pos_iff.2 ⟨false,by rw [← hv'];exact List.getElem_mem hil,rfl⟩
 simp only [Bool.not_false,Bool.not_true,if_true,Bool.false_eq_true,if_false]
 omega
theorem unlisted_pos {l:Array Bool}{i:Nat}(hi:i<l.size) (h:l.getD i false=false):0<jq l:=by
 have hv:l[i]=false:=by simpa [Array.getD_eq_getD_getElem?,hi] using h
 exact List.countP_pos_iff.2 ⟨false,by rw [← hv];exact Array.getElem_mem_toList hi,rfl⟩
theorem tail_any {Q:Exit→Act→World→Prop}{L:Nat}(hb:∀ k,k<ops.size→ZK ops k=true) (hch:∀ k,k<ops.size→L<k→km ops k (k-1)=true):∀ (tl:List Oper) (k:Nat) (fuel:Nat) (listed:Array Bool) (a:Act) (w:World),
  L≤k→ops.toList.drop k=tl→listed.size=ops.size→(∀ j,j<k→j<ops.size→listed.getD j false=true)→(∀ j,k≤j→listed.getD j false=false)→tl.length≤fuel→wpList P ops Q tl a w→wpAny P .any ops Q fuel listed a w:=by
 intro tl
 induction tl with
 | nil=>
  intro k fuel listed a w _ htl hs hall _ _ h
  have hk:ops.size≤k:=by simpa using List.drop_eq_nil_iff.1 htl
  refine wpAny_done ?_ h fuel
  rw [List.eq_nil_iff_forall_not_mem]
  intro j hj
  have hj2:=ko (YD hj).1
  rw [hall j Ws Ws] at hj2
  cases hj2.1
 | cons o rest ih=>
  intro k fuel listed a w hLk htl hs hall hno hf h
  have hk:k<ops.size:=by
   rcases Nat.lt_or_ge k ops.size with h1 | h1
   ·exact h1
   ·rw [List.drop_eq_nil_of_le (by simpa using h1)] at htl;cases htl
  have ho:ops[k]? = some o:=by
   have h1:(ops.toList.drop k)[0]? = some o:=by rw [htl];rfl
   rw [List.getElem?_drop,Nat.add_zero,Array.getElem?_toList] at h1
   exact h1
  have hrest:ops.toList.drop (k+1)=rest:=by
   rw [← List.drop_drop,htl]
   rfl
  obtain⟨f,rfl⟩:∃ f,fuel=f+1:=⟨fuel - 1,by simp only [List.length_cons] at hf;omega⟩
  refine⟨fun h0=>absurd h0 (J6 rfl hs hb k hk (hno k (Nat.le_refl _))),fun i hi=>?_⟩
  obtain⟨hun,o',ho',hwt⟩:=YD hi
  have hiu:=ko hun
  have hik:i=k:=by
   rcases Nat.lt_trichotomy i k with h1 | h1 | h1
   ·rw [hall i h1 Ws] at hiu;cases hiu.1
   ·exact h1
   ·have h2:=hch i Ws Ws
    have h3:=kR ho' hwt h2
    rw [hno (i-1) Ws] at h3
    cases h3
  subst hik
  obtain rfl:o=o':=by rw [ho] at ho';exact Option.some.inj ho'
  have hnext:∀ a' w',wpList P ops Q rest a' w'→wpAny P .any ops Q f (listed.setIfInBounds i true) a' w':=fun a' w' h'=>by
   refine ih (i+1) f _ a' w' Ws hrest (by rw [Array.size_setIfInBounds];exact hs) (fun j hj hjs=>?_) (fun j hj=>?_) (by simp only [List.length_cons] at hf;omega) h'
   ·simp only [Array.getD_eq_getD_getElem?,Array.getElem?_setIfInBounds]
    by_cases e:i=j
    ·rw [if_pos e,if_pos Ws];rfl
    ·rw [if_neg e]
     have:=hall j Ws hjs
     rwa [Array.getD_eq_getD_getElem?] at this
   ·simp only [Array.getD_eq_getD_getElem?,Array.getElem?_setIfInBounds]
    rw [if_neg Ws]
    have:=hno j Ws
    rwa [Array.getD_eq_getD_getElem?] at this
  unfold wpOp
  rw [ho]
  simp only
  unfold wpList at h
  split at h
  ·rename_i hw
   rw [if_pos hw]
   rcases h with h | h
   ·exact .inl (Oper.wp_mono hnext h)
   ·exact .inr h
  ·rename_i hw
   rw [if_neg hw]
   exact hnext _ _ h
theorem any_late {n:Nat}{Q:Exit→Act→World→Prop}{a:Act}{w:World}{os:List Oper}(R:World→World→Prop) (W:World) (L:Nat) (fs:List (kf R)) {F G:(Nat→Value)→Act}(hn:a.tmps.size=n) (hB:ordB os.toArray L n=true)
  (hR:R W w.drew) (htr:∀ x y z,R x y→R y z→R x z) (hsz:∀ x y,R x y→x.heap.size≤y.heap.size) (hF:∀ x,vU (os.map (·.dst)) 0 x a=F x) (hG:∀ x,(∀ k,L≤k→k<os.length→x k=bC a ((os.map (·.dst)).getD k none))→F x=G x)
  (hsteps:Zv P os.toArray R fs W G (os.take L) 0)
  (hlast:∀ x w',R W w'→∀ b:Nat→Nat×Nat,(∀ j,j<L→(kq fs j).p (x j) (b j) w')→Z1 W w' L b→wpList P os.toArray Q (os.drop L) (F x) w'):wpAny P .any os.toArray Q os.toArray.size (Array.replicate os.toArray.size false) a { w with drawn:=w.drawn+1 }:=by
 subst hn
 have hB0:=hB
 unfold ordB at hB
 simp only [Bool.and_eq_true,beq_iff_eq] at hB
 obtain⟨⟨⟨⟨⟨h1,h2⟩,h3⟩,h4⟩,h5⟩,h6⟩:=hB
 have h1:L<os.length:=by simpa using h1
 have hs0:os.toArray.size=os.length:=Wz
 have hbk:∀ k,k<os.toArray.size→ZK os.toArray k=true:=fun k hk=>List.all_eq_true.1 h2 k (List.mem_range.2 hk)
 have hch:∀ k,k<os.toArray.size→L<k→km os.toArray k (k-1)=true:=fun k hk hl=>by
  have:=List.all_eq_true.1 h6 k (List.mem_range.2 hk)
  simp only [Bool.or_eq_true,decide_eq_true_eq] at this
  exact this.resolve_left Ws
 have hz:∀ d,some d∈os.map (·.dst)→d<a.tmps.size:=fun d hd=>by
  have:=List.all_eq_true.1 h5 _ hd
  simpa using this
 have hds:os.toArray.toList.map (·.dst)=os.map (·.dst):=rfl
 have main:∀ (fuel:Nat) (listed:Array Bool) (b:Act) (v:World) (bs:Nat→Nat×Nat),jq listed≤fuel→Mid os.toArray fs W L a listed b v bs→wpAny P .any os.toArray Q fuel listed b v:=by
  intro fuel
  induction fuel with
  | zero=>
   intro listed b v bs hu hM
   have:=unlisted_pos (i:=L) (by rw [hM.size];omega) (hM.last L (Nat.le_refl _))
   omega
  | succ fuel ih=>
   intro listed b v bs hu hM
   refine⟨fun h0=>absurd h0 (J6 rfl hM.size hbk L Ws (hM.last L (Nat.le_refl _))),fun i hi=>?_⟩
   obtain⟨hun,o,ho,hall⟩:=YD hi
   have hb:b=F (fun j=>bC b ((os.map (·.dst)).getD j none)):=by
    rw [← hF]
    exact act_puts h4 hz hM.tmps hM.defers hM.rest
   have hu':jq (listed.setIfInBounds i true)≤fuel:=by have:=unlisted_set hun;omega
   have hil:=(ko hun).2
   by_cases hiL:i=L
   ·subst hiL
    have hAll:∀ j,j<i→listed.getD j false=true:=fun j hj=>all_of_last hM.closed (fun j hj=>kR ho hall hj) h3 _ j rfl hj
    have h9:=hlast _ v hM.rel bs (fun j hj=>hM.facts j (hAll j hj)) ⟨fun j hj=>hM.within j (hAll j hj),fun i j hi hj=>hM.apart i j (hAll i hi) (hAll j hj)⟩
    rw [← hb] at h9
    have hul:(os.drop i).length≤fuel+1:=by
     refine Nat.le_trans ?_ hu
     have hdrop:listed.toList.drop i=List.replicate (os.length-i) false:=by
      apply List.ext_getElem
      ·rw [List.length_drop,Array.length_toList,hM.size,List.length_replicate];simp
      ·intro j h1' h2'
       rw [List.getElem_drop,List.getElem_replicate]
       have h7:=hM.last (i+j) Ws
       have h8:i+j<listed.size:=by rw [List.length_drop,Array.length_toList] at h1';omega
       simpa [Array.getD_eq_getD_getElem?,h8] using h7
     unfold jq
     conv=>rhs;rw [← List.take_append_drop i listed.toList,List.countP_append,hdrop]
     have hc:List.countP (fun b=>!b) (List.replicate (os.length-i) false)=os.length-i:=by rw [List.countP_replicate];rfl
     rw [List.length_drop,hc]
     omega
    exact (tail_any hbk hch _ i (fuel+1) listed b v (Nat.le_refl _) Wk hM.size (fun j hj _=>hAll j hj) hM.last hul h9).2 i hi
   ·have hil2:i<L:=by
     rcases Nat.lt_or_ge i L with h7 | h7
     ·exact h7
     ·have h8:=kR ho hall (hch i (by rw [← hM.size];exact hil) Ws)
      rw [hM.last (i-1) Ws] at h8
      cases h8
    have hoi:os[i]? = some o:=by simpa using ho
    have hol:(os.take L)[i]? = some o:=by rw [List.getElem?_take,if_pos hil2];exact hoi
    have h9:=stepsF_at (os.take L) 0 i o hsteps hol (fun j=>bC b ((os.map (·.dst)).getD j none)) v hM.rel bs (fun j hj=>hM.facts j (kR ho hall (by rw [← Nat.zero_add i];exact hj)))
    have hbG:=hb.trans (hG _ (fun k hk _=>by
     show bC b ((os.map (·.dst)).getD k none)=_
     cases hd:(os.map (·.dst)).getD k none with
     | none=>rfl
     | some d=>exact hM.late k d hk (by
       rw [hds]
       rw [List.getD_eq_getElem?_getD] at hd
       cases h7:(os.map (·.dst))[k]? with
       | none=>rw [h7] at hd;cases hd
       | some z=>rw [h7] at hd;exact congrArg some hd)))
    rw [← hbG,Nat.zero_add] at h9
    have hdi:(os.map (·.dst))[i]? = some o.dst:=by rw [List.getElem?_map,hoi];rfl
    refine wpOp_of_list ho h9 (fun a' w' ⟨_,u,e1,e2,e3⟩=>ih _ _ _ (fun j=>if i=j then (v.heap.size,w'.heap.size) else bs j) hu' ?_) (fun _ _ _ h=>nomatch h.1) (fun⟨_,_,h⟩=>nomatch h.1)
    have hgd:∀ j,(listed.setIfInBounds i true).getD j false=if i=j then true else listed.getD j false:=fun j=>by
     simp only [Array.getD_eq_getD_getElem?,Array.getElem?_setIfInBounds]
     by_cases e:i=j
     ·rw [if_pos e,if_pos e,if_pos hil];rfl
     ·rw [if_neg e,if_neg e]
    have hod:∀ d,o.dst=some d→d<b.tmps.size:=fun d hd=>by rw [hM.tmps];exact hz d (by rw [← hd];exact List.mem_of_getElem? hdi)
    subst e1
    refine⟨by rw [Array.size_setIfInBounds];exact hM.size,fun k hk=>by rw [hgd,if_neg Ws];exact hM.last k hk,?_,?_,?_,?_,?_,htr _ _ _ hM.rel e3,?_,?_,?_⟩
    ·intro k j hk hw
     rw [hgd] at hk ⊢
     split
     ·rfl
     split at hk
     ·rename_i e;subst e;exact kR ho hall hw
     ·exact hM.closed k j hk hw
    ·rw [← hM.tmps];cases o.dst <;> simp [Act.put]
    ·rw [← hM.defers];cases o.dst <;> simp [Act.put]
    ·intro t ht
     rw [← hM.rest t ht]
     cases hd:o.dst with
     | none=>rfl
     | some d=>rw [bf b d t _ (hod d hd),if_neg (fun e=>ht (by rw [e,← hd];exact List.mem_of_getElem? hdi))]
    ·intro k d hk hkd
     rw [← hM.late k d hk hkd]
     cases hd:o.dst with
     | none=>rfl
     | some d'=>rw [bf b d' d _ (hod d' hd),if_neg (fun e=>by
       subst e
       have:=vR h4 i k d (by rw [hdi,hd]) hkd
       omega)]
    ·intro j hj
     rw [hds]
     by_cases e:i=j
     ·subst e
      rw [List.getD_eq_getElem?_getD,hdi,if_pos rfl]
      show (kq fs i).p (bC (b.put o.dst u) o.dst) _ w'
      cases hd:o.dst with
      | none=>rw [hd] at e2;exact e2
      | some d=>
       rw [hd] at e2
       show (kq fs i).p ((b.put (some d) u).tmps.getD d undef) _ w'
       rw [bf b d d _ (hod d hd),if_pos rfl]
       exact e2
     ·rw [hgd,if_neg e] at hj
      have h8:=(kq fs j).st _ _ _ _ (hM.facts j hj) e3
      rw [if_neg e]
      rw [hds] at h8
      cases hd:o.dst with
      | none=>exact h8
      | some d=>
       have hne:(os.map (·.dst)).getD j none≠some d:=fun e9=>by
        have:(os.map (·.dst))[j]? = some (some d):=by
         rw [List.getD_eq_getElem?_getD] at e9
         cases h7:(os.map (·.dst))[j]? with
         | none=>rw [h7] at e9;cases e9
         | some z=>rw [h7] at e9;exact congrArg some e9
        exact e (vR h4 i j d (by rw [hdi,hd]) this)
       cases h6:(os.map (·.dst)).getD j none with
       | none=>rw [h6] at h8;exact h8
       | some c=>
        rw [h6] at h8
        show (kq fs j).p ((b.put (some d) u).tmps.getD c undef) _ w'
        rw [bf b d c _ (hod d hd),if_neg (fun e9=>hne (by rw [h6,e9]))]
        exact h8
    ·intro j hj
     by_cases e:i=j
     ·rw [if_pos e]
      exact⟨hsz _ _ hM.rel,hsz _ _ e3,Nat.le_refl _⟩
     ·rw [if_neg e]
      rw [hgd,if_neg e] at hj
      have:=hM.within j hj
      have:=hsz _ _ e3
      omega
    ·intro j k hj hk hne
     rw [hgd] at hj hk
     by_cases e:i=j
     ·rw [if_pos e]
      have e2':i≠k:=fun h=>hne (e.symm.trans h)
      rw [if_neg e2'] at hk ⊢
      have:=hM.within k hk
      exact .inr this.2.2
     ·rw [if_neg e] at hj ⊢
      by_cases e':i=k
      ·rw [if_pos e']
       have:=hM.within j hj
       exact .inl this.2.2
      ·rw [if_neg e'] at hk ⊢
       exact hM.apart j k hj hk hne
 refine main os.toArray.size _ a _ (fun _=>(0,0)) ?_ ?_
 ·unfold jq
  exact Nat.le_trans List.countP_le_length Wz
 ·refine⟨Wz,?_,?_,rfl,rfl,fun _ _=>rfl,fun _ _ _ _=>rfl,hR,?_,?_,?_⟩
  ·intro k _
   simp only [Array.getD_eq_getD_getElem?,Array.getElem?_replicate]
   split <;> rfl
  ·intro k j hk
   exfalso
   simp only [Array.getD_eq_getD_getElem?,Array.getElem?_replicate] at hk
   split at hk <;> simp at hk
  ·intro j hj
   exfalso
   simp only [Array.getD_eq_getD_getElem?,Array.getElem?_replicate] at hj
   split at hj <;> simp at hj
  ·intro j hj
   exfalso
   simp only [Array.getD_eq_getD_getElem?,Array.getElem?_replicate] at hj
   split at hj <;> simp at hj
  ·intro j k hj
   exfalso
   simp only [Array.getD_eq_getD_getElem?,Array.getElem?_replicate] at hj
   split at hj <;> simp at hj
theorem ZM {id n:Nat}{Q:Exit→Act→World→Prop}{a:Act}{w:World}{os:List Oper}(R:World→World→Prop) (W:World) (L:Nat) (fs:List (kf R)) {F G:(Nat→Value)→Act}(hm:P.follows .mixedOrders=true) (hn:a.tmps.size=n) (hB:ordB os.toArray L n=true)
  (hR:R W w.drew) (htr:∀ x y z,R x y→R y z→R x z) (hsz:∀ x y,R x y→x.heap.size≤y.heap.size) (hF:∀ x,vU (os.map (·.dst)) 0 x a=F x) (hG:∀ x,(∀ k,L≤k→k<os.length→x k=bC a ((os.map (·.dst)).getD k none))→F x=G x)
  (hsteps:Zv P os.toArray R fs W G (os.take L) 0)
  (hlast:∀ x w',R W w'→∀ b:Nat→Nat×Nat,(∀ j,j<L→(kq fs j).p (x j) (b j) w')→Z1 W w' L b→wpList P os.toArray Q (os.drop L) (F x) w'):(Code.region id os.toArray true).wp P Q a w:=
 wp_region_any hm (any_late R W L fs hn hB hR htr hsz hF hG hsteps hlast)
theorem Kf {id n:Nat}{Q:Exit→Act→World→Prop}{a:Act}{w:World}{os:List Oper}(R:World→World→Prop) (W:World) (L:Nat) (fs:List (kf R)) {F:(Nat→Value)→Act}(hm:P.follows .mixedOrders=true) (hn:a.tmps.size=n) (hB:ordB os.toArray L n=true)
  (hR:R W w.drew) (htr:∀ x y z,R x y→R y z→R x z) (hsz:∀ x y,R x y→x.heap.size≤y.heap.size) (hF:∀ x,vU (os.map (·.dst)) 0 x a=F x)
  (hsteps:Zv P os.toArray R fs W F (os.take L) 0)
  (hlast:∀ x w',R W w'→∀ b:Nat→Nat×Nat,(∀ j,j<L→(kq fs j).p (x j) (b j) w')→Z1 W w' L b→wpList P os.toArray Q (os.drop L) (F x) w'):(Code.region id os.toArray true).wp P Q a w:=
 ZM R W L fs hm hn hB hR htr hsz hF (fun _ _=>rfl) hsteps hlast
theorem vZ {id n:Nat}{Q:Exit→Act→World→Prop}{a:Act}{w:World}{os:List Oper}(L:Nat) (fs:List (kf (zb []))) {F G:(Nat→Value)→Act}(hm:P.follows .mixedOrders=true) (hn:a.tmps.size=n) (hB:ordB os.toArray L n=true)
  (hF:∀ x,vU (os.map (·.dst)) 0 x a=F x) (hG:∀ x,(∀ k,L≤k→k<os.length→x k=bC a ((os.map (·.dst)).getD k none))→F x=G x)
  (hsteps:Zv P os.toArray (zb []) fs w G (os.take L) 0)
  (hlast:∀ x w',zb [] w w'→∀ b:Nat→Nat×Nat,(∀ j,j<L→(kq fs j).p (x j) (b j) w')→Z1 w w' L b→wpList P os.toArray Q (os.drop L) (F x) w'):(Code.region id os.toArray true).wp P Q a w:=
 ZM (zb []) w L fs hm hn hB (zb.refl [] w).drew (fun _ _ _ h k=>h.then k) (fun _ _ h=>h.size) hF hG hsteps hlast
theorem zK {id n:Nat}{Q:Exit→Act→World→Prop}{a:Act}{w:World}{os:List Oper}(L:Nat) (fs:List (kf (zb []))) {F:(Nat→Value)→Act}(hm:P.follows .mixedOrders=true) (hn:a.tmps.size=n) (hB:ordB os.toArray L n=true)
  (hF:∀ x,vU (os.map (·.dst)) 0 x a=F x)
  (hsteps:Zv P os.toArray (zb []) fs w F (os.take L) 0)
  (hlast:∀ x w',zb [] w w'→∀ b:Nat→Nat×Nat,(∀ j,j<L→(kq fs j).p (x j) (b j) w')→Z1 w w' L b→wpList P os.toArray Q (os.drop L) (F x) w'):(Code.region id os.toArray true).wp P Q a w:=
 Kf (zb []) w L fs hm hn hB (zb.refl [] w).drew (fun _ _ _ h k=>h.then k) (fun _ _ h=>h.size) hF hsteps hlast
end
theorem yH {p:Prop}(h:p:=by (simp only [List.map,vU,Act.put,List.setIfInBounds_toArray,List.set_cons_zero,List.set_cons_succ];rfl)):p:=h
abbrev fI {R:World→World→Prop}(v:Value):kf R:=kf.is v
abbrev fT {R:World→World→Prop}:kf R:=kf.is (.bool true)
abbrev fF {R:World→World→Prop}:kf R:=kf.is (.bool false)
abbrev fU {R:World→World→Prop}:kf R:=kf.is undef
def xD (cs:List Value) (n m:Nat):kf (zb []):=⟨fun v b w=>∃ g,v = .slice (some ⟨g,0,none⟩) n n∧b.1≤g∧g<b.2∧Slc w m (.slice (some ⟨g,0,none⟩) n n) n cs,fun _ _ _ _ ⟨g,h1,h3,h4,h2⟩ k=>⟨g,h1,h3,h4,h2.kept0 k⟩⟩
def boxFact (t:Nat):kf (zb []):=⟨fun v b w=>∃ g,b.1≤g∧g<b.2∧v = .pointer (some ⟨g,0,none⟩)∧w.heap[g]? = some (.cells #[.int .i64 0,.int .i64 0,.string ⟨#[]⟩,.slice none 0 0,.slice none 0 0] t (0,0)),fun _ _ _ _ ⟨g,h0,h3,h1,h2⟩ k=>⟨g,h0,h3,h1,k.heap h2 Wz⟩⟩
section
variable {P : Program} {ops : Array Oper} {Q : Exit → Act → World → Prop} {l n : Nat}
theorem rows_wide {m:Nat}{row:String}{args:Array Value}{w:World}{R:Value→World→Prop}(h:Rows P row args w R):RowsIn (Fence.wide.inRound l) m P row args w R:=
 fun c cs _=>let ⟨v,w',r,s⟩:=h c cs;⟨v,w',r,stepsIn_wide.2 s⟩
theorem op_round {o:Oper}{a:Act}{w:World}{K:Act→World→Prop}(hd:∀ c,o.op≠.defer c) (h:o.wp P a w K Q):o.wpIn (Fence.wide.inRound l) n P a w K Q:=by
 refine⟨fun _ _=>trivial,?_⟩
 rw [Oper.semAt_eq _ _ _ hd]
 unfold Oper.wp at h
 generalize (execOp a.eval o).run P w=r at h
 cases r with
 | ok x w'=>
  cases x <;> first
   | exact h
   | exact⟨fun h9=>by simp [Fence.wide,Fence.inRound] at h9,CallsIn.inRound l (callsIn_wide.2 (Calls.mono h (fun e w'' he=>by cases e <;> exact he)))⟩
   | exact⟨fun h9=>by simp [Fence.wide,Fence.inRound] at h9,rows_wide h⟩
   | exact h.elim
 | halt x w'=>cases x <;> first | exact h | exact h.elim
theorem opAt_round (hd:∀ o,o∈ops→∀ c,o.op≠.defer c) (hQ:¬ LetsOut Q) {i:Nat}{K K':Act→World→Prop}(hK:∀ a w,K a w→K' a w) {a:Act}{w:World}(h:wpOp P ops Q i K a w):wpOpIn (Fence.wide.inRound l) n P ops Q i K' a w:=by
 unfold wpOp at h
 unfold wpOpIn
 cases ho:ops[i]? with
 | none=>rw [ho] at h;exact hK _ _ h
 | some o=>
  rw [ho] at h
  simp only at h ⊢
  by_cases hw:Region.wanted o (yielded ops a.tmps)=true
  ·rw [if_pos hw] at h ⊢
   rcases h with h | h
   ·exact op_round (hd o (Array.mem_of_getElem? ho)) (Oper.wp_mono hK h)
   ·exact absurd h.2 hQ
  ·rw [if_neg hw] at h ⊢
   exact⟨fun _ _=>trivial,hK _ _ h⟩
theorem any_round (hd:∀ o,o∈ops→∀ c,o.op≠.defer c) (hQ:¬ LetsOut Q) {md:Region.Mode}:∀ (fuel:Nat) (listed:Array Bool) (a:Act) (w:World),wpAny P md ops Q fuel listed a w→wpAnyIn (Fence.wide.inRound l) n P md ops Q fuel listed a w
 | 0,_,_,_,h=>h
 | fuel+1,_,_,_,h=>⟨h.1,fun i hi=>opAt_round hd hQ (fun a w=>any_round hd hQ fuel _ a w) (h.2 i hi)⟩
def noDefer (os:List Oper):Bool:=os.all fun o=>match o.op with | .defer _=>false | _=>true
theorem noDefer_of {os:List Oper}(h:noDefer os=true):∀ o,o∈os→∀ c,o.op≠.defer c:=fun o ho c e=>by
 have h1:=List.all_eq_true.1 h o ho
 rw [e] at h1
 cases h1
theorem vK {id k:Nat}{a:Act}{w:World}{os:List Oper}(L:Nat) (fs:List (kf (zb []))) {F:(Nat→Value)→Act}(hm:P.follows .mixedOrders=true) (hnd:noDefer os=true) (hQ:¬ LetsOut Q) (hn:a.tmps.size=k) (hB:ordB os.toArray L k=true)
  (hF:∀ x,vU (os.map (·.dst)) 0 x a=F x)
  (hsteps:Zv P os.toArray (zb []) fs w F (os.take L) 0)
  (hlast:∀ x w',zb [] w w'→∀ b:Nat→Nat×Nat,(∀ j,j<L→(kq fs j).p (x j) (b j) w')→Z1 w w' L b→wpList P os.toArray Q (os.drop L) (F x) w'):(Code.region id os.toArray true).wpIn (Fence.wide.inRound l) n P Q a w:=
 wpIn_region_any hm (any_round (fun o ho=>noDefer_of hnd o (by simpa using ho)) hQ _ _ _ _ (any_late (zb []) w L fs hn hB (zb.refl [] w).drew (fun _ _ _ h k=>h.then k) (fun _ _ h=>h.size) hF (fun _ _=>rfl) hsteps hlast))
end
open Go.Maps (Keyed)
def qJ (P:Program) (w:World) (k b c:Nat) (M:Lit→Option Value):Prop:=
 ∃ D,w.ownsMap P k heldE b c D∧Maps.size D=c∧∀ kl,M kl=look D kl∧(Maps.has D kl=(M kl).isSome)
section
variable {P : Program} {w : World} {k b c : Nat} {M : Lit → Option Value}
theorem qJ.at (h:qJ P w k b c M):jZ P w k b c M:=by
 obtain⟨D,h1,-,h3⟩:=h
 exact⟨D,h1,h3⟩
theorem qJ.lt (h:qJ P w k b c M):b<w.heap.size:=h.at.lt
theorem qJ.kind (h:qJ P w k b c M):kind w b=1:=h.at.kind
theorem qJ.kept {X:List Nat}{w':World}(h:qJ P w k b c M) (hk:zb X w w') (hb:b ∉ X):qJ P w' k b c M:=by
 obtain⟨D,⟨es,clock,h1,h2⟩,hs,h3⟩:=h
 exact⟨D,⟨es,clock,hk.heap h1 hb,h2⟩,hs,h3⟩
theorem qJ.kept0 {w':World}(h:qJ P w k b c M) (hk:zb [] w w'):qJ P w' k b c M:=h.kept hk (List.not_mem_nil)
theorem mapIs_made (P:Program) (w:World) (k:Nat):qJ P (w.alloc (.map #[] 0)) k w.heap.size 0 (fun _=>none):=
 ⟨.map [],World.ownsMap_made _ _ _ _,rfl,fun kl=>⟨by simp [look,DataW.atKey],by simp [Maps.has]⟩⟩
theorem turned_kept {w':World}(h:w.mapTurned w' b):zb [b] w w'∧w'.heap.size=w.heap.size:=by
 refine⟨Wd.grown h.grown (fun k e=>by simp at e;simp [e]),?_⟩
 obtain⟨_,_,_,_,_,rfl⟩:=h
 simp [Go.ChangeMaps.setBlock]
theorem qJ.update {t e:TypeId}(h:qJ P w k b c M) (K:Keyed P k) (ht:P.underlying t=some (.map k e)) (hn:c<maxLen) {key:Value}{kl:Lit}(hkey:keyOf P k key=some kl) (val:Value) :
  ∃ w',(Instr.mapUpdate t (.map (some b)) key val).run P w = .ok () w'∧qJ P w' k b (if (M kl).isSome then c else c+1) (fun z=>if z.sameKey kl then some val else M z)∧zb [b] w w'∧w'.heap.size=w.heap.size:=by
 obtain⟨D,hown,hs,h3⟩:=h
 obtain⟨w',hrun,r1,r2⟩:=hown.store K ht hn hkey (val:=val) (R:=heldE) (d:=.held val) (ps:=[]) rfl
 have hsz:=Maps.size_put (k:=kl) (hown.tidy K) (.held val)
 rw [(h3 kl).2,hs] at hsz
 obtain⟨k1,k2⟩:=turned_kept r2
 refine⟨w',hrun,⟨_,?_,hsz,?_⟩,k1,k2⟩
 ·obtain⟨es,clock,hb,F,hle,e1⟩:=r1
  refine⟨es,clock,hb,F,?_,e1⟩
  rw [e1] at hsz
  rw [← hsz]
  simp [Maps.size,Go.length_sorted]
 ·intro z
  show (if z.sameKey kl then some val else M z)=look (D.put kl (.held val)) z∧Maps.has (D.put kl (.held val)) z=(if z.sameKey kl then some val else M z).isSome
  by_cases hz:z.sameKey kl=true
  ·have hz':=WideAt.sameKey_eq hz
   subst hz'
   rw [if_pos hz]
   refine⟨?_,Maps.has_put_same hown.isMap (bo K hkey) _⟩
   rw [look,Maps.atKey_put_same hown.isMap (bo K hkey)]
  ·have hne:z≠kl:=by
    intro e
    subst e
    exact hz (WideAt.sameKey_self (bo K hkey))
   rw [if_neg hz]
   exact⟨by rw [look,Maps.atKey_put_other hne];exact (h3 z).1,by rw [Maps.has_put_other hne];exact (h3 z).2⟩
end
end Go.Proofs.YtibnfbglanpoiaaGreatDoor

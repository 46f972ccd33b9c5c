/- Parts of one proof, merged: XVR XVF XQ XKA XKB XVS. -/
import Derived.Test.YtibnfbglanpoiaaGreatDoorQcA
import Derived.BigQuiet
import Derived.Deep.DeepCutAuto
import Derived.Deep.CutBlock
import Derived.Lib.ValidU
import Derived.Lib.ItoaLen
set_option linter.all false
set_option maxHeartbeats 12800000
set_option maxRecDepth 10000
set_option linter.unusedVariables false
set_option linter.unusedSimpArgs false
set_option linter.unnecessarySimpa false
namespace Go.Proofs.YtibnfbglanpoiaaGreatDoor
open Go.Proofs.Tryz
open Go.RowKit
def yJ (p:ByteArray × List Value):List Value:=.string p.1 :: p.2
def zX (l:List (ByteArray × List Value)):List Value:=l.flatMap yJ
def jY {α:Type}(R:List Value→α→Prop) (p:ByteArray × List Value) (q:ByteArray × α):Prop:=p.1=q.1∧R p.2 q.2
structure yF {α:Type}(R:List Value→α→Prop) (S:Nat→Prop) (w:World) (cs:List Value) (v:VS α) (vl vm:Value) (lcs:List (List Value)) (mcs:List (ByteArray × List Value)):Prop where
 cells:cs=[.int .i64 v.kind,.int .i64 v.num,.string v.s,vl,vm]
 slcl:Slc w 5 vl v.l.length lcs.flatten
 alll:zI R lcs v.l
 slcm:Slc w 6 vm v.m.length (zX mcs)
 allm:zI (jY R) mcs v.m
 inl:∀ g,yq vl=some g→S g
 inm:∀ g,yq vm=some g→S g
 wfk:(Lit.int .i64 v.kind).wf=true
 wfn:(Lit.int .i64 v.num).wf=true
def Rep:(n:Nat)→(Nat→Prop)→World→List Value→V n→Prop
 | 0,_,_,_,_=>False
 | n + 1,S,w,cs,(v:VS (V n))=>∃ vl vm lcs mcs,yF (Rep n S w) S w cs v vl vm lcs mcs
theorem Rep.open_ {n:Nat}{S:Nat→Prop}{w:World}{cs:List Value}{v:VS (V n)}(h:Rep (n + 1) S w cs v):∃ vl vm lcs mcs,yF (Rep n S w) S w cs v vl vm lcs mcs:=h
theorem Rep.five:∀ {n:Nat}{S:Nat→Prop}{w:World}{cs:List Value}{v:V n},Rep n S w cs v→∃ k m s vl vm,cs=[.int .i64 k,.int .i64 m,.string s,vl,vm]
 | 0,_,_,_,_,h=>h.elim
 | _ + 1,_,_,_,_,h=>by
  obtain⟨vl,vm,lcs,mcs,h⟩:=h
  exact⟨_,_,_,_,_,h.cells⟩
theorem Rep.len {n:Nat}{S:Nat→Prop}{w:World}{cs:List Value}{v:V n}(h:Rep n S w cs v):cs.length=5:=by
 obtain⟨k,m,s,vl,vm,rfl⟩:=h.five
 rfl
theorem Rep.kept:∀ {n:Nat}{S:Nat→Prop}{X:List Nat}{w w':World}{cs:List Value}{v:V n},Rep n S w cs v→zb X w w'→(∀ k,k ∈ X→¬ S k)→Rep n S w' cs v
 | 0,_,_,_,_,_,_,h,_,_=>h.elim
 | n + 1,S,X,w,w',cs,v,h,k,hX=>by
  obtain⟨vl,vm,lcs,mcs,h⟩:=h
  exact⟨vl,vm,lcs,mcs,{
   cells:=h.cells
   slcl:=h.slcl.kept k (fun g hg hx=>hX g hx (h.inl g hg))
   alll:=h.alll.mono fun _ _ _ r=>Rep.kept r k hX
   slcm:=h.slcm.kept k (fun g hg hx=>hX g hx (h.inm g hg))
   allm:=h.allm.mono fun _ _ _ r=>⟨r.1,Rep.kept r.2 k hX⟩
   inl:=h.inl
   inm:=h.inm
   wfk:=h.wfk
   wfn:=h.wfn }⟩
theorem Rep.kept0 {n:Nat}{S:Nat→Prop}{w w':World}{cs:List Value}{v:V n}(h:Rep n S w cs v) (k:zb [] w w'):Rep n S w' cs v:=h.kept k (by simp)
theorem Rep.mono:∀ {n:Nat}{S T:Nat→Prop}{w:World}{cs:List Value}{v:V n},Rep n S w cs v→(∀ k,k < w.heap.size→S k→T k)→Rep n T w cs v
 | 0,_,_,_,_,_,h,_=>h.elim
 | n + 1,S,T,w,cs,v,h,hT=>by
  obtain⟨vl,vm,lcs,mcs,h⟩:=h
  exact⟨vl,vm,lcs,mcs,{
   cells:=h.cells
   slcl:=h.slcl
   alll:=h.alll.mono fun _ _ _ r=>Rep.mono r hT
   slcm:=h.slcm
   allm:=h.allm.mono fun _ _ _ r=>⟨r.1,Rep.mono r.2 hT⟩
   inl:=fun g hg=>hT g (h.slcl.lt hg) (h.inl g hg)
   inm:=fun g hg=>hT g (h.slcm.lt hg) (h.inm g hg)
   wfk:=h.wfk
   wfn:=h.wfn }⟩
theorem zI.map_right {α β γ:Type}{R:α→β→Prop}{Q:α→γ→Prop}{f:β→γ}{xs:List α}{ys:List β}(h:zI R xs ys) (hf:∀ x y,R x y→Q x (f y)):zI Q xs (ys.map f):=by
 refine⟨by simp [h.1],?_⟩
 intro j x z hx hz
 rw [List.getElem?_map,Option.map_eq_some_iff] at hz
 obtain⟨y,hy,rfl⟩:=hz
 exact hf x y (h.2 j x y hx hy)
theorem Rep.up:∀ {n:Nat}{S:Nat→Prop}{w:World}{cs:List Value}{v:V n},Rep n S w cs v→Rep (n + 1) S w cs (Go.Proofs.YtibnfbglanpoiaaGreatDoor.up n v)
 | 0,_,_,_,_,h=>h.elim
 | n + 1,S,w,cs,v,h=>by
  obtain⟨vl,vm,lcs,mcs,h⟩:=h
  exact⟨vl,vm,lcs,mcs,{
   cells:=h.cells
   slcl:=by have:=h.slcl;show Slc w 5 vl (v.l.map _).length _;rw [List.length_map];exact this
   alll:=h.alll.map_right fun _ _ r=>Rep.up r
   slcm:=by have:=h.slcm;show Slc w 6 vm (v.m.map _).length _;rw [List.length_map];exact this
   allm:=h.allm.map_right fun _ _ r=>⟨r.1,Rep.up r.2⟩
   inl:=h.inl
   inm:=h.inm
   wfk:=h.wfk
   wfn:=h.wfn }⟩
theorem ku {size:Nat}:∀ (ls:List (List Value)) (j i:Nat),(∀ c,c ∈ ls→c.length=size)→(hj:j < ls.length)→i < size→ls.flatten[j * size + i]? = ls[j][i]?
 | [],j,i,_,hj,_=>by simp at hj
 | c :: ls,0,i,h,_,hi=>by
  have hc:=h c (List.mem_cons_self ..)
  rw [List.flatten_cons,Nat.zero_mul,Nat.zero_add,List.getElem?_append_left (by omega)]
  rfl
 | c :: ls,j + 1,i,h,hj,hi=>by
  have hc:=h c (List.mem_cons_self ..)
  rw [List.flatten_cons,List.getElem?_append_right (by rw [hc,Nat.add_mul];omega),hc,show (j + 1) * size + i - size=j * size + i by rw [Nat.add_mul];omega]
  exact ku ls j i (fun d hd=>h d (List.mem_cons_of_mem _ hd)) (by simpa using hj) hi
theorem vB {size:Nat}:∀ (ls:List (List Value)),(∀ c,c ∈ ls→c.length=size)→ls.flatten.length=ls.length * size
 | [],_=>by simp
 | c :: ls,h=>by
  rw [List.flatten_cons,List.length_append,vB ls (fun d hd=>h d (List.mem_cons_of_mem _ hd)),h c (List.mem_cons_self ..),List.length_cons,Nat.add_mul]
  omega
theorem qx (l:List (ByteArray × List Value)):zX l=(l.map yJ).flatten:=by simp [zX,List.flatMap]
section
variable {n : Nat} {S : Nat → Prop} {w : World} {cs : List Value} {v : VS (V n)} {vl vm : Value} {lcs : List (List Value)} {mcs : List (ByteArray × List Value)}
theorem yF.lens (h:yF (Rep n S w) S w cs v vl vm lcs mcs):lcs.length=v.l.length∧mcs.length=v.m.length:=⟨h.alll.1,h.allm.1⟩
theorem yF.five_l (h:yF (Rep n S w) S w cs v vl vm lcs mcs):∀ c,c ∈ lcs→c.length=5:=by
 intro c hc
 obtain⟨j,hj,rfl⟩:=List.getElem_of_mem hc
 exact (h.alll.2 j _ _ (List.getElem?_eq_getElem hj) (List.getElem?_eq_getElem (by rw [← h.alll.1];exact hj))).len
theorem yF.six_m (h:yF (Rep n S w) S w cs v vl vm lcs mcs):∀ c,c ∈ mcs.map yJ→c.length=6:=by
 intro c hc
 obtain⟨p,hp,rfl⟩:=List.mem_map.1 hc
 obtain⟨j,hj,rfl⟩:=List.getElem_of_mem hp
 have:=(h.allm.2 j _ _ (List.getElem?_eq_getElem hj) (List.getElem?_eq_getElem (by rw [← h.allm.1];exact hj))).2.len
 simp [yJ,this]
theorem yF.at_lx (h:yF (Rep n S w) S w cs v vl vm lcs mcs) {w':World}(k:zb [] w w') (j:Nat) (hj:j < v.l.length) :
  ∃ g o cap kd nm s a b,vl = .slice (some ⟨g,o,none⟩) v.l.length cap∧w'.cell? ⟨g,o + j * 5,none⟩=some (.int .i64 kd)∧w'.cell? ⟨g,o + j * 5 + 1,none⟩=some (.int .i64 nm)∧w'.cell? ⟨g,o + j * 5 + 2,none⟩=some (.string s) ∧
   w'.cell? ⟨g,o + j * 5 + 3,none⟩=some a∧w'.cell? ⟨g,o + j * 5 + 4,none⟩=some b∧Rep n S w' [.int .i64 kd,.int .i64 nm,.string s,a,b] v.l[j]∧lcs[j]? = some [.int .i64 kd,.int .i64 nm,.string s,a,b]:=by
 have hj':j < lcs.length:=by rw [h.lens.1];exact hj
 have hr:=h.alll.2 j _ _ (List.getElem?_eq_getElem hj') (List.getElem?_eq_getElem hj)
 obtain⟨kd,nm,s,a,b,e⟩:=hr.five
 rcases (h.slcl.kept0 k).2 with ⟨_,h0⟩ | ⟨h0,_⟩ | ⟨g,o,cap,hsv,_,_,hrow⟩
 ·omega
 ·omega
 have hc:∀ i,i < 5→lcs.flatten[j * 5 + i]? = lcs[j][i]?:=fun i hi=>ku lcs j i h.five_l hj' hi
 rw [e] at hc hr
 refine⟨g,o,cap,kd,nm,s,a,b,hsv,?_,?_,?_,?_,?_,hr.kept0 k,by rw [List.getElem?_eq_getElem hj',e]⟩
 ·exact hrow.cells (j * 5 + 0) _ (hc 0 (by decide))
 all_goals rw [Nat.add_assoc]
 ·exact hrow.cells (j * 5 + 1) _ (hc 1 (by decide))
 ·exact hrow.cells (j * 5 + 2) _ (hc 2 (by decide))
 ·exact hrow.cells (j * 5 + 3) _ (hc 3 (by decide))
 ·exact hrow.cells (j * 5 + 4) _ (hc 4 (by decide))
theorem yF.at_l (h:yF (Rep n S w) S w cs v vl vm lcs mcs) {w':World}(k:zb [] w w') (j:Nat) (hj:j < v.l.length) :
  ∃ g o cap kd nm s a b,vl = .slice (some ⟨g,o,none⟩) v.l.length cap∧w'.cell? ⟨g,o + j * 5,none⟩=some (.int .i64 kd)∧w'.cell? ⟨g,o + j * 5 + 1,none⟩=some (.int .i64 nm)∧w'.cell? ⟨g,o + j * 5 + 2,none⟩=some (.string s) ∧
   w'.cell? ⟨g,o + j * 5 + 3,none⟩=some a∧w'.cell? ⟨g,o + j * 5 + 4,none⟩=some b∧Rep n S w' [.int .i64 kd,.int .i64 nm,.string s,a,b] v.l[j]:=by
 obtain⟨g,o,cap,kd,nm,s,a,b,h0,h1,h2,h3,h4,h5,h6,_⟩:=h.at_lx k j hj
 exact⟨g,o,cap,kd,nm,s,a,b,h0,h1,h2,h3,h4,h5,h6⟩
theorem yF.at_mx (h:yF (Rep n S w) S w cs v vl vm lcs mcs) {w':World}(k:zb [] w w') (j:Nat) (hj:j < v.m.length) :
  ∃ g o cap kd nm s a b,vm = .slice (some ⟨g,o,none⟩) v.m.length cap∧w'.cell? ⟨g,o + j * 6,none⟩=some (.string v.m[j].1)∧w'.cell? ⟨g,o + j * 6 + 1,none⟩=some (.int .i64 kd)∧w'.cell? ⟨g,o + j * 6 + 2,none⟩=some (.int .i64 nm)∧w'.cell? ⟨g,o + j * 6 + 3,none⟩=some (.string s) ∧
   w'.cell? ⟨g,o + j * 6 + 4,none⟩=some a∧w'.cell? ⟨g,o + j * 6 + 5,none⟩=some b∧Rep n S w' [.int .i64 kd,.int .i64 nm,.string s,a,b] v.m[j].2∧mcs[j]? = some (v.m[j].1,[.int .i64 kd,.int .i64 nm,.string s,a,b]):=by
 have hj':j < mcs.length:=by rw [h.lens.2];exact hj
 have hr:=h.allm.2 j _ _ (List.getElem?_eq_getElem hj') (List.getElem?_eq_getElem hj)
 obtain⟨kd,nm,s,a,b,e⟩:=hr.2.five
 rcases (h.slcm.kept0 k).2 with ⟨_,h0⟩ | ⟨h0,_⟩ | ⟨g,o,cap,hsv,_,_,hrow⟩
 ·omega
 ·omega
 have hc:∀ i,i < 6→(zX mcs)[j * 6 + i]? = (yJ mcs[j])[i]?:=fun i hi=>by
  rw [qx,ku (mcs.map yJ) j i h.six_m (by simpa using hj') hi,List.getElem_map]
 have e2:yJ mcs[j]=[.string v.m[j].1,.int .i64 kd,.int .i64 nm,.string s,a,b]:=by
  show Value.string mcs[j].1 :: mcs[j].2=_
  rw [e,hr.1]
 have hr2:=hr.2
 rw [e] at hr2
 rw [e2] at hc
 refine⟨g,o,cap,kd,nm,s,a,b,hsv,?_,?_,?_,?_,?_,?_,hr2.kept0 k,by rw [List.getElem?_eq_getElem hj'];exact congrArg some (Prod.ext hr.1 e)⟩
 ·exact hrow.cells (j * 6 + 0) _ (hc 0 (by decide))
 all_goals rw [Nat.add_assoc]
 ·exact hrow.cells (j * 6 + 1) _ (hc 1 (by decide))
 ·exact hrow.cells (j * 6 + 2) _ (hc 2 (by decide))
 ·exact hrow.cells (j * 6 + 3) _ (hc 3 (by decide))
 ·exact hrow.cells (j * 6 + 4) _ (hc 4 (by decide))
 ·exact hrow.cells (j * 6 + 5) _ (hc 5 (by decide))
theorem yF.at_m (h:yF (Rep n S w) S w cs v vl vm lcs mcs) {w':World}(k:zb [] w w') (j:Nat) (hj:j < v.m.length) :
  ∃ g o cap kd nm s a b,vm = .slice (some ⟨g,o,none⟩) v.m.length cap∧w'.cell? ⟨g,o + j * 6,none⟩=some (.string v.m[j].1)∧w'.cell? ⟨g,o + j * 6 + 1,none⟩=some (.int .i64 kd)∧w'.cell? ⟨g,o + j * 6 + 2,none⟩=some (.int .i64 nm)∧w'.cell? ⟨g,o + j * 6 + 3,none⟩=some (.string s) ∧
   w'.cell? ⟨g,o + j * 6 + 4,none⟩=some a∧w'.cell? ⟨g,o + j * 6 + 5,none⟩=some b∧Rep n S w' [.int .i64 kd,.int .i64 nm,.string s,a,b] v.m[j].2:=by
 obtain⟨g,o,cap,kd,nm,s,a,b,h0,h1,h2,h3,h4,h5,h6,h7,_⟩:=h.at_mx k j hj
 exact⟨g,o,cap,kd,nm,s,a,b,h0,h1,h2,h3,h4,h5,h6,h7⟩
theorem yF.forms (h:yF (Rep n S w) S w cs v vl vm lcs mcs):∃ a c b d,vl = .slice a v.l.length c∧vm = .slice b v.m.length d∧cs=[.int .i64 v.kind,.int .i64 v.num,.string v.s,.slice a v.l.length c,.slice b v.m.length d]:=by
 obtain⟨a,c,e1,-,-⟩:=h.slcl.form
 obtain⟨b,d,e2,-,-⟩:=h.slcm.form
 exact⟨a,c,b,d,e1,e2,by rw [h.cells,e1,e2]⟩
end
theorem YC {n:Nat}(S:Nat→Prop) (w:World) (v:VS (V n)) (hl:v.l=[]) (hm:v.m=[]) (hk:(Lit.int .i64 v.kind).wf=true) (hn:(Lit.int .i64 v.num).wf=true):Rep (n + 1) S w [.int .i64 v.kind,.int .i64 v.num,.string v.s,.slice none 0 0,.slice none 0 0] v:=
 ⟨.slice none 0 0,.slice none 0 0,[],[],{
  cells:=rfl
  slcl:=by rw [hl];exact xn _ _
  alll:=by rw [hl];exact zI.nil _
  slcm:=by rw [hm];exact xn _ _
  allm:=by rw [hm];exact zI.nil _
  inl:=by simp [yq]
  inm:=by simp [yq]
  wfk:=hk
  wfn:=hn }⟩
theorem zI.pick {α β γ:Type}{R:α→β→Prop}{Q:α→γ→Prop}:∀ (xs:List α) (ys:List β),zI R xs ys→(∀ x y,y ∈ ys→R x y→∃ z,Q x z)→∃ zs,zI Q xs zs
 | [],_,_,_=>⟨[],zI.nil _⟩
 | x :: xs,[],h,_=>by have:=h.1;simp at this
 | x :: xs,y :: ys,h,hq=>by
  obtain⟨z,hz⟩:=hq x y (List.mem_cons_self ..) (h.2 0 x y rfl rfl)
  obtain⟨zs,hzs⟩:=zI.pick xs ys ⟨by simpa using h.1,fun j a b ha hb=>h.2 (j + 1) a b (by simpa using ha) (by simpa using hb)⟩ (fun a b hb=>hq a b (List.mem_cons_of_mem _ hb))
  exact⟨z :: zs,hzs.cons hz⟩
def vu (n:Nat) (B:Nat) (S:Nat→Prop) (w:World) (cs:List Value) (v:V n):Prop:=Rep n S w cs v∧qA B n v
theorem vu.fit:∀ (n d:Nat) {B:Nat}{S:Nat→Prop}{w:World}{cs:List Value}{v:V n},vu n B S w cs v→zy n v≤d→∃ v':V d,vu d B S w cs v'
 | 0,_,_,_,_,_,_,h,_=>h.1.elim
 | n + 1,0,_,_,_,_,v,_,hd=>by
  have:zy (n + 1) v=1 + qB (VS.kids (α:=V n) v |>.map (zy n)):=rfl
  omega
 | n + 1,d + 1,B,S,w,cs,v,h,hd=>by
  obtain⟨⟨vl,vm,lcs,mcs,h⟩,ht⟩:=h
  obtain⟨t1,t2,t3⟩:=ht
  have hk:∀ x,x ∈ VS.kids (α:=V n) v→zy n x≤d:=fun x hx=>by have:=depthV_kid hx;omega
  obtain⟨zl,hl⟩:=zI.pick (Q:=fun x (z:V d)=>vu d B S w x z) _ _ h.alll (fun x y hy hr=>vu.fit n d (v:=y) ⟨hr,t3 y (kE hy)⟩ (hk y (kE hy)))
  obtain⟨zm,hm⟩:=zI.pick (Q:=fun x (z:ByteArray × V d)=>jY (vu d B S w) x z∧z.1.size≤B) _ _ h.allm (fun x y hy hr=>by
   obtain⟨z,hz⟩:=vu.fit n d (v:=y.2) ⟨hr.2,t3 _ (kD hy)⟩ (hk _ (kD hy))
   exact⟨(y.1,z),⟨hr.1,hz⟩,t2 y hy⟩)
  have el:zl.length=(VS.l (α:=V n) v).length:=hl.1.symm.trans h.alll.1
  have em:zm.length=(VS.m (α:=V n) v).length:=hm.1.symm.trans h.allm.1
  have getl:∀ x,x ∈ zl→qA B d x:=fun x hx=>by
   obtain⟨j,hj,rfl⟩:=List.getElem_of_mem hx
   exact (hl.2 j _ _ (List.getElem?_eq_getElem (by rw [hl.1];exact hj)) (List.getElem?_eq_getElem hj)).2
  have getm:∀ p,p ∈ zm→qA B d p.2∧p.1.size≤B:=fun x hx=>by
   obtain⟨j,hj,rfl⟩:=List.getElem_of_mem hx
   have:=hm.2 j _ _ (List.getElem?_eq_getElem (by rw [hm.1];exact hj)) (List.getElem?_eq_getElem hj)
   exact⟨this.1.2.2,this.2⟩
  refine⟨(⟨VS.kind (α:=V n) v,VS.num (α:=V n) v,VS.s (α:=V n) v,zl,zm⟩:VS (V d)),⟨vl,vm,lcs,mcs,{
   cells:=h.cells
   slcl:=by have:=h.slcl;rw [← el] at this;exact this
   alll:=hl.mono fun _ _ _ r=>r.1
   slcm:=by have:=h.slcm;rw [← em] at this;exact this
   allm:=hm.mono fun _ _ _ r=>⟨r.1.1,r.1.2.1⟩
   inl:=h.inl
   inm:=h.inm
   wfk:=h.wfk
   wfn:=h.wfn }⟩,⟨t1.1,by rw [el];exact t1.2.1,by rw [em];exact t1.2.2⟩,fun p hp=>(getm p hp).2,fun x hx=>?_⟩
  rcases List.mem_append.1 hx with hx | hx
  ·exact getl x hx
  ·obtain⟨p,hp,rfl⟩:=List.mem_map.1 hx
   exact (getm p hp).1
structure Ext (W:World) where
 w:World
 k:zb [] W w
instance extInh (W:World):Nonempty (Ext W):=⟨⟨W,zb.refl _ _⟩⟩
theorem yo {P:Program}{id:Nat}{Q:Exit→Act→World→Prop}{a:Act}{w:World}{l:List Oper}(W:World) (hm:P.follows .mixedOrders=true) (hB:Region.lexB .any l.toArray=true) (hC:zb [] W w)
  (h:wpQuiet P l.toArray (fun w'=>∃ z:Ext W,w'=z.w) (fun a'=>∀ w',zb [] W w'→Q .normal a' w') l a):(Code.region id l.toArray true).wp P Q a w:=
 wp_region_quiet (C:=fun w'=>∃ z:Ext W,w'=z.w) hm hB ⟨⟨_,hC.drew⟩,rfl⟩ (by
  have e:(fun a':Act=>∀ w',(∃ z:Ext W,w'=z.w)→Q .normal a' w')=fun a'=>∀ w',zb [] W w'→Q .normal a' w':=funext fun a'=>propext ⟨fun h w' k=>h w' ⟨⟨w',k⟩,rfl⟩,fun h w' ⟨z,e⟩=>e ▸ h z.w z.k⟩
  rw [e]
  simpa using h)
theorem zx {W:World}{p:Addr}{v:Value}(h:W.cell? p=some v):∀ z:Ext W,z.w.cell? p=some v:=fun z=>z.k.cell h (by simp)
theorem bU {P:Program}{f:FuncId}{args:Array Value}{W:World}{z:Ext W}{v:Value}(h:Calls P f args z.w fun e w'=>e = .returned v∧zb [] z.w w') :
  Calls P f args z.w fun e w''=>e = .returned v∧∃ z':Ext W,w''=z'.w:=
 h.mono fun _ _ ⟨h1,h2⟩=>⟨h1,⟨_,z.k.trans' h2⟩,rfl⟩
theorem ext_same {P:Program}{f:FuncId}{args:Array Value}{W:World}{z:Ext W}{v:Value}(h:Calls P f args z.w fun e w'=>e = .returned v∧z.w=w') :
  Calls P f args z.w fun e w''=>e = .returned v∧∃ z':Ext W,w''=z'.w:=
 h.mono fun _ _ ⟨h1,h2⟩=>⟨h1,z,h2.symm⟩
structure qf (w:World) (g:Nat) (k m:Int) (s:ByteArray) (a b:Value):Prop where
 c0:w.cell? ⟨g,0,none⟩=some (.int .i64 k)
 c1:w.cell? ⟨g,1,none⟩=some (.int .i64 m)
 c2:w.cell? ⟨g,2,none⟩=some (.string s)
 c3:w.cell? ⟨g,3,none⟩=some a
 c4:w.cell? ⟨g,4,none⟩=some b
theorem yQ (w:World) (k m:Int) (s:ByteArray) (a b:Value) (t:Nat):qf (w.alloc (.cells #[.int .i64 k,.int .i64 m,.string s,a,b] t)) w.heap.size k m s a b:=by
 have hb:=heap_alloc_new w (.cells #[.int .i64 k,.int .i64 m,.string s,a,b] t)
 exact⟨za hb rfl,za hb rfl,za hb rfl,za hb rfl,za hb rfl⟩
theorem qf.kept {w w':World}{g:Nat}{k m:Int}{s:ByteArray}{a b:Value}(h:qf w g k m s a b) {X:List Nat}(hk:zb X w w') (hX:g ∉ X):qf w' g k m s a b:=
 ⟨hk.cell h.c0 hX,hk.cell h.c1 hX,hk.cell h.c2 hX,hk.cell h.c3 hX,hk.cell h.c4 hX⟩
theorem qf.kept0 {w w':World}{g:Nat}{k m:Int}{s:ByteArray}{a b:Value}(h:qf w g k m s a b) (hk:zb [] w w'):qf w' g k m s a b:=h.kept hk (by simp)
def BB:Nat:=1125899906842624
theorem QO {n d:Nat}{v:V n}(h:qA BB n v) (hd:d≤21):zF n d v≤50000000000000000:=by
 have h1:=large_le (B:=BB) n d v h
 have h2:(22 - d) * (20000 + 2 * BB)≤22 * (20000 + 2 * BB):=Nat.mul_le_mul_right _ (by omega)
 have h3:BB=1125899906842624:=rfl
 rw [h3] at h1 h2
 omega
def jL (n : Nat) : Prop := ∀ (v : V n) {S : Nat → Prop} {w : World} {cs : List Value} {d : Nat}, Rep n S w cs v → qA BB n v → d ≤ 21 →
    Calls Tryz.prog 67 #[.agg cs.toArray,.int .i64 d] w fun e w'=>e = .returned (.int .i64 (zF n d v))∧zb [] w w'
set_option maxHeartbeats 16000000 in
theorem Ki {n:Nat}(known:jL n):jL (n + 1):=fun (v:VS (V n)) {S}{w}{cs}{d} h ht hd=>by
  obtain⟨vl,vm,lcs,mcs,h⟩:=h
  obtain⟨a,c,b,e,rfl,rfl,rfl⟩:=h.forms
  have H:=qI h
  have HT:=qI ht
  have IH:=qI known
  have heq:Hid (zF (n + 1) d v=if 20 < d∨3000 < v.l.length + v.m.length then 10000 else goL (qK (zF n (d + 1))) (goL (zF n (d + 1)) (1 + v.s.size / 10) v.l) v.m):=qI rfl
  have hbox:=yQ w v.kind v.num v.s (.slice a v.l.length c) (.slice b v.m.length e) 25
  obtain⟨⟨ht1,ht2,ht3⟩,-,-⟩:=ht
  simp only [BB] at ht1 ht2 ht3
  have hsum:IntKind.i64.wrap ((v.l.length:Int) + v.m.length)=(v.l.length:Int) + v.m.length:=by
   rw [IntKind.wrap_i64] <;> omega
  clear h
  obtain⟨c0,c1,c2,c3,c4⟩:=hbox
  by_cases hd20:20 < d
  ·have hd':(20:Int) < d:=by omega
   go_enter func67,ntmps67
   go_wp2_with fail
   go_ret
   rw [heq.o,if_pos (.inl hd20)]
   exact⟨rfl,(zb.refl _ w).alloc _⟩
  by_cases hmany:3000 < v.l.length + v.m.length
  ·have hd':(d:Int)≤20:=by omega
   have hm':(3000:Int) < (v.l.length:Int) + v.m.length:=by omega
   go_enter func67,ntmps67
   go_wp2_with fail
   go_ret
   rw [heq.o,if_pos (.inr hmany)]
   exact⟨rfl,(zb.refl _ w).alloc _⟩
  have heq:=qI (heq.o.trans (if_neg (by omega)))
  have hd':(d:Int)≤20:=by omega
  have hm':(v.l.length:Int) + v.m.length≤3000:=by omega
  have hquo:((v.s.size:Int)).tdiv 10=((v.s.size / 10:Nat):Int):=by rw [Int.tdiv_eq_ediv_of_nonneg (by omega)];omega
  go_enter func67,ntmps67
  go_upto_block 0 with fail
  go_cut [5,6] from 25 to 45 (fun x i wr=>(∃ k:Nat,i = .int .i64 k)∧∃ X:Nat,x = .int .i64 X∧X≤60000000000000000∧X=goL (zF n (d + 1)) (1 + v.s.size / 10) v.l∧zb [] (w.alloc (.cells #[.int .i64 v.kind,.int .i64 v.num,.string v.s,.slice a v.l.length c,.slice b v.m.length e] 25)) wr)
  case first=>
   go_wp2_with fail
   go_loopw [5,6] (fun x i wr=>∃ k X:Nat,i = .int .i64 k∧k≤v.l.length∧x = .int .i64 X∧X≤60000000000000000∧goL (zF n (d + 1)) X (v.l.drop k)=goL (zF n (d + 1)) (1 + v.s.size / 10) v.l∧zb [] (w.alloc (.cells #[.int .i64 v.kind,.int .i64 v.num,.string v.s,.slice a v.l.length c,.slice b v.m.length e] 25)) wr) (fun _ i _=>v.l.length - (intOf i).toNat)
   case atStart=>exact⟨0,1 + v.s.size / 10,rfl,Nat.zero_le _,by go_num,by omega,rfl,zb.refl _ _⟩
   case round=>
    obtain⟨k,X,rfl,hk,rfl,hX,hg,hkr⟩:=hrel
    have Gb:=qI (((zb.refl [] w).alloc _).trans' hkr)
    obtain⟨b0,b1,b2,b3,b4⟩:=(yQ w v.kind v.num v.s (.slice a v.l.length c) (.slice b v.m.length e) 25).kept0 hkr
    have Ga:=qI hkr
    clear c0 c1 c2 c3 c4 hkr
    by_cases hgo:k < v.l.length∧X≤6000
    ·obtain⟨hlt,hx⟩:=hgo
     have hltI:(k:Int) < v.l.length:=by omega
     have hxI:(X:Int)≤6000:=by omega
     obtain⟨g,o,cap,kd,nm,st,a1,b1',he,q0,q1,q2,q3,q4,hr⟩:=H.o.at_l Gb.o k hlt
     simp only [Value.slice.injEq] at he
     obtain⟨rfl,-,rfl⟩:=he
     have hkT:=HT.o.2.2 _ (kE (List.getElem_mem hlt))
     have cl:=IH.o v.l[k] (d:=d + 1) hr hkT (by omega)
     rw [show ((d + 1:Nat):Int)=(d:Int) + 1 from rfl] at cl
     have CL:=qI cl
     have hY:=QO (d:=d + 1) hkT (by omega)
     have HD:Hid (goL (zF n (d + 1)) (X + zF n (d + 1) v.l[k]) (v.l.drop (k + 1))=goL (zF n (d + 1)) (1 + v.s.size / 10) v.l):=qI (by
      rw [← hg,List.drop_eq_getElem_cons hlt]
      conv=>rhs;unfold goL
      rw [if_pos hx])
     clear cl hr hkT hg
     revert CL hY HD
     generalize zF n (d + 1) v.l[k]=Y
     intro CL hY HD
     go_wp2_with (go_at_call 67;refine CL.o.mono ?_;rintro e w2 ⟨rfl,hk2⟩)
     case roundEnd=>exact⟨⟨k + 1,X + Y,by go_num,by omega,by go_num,by omega,HD.o,Ga.o.then hk2⟩,by simp [intOf];omega⟩
    ·have hXe:X=goL (zF n (d + 1)) (1 + v.s.size / 10) v.l:=by
      rw [← hg]
      rcases Nat.lt_or_ge k v.l.length with h1 | h1
      ·exact (goL_stop _ (by omega) _).symm
      ·rw [List.drop_eq_nil_iff.2 h1];rfl
     have hsp:((k:Int) < v.l.length∧(6000:Int) < X)∨(v.l.length:Int)≤k:=by omega
     clear hg hgo
     have HX:=qI hXe
     clear hXe
     rcases hsp with ⟨s1,s2⟩ | s1
     all_goals
      go_wp2_with fail
      go_meet
      exact⟨⟨k,rfl⟩,X,rfl,hX,HX.o,Ga.o⟩
  case rest=>
    obtain⟨⟨k,rfl⟩,X,rfl,hX,hXe,hkr⟩:=hcut
    have HX:=qI hXe
    have Ga:=qI hkr
    clear hXe hkr c0 c1 c2 c3 c4
    obtain⟨b0,b1,b2,b3,b4⟩:=(yQ w v.kind v.num v.s (.slice a v.l.length c) (.slice b v.m.length e) 25).kept0 Ga.o
    have Gb:=qI (((zb.refl [] w).alloc _).trans' Ga.o)
    go_wp2_with fail
    go_loopw [5,7] (fun x i wr=>∃ k Y:Nat,i = .int .i64 k∧k≤v.m.length∧x = .int .i64 Y∧Y≤120000000000000000∧goL (qK (zF n (d + 1))) Y (v.m.drop k)=goL (qK (zF n (d + 1))) X v.m∧zb [] (w.alloc (.cells #[.int .i64 v.kind,.int .i64 v.num,.string v.s,.slice a v.l.length c,.slice b v.m.length e] 25)) wr) (fun _ i _=>v.m.length - (intOf i).toNat)
    case atStart=>exact⟨0,X,rfl,Nat.zero_le _,rfl,by omega,rfl,Ga.o⟩
    case round=>
     obtain⟨k2,Y,rfl,hk2,rfl,hY,hg,hkr⟩:=hrel
     clear Ga Gb b0 b1 b2 b3 b4
     have Gb:=qI (((zb.refl [] w).alloc _).trans' hkr)
     obtain⟨b0,b1,b2,b3,b4⟩:=(yQ w v.kind v.num v.s (.slice a v.l.length c) (.slice b v.m.length e) 25).kept0 hkr
     have Ga:=qI hkr
     clear hkr
     by_cases hgo:k2 < v.m.length∧Y≤6000
     ·obtain⟨hlt,hx⟩:=hgo
      have hltI:(k2:Int) < v.m.length:=by omega
      have hxI:(Y:Int)≤6000:=by omega
      obtain⟨g,o,cap,kd,nm,st,a1,b1',he,q0,q1,q2,q3,q4,q5,hr⟩:=H.o.at_m Gb.o k2 hlt
      simp only [Value.slice.injEq] at he
      obtain⟨rfl,-,rfl⟩:=he
      have hkT:=HT.o.2.2 _ (kD (List.getElem_mem hlt))
      have hkS:=HT.o.2.1 _ (List.getElem_mem hlt)
      simp only [BB] at hkS
      have hZ:=QO (d:=d + 1) hkT (by omega)
      have HD:Hid (goL (qK (zF n (d + 1))) (Y + qK (zF n (d + 1)) v.m[k2]) (v.m.drop (k2 + 1))=goL (qK (zF n (d + 1))) X v.m):=qI (by
       rw [← hg,List.drop_eq_getElem_cons hlt]
       conv=>rhs;unfold goL
       rw [if_pos hx])
      have Gc:=qI hr
      have Gk:=qI hkT
      clear hr hkT hg
      unfold qK at HD
      revert q0 Gc Gk hkS hZ HD
      generalize v.m[k2]=pr
      obtain⟨key,kid⟩:=pr
      intro q0 hkS hZ HD Gc Gk
      simp only at q0 hkS hZ HD Gc Gk
      go_wp2_with fail
      have e0:=zx b4
      have e1:=zx q0
      have CL:∀ z:Ext wr,Calls Tryz.prog 67 #[.agg #[.int .i64 kd,.int .i64 nm,.string st,a1,b1'],.int .i64 ((d:Int) + 1)] z.w fun e w'=>e = .returned (.int .i64 (zF n (d + 1) kid))∧zb [] z.w w':=fun z=>IH.o kid (d:=d + 1) (Gc.o.kept0 z.k) Gk.o (by omega)
      have e2:=zx q1
      have e3:=zx q2
      have e4:=zx q3
      have e5:=zx q4
      have e6:=zx q5
      revert CL hZ HD
      generalize zF n (d + 1) kid=Z
      intro hZ HD CL
      have hKS:(key.size:Int)≤1125899906842624:=by omega
      refine yo wr (by kernel_rfl) (by kernel_rfl) (zb.refl _ _) ?_
      clear b0 b1 b2 b3 b4 q0 q1 q2 q3 q4 q5
      repeat go_big_quiet_step ((go_at_call 67;exact bU (CL _)))
      refine wpQuiet_nil ?_
      intro w2 hk2'
      go_wp2_with fail
      case roundEnd=>exact⟨⟨k2 + 1,Y + (1 + key.size / 10 + Z),by go_num,by omega,by go_num,by omega,HD.o,Ga.o.then hk2'⟩,by simp [intOf];omega⟩
     ·have hYe:Y=goL (qK (zF n (d + 1))) X v.m:=by
       rw [← hg]
       rcases Nat.lt_or_ge k2 v.m.length with h1 | h1
       ·exact (goL_stop _ (by omega) _).symm
       ·rw [List.drop_eq_nil_iff.2 h1];rfl
      have hsp:((k2:Int) < v.m.length∧(6000:Int) < Y)∨(v.m.length:Int)≤k2:=by omega
      clear hg hgo
      have HY:=qI hYe
      clear hYe
      rcases hsp with ⟨t1,t2⟩ | t1
      all_goals
       go_wp2_with fail
       go_ret
       have hfin:zF (n + 1) d v=Y:=by
        rw [heq.o,← HX.o]
        exact HY.o.symm
       rw [hfin]
       exact⟨rfl,Gb.o⟩
theorem bB:∀ (n:Nat),jL n
 | 0=>fun v {_}{_}{_}{_} h _ _=>h.elim
 | n + 1=>Ki (bB n)
theorem large_any:∀ (n:Nat) (v:V n) {S:Nat→Prop}{w:World}{cs:List Value}{d:Nat},Rep n S w cs v→qA BB n v→d≤21 →
  Calls Tryz.prog 67 #[.agg cs.toArray,.int .i64 d] w fun e w'=>e = .returned (.int .i64 (zF n d v))∧zb [] w w':=fun n=>bB n
theorem tyVals:yR Tryz.prog 22 25 5 80 (.agg #[.int .i64 0,.int .i64 0,.string ByteArray.empty,.slice none 0 0,.slice none 0 0]):=⟨underlying22,by kernel_rfl,by kernel_rfl,by decide⟩
theorem jh:yR Tryz.prog 23 132 6 96 (.agg #[.string ByteArray.empty,.int .i64 0,.int .i64 0,.string ByteArray.empty,.slice none 0 0,.slice none 0 0]):=⟨underlying23,by kernel_rfl,by kernel_rfl,by decide⟩
theorem Rep.one {n:Nat}{S:Nat→Prop}{w:World}{cs:List Value}{v:V n}(h:Rep n S w cs v):∀ u ∈ cs,u.oneCell'=true:=by
 match n,v,h with
 | n + 1,v,h=>
  obtain⟨vl,vm,lcs,mcs,h⟩:=h
  obtain⟨a,c,b,d,_,_,rfl⟩:=h.forms
  intro u hu
  simp only [List.mem_cons,List.not_mem_nil,or_false] at hu
  rcases hu with rfl | rfl | rfl | rfl | rfl <;> rfl
theorem zI.mem_left {α β:Type}{R:α→β→Prop}{xs:List α}{ys:List β}(h:zI R xs ys) {x:α}(hx:x ∈ xs):∃ y,y ∈ ys∧R x y:=by
 obtain⟨j,hj,rfl⟩:=List.getElem_of_mem hx
 have hj':j < ys.length:=by rw [← h.1];exact hj
 exact⟨ys[j],List.getElem_mem hj',h.2 j _ _ (List.getElem?_eq_getElem hj) (List.getElem?_eq_getElem hj')⟩
theorem zI.map_both {α β γ δ:Type}{R:α→β→Prop}{Q:γ→δ→Prop}{f:α→γ}{g:β→δ}{xs:List α}{ys:List β}(h:zI R xs ys) (hf:∀ x y,R x y→Q (f x) (g y)):zI Q (xs.map f) (ys.map g):=by
 refine⟨by simp [h.1],?_⟩
 intro j x z hx hz
 rw [List.getElem?_map,Option.map_eq_some_iff] at hx hz
 obtain⟨x,hx,rfl⟩:=hx
 obtain⟨y,hy,rfl⟩:=hz
 exact hf x y (h.2 j x y hx hy)
theorem flat_one {R:List Value→Prop}{ls:List (List Value)}(h:∀ c,c ∈ ls→∀ u ∈ c,u.oneCell'=true):∀ u ∈ ls.flatten,u.oneCell'=true:=by
 intro u hu
 obtain⟨c,hc,hu⟩:=List.mem_flatten.1 hu
 exact h c hc u hu
theorem jT {t size g base:Nat}(W:World) (hg:W.heap.size=g) (hb:base≤g):(W.alloc (.cells #[] t)).ownsRow base t size (.slice (some ⟨g,0,none⟩) 0 0) 0 []:=by
 subst hg
 exact World.ownsRow_made W #[] 0 hb (by decide) (by simp)
def kidsC (lcs:List (List Value)) (mcs:List (ByteArray × List Value)):List (List Value):=lcs ++ mcs.map (fun p=>p.2)
section
variable {n : Nat} {S : Nat → Prop} {w : World} {cs : List Value} {v : VS (V n)} {vl vm : Value} {lcs : List (List Value)} {mcs : List (ByteArray × List Value)}
theorem yF.kids (h:yF (Rep n S w) S w cs v vl vm lcs mcs):zI (Rep n S w) (kidsC lcs mcs) v.kids:=
 h.alll.app (h.allm.map_both fun _ _ r=>r.2)
theorem yF.ones (h:yF (Rep n S w) S w cs v vl vm lcs mcs):∀ u ∈ lcs.flatten,u.oneCell'=true:=
 flat_one (R:=fun _=>True) fun c hc=>by
  obtain⟨y,_,hr⟩:=h.alll.mem_left hc
  exact hr.one
end
def ZP (n:Nat) (w:World) (x:Value) (vs:List (V n)):Prop:=∃ lcs,Slc w 5 x vs.length lcs.flatten∧zI (Rep n (fun _=>True) w) lcs vs
theorem Slc.at5 {w:World}{x:Value}{m:Nat}{lcs:List (List Value)}(h:Slc w 5 x m lcs.flatten) (h5:∀ c,c ∈ lcs→c.length=5) {j:Nat}(hj:j < lcs.length) {k i:Int}{s:ByteArray}{a b:Value}(e:lcs[j]=[.int .i64 k,.int .i64 i,.string s,a,b]) :
  ∃ g o cap,x = .slice (some ⟨g,o,none⟩) m cap∧w.cell? ⟨g,o + j * 5,none⟩=some (.int .i64 k)∧w.cell? ⟨g,o + j * 5 + 1,none⟩=some (.int .i64 i)∧w.cell? ⟨g,o + j * 5 + 2,none⟩=some (.string s)∧w.cell? ⟨g,o + j * 5 + 3,none⟩=some a∧w.cell? ⟨g,o + j * 5 + 4,none⟩=some b:=by
 have hl:=vB lcs h5
 have hm:=h.1
 rcases h.2 with ⟨_,h0⟩ | ⟨h0,_⟩ | ⟨g,o,cap,hsv,_,_,hrow⟩
 ·omega
 ·omega
 have hc:∀ i,i < 5→lcs.flatten[j * 5 + i]? = lcs[j][i]?:=fun i hi=>ku lcs j i h5 hj hi
 rw [e] at hc
 refine⟨g,o,cap,hsv,?_,?_,?_,?_,?_⟩
 ·exact hrow.cells (j * 5 + 0) _ (hc 0 (by decide))
 all_goals rw [Nat.add_assoc]
 ·exact hrow.cells (j * 5 + 1) _ (hc 1 (by decide))
 ·exact hrow.cells (j * 5 + 2) _ (hc 2 (by decide))
 ·exact hrow.cells (j * 5 + 3) _ (hc 3 (by decide))
 ·exact hrow.cells (j * 5 + 4) _ (hc 4 (by decide))
theorem ZP.kept0 {n:Nat}{w w':World}{x:Value}{vs:List (V n)}(h:ZP n w x vs) (k:zb [] w w'):ZP n w' x vs:=by
 obtain⟨lcs,h1,h2⟩:=h
 exact⟨lcs,h1.kept0 k,h2.mono fun _ _ _ r=>r.kept0 k⟩
theorem ZP.at {n:Nat}{w:World}{x:Value}{vs:List (V n)}(h:ZP n w x vs) {j:Nat}(hj:j < vs.length):∃ g o cap k i s a b,x = .slice (some ⟨g,o,none⟩) vs.length cap∧w.cell? ⟨g,o + j * 5,none⟩=some (.int .i64 k)∧w.cell? ⟨g,o + j * 5 + 1,none⟩=some (.int .i64 i)∧w.cell? ⟨g,o + j * 5 + 2,none⟩=some (.string s)∧w.cell? ⟨g,o + j * 5 + 3,none⟩=some a∧w.cell? ⟨g,o + j * 5 + 4,none⟩=some b∧Rep n (fun _=>True) w [.int .i64 k,.int .i64 i,.string s,a,b] vs[j]:=by
 obtain⟨lcs,h1,h2⟩:=h
 have hj':j < lcs.length:=by rw [h2.1];exact hj
 have hr:=h2.2 j _ _ (List.getElem?_eq_getElem hj') (List.getElem?_eq_getElem hj)
 obtain⟨k,i,s,a,b,e⟩:=hr.five
 obtain⟨g,o,cap,q,q0,q1,q2,q3,q4⟩:=h1.at5 (fun c hc=>by obtain⟨y,_,r⟩:=h2.mem_left hc;exact r.len) hj' e
 rw [e] at hr
 exact⟨g,o,cap,k,i,s,a,b,q,q0,q1,q2,q3,q4,hr⟩
theorem kids_any {n:Nat}{v:VS (V n)}{S:Nat→Prop}{w:World}{cs:List Value}(h:Rep (n + 1) S w cs v) (hv:v.l.length + v.m.length≤20000) :
  Calls Tryz.prog 65 #[.agg cs.toArray] w fun e w'=>(∃ a c,e = .returned (.slice a v.kids.length c)∧ZP n w' (.slice a v.kids.length c) v.kids)∧zb [] w w':=by
 obtain⟨vl,vm,lcs,mcs,h⟩:=h
 obtain⟨a,c,b,e,rfl,rfl,rfl⟩:=h.forms
 have H:=qI h
 have hkl:v.kids.length=v.l.length + v.m.length:=by simp [VS.kids]
 have Gq:=qI hkl
 have hlv:v.l.length≤20000:=by omega
 have hmv:v.m.length≤20000:=by omega
 have hmv':(v.m.length:Int)≤20000:=by omega
 have HV:=qI hv
 have HB:=qI (yQ w v.kind v.num v.s (.slice a v.l.length c) (.slice b v.m.length e) 25)
 have Gn:=qI (((zb.refl [] w).alloc (.cells #[.int .i64 v.kind,.int .i64 v.num,.string v.s,.slice a v.l.length c,.slice b v.m.length e] 25)))
 obtain⟨c0,c1,c2,c3,c4⟩:=HB.o
 clear h hkl hv
 have H1:=qI ((zb.refl [] (w.alloc (.cells #[.int .i64 v.kind,.int .i64 v.num,.string v.s,.slice a v.l.length c,.slice b v.m.length e] 25))).alloc (.cells #[] 25))
 have Gp:Hid ((w.alloc (.cells #[.int .i64 v.kind,.int .i64 v.num,.string v.s,.slice a v.l.length c,.slice b v.m.length e] 25)).heap.size=w.heap.size + 1):=qI (by simp)
 have Ge:=qI (jT (t:=25) (size:=5) (g:=w.heap.size + 1) (base:=w.heap.size + 1) (w.alloc (.cells #[.int .i64 v.kind,.int .i64 v.num,.string v.s,.slice a v.l.length c,.slice b v.m.length e] 25)) (by simp) (Nat.le_refl _))
 have Gd:=qI ((H.o.slcl.kept0 Gn.o).kept0 H1.o)
 go_enter func65,ntmps65
 go_wp2_with (at_builtin;refine zj tyVals Ge.o Gd.o H.o.ones (by simp only [maxLen];omega) (by omega) (by simp) rfl _ _ rfl rfl rfl ?_;intro v' w1 hown1 hk1 _ hb1)
 have Gg:=qI hown1
 have Gr:=qI (H1.o.trans hk1 (by intro i hi;simp [Value.ownBlock] at hi;exact .inr (by simp [hi])))
 clear hown1 hk1 hb1 Ge Gd c0 c1 c2 c3 c4
 go_loopw [3,4] (fun o i wr=>∃ k:Nat,i = .int .i64 k∧k≤v.m.length∧wr.ownsRow (w.heap.size + 1) 25 5 o (v.l.length + k) (lcs.flatten ++ ((mcs.take k).map (fun p=>p.2)).flatten)∧zb [] (w.alloc (.cells #[.int .i64 v.kind,.int .i64 v.num,.string v.s,.slice a v.l.length c,.slice b v.m.length e] 25)) wr) (fun _ i _=>v.m.length - (intOf i).toNat)
 case atStart=>exact⟨0,rfl,Nat.zero_le _,by simpa using Gg.o,Gr.o⟩
 case round=>
  obtain⟨k,rfl,hk,hown,hkr⟩:=hrel
  have Gh:=qI hown
  have Gb:=qI (Gn.o.trans' hkr)
  obtain⟨b0,b1,b2,b3,b4⟩:=HB.o.kept0 hkr
  have Ga:=qI hkr
  clear hown hkr
  by_cases hlt:k < v.m.length
  ·have hltI:(k:Int) < v.m.length:=by omega
   obtain⟨g,o,cap,kd,nm,st,a1,b1',he,q0,q1,q2,q3,q4,q5,hr,hx⟩:=H.o.at_mx Gb.o k hlt
   simp only [Value.slice.injEq] at he
   obtain⟨rfl,-,rfl⟩:=he
   have Gl:=qI hr.one
   have hlt':k < mcs.length:=by rw [H.o.lens.2];exact hlt
   have HX:Hid (mcs[k].2=[.int .i64 kd,.int .i64 nm,.string st,a1,b1']):=qI (by rw [List.getElem?_eq_getElem hlt'] at hx;rw [Option.some.inj hx])
   have HT:Hid (((mcs.take (k + 1)).map (fun p=>p.2)).flatten=((mcs.take k).map (fun p=>p.2)).flatten ++ [.int .i64 kd,.int .i64 nm,.string st,a1,b1']):=qI (by
    rw [List.take_succ_eq_append_getElem hlt',List.map_append,List.flatten_append,← HX.o]
    simp)
   have Gd:=qI (zV wr [.int .i64 kd,.int .i64 nm,.string st,a1,b1'] 5 1 25 wr.heap.size rfl rfl (by decide))
   have Gm:=qI ((zb.refl [] wr).alloc (.cells #[.int .i64 kd,.int .i64 nm,.string st,a1,b1'] 25))
   have Gf:=qI (zk Gh.o Gm.o (by simp))
   have Gi:Hid (w.heap.size + 1≤(wr.alloc (.cells #[.int .i64 kd,.int .i64 nm,.string st,a1,b1'] 25)).heap.size):=qI (by have h1:=Ga.o.size;have h2:=Gp.o;have h3:=Gm.o.size;omega)
   clear hr hx
   go_wp2_with (at_builtin;refine zj tyVals Gf.o Gd.o Gl.o (by simp only [maxLen];omega) (by omega) Gi.o rfl _ _ rfl rfl rfl ?_;intro v' w2 hown2 hk2 _ hb2)
   case roundEnd=>
    refine⟨⟨k + 1,by go_num,by omega,?_,?_⟩,by simp [intOf];omega⟩
    ·rw [HT.o,← List.append_assoc,← Nat.add_assoc]
     exact hown2
    ·refine (Ga.o.then Gm.o).trans hk2 ?_
     intro i hi
     exact .inr (by have:=(Gf.o.lt i (Option.mem_toList.1 hi)).1;rw [Gp.o];exact this)
  ·obtain rfl:k=v.m.length:=by omega
   have Gj:Hid (ZP n wr u3 v.kids):=qI ⟨kidsC lcs mcs,by
    have e1:mcs.take v.m.length=mcs:=List.take_of_length_le (by rw [H.o.lens.2];exact Nat.le_refl _)
    have h1:=Gh.o
    rw [e1] at h1
    rw [Gq.o,kidsC,List.flatten_append]
    exact Slc.of_row h1,(H.o.kids.mono fun _ _ _ r=>(r.kept0 Gb.o).mono (fun _ _ _=>trivial))⟩
   obtain⟨lcs',hs',-⟩:=Gj.o
   obtain⟨a',c',e',-,-⟩:=hs'.form
   subst e'
   clear hs'
   go_wp2_with fail
   go_ret
   exact⟨⟨_,_,rfl,Gj.o⟩,Gb.o⟩
def zJ (s:ByteArray):Bool:=Lib.validD s.data.toList
def vO (s:ByteArray):Bool:=decide (s=⟨#[]⟩)
def yY {α:Type}(m:List (ByteArray × α)):Bool:=m.all (fun p=>zJ p.1) && decide ((m.map (fun p=>p.1)).Nodup)
def zv {α:Type}(v:VS α):Bool:=
 if v.kind=1 then decide (v.num=0) && vO v.s && v.l.isEmpty && v.m.isEmpty
 else if v.kind=2 then decide (v.num=0∨v.num=1) && vO v.s && v.l.isEmpty && v.m.isEmpty
 else if v.kind=3 then decide (-9007199254740991≤v.num∧v.num≤9007199254740991) && vO v.s && v.l.isEmpty && v.m.isEmpty
 else if v.kind=4 then zJ v.s && decide (v.num=0) && v.l.isEmpty && v.m.isEmpty
 else if v.kind=5 then decide (v.num=0) && vO v.s && v.m.isEmpty
 else if v.kind=6 then yY v.m && decide (v.num=0) && vO v.s && v.l.isEmpty
 else false
def zo:(n:Nat)→V n→Bool
 | 0,_=>true
 | n + 1,(v:VS (V n))=>zv v && v.kids.all (zo n)
def yC (n:Nat) (v:V n):Int:=if 12 < zy n v then 41 else if 4096 < zt n v then 42 else if zo n v then 0 else 40
theorem qZ {n:Nat}{v:V n}:yC n v=0↔zy n v≤12∧zt n v≤4096∧zo n v=true:=by
 unfold yC
 split
 ·constructor
  ·intro h;cases h
  ·intro h;omega
 ·split
  ·constructor
   ·intro h;cases h
   ·intro h;omega
  ·split
   ·rename_i h1 h2 h3;exact⟨fun _=>⟨by omega,by omega,h3⟩,fun _=>rfl⟩
   ·rename_i h1 h2 h3;exact⟨(fun h=>by cases h),(fun h=>absurd h.2.2 h3)⟩
theorem qz {n:Nat}{v:VS (V n)}(h:zo (n + 1) v=true) {x:V n}(hx:x ∈ v.kids):zo n x=true:=by
 have e:zo (n + 1) v=(zv v && v.kids.all (zo n)):=rfl
 rw [e,Bool.and_eq_true] at h
 exact List.all_eq_true.1 h.2 x hx
theorem kM {n:Nat}{v:VS (V n)}(h:zo (n + 1) v=true):zv v=true:=by
 have e:zo (n + 1) v=(zv v && v.kids.all (zo n)):=rfl
 rw [e,Bool.and_eq_true] at h
 exact h.1
theorem kK {α:Type}{v:VS α}(h:zv v=true) :
  (v.kind=1∧v.num=0∧v.s=⟨#[]⟩∧v.l=[]∧v.m=[])∨(v.kind=2∧(v.num=0∨v.num=1)∧v.s=⟨#[]⟩∧v.l=[]∧v.m=[]) ∨
  (v.kind=3∧(-9007199254740991≤v.num∧v.num≤9007199254740991)∧v.s=⟨#[]⟩∧v.l=[]∧v.m=[])∨(v.kind=4∧v.num=0∧zJ v.s=true∧v.l=[]∧v.m=[]) ∨
  (v.kind=5∧v.num=0∧v.s=⟨#[]⟩∧v.m=[])∨(v.kind=6∧v.num=0∧v.s=⟨#[]⟩∧v.l=[]∧yY v.m=true):=by
 unfold zv vO at h
 split at h
 ·rename_i e;simp only [Bool.and_eq_true,decide_eq_true_iff,List.isEmpty_iff] at h;exact .inl ⟨e,h.1.1.1,h.1.1.2,h.1.2,h.2⟩
 split at h
 ·rename_i e;simp only [Bool.and_eq_true,decide_eq_true_iff,List.isEmpty_iff] at h;exact .inr (.inl ⟨e,h.1.1.1,h.1.1.2,h.1.2,h.2⟩)
 split at h
 ·rename_i e;simp only [Bool.and_eq_true,decide_eq_true_iff,List.isEmpty_iff] at h;exact .inr (.inr (.inl ⟨e,h.1.1.1,h.1.1.2,h.1.2,h.2⟩))
 split at h
 ·rename_i e;simp only [Bool.and_eq_true,decide_eq_true_iff,List.isEmpty_iff] at h;exact .inr (.inr (.inr (.inl ⟨e,h.1.1.2,h.1.1.1,h.1.2,h.2⟩)))
 split at h
 ·rename_i e;simp only [Bool.and_eq_true,decide_eq_true_iff,List.isEmpty_iff] at h;exact .inr (.inr (.inr (.inr (.inl ⟨e,h.1.1,h.1.2,h.2⟩))))
 split at h
 ·rename_i e;simp only [Bool.and_eq_true,decide_eq_true_iff,List.isEmpty_iff] at h;exact .inr (.inr (.inr (.inr (.inr ⟨e,h.1.1.2,h.1.2,h.2,h.1.1.1⟩))))
 ·cases h
def leK {α:Type}(a b:ByteArray × α):Bool:=decide (a.1.data.toList≤b.1.data.toList)
def zz:(n:Nat)→V n→V n
 | 0,v=>v
 | n + 1,(v:VS (V n))=>(⟨v.kind,v.num,v.s,v.l.map (zz n),(v.m.map (fun p=>(p.1,zz n p.2))).mergeSort leK⟩:VS (V n))
theorem qY {α:Type}(a b c:ByteArray × α) (h1:leK a b=true) (h2:leK b c=true):leK a c=true:=by
 simp only [leK,decide_eq_true_eq] at *
 exact List.le_trans h1 h2
theorem vI {α:Type}(a b:ByteArray × α):(leK a b || leK b a)=true:=by
 simp only [leK,Bool.or_eq_true,decide_eq_true_eq]
 exact List.le_total _ _
theorem ba_eq {x y:ByteArray}(h:x.data.toList=y.data.toList):x=y:=by
 cases x;cases y
 simp only [ByteArray.mk.injEq] at *
 exact Array.toList_inj.1 h
theorem kQ {α:Type}{a b:List (ByteArray × α)}(hp:a.Perm b) (ha:a.Pairwise (fun x y=>leK x y=true)) (hb:b.Pairwise (fun x y=>leK x y=true)) (hn:(a.map (fun p=>p.1)).Nodup):a=b:=by
 refine List.Perm.eq_of_pairwise (le:=fun x y=>leK x y=true) (fun x y hx hy h1 h2=>?_) ha hb hp
 simp only [leK,decide_eq_true_eq] at h1 h2
 have e:x.1=y.1:=ba_eq (List.le_antisymm h1 h2)
 have hy':y ∈ a:=hp.mem_iff.2 hy
 obtain⟨i,hi,rfl⟩:=List.getElem_of_mem hx
 obtain⟨j,hj,rfl⟩:=List.getElem_of_mem hy'
 have hij:i=j:=by
  rcases Nat.lt_trichotomy i j with h | h | h
  ·exact absurd e (by
    have:=(List.pairwise_iff_getElem.1 hn) i j (by simpa using hi) (by simpa using hj) h
    simpa using this)
  ·exact h
  ·exact absurd e.symm (by
    have:=(List.pairwise_iff_getElem.1 hn) j i (by simpa using hj) (by simpa using hi) h
    simpa using this)
 subst hij;rfl
def qg (n:Nat):UInt8:=UInt8.ofNat (if n < 10 then 48 + n else 87 + n)
def zQ (c:UInt8):List UInt8:=if c.toNat < 32 then [92,117,48,48,qg (c.toNat / 16),qg (c.toNat % 16)] else if c=34∨c=92 then [92,c] else [c]
def yr (s:List UInt8):List UInt8:=34 :: (s.flatMap zQ ++ [34])
def qm:List (List UInt8)→List UInt8
 | []=>[]
 | [x]=>x
 | x :: y :: l=>x ++ (44 :: qm (y :: l))
def zq:(n:Nat)→V n→List UInt8
 | 0,_=>[]
 | n + 1,(v:VS (V n))=>
  if v.kind=1 then [110,117,108,108]
  else if v.kind=2 then (if v.num=1 then [116,114,117,101] else [102,97,108,115,101])
  else if v.kind=3 then Lib.itoa v.num
  else if v.kind=4 then yr v.s.data.toList
  else if v.kind=5 then 91 :: (qm (v.l.map (zq n)) ++ [93])
  else 123 :: (qm (v.m.map (fun p=>yr p.1.data.toList ++ (58 :: zq n p.2))) ++ [125])
def kG (n:Nat) (v:V n):List UInt8 × Int:=
 if yC n v≠0 then ([],yC n v) else if 262144 < (zq n (zz n v)).length then ([],3) else (zq n (zz n v),0)
end Go.Proofs.YtibnfbglanpoiaaGreatDoor

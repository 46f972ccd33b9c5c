/- Parts of one proof, merged: XVR XVF XQ XKA XKB XVS. -/
import Derived.Test.YtibnfbglanpoiaaGreatDoorQbA
import Derived.BigQuiet
import Derived.Deep.DeepCutAuto
import Derived.Deep.CutBlock
import Derived.Lib.ValidU
import Derived.Lib.ItoaLen
set_option linter.all false
set_option maxHeartbeats 12800000
set_option maxRecDepth 10000
set_option linter.unusedVariables false
set_option linter.unusedSimpArgs false
set_option linter.unnecessarySimpa false
namespace Go.Proofs.YtibnfbglanpoiaaGreatDoor
open Go.Proofs.Tryz
open Go.RowKit
def yG (p:ByteArray × List Value):List Value:=.string p.1 :: p.2
def zV (l:List (ByteArray × List Value)):List Value:=l.flatMap yG
def jE {α:Type}(R:List Value→α→Prop) (p:ByteArray × List Value) (q:ByteArray × α):Prop:=p.1=q.1∧R p.2 q.2
structure yN {α:Type}(R:List Value→α→Prop) (S:Nat→Prop) (w:World) (cs:List Value) (v:VS α) (vl vm:Value) (lcs:List (List Value)) (mcs:List (ByteArray × List Value)):Prop where
 cells:cs=[.int .i64 v.kind,.int .i64 v.num,.string v.s,vl,vm]
 slcl:Slc w 5 vl v.l.length lcs.flatten
 alll:zG R lcs v.l
 slcm:Slc w 6 vm v.m.length (zV mcs)
 allm:zG (jE R) mcs v.m
 inl:∀ g,yj vl=some g→S g
 inm:∀ g,yj vm=some g→S g
 wfk:(Lit.int .i64 v.kind).wf=true
 wfn:(Lit.int .i64 v.num).wf=true
def Rep:(n:Nat)→(Nat→Prop)→World→List Value→V n→Prop
 | 0,_,_,_,_=>False
 | n + 1,S,w,cs,(v:VS (V n))=>∃ vl vm lcs mcs,yN (Rep n S w) S w cs v vl vm lcs mcs
theorem Rep.open_ {n:Nat}{S:Nat→Prop}{w:World}{cs:List Value}{v:VS (V n)}(h:Rep (n + 1) S w cs v):∃ vl vm lcs mcs,yN (Rep n S w) S w cs v vl vm lcs mcs:=h
theorem Rep.five:∀ {n:Nat}{S:Nat→Prop}{w:World}{cs:List Value}{v:V n},Rep n S w cs v→∃ k m s vl vm,cs=[.int .i64 k,.int .i64 m,.string s,vl,vm]
 | 0,_,_,_,_,h=>h.elim
 | _ + 1,_,_,_,_,h=>by
  obtain⟨vl,vm,lcs,mcs,h⟩:=h
  exact⟨_,_,_,_,_,h.cells⟩
theorem Rep.len {n:Nat}{S:Nat→Prop}{w:World}{cs:List Value}{v:V n}(h:Rep n S w cs v):cs.length=5:=by
 obtain⟨k,m,s,vl,vm,rfl⟩:=h.five
 rfl
theorem Rep.kept:∀ {n:Nat}{S:Nat→Prop}{X:List Nat}{w w':World}{cs:List Value}{v:V n},Rep n S w cs v→zb X w w'→(∀ k,k ∈ X→¬ S k)→Rep n S w' cs v
 | 0,_,_,_,_,_,_,h,_,_=>h.elim
 | n + 1,S,X,w,w',cs,v,h,k,hX=>by
  obtain⟨vl,vm,lcs,mcs,h⟩:=h
  exact⟨vl,vm,lcs,mcs,{
   cells:=h.cells
   slcl:=h.slcl.kept k (fun g hg hx=>hX g hx (h.inl g hg))
   alll:=h.alll.mono fun _ _ _ r=>Rep.kept r k hX
   slcm:=h.slcm.kept k (fun g hg hx=>hX g hx (h.inm g hg))
   allm:=h.allm.mono fun _ _ _ r=>⟨r.1,Rep.kept r.2 k hX⟩
   inl:=h.inl
   inm:=h.inm
   wfk:=h.wfk
   wfn:=h.wfn }⟩
theorem Rep.kept0 {n:Nat}{S:Nat→Prop}{w w':World}{cs:List Value}{v:V n}(h:Rep n S w cs v) (k:zb [] w w'):Rep n S w' cs v:=h.kept k (by simp)
theorem Rep.mono:∀ {n:Nat}{S T:Nat→Prop}{w:World}{cs:List Value}{v:V n},Rep n S w cs v→(∀ k,k < w.heap.size→S k→T k)→Rep n T w cs v
 | 0,_,_,_,_,_,h,_=>h.elim
 | n + 1,S,T,w,cs,v,h,hT=>by
  obtain⟨vl,vm,lcs,mcs,h⟩:=h
  exact⟨vl,vm,lcs,mcs,{
   cells:=h.cells
   slcl:=h.slcl
   alll:=h.alll.mono fun _ _ _ r=>Rep.mono r hT
   slcm:=h.slcm
   allm:=h.allm.mono fun _ _ _ r=>⟨r.1,Rep.mono r.2 hT⟩
   inl:=fun g hg=>hT g (h.slcl.lt hg) (h.inl g hg)
   inm:=fun g hg=>hT g (h.slcm.lt hg) (h.inm g hg)
   wfk:=h.wfk
   wfn:=h.wfn }⟩
theorem zG.map_right {α β γ:Type}{R:α→β→Prop}{Q:α→γ→Prop}{f:β→γ}{xs:List α}{ys:List β}(h:zG R xs ys) (hf:∀ x y,R x y→Q x (f y)):zG Q xs (ys.map f):=by
 refine⟨by simp [h.1],?_⟩
 intro j x z hx hz
 rw [List.getElem?_map,Option.map_eq_some_iff] at hz
 obtain⟨y,hy,rfl⟩:=hz
 exact hf x y (h.2 j x y hx hy)
theorem Rep.up:∀ {n:Nat}{S:Nat→Prop}{w:World}{cs:List Value}{v:V n},Rep n S w cs v→Rep (n + 1) S w cs (Go.Proofs.YtibnfbglanpoiaaGreatDoor.up n v)
 | 0,_,_,_,_,h=>h.elim
 | n + 1,S,w,cs,v,h=>by
  obtain⟨vl,vm,lcs,mcs,h⟩:=h
  exact⟨vl,vm,lcs,mcs,{
   cells:=h.cells
   slcl:=by have:=h.slcl;show Slc w 5 vl (v.l.map _).length _;rw [List.length_map];exact this
   alll:=h.alll.map_right fun _ _ r=>Rep.up r
   slcm:=by have:=h.slcm;show Slc w 6 vm (v.m.map _).length _;rw [List.length_map];exact this
   allm:=h.allm.map_right fun _ _ r=>⟨r.1,Rep.up r.2⟩
   inl:=h.inl
   inm:=h.inm
   wfk:=h.wfk
   wfn:=h.wfn }⟩
theorem qX {size:Nat}:∀ (ls:List (List Value)) (j i:Nat),(∀ c,c ∈ ls→c.length=size)→(hj:j < ls.length)→i < size→ls.flatten[j * size + i]? = ls[j][i]?
 | [],j,i,_,hj,_=>by simp at hj
 | c :: ls,0,i,h,_,hi=>by
  have hc:=h c (List.mem_cons_self ..)
  rw [List.flatten_cons,Nat.zero_mul,Nat.zero_add,List.getElem?_append_left (by omega)]
  rfl
 | c :: ls,j + 1,i,h,hj,hi=>by
  have hc:=h c (List.mem_cons_self ..)
  rw [List.flatten_cons,List.getElem?_append_right (by rw [hc,Nat.add_mul];omega),hc,show (j + 1) * size + i - size=j * size + i by rw [Nat.add_mul];omega]
  exact qX ls j i (fun d hd=>h d (List.mem_cons_of_mem _ hd)) (by simpa using hj) hi
theorem jN {size:Nat}:∀ (ls:List (List Value)),(∀ c,c ∈ ls→c.length=size)→ls.flatten.length=ls.length * size
 | [],_=>by simp
 | c :: ls,h=>by
  rw [List.flatten_cons,List.length_append,jN ls (fun d hd=>h d (List.mem_cons_of_mem _ hd)),h c (List.mem_cons_self ..),List.length_cons,Nat.add_mul]
  omega
theorem qj (l:List (ByteArray × List Value)):zV l=(l.map yG).flatten:=by simp [zV,List.flatMap]
section
variable {n : Nat} {S : Nat → Prop} {w : World} {cs : List Value} {v : VS (V n)} {vl vm : Value} {lcs : List (List Value)} {mcs : List (ByteArray × List Value)}
theorem yN.lens (h:yN (Rep n S w) S w cs v vl vm lcs mcs):lcs.length=v.l.length∧mcs.length=v.m.length:=⟨h.alll.1,h.allm.1⟩
theorem yN.five_l (h:yN (Rep n S w) S w cs v vl vm lcs mcs):∀ c,c ∈ lcs→c.length=5:=by
 intro c hc
 obtain⟨j,hj,rfl⟩:=List.getElem_of_mem hc
 exact (h.alll.2 j _ _ (List.getElem?_eq_getElem hj) (List.getElem?_eq_getElem (by rw [← h.alll.1];exact hj))).len
theorem yN.six_m (h:yN (Rep n S w) S w cs v vl vm lcs mcs):∀ c,c ∈ mcs.map yG→c.length=6:=by
 intro c hc
 obtain⟨p,hp,rfl⟩:=List.mem_map.1 hc
 obtain⟨j,hj,rfl⟩:=List.getElem_of_mem hp
 have:=(h.allm.2 j _ _ (List.getElem?_eq_getElem hj) (List.getElem?_eq_getElem (by rw [← h.allm.1];exact hj))).2.len
 simp [yG,this]
theorem yN.at_lx (h:yN (Rep n S w) S w cs v vl vm lcs mcs) {w':World}(k:zb [] w w') (j:Nat) (hj:j < v.l.length) :
  ∃ g o cap kd nm s a b,vl = .slice (some ⟨g,o,none⟩) v.l.length cap∧w'.cell? ⟨g,o + j * 5,none⟩=some (.int .i64 kd)∧w'.cell? ⟨g,o + j * 5 + 1,none⟩=some (.int .i64 nm)∧w'.cell? ⟨g,o + j * 5 + 2,none⟩=some (.string s) ∧
   w'.cell? ⟨g,o + j * 5 + 3,none⟩=some a∧w'.cell? ⟨g,o + j * 5 + 4,none⟩=some b∧Rep n S w' [.int .i64 kd,.int .i64 nm,.string s,a,b] v.l[j]∧lcs[j]? = some [.int .i64 kd,.int .i64 nm,.string s,a,b]:=by
 have hj':j < lcs.length:=by rw [h.lens.1];exact hj
 have hr:=h.alll.2 j _ _ (List.getElem?_eq_getElem hj') (List.getElem?_eq_getElem hj)
 obtain⟨kd,nm,s,a,b,e⟩:=hr.five
 rcases (h.slcl.kept0 k).2 with ⟨_,h0⟩ | ⟨h0,_⟩ | ⟨g,o,cap,hsv,_,_,hrow⟩
 ·omega
 ·omega
 have hc:∀ i,i < 5→lcs.flatten[j * 5 + i]? = lcs[j][i]?:=fun i hi=>qX lcs j i h.five_l hj' hi
 rw [e] at hc hr
 refine⟨g,o,cap,kd,nm,s,a,b,hsv,?_,?_,?_,?_,?_,hr.kept0 k,by rw [List.getElem?_eq_getElem hj',e]⟩
 ·exact hrow.cells (j * 5 + 0) _ (hc 0 (by decide))
 all_goals rw [Nat.add_assoc]
 ·exact hrow.cells (j * 5 + 1) _ (hc 1 (by decide))
 ·exact hrow.cells (j * 5 + 2) _ (hc 2 (by decide))
 ·exact hrow.cells (j * 5 + 3) _ (hc 3 (by decide))
 ·exact hrow.cells (j * 5 + 4) _ (hc 4 (by decide))
theorem yN.at_l (h:yN (Rep n S w) S w cs v vl vm lcs mcs) {w':World}(k:zb [] w w') (j:Nat) (hj:j < v.l.length) :
  ∃ g o cap kd nm s a b,vl = .slice (some ⟨g,o,none⟩) v.l.length cap∧w'.cell? ⟨g,o + j * 5,none⟩=some (.int .i64 kd)∧w'.cell? ⟨g,o + j * 5 + 1,none⟩=some (.int .i64 nm)∧w'.cell? ⟨g,o + j * 5 + 2,none⟩=some (.string s) ∧
   w'.cell? ⟨g,o + j * 5 + 3,none⟩=some a∧w'.cell? ⟨g,o + j * 5 + 4,none⟩=some b∧Rep n S w' [.int .i64 kd,.int .i64 nm,.string s,a,b] v.l[j]:=by
 obtain⟨g,o,cap,kd,nm,s,a,b,h0,h1,h2,h3,h4,h5,h6,_⟩:=h.at_lx k j hj
 exact⟨g,o,cap,kd,nm,s,a,b,h0,h1,h2,h3,h4,h5,h6⟩
theorem yN.at_mx (h:yN (Rep n S w) S w cs v vl vm lcs mcs) {w':World}(k:zb [] w w') (j:Nat) (hj:j < v.m.length) :
  ∃ g o cap kd nm s a b,vm = .slice (some ⟨g,o,none⟩) v.m.length cap∧w'.cell? ⟨g,o + j * 6,none⟩=some (.string v.m[j].1)∧w'.cell? ⟨g,o + j * 6 + 1,none⟩=some (.int .i64 kd)∧w'.cell? ⟨g,o + j * 6 + 2,none⟩=some (.int .i64 nm)∧w'.cell? ⟨g,o + j * 6 + 3,none⟩=some (.string s) ∧
   w'.cell? ⟨g,o + j * 6 + 4,none⟩=some a∧w'.cell? ⟨g,o + j * 6 + 5,none⟩=some b∧Rep n S w' [.int .i64 kd,.int .i64 nm,.string s,a,b] v.m[j].2∧mcs[j]? = some (v.m[j].1,[.int .i64 kd,.int .i64 nm,.string s,a,b]):=by
 have hj':j < mcs.length:=by rw [h.lens.2];exact hj
 have hr:=h.allm.2 j _ _ (List.getElem?_eq_getElem hj') (List.getElem?_eq_getElem hj)
 obtain⟨kd,nm,s,a,b,e⟩:=hr.2.five
 rcases (h.slcm.kept0 k).2 with ⟨_,h0⟩ | ⟨h0,_⟩ | ⟨g,o,cap,hsv,_,_,hrow⟩
 ·omega
 ·omega
 have hc:∀ i,i < 6→(zV mcs)[j * 6 + i]? = (yG mcs[j])[i]?:=fun i hi=>by
  rw [qj,qX (mcs.map yG) j i h.six_m (by simpa using hj') hi,List.getElem_map]
 have e2:yG mcs[j]=[.string v.m[j].1,.int .i64 kd,.int .i64 nm,.string s,a,b]:=by
  show Value.string mcs[j].1 :: mcs[j].2=_
  rw [e,hr.1]
 have hr2:=hr.2
 rw [e] at hr2
 rw [e2] at hc
 refine⟨g,o,cap,kd,nm,s,a,b,hsv,?_,?_,?_,?_,?_,?_,hr2.kept0 k,by rw [List.getElem?_eq_getElem hj'];exact congrArg some (Prod.ext hr.1 e)⟩
 ·exact hrow.cells (j * 6 + 0) _ (hc 0 (by decide))
 all_goals rw [Nat.add_assoc]
 ·exact hrow.cells (j * 6 + 1) _ (hc 1 (by decide))
 ·exact hrow.cells (j * 6 + 2) _ (hc 2 (by decide))
 ·exact hrow.cells (j * 6 + 3) _ (hc 3 (by decide))
 ·exact hrow.cells (j * 6 + 4) _ (hc 4 (by decide))
 ·exact hrow.cells (j * 6 + 5) _ (hc 5 (by decide))
theorem yN.at_m (h:yN (Rep n S w) S w cs v vl vm lcs mcs) {w':World}(k:zb [] w w') (j:Nat) (hj:j < v.m.length) :
  ∃ g o cap kd nm s a b,vm = .slice (some ⟨g,o,none⟩) v.m.length cap∧w'.cell? ⟨g,o + j * 6,none⟩=some (.string v.m[j].1)∧w'.cell? ⟨g,o + j * 6 + 1,none⟩=some (.int .i64 kd)∧w'.cell? ⟨g,o + j * 6 + 2,none⟩=some (.int .i64 nm)∧w'.cell? ⟨g,o + j * 6 + 3,none⟩=some (.string s) ∧
   w'.cell? ⟨g,o + j * 6 + 4,none⟩=some a∧w'.cell? ⟨g,o + j * 6 + 5,none⟩=some b∧Rep n S w' [.int .i64 kd,.int .i64 nm,.string s,a,b] v.m[j].2:=by
 obtain⟨g,o,cap,kd,nm,s,a,b,h0,h1,h2,h3,h4,h5,h6,h7,_⟩:=h.at_mx k j hj
 exact⟨g,o,cap,kd,nm,s,a,b,h0,h1,h2,h3,h4,h5,h6,h7⟩
theorem yN.forms (h:yN (Rep n S w) S w cs v vl vm lcs mcs):∃ a c b d,vl = .slice a v.l.length c∧vm = .slice b v.m.length d∧cs=[.int .i64 v.kind,.int .i64 v.num,.string v.s,.slice a v.l.length c,.slice b v.m.length d]:=by
 obtain⟨a,c,e1,-,-⟩:=h.slcl.form
 obtain⟨b,d,e2,-,-⟩:=h.slcm.form
 exact⟨a,c,b,d,e1,e2,by rw [h.cells,e1,e2]⟩
end
theorem ZA {n:Nat}(S:Nat→Prop) (w:World) (v:VS (V n)) (hl:v.l=[]) (hm:v.m=[]) (hk:(Lit.int .i64 v.kind).wf=true) (hn:(Lit.int .i64 v.num).wf=true):Rep (n + 1) S w [.int .i64 v.kind,.int .i64 v.num,.string v.s,.slice none 0 0,.slice none 0 0] v:=
 ⟨.slice none 0 0,.slice none 0 0,[],[],{
  cells:=rfl
  slcl:=by rw [hl];exact yV _ _
  alll:=by rw [hl];exact zG.nil _
  slcm:=by rw [hm];exact yV _ _
  allm:=by rw [hm];exact zG.nil _
  inl:=by simp [yj]
  inm:=by simp [yj]
  wfk:=hk
  wfn:=hn }⟩
theorem zG.pick {α β γ:Type}{R:α→β→Prop}{Q:α→γ→Prop}:∀ (xs:List α) (ys:List β),zG R xs ys→(∀ x y,y ∈ ys→R x y→∃ z,Q x z)→∃ zs,zG Q xs zs
 | [],_,_,_=>⟨[],zG.nil _⟩
 | x :: xs,[],h,_=>by have:=h.1;simp at this
 | x :: xs,y :: ys,h,hq=>by
  obtain⟨z,hz⟩:=hq x y (List.mem_cons_self ..) (h.2 0 x y rfl rfl)
  obtain⟨zs,hzs⟩:=zG.pick xs ys ⟨by simpa using h.1,fun j a b ha hb=>h.2 (j + 1) a b (by simpa using ha) (by simpa using hb)⟩ (fun a b hb=>hq a b (List.mem_cons_of_mem _ hb))
  exact⟨z :: zs,hzs.cons hz⟩
def jR (n:Nat) (B:Nat) (S:Nat→Prop) (w:World) (cs:List Value) (v:V n):Prop:=Rep n S w cs v∧qo B n v
theorem jR.fit:∀ (n d:Nat) {B:Nat}{S:Nat→Prop}{w:World}{cs:List Value}{v:V n},jR n B S w cs v→zL n v≤d→∃ v':V d,jR d B S w cs v'
 | 0,_,_,_,_,_,_,h,_=>h.1.elim
 | n + 1,0,_,_,_,_,v,_,hd=>by
  have:zL (n + 1) v=1 + k7 (VS.kids (α:=V n) v |>.map (zL n)):=rfl
  omega
 | n + 1,d + 1,B,S,w,cs,v,h,hd=>by
  obtain⟨⟨vl,vm,lcs,mcs,h⟩,ht⟩:=h
  obtain⟨t1,t2,t3⟩:=ht
  have hk:∀ x,x ∈ VS.kids (α:=V n) v→zL n x≤d:=fun x hx=>by have:=depthV_kid hx;omega
  obtain⟨zl,hl⟩:=zG.pick (Q:=fun x (z:V d)=>jR d B S w x z) _ _ h.alll (fun x y hy hr=>jR.fit n d (v:=y) ⟨hr,t3 y (kD hy)⟩ (hk y (kD hy)))
  obtain⟨zm,hm⟩:=zG.pick (Q:=fun x (z:ByteArray × V d)=>jE (jR d B S w) x z∧z.1.size≤B) _ _ h.allm (fun x y hy hr=>by
   obtain⟨z,hz⟩:=jR.fit n d (v:=y.2) ⟨hr.2,t3 _ (kK hy)⟩ (hk _ (kK hy))
   exact⟨(y.1,z),⟨hr.1,hz⟩,t2 y hy⟩)
  have el:zl.length=(VS.l (α:=V n) v).length:=hl.1.symm.trans h.alll.1
  have em:zm.length=(VS.m (α:=V n) v).length:=hm.1.symm.trans h.allm.1
  have getl:∀ x,x ∈ zl→qo B d x:=fun x hx=>by
   obtain⟨j,hj,rfl⟩:=List.getElem_of_mem hx
   exact (hl.2 j _ _ (List.getElem?_eq_getElem (by rw [hl.1];exact hj)) (List.getElem?_eq_getElem hj)).2
  have getm:∀ p,p ∈ zm→qo B d p.2∧p.1.size≤B:=fun x hx=>by
   obtain⟨j,hj,rfl⟩:=List.getElem_of_mem hx
   have:=hm.2 j _ _ (List.getElem?_eq_getElem (by rw [hm.1];exact hj)) (List.getElem?_eq_getElem hj)
   exact⟨this.1.2.2,this.2⟩
  refine⟨(⟨VS.kind (α:=V n) v,VS.num (α:=V n) v,VS.s (α:=V n) v,zl,zm⟩:VS (V d)),⟨vl,vm,lcs,mcs,{
   cells:=h.cells
   slcl:=by have:=h.slcl;rw [← el] at this;exact this
   alll:=hl.mono fun _ _ _ r=>r.1
   slcm:=by have:=h.slcm;rw [← em] at this;exact this
   allm:=hm.mono fun _ _ _ r=>⟨r.1.1,r.1.2.1⟩
   inl:=h.inl
   inm:=h.inm
   wfk:=h.wfk
   wfn:=h.wfn }⟩,⟨t1.1,by rw [el];exact t1.2.1,by rw [em];exact t1.2.2⟩,fun p hp=>(getm p hp).2,fun x hx=>?_⟩
  rcases List.mem_append.1 hx with hx | hx
  ·exact getl x hx
  ·obtain⟨p,hp,rfl⟩:=List.mem_map.1 hx
   exact (getm p hp).1
structure Ext (W:World) where
 w:World
 k:zb [] W w
instance extInh (W:World):Nonempty (Ext W):=⟨⟨W,zb.refl _ _⟩⟩
theorem yr {P:Program}{id:Nat}{Q:Exit→Act→World→Prop}{a:Act}{w:World}{l:List Oper}(W:World) (hm:P.follows .mixedOrders=true) (hB:Region.lexB .any l.toArray=true) (hC:zb [] W w)
  (h:wpQuiet P l.toArray (fun w'=>∃ z:Ext W,w'=z.w) (fun a'=>∀ w',zb [] W w'→Q .normal a' w') l a):(Code.region id l.toArray true).wp P Q a w:=
 wp_region_quiet (C:=fun w'=>∃ z:Ext W,w'=z.w) hm hB ⟨⟨_,hC.drew⟩,rfl⟩ (by
  have e:(fun a':Act=>∀ w',(∃ z:Ext W,w'=z.w)→Q .normal a' w')=fun a'=>∀ w',zb [] W w'→Q .normal a' w':=funext fun a'=>propext ⟨fun h w' k=>h w' ⟨⟨w',k⟩,rfl⟩,fun h w' ⟨z,e⟩=>e ▸ h z.w z.k⟩
  rw [e]
  simpa using h)
theorem zu {W:World}{p:Addr}{v:Value}(h:W.cell? p=some v):∀ z:Ext W,z.w.cell? p=some v:=fun z=>z.k.cell h (by simp)
theorem vT {P:Program}{f:FuncId}{args:Array Value}{W:World}{z:Ext W}{v:Value}(h:Calls P f args z.w fun e w'=>e = .returned v∧zb [] z.w w') :
  Calls P f args z.w fun e w''=>e = .returned v∧∃ z':Ext W,w''=z'.w:=
 h.mono fun _ _ ⟨h1,h2⟩=>⟨h1,⟨_,z.k.trans' h2⟩,rfl⟩
structure qy (w:World) (g:Nat) (k m:Int) (s:ByteArray) (a b:Value):Prop where
 c0:w.cell? ⟨g,0,none⟩=some (.int .i64 k)
 c1:w.cell? ⟨g,1,none⟩=some (.int .i64 m)
 c2:w.cell? ⟨g,2,none⟩=some (.string s)
 c3:w.cell? ⟨g,3,none⟩=some a
 c4:w.cell? ⟨g,4,none⟩=some b
theorem xz (w:World) (k m:Int) (s:ByteArray) (a b:Value) (t:Nat):qy (w.alloc (.cells #[.int .i64 k,.int .i64 m,.string s,a,b] t)) w.heap.size k m s a b:=by
 have hb:=heap_alloc_new w (.cells #[.int .i64 k,.int .i64 m,.string s,a,b] t)
 exact⟨za hb rfl,za hb rfl,za hb rfl,za hb rfl,za hb rfl⟩
theorem qy.kept {w w':World}{g:Nat}{k m:Int}{s:ByteArray}{a b:Value}(h:qy w g k m s a b) {X:List Nat}(hk:zb X w w') (hX:g ∉ X):qy w' g k m s a b:=
 ⟨hk.cell h.c0 hX,hk.cell h.c1 hX,hk.cell h.c2 hX,hk.cell h.c3 hX,hk.cell h.c4 hX⟩
theorem qy.kept0 {w w':World}{g:Nat}{k m:Int}{s:ByteArray}{a b:Value}(h:qy w g k m s a b) (hk:zb [] w w'):qy w' g k m s a b:=h.kept hk (by simp)
def BB:Nat:=1125899906842624
theorem Qj {n d:Nat}{v:V n}(h:qo BB n v) (hd:d≤21):zw n d v≤50000000000000000:=by
 have h1:=zaC (B:=BB) n d v h
 have h2:(22 - d) * (20000 + 2 * BB)≤22 * (20000 + 2 * BB):=Nat.mul_le_mul_right _ (by omega)
 have h3:BB=1125899906842624:=rfl
 rw [h3] at h1 h2
 omega
def js (n : Nat) : Prop := ∀ (v : V n) {S : Nat → Prop} {w : World} {cs : List Value} {d : Nat}, Rep n S w cs v → qo BB n v → d ≤ 21 →
    Calls Tryz.prog 67 #[.agg cs.toArray,.int .i64 d] w fun e w'=>e = .returned (.int .i64 (zw n d v))∧zb [] w w'
set_option maxHeartbeats 16000000 in
theorem QB {n:Nat}(known:js n):js (n + 1):=fun (v:VS (V n)) {S}{w}{cs}{d} h ht hd=>by
  obtain⟨vl,vm,lcs,mcs,h⟩:=h
  obtain⟨a,c,b,e,rfl,rfl,rfl⟩:=h.forms
  have H:=qI h
  have HT:=qI ht
  have IH:=qI known
  have heq:Hid (zw (n + 1) d v=if 20 < d∨3000 < v.l.length + v.m.length then 10000 else goL (qx (zw n (d + 1))) (goL (zw n (d + 1)) (1 + v.s.size / 10) v.l) v.m):=qI rfl
  have hbox:=xz w v.kind v.num v.s (.slice a v.l.length c) (.slice b v.m.length e) 25
  obtain⟨⟨ht1,ht2,ht3⟩,-,-⟩:=ht
  simp only [BB] at ht1 ht2 ht3
  have hsum:IntKind.i64.wrap ((v.l.length:Int) + v.m.length)=(v.l.length:Int) + v.m.length:=by
   rw [IntKind.wrap_i64] <;> omega
  clear h
  obtain⟨c0,c1,c2,c3,c4⟩:=hbox
  by_cases hd20:20 < d
  ·have hd':(20:Int) < d:=by omega
   go_enter func67,ntmps67
   go_wp2_with fail
   go_ret
   rw [heq.o,if_pos (.inl hd20)]
   exact⟨rfl,(zb.refl _ w).alloc _⟩
  by_cases hmany:3000 < v.l.length + v.m.length
  ·have hd':(d:Int)≤20:=by omega
   have hm':(3000:Int) < (v.l.length:Int) + v.m.length:=by omega
   go_enter func67,ntmps67
   go_wp2_with fail
   go_ret
   rw [heq.o,if_pos (.inr hmany)]
   exact⟨rfl,(zb.refl _ w).alloc _⟩
  have heq:=qI (heq.o.trans (if_neg (by omega)))
  have hd':(d:Int)≤20:=by omega
  have hm':(v.l.length:Int) + v.m.length≤3000:=by omega
  have hquo:((v.s.size:Int)).tdiv 10=((v.s.size / 10:Nat):Int):=by rw [Int.tdiv_eq_ediv_of_nonneg (by omega)];omega
  go_enter func67,ntmps67
  go_upto_block 0 with fail
  go_cut [5,6] from 25 to 45 (fun x i wr=>(∃ k:Nat,i = .int .i64 k)∧∃ X:Nat,x = .int .i64 X∧X≤60000000000000000∧X=goL (zw n (d + 1)) (1 + v.s.size / 10) v.l∧zb [] (w.alloc (.cells #[.int .i64 v.kind,.int .i64 v.num,.string v.s,.slice a v.l.length c,.slice b v.m.length e] 25)) wr)
  case first=>
   go_wp2_with fail
   go_loopw [5,6] (fun x i wr=>∃ k X:Nat,i = .int .i64 k∧k≤v.l.length∧x = .int .i64 X∧X≤60000000000000000∧goL (zw n (d + 1)) X (v.l.drop k)=goL (zw n (d + 1)) (1 + v.s.size / 10) v.l∧zb [] (w.alloc (.cells #[.int .i64 v.kind,.int .i64 v.num,.string v.s,.slice a v.l.length c,.slice b v.m.length e] 25)) wr) (fun _ i _=>v.l.length - (intOf i).toNat)
   case atStart=>exact⟨0,1 + v.s.size / 10,rfl,Nat.zero_le _,by go_num,by omega,rfl,zb.refl _ _⟩
   case round=>
    obtain⟨k,X,rfl,hk,rfl,hX,hg,hkr⟩:=hrel
    have Gc:=qI (((zb.refl [] w).alloc _).trans' hkr)
    obtain⟨b0,b1,b2,b3,b4⟩:=(xz w v.kind v.num v.s (.slice a v.l.length c) (.slice b v.m.length e) 25).kept0 hkr
    have Ga:=qI hkr
    clear c0 c1 c2 c3 c4 hkr
    by_cases hgo:k < v.l.length∧X≤6000
    ·obtain⟨hlt,hx⟩:=hgo
     have hltI:(k:Int) < v.l.length:=by omega
     have hxI:(X:Int)≤6000:=by omega
     obtain⟨g,o,cap,kd,nm,st,a1,b1',he,q0,q1,q2,q3,q4,hr⟩:=H.o.at_l Gc.o k hlt
     simp only [Value.slice.injEq] at he
     obtain⟨rfl,-,rfl⟩:=he
     have hkT:=HT.o.2.2 _ (kD (List.getElem_mem hlt))
     have cl:=IH.o v.l[k] (d:=d + 1) hr hkT (by omega)
     rw [show ((d + 1:Nat):Int)=(d:Int) + 1 from rfl] at cl
     have CL:=qI cl
     have hY:=Qj (d:=d + 1) hkT (by omega)
     have HD:Hid (goL (zw n (d + 1)) (X + zw n (d + 1) v.l[k]) (v.l.drop (k + 1))=goL (zw n (d + 1)) (1 + v.s.size / 10) v.l):=qI (by
      rw [← hg,List.drop_eq_getElem_cons hlt]
      conv=>rhs;unfold goL
      rw [if_pos hx])
     clear cl hr hkT hg
     revert CL hY HD
     generalize zw n (d + 1) v.l[k]=Y
     intro CL hY HD
     go_wp2_with (go_at_call 67;refine CL.o.mono ?_;rintro e w2 ⟨rfl,hk2⟩)
     case roundEnd=>exact⟨⟨k + 1,X + Y,by go_num,by omega,by go_num,by omega,HD.o,Ga.o.then hk2⟩,by simp [intOf];omega⟩
    ·have hXe:X=goL (zw n (d + 1)) (1 + v.s.size / 10) v.l:=by
      rw [← hg]
      rcases Nat.lt_or_ge k v.l.length with h1 | h1
      ·exact (goL_stop _ (by omega) _).symm
      ·rw [List.drop_eq_nil_iff.2 h1];rfl
     have hsp:((k:Int) < v.l.length∧(6000:Int) < X)∨(v.l.length:Int)≤k:=by omega
     clear hg hgo
     have HX:=qI hXe
     clear hXe
     rcases hsp with ⟨s1,s2⟩ | s1
     all_goals
      go_wp2_with fail
      go_meet
      exact⟨⟨k,rfl⟩,X,rfl,hX,HX.o,Ga.o⟩
  case rest=>
    obtain⟨⟨k,rfl⟩,X,rfl,hX,hXe,hkr⟩:=hcut
    have HX:=qI hXe
    have Ga:=qI hkr
    clear hXe hkr c0 c1 c2 c3 c4
    obtain⟨b0,b1,b2,b3,b4⟩:=(xz w v.kind v.num v.s (.slice a v.l.length c) (.slice b v.m.length e) 25).kept0 Ga.o
    have Gc:=qI (((zb.refl [] w).alloc _).trans' Ga.o)
    go_wp2_with fail
    go_loopw [5,7] (fun x i wr=>∃ k Y:Nat,i = .int .i64 k∧k≤v.m.length∧x = .int .i64 Y∧Y≤120000000000000000∧goL (qx (zw n (d + 1))) Y (v.m.drop k)=goL (qx (zw n (d + 1))) X v.m∧zb [] (w.alloc (.cells #[.int .i64 v.kind,.int .i64 v.num,.string v.s,.slice a v.l.length c,.slice b v.m.length e] 25)) wr) (fun _ i _=>v.m.length - (intOf i).toNat)
    case atStart=>exact⟨0,X,rfl,Nat.zero_le _,rfl,by omega,rfl,Ga.o⟩
    case round=>
     obtain⟨k2,Y,rfl,hk2,rfl,hY,hg,hkr⟩:=hrel
     clear Ga Gc b0 b1 b2 b3 b4
     have Gc:=qI (((zb.refl [] w).alloc _).trans' hkr)
     obtain⟨b0,b1,b2,b3,b4⟩:=(xz w v.kind v.num v.s (.slice a v.l.length c) (.slice b v.m.length e) 25).kept0 hkr
     have Ga:=qI hkr
     clear hkr
     by_cases hgo:k2 < v.m.length∧Y≤6000
     ·obtain⟨hlt,hx⟩:=hgo
      have hltI:(k2:Int) < v.m.length:=by omega
      have hxI:(Y:Int)≤6000:=by omega
      obtain⟨g,o,cap,kd,nm,st,a1,b1',he,q0,q1,q2,q3,q4,q5,hr⟩:=H.o.at_m Gc.o k2 hlt
      simp only [Value.slice.injEq] at he
      obtain⟨rfl,-,rfl⟩:=he
      have hkT:=HT.o.2.2 _ (kK (List.getElem_mem hlt))
      have hkS:=HT.o.2.1 _ (List.getElem_mem hlt)
      simp only [BB] at hkS
      have hZ:=Qj (d:=d + 1) hkT (by omega)
      have HD:Hid (goL (qx (zw n (d + 1))) (Y + qx (zw n (d + 1)) v.m[k2]) (v.m.drop (k2 + 1))=goL (qx (zw n (d + 1))) X v.m):=qI (by
       rw [← hg,List.drop_eq_getElem_cons hlt]
       conv=>rhs;unfold goL
       rw [if_pos hx])
      have Gb:=qI hr
      have Gd:=qI hkT
      clear hr hkT hg
      unfold qx at HD
      revert q0 Gb Gd hkS hZ HD
      generalize v.m[k2]=pr
      obtain⟨key,kid⟩:=pr
      intro q0 hkS hZ HD Gb Gd
      simp only at q0 hkS hZ HD Gb Gd
      go_wp2_with fail
      have e0:=zu b4
      have e1:=zu q0
      have CL:∀ z:Ext wr,Calls Tryz.prog 67 #[.agg #[.int .i64 kd,.int .i64 nm,.string st,a1,b1'],.int .i64 ((d:Int) + 1)] z.w fun e w'=>e = .returned (.int .i64 (zw n (d + 1) kid))∧zb [] z.w w':=fun z=>IH.o kid (d:=d + 1) (Gb.o.kept0 z.k) Gd.o (by omega)
      have e2:=zu q1
      have e3:=zu q2
      have e4:=zu q3
      have e5:=zu q4
      have e6:=zu q5
      revert CL hZ HD
      generalize zw n (d + 1) kid=Z
      intro hZ HD CL
      have hKS:(key.size:Int)≤1125899906842624:=by omega
      refine yr wr (by kernel_rfl) (by kernel_rfl) (zb.refl _ _) ?_
      clear b0 b1 b2 b3 b4 q0 q1 q2 q3 q4 q5
      repeat go_big_quiet_step ((go_at_call 67;exact vT (CL _)))
      refine wpQuiet_nil ?_
      intro w2 hk2'
      go_wp2_with fail
      case roundEnd=>exact⟨⟨k2 + 1,Y + (1 + key.size / 10 + Z),by go_num,by omega,by go_num,by omega,HD.o,Ga.o.then hk2'⟩,by simp [intOf];omega⟩
     ·have hYe:Y=goL (qx (zw n (d + 1))) X v.m:=by
       rw [← hg]
       rcases Nat.lt_or_ge k2 v.m.length with h1 | h1
       ·exact (goL_stop _ (by omega) _).symm
       ·rw [List.drop_eq_nil_iff.2 h1];rfl
      have hsp:((k2:Int) < v.m.length∧(6000:Int) < Y)∨(v.m.length:Int)≤k2:=by omega
      clear hg hgo
      have HY:=qI hYe
      clear hYe
      rcases hsp with ⟨t1,t2⟩ | t1
      all_goals
       go_wp2_with fail
       go_ret
       have hfin:zw (n + 1) d v=Y:=by
        rw [heq.o,← HX.o]
        exact HY.o.symm
       rw [hfin]
       exact⟨rfl,Gc.o⟩
theorem vN:∀ (n:Nat),js n
 | 0=>fun v {_}{_}{_}{_} h _ _=>h.elim
 | n + 1=>QB (vN n)
theorem large_any:∀ (n:Nat) (v:V n) {S:Nat→Prop}{w:World}{cs:List Value}{d:Nat},Rep n S w cs v→qo BB n v→d≤21 →
  Calls Tryz.prog 67 #[.agg cs.toArray,.int .i64 d] w fun e w'=>e = .returned (.int .i64 (zw n d v))∧zb [] w w':=fun n=>vN n
theorem tyVals:yM Tryz.prog 22 25 5 80 (.agg #[.int .i64 0,.int .i64 0,.string ByteArray.empty,.slice none 0 0,.slice none 0 0]):=⟨underlying22,by kernel_rfl,by kernel_rfl,by decide⟩
theorem kS:yM Tryz.prog 23 132 6 96 (.agg #[.string ByteArray.empty,.int .i64 0,.int .i64 0,.string ByteArray.empty,.slice none 0 0,.slice none 0 0]):=⟨underlying23,by kernel_rfl,by kernel_rfl,by decide⟩
theorem Rep.one {n:Nat}{S:Nat→Prop}{w:World}{cs:List Value}{v:V n}(h:Rep n S w cs v):∀ u ∈ cs,u.oneCell'=true:=by
 match n,v,h with
 | n + 1,v,h=>
  obtain⟨vl,vm,lcs,mcs,h⟩:=h
  obtain⟨a,c,b,d,_,_,rfl⟩:=h.forms
  intro u hu
  simp only [List.mem_cons,List.not_mem_nil,or_false] at hu
  rcases hu with rfl | rfl | rfl | rfl | rfl <;> rfl
theorem zG.mem_left {α β:Type}{R:α→β→Prop}{xs:List α}{ys:List β}(h:zG R xs ys) {x:α}(hx:x ∈ xs):∃ y,y ∈ ys∧R x y:=by
 obtain⟨j,hj,rfl⟩:=List.getElem_of_mem hx
 have hj':j < ys.length:=by rw [← h.1];exact hj
 exact⟨ys[j],List.getElem_mem hj',h.2 j _ _ (List.getElem?_eq_getElem hj) (List.getElem?_eq_getElem hj')⟩
theorem bR {t size g base:Nat}(W:World) (hg:W.heap.size=g) (hb:base≤g):(W.alloc (.cells #[] t)).ownsRow base t size (.slice (some ⟨g,0,none⟩) 0 0) 0 []:=by
 subst hg
 exact World.ownsRow_made W #[] 0 hb (by decide) (by simp)
section
variable {n : Nat} {S : Nat → Prop} {w : World} {cs : List Value} {v : VS (V n)} {vl vm : Value} {lcs : List (List Value)} {mcs : List (ByteArray × List Value)}
end
theorem Slc.at5 {w:World}{x:Value}{m:Nat}{lcs:List (List Value)}(h:Slc w 5 x m lcs.flatten) (h5:∀ c,c ∈ lcs→c.length=5) {j:Nat}(hj:j < lcs.length) {k i:Int}{s:ByteArray}{a b:Value}(e:lcs[j]=[.int .i64 k,.int .i64 i,.string s,a,b]) :
  ∃ g o cap,x = .slice (some ⟨g,o,none⟩) m cap∧w.cell? ⟨g,o + j * 5,none⟩=some (.int .i64 k)∧w.cell? ⟨g,o + j * 5 + 1,none⟩=some (.int .i64 i)∧w.cell? ⟨g,o + j * 5 + 2,none⟩=some (.string s)∧w.cell? ⟨g,o + j * 5 + 3,none⟩=some a∧w.cell? ⟨g,o + j * 5 + 4,none⟩=some b:=by
 have hl:=jN lcs h5
 have hm:=h.1
 rcases h.2 with ⟨_,h0⟩ | ⟨h0,_⟩ | ⟨g,o,cap,hsv,_,_,hrow⟩
 ·omega
 ·omega
 have hc:∀ i,i < 5→lcs.flatten[j * 5 + i]? = lcs[j][i]?:=fun i hi=>qX lcs j i h5 hj hi
 rw [e] at hc
 refine⟨g,o,cap,hsv,?_,?_,?_,?_,?_⟩
 ·exact hrow.cells (j * 5 + 0) _ (hc 0 (by decide))
 all_goals rw [Nat.add_assoc]
 ·exact hrow.cells (j * 5 + 1) _ (hc 1 (by decide))
 ·exact hrow.cells (j * 5 + 2) _ (hc 2 (by decide))
 ·exact hrow.cells (j * 5 + 3) _ (hc 3 (by decide))
 ·exact hrow.cells (j * 5 + 4) _ (hc 4 (by decide))
def yk (s:ByteArray):Bool:=Lib.validD s.data.toList
def vP (s:ByteArray):Bool:=decide (s=⟨#[]⟩)
def xK {α:Type}(m:List (ByteArray × α)):Bool:=m.all (fun p=>yk p.1) && decide ((m.map (fun p=>p.1)).Nodup)
def zH {α:Type}(v:VS α):Bool:=
 if v.kind=1 then decide (v.num=0) && vP v.s && v.l.isEmpty && v.m.isEmpty
 else if v.kind=2 then decide (v.num=0∨v.num=1) && vP v.s && v.l.isEmpty && v.m.isEmpty
 else if v.kind=3 then decide (-9007199254740991≤v.num∧v.num≤9007199254740991) && vP v.s && v.l.isEmpty && v.m.isEmpty
 else if v.kind=4 then yk v.s && decide (v.num=0) && v.l.isEmpty && v.m.isEmpty
 else if v.kind=5 then decide (v.num=0) && vP v.s && v.m.isEmpty
 else if v.kind=6 then xK v.m && decide (v.num=0) && vP v.s && v.l.isEmpty
 else false
def zx:(n:Nat)→V n→Bool
 | 0,_=>true
 | n + 1,(v:VS (V n))=>zH v && v.kids.all (zx n)
def yS (n:Nat) (v:V n):Int:=if 12 < zL n v then 41 else if 4096 < zF n v then 42 else if zx n v then 0 else 40
theorem qL {n:Nat}{v:V n}:yS n v=0↔zL n v≤12∧zF n v≤4096∧zx n v=true:=by
 unfold yS
 split
 ·constructor
  ·intro h;cases h
  ·intro h;omega
 ·split
  ·constructor
   ·intro h;cases h
   ·intro h;omega
  ·split
   ·rename_i h1 h2 h3;exact⟨fun _=>⟨by omega,by omega,h3⟩,fun _=>rfl⟩
   ·rename_i h1 h2 h3;exact⟨(fun h=>by cases h),(fun h=>absurd h.2.2 h3)⟩
theorem ql {n:Nat}{v:VS (V n)}(h:zx (n + 1) v=true) {x:V n}(hx:x ∈ v.kids):zx n x=true:=by
 have e:zx (n + 1) v=(zH v && v.kids.all (zx n)):=rfl
 rw [e,Bool.and_eq_true] at h
 exact List.all_eq_true.1 h.2 x hx
theorem kp {n:Nat}{v:VS (V n)}(h:zx (n + 1) v=true):zH v=true:=by
 have e:zx (n + 1) v=(zH v && v.kids.all (zx n)):=rfl
 rw [e,Bool.and_eq_true] at h
 exact h.1
theorem km {α:Type}{v:VS α}(h:zH v=true) :
  (v.kind=1∧v.num=0∧v.s=⟨#[]⟩∧v.l=[]∧v.m=[])∨(v.kind=2∧(v.num=0∨v.num=1)∧v.s=⟨#[]⟩∧v.l=[]∧v.m=[]) ∨
  (v.kind=3∧(-9007199254740991≤v.num∧v.num≤9007199254740991)∧v.s=⟨#[]⟩∧v.l=[]∧v.m=[])∨(v.kind=4∧v.num=0∧yk v.s=true∧v.l=[]∧v.m=[]) ∨
  (v.kind=5∧v.num=0∧v.s=⟨#[]⟩∧v.m=[])∨(v.kind=6∧v.num=0∧v.s=⟨#[]⟩∧v.l=[]∧xK v.m=true):=by
 unfold zH vP at h
 split at h
 ·rename_i e;simp only [Bool.and_eq_true,decide_eq_true_iff,List.isEmpty_iff] at h;exact .inl ⟨e,h.1.1.1,h.1.1.2,h.1.2,h.2⟩
 split at h
 ·rename_i e;simp only [Bool.and_eq_true,decide_eq_true_iff,List.isEmpty_iff] at h;exact .inr (.inl ⟨e,h.1.1.1,h.1.1.2,h.1.2,h.2⟩)
 split at h
 ·rename_i e;simp only [Bool.and_eq_true,decide_eq_true_iff,List.isEmpty_iff] at h;exact .inr (.inr (.inl ⟨e,h.1.1.1,h.1.1.2,h.1.2,h.2⟩))
 split at h
 ·rename_i e;simp only [Bool.and_eq_true,decide_eq_true_iff,List.isEmpty_iff] at h;exact .inr (.inr (.inr (.inl ⟨e,h.1.1.2,h.1.1.1,h.1.2,h.2⟩)))
 split at h
 ·rename_i e;simp only [Bool.and_eq_true,decide_eq_true_iff,List.isEmpty_iff] at h;exact .inr (.inr (.inr (.inr (.inl ⟨e,h.1.1,h.1.2,h.2⟩))))
 split at h
 ·rename_i e;simp only [Bool.and_eq_true,decide_eq_true_iff,List.isEmpty_iff] at h;exact .inr (.inr (.inr (.inr (.inr ⟨e,h.1.1.2,h.1.2,h.2,h.1.1.1⟩))))
 ·cases h
def leK {α:Type}(a b:ByteArray × α):Bool:=decide (a.1.data.toList≤b.1.data.toList)
def zv:(n:Nat)→V n→V n
 | 0,v=>v
 | n + 1,(v:VS (V n))=>(⟨v.kind,v.num,v.s,v.l.map (zv n),(v.m.map (fun p=>(p.1,zv n p.2))).mergeSort leK⟩:VS (V n))
theorem qQ {α:Type}(a b c:ByteArray × α) (h1:leK a b=true) (h2:leK b c=true):leK a c=true:=by
 simp only [leK,decide_eq_true_eq] at *
 exact List.le_trans h1 h2
theorem vt {α:Type}(a b:ByteArray × α):(leK a b || leK b a)=true:=by
 simp only [leK,Bool.or_eq_true,decide_eq_true_eq]
 exact List.le_total _ _
theorem ba_eq {x y:ByteArray}(h:x.data.toList=y.data.toList):x=y:=by
 cases x;cases y
 simp only [ByteArray.mk.injEq] at *
 exact Array.toList_inj.1 h
theorem kw {α:Type}{a b:List (ByteArray × α)}(hp:a.Perm b) (ha:a.Pairwise (fun x y=>leK x y=true)) (hb:b.Pairwise (fun x y=>leK x y=true)) (hn:(a.map (fun p=>p.1)).Nodup):a=b:=by
 refine List.Perm.eq_of_pairwise (le:=fun x y=>leK x y=true) (fun x y hx hy h1 h2=>?_) ha hb hp
 simp only [leK,decide_eq_true_eq] at h1 h2
 have e:x.1=y.1:=ba_eq (List.le_antisymm h1 h2)
 have hy':y ∈ a:=hp.mem_iff.2 hy
 obtain⟨i,hi,rfl⟩:=List.getElem_of_mem hx
 obtain⟨j,hj,rfl⟩:=List.getElem_of_mem hy'
 have hij:i=j:=by
  rcases Nat.lt_trichotomy i j with h | h | h
  ·exact absurd e (by
    have:=(List.pairwise_iff_getElem.1 hn) i j (by simpa using hi) (by simpa using hj) h
    simpa using this)
  ·exact h
  ·exact absurd e.symm (by
    have:=(List.pairwise_iff_getElem.1 hn) j i (by simpa using hj) (by simpa using hi) h
    simpa using this)
 subst hij;rfl
def xX (n:Nat):UInt8:=UInt8.ofNat (if n < 10 then 48 + n else 87 + n)
def zO (c:UInt8):List UInt8:=if c.toNat < 32 then [92,117,48,48,xX (c.toNat / 16),xX (c.toNat % 16)] else if c=34∨c=92 then [92,c] else [c]
def yn (s:List UInt8):List UInt8:=34 :: (s.flatMap zO ++ [34])
def xZ:List (List UInt8)→List UInt8
 | []=>[]
 | [x]=>x
 | x :: y :: l=>x ++ (44 :: xZ (y :: l))
def zp:(n:Nat)→V n→List UInt8
 | 0,_=>[]
 | n + 1,(v:VS (V n))=>
  if v.kind=1 then [110,117,108,108]
  else if v.kind=2 then (if v.num=1 then [116,114,117,101] else [102,97,108,115,101])
  else if v.kind=3 then Lib.itoa v.num
  else if v.kind=4 then yn v.s.data.toList
  else if v.kind=5 then 91 :: (xZ (v.l.map (zp n)) ++ [93])
  else 123 :: (xZ (v.m.map (fun p=>yn p.1.data.toList ++ (58 :: zp n p.2))) ++ [125])
def kh (n:Nat) (v:V n):List UInt8 × Int:=
 if yS n v≠0 then ([],yS n v) else if 262144 < (zp n (zv n v)).length then ([],3) else (zp n (zv n v),0)
end Go.Proofs.YtibnfbglanpoiaaGreatDoor

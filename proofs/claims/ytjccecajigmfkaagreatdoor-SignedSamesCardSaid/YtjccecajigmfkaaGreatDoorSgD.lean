/- Parts of one proof, merged: XVR XG XVF XKA XAV. -/
import Derived.Test.YtjccecajigmfkaaGreatDoorSgC
import Derived.Test.YtjccecajigmfkaaGreatDoorSgB
import Derived.Deep.DeepCutAuto
import Derived.Deep.CutBlock
import Derived.Deep.Slices
import Derived.OpenShut
import Derived.SizedLaws
set_option linter.all false
set_option maxHeartbeats 12800000
set_option maxRecDepth 10000
namespace Go.Proofs.YtjccecajigmfkaaGreatDoor
open Go.Proofs.Tryz
open Go.RowKit
variable {K:Act→World→Prop}{P:Program}{Q:Exit→Act→World→Prop}{X:List Nat}{a b:Value}{base bytes e:Nat}{f:Nat×Nat}{i:Nat}{k m:Int}{news:List Value}{s:ByteArray}{size t:Nat}{vx:Value}{w':World}{z:Value}
def yj (p:ByteArray×List Value):List Value:=.string p.1::p.2
def zZ (l:List (ByteArray×List Value)):List Value:=l.flatMap yj
def bh {α:Type}(R:List Value→α→Prop)(p:ByteArray×List Value)(q:ByteArray×α):Prop:=p.1=q.1∧R p.2 q.2
structure yk {α:Type}(R:List Value→α→Prop)(S:Nat→Prop)(w:World)(cs:List Value)(v:VS α)(vl vm:Value)(lcs:List (List Value))(mcs:List (ByteArray×List Value)):Prop where
 cells:cs=[.int .i64 v.kind,.int .i64 v.num,.string v.s,vl,vm]
 slcl:Slc w 5 vl v.l.length lcs.flatten
 alll:zM R lcs v.l
 slcm:Slc w 6 vm v.m.length (zZ mcs)
 allm:zM (bh R) mcs v.m
 inl:∀ g,yx vl=some g→S g
 inm:∀ g,yx vm=some g→S g
 wfk:(Lit.int .i64 v.kind).wf=true
 wfn:(Lit.int .i64 v.num).wf=true
def Rep:(n:Nat)→(Nat→Prop)→World→List Value→V n→Prop
 | 0,_,_,_,_=>False
 | n+1,S,w,cs,(v:VS (V n))=>∃ vl vm lcs mcs,yk (Rep n S w) S w cs v vl vm lcs mcs
theorem Rep.open_ {n:Nat}{S:Nat→Prop}{w:World}{cs:List Value}{v:VS (V n)}(h:Rep (n+1) S w cs v):∃ vl vm lcs mcs,yk (Rep n S w) S w cs v vl vm lcs mcs:=h
theorem yk.close {n:Nat}{S:Nat→Prop}{w:World}{cs:List Value}{v:VS (V n)}{vl vm:Value}{lcs:List (List Value)}{mcs:List (ByteArray×List Value)}(h:yk (Rep n S w) S w cs v vl vm lcs mcs):Rep (n+1) S w cs v:=⟨vl,vm,lcs,mcs,h⟩
theorem Rep.five:∀ {n:Nat}{S:Nat→Prop}{w:World}{cs:List Value}{v:V n},Rep n S w cs v→∃ k m s vl vm,cs=[.int .i64 k,.int .i64 m,.string s,vl,vm]
 | 0,_,_,_,_,h=>h.elim
 | _+1,_,_,_,_,h=>by
  obtain⟨vl,vm,lcs,mcs,h⟩:=h
  exact⟨_,_,_,_,_,h.cells⟩
theorem Rep.len {n:Nat}{S:Nat→Prop}{w:World}{cs:List Value}{v:V n}(h:Rep n S w cs v):cs.length=5:=by
 obtain⟨k,m,s,vl,vm,rfl⟩:=h.five
 rfl
theorem Rep.kept:∀ {n:Nat}{S:Nat→Prop}{X:List Nat}{w w':World}{cs:List Value}{v:V n},Rep n S w cs v→zb X w w'→(∀ k,k∈X→¬ S k)→Rep n S w' cs v
 | 0,_,_,_,_,_,_,h,_,_=>h.elim
 | n+1,S,X,w,w',cs,v,h,k,hX=>by
  obtain⟨vl,vm,lcs,mcs,h⟩:=h
  exact⟨vl,vm,lcs,mcs,{
   cells:=h.cells
   slcl:=h.slcl.kept k (fun g b a=>hX g a (h.inl g b))
   alll:=h.alll.mono fun _ _ _ r=>Rep.kept r k hX
   slcm:=h.slcm.kept k (fun g b a=>hX g a (h.inm g b))
   allm:=h.allm.mono fun _ _ _ r=>⟨r.1,Rep.kept r.2 k hX⟩
   inl:=h.inl
   inm:=h.inm
   wfk:=h.wfk
   wfn:=h.wfn }⟩
theorem Rep.k0 {n:Nat}{S:Nat→Prop}{w:World}{cs:List Value}{v:V n}(h:Rep n S w cs v)(k:zb [] w w'):Rep n S w' cs v:=h.kept k Wz
theorem Rep.mono:∀ {n:Nat}{S T:Nat→Prop}{w:World}{cs:List Value}{v:V n},Rep n S w cs v→(∀ k,k<w.heap.size→S k→T k)→Rep n T w cs v
 | 0,_,_,_,_,_,h,_=>h.elim
 | n+1,S,T,w,cs,v,h,hT=>by
  obtain⟨vl,vm,lcs,mcs,h⟩:=h
  exact⟨vl,vm,lcs,mcs,{
   cells:=h.cells
   slcl:=h.slcl
   alll:=h.alll.mono fun _ _ _ r=>Rep.mono r hT
   slcm:=h.slcm
   allm:=h.allm.mono fun _ _ _ r=>⟨r.1,Rep.mono r.2 hT⟩
   inl:=fun g a=>hT g (h.slcl.lt a) (h.inl g a)
   inm:=fun g a=>hT g (h.slcm.lt a) (h.inm g a)
   wfk:=h.wfk
   wfn:=h.wfn }⟩
theorem zM.map_right {α β γ:Type}{R:α→β→Prop}{Q:α→γ→Prop}{f:β→γ}{xs:List α}{ys:List β}(h:zM R xs ys)(d:∀ x y,R x y→Q x (f y)):zM Q xs (ys.map f):=by
 refine⟨by simp [h.1],?_⟩
 intro j x z b a
 rw [List.getElem?_map,Option.map_eq_some_iff] at a
 obtain⟨y,e,rfl⟩:=a
 exact d x y (h.2 j x y b e)
theorem Rep.up:∀ {n:Nat}{S:Nat→Prop}{w:World}{cs:List Value}{v:V n},Rep n S w cs v→Rep (n+1) S w cs (Go.Proofs.YtjccecajigmfkaaGreatDoor.up n v)
 | 0,_,_,_,_,h=>h.elim
 | n+1,S,w,cs,v,h=>by
  obtain⟨vl,vm,lcs,mcs,h⟩:=h
  exact⟨vl,vm,lcs,mcs,{
   cells:=h.cells
   slcl:=by have:=h.slcl;show Slc w 5 vl (v.l.map _).length _;rw [List.length_map];exact this
   alll:=h.alll.map_right fun _ _ r=>Rep.up r
   slcm:=by have:=h.slcm;show Slc w 6 vm (v.m.map _).length _;rw [List.length_map];exact this
   allm:=h.allm.map_right fun _ _ r=>⟨r.1,Rep.up r.2⟩
   inl:=h.inl
   inm:=h.inm
   wfk:=h.wfk
   wfn:=h.wfn }⟩
theorem kK {size:Nat}:∀ (ls:List (List Value)) (j i:Nat),(∀ c,c∈ls→c.length=size)→(hj:j<ls.length)→i<size→ls.flatten[j*size+i]? = ls[j][i]?
 | [],j,i,_,hj,_=>by simp at hj
 | c::ls,0,i,h,_,hi=>by
  have hc:=h c (List.mem_cons_self ..)
  rw [List.flatten_cons,Nat.zero_mul,Nat.zero_add,List.getElem?_append_left Ws]
  rfl
 | c::ls,j+1,i,h,hj,hi=>by
  have hc:=h c (List.mem_cons_self ..)
  rw [List.flatten_cons,List.getElem?_append_right (by rw [hc,Nat.add_mul];omega),hc,show (j+1)*size+i-size=j*size+i by rw [Nat.add_mul];omega]
  exact kK ls j i (fun d hd=>h d (List.mem_cons_of_mem _ hd)) (by simpa using hj) hi
theorem bX {size:Nat}:∀ (ls:List (List Value)),(∀ c,c∈ls→c.length=size)→ls.flatten.length=ls.length*size
 | [],_=>by simp
 | c::ls,h=>by
  rw [List.flatten_cons,List.length_append,bX ls (fun d hd=>h d (List.mem_cons_of_mem _ hd)),h c (List.mem_cons_self ..),List.length_cons,Nat.add_mul]
  omega
theorem yB (l:List (ByteArray×List Value)):zZ l=(l.map yj).flatten:=by simp [zZ,List.flatMap]
section
variable {n : Nat} {S : Nat → Prop} {w : World} {cs : List Value} {v : VS (V n)} {vl vm : Value} {lcs : List (List Value)} {mcs : List (ByteArray × List Value)}
theorem yk.lens (h:yk (Rep n S w) S w cs v vl vm lcs mcs):lcs.length=v.l.length∧mcs.length=v.m.length:=⟨h.alll.1,h.allm.1⟩
theorem yk.five_l (h:yk (Rep n S w) S w cs v vl vm lcs mcs):∀ c,c∈lcs→c.length=5:=by
 intro c hc
 obtain⟨j,a,rfl⟩:=List.getElem_of_mem hc
 exact (h.alll.2 j _ _ (List.getElem?_eq_getElem a) (List.getElem?_eq_getElem (by rw [← h.alll.1];exact a))).len
theorem yk.six_m (h:yk (Rep n S w) S w cs v vl vm lcs mcs):∀ c,c∈mcs.map yj→c.length=6:=by
 intro c hc
 obtain⟨p,hp,rfl⟩:=List.mem_map.1 hc
 obtain⟨j,a,rfl⟩:=List.getElem_of_mem hp
 have:=(h.allm.2 j _ _ (List.getElem?_eq_getElem a) (List.getElem?_eq_getElem (by rw [← h.allm.1];exact a))).2.len
 simp [yj,this]
theorem yk.at_lx (h:yk (Rep n S w) S w cs v vl vm lcs mcs){w':World}(k:zb [] w w')(j:Nat)(m:j<v.l.length) : ∃ g o cap kd nm s a b,vl = .slice (some ⟨g,o,none⟩) v.l.length cap∧w'.cell? ⟨g,o+j*5,none⟩=some (.int .i64 kd)∧w'.cell? ⟨g,o+j*5+1,none⟩=some (.int .i64 nm)∧w'.cell? ⟨g,o+j*5+2,none⟩=some (.string s)∧w'.cell? ⟨g,o+j*5+3,none⟩=some a∧w'.cell? ⟨g,o+j*5+4,none⟩=some b∧Rep n S w' [.int .i64 kd,.int .i64 nm,.string s,a,b] v.l[j]∧lcs[j]? = some [.int .i64 kd,.int .i64 nm,.string s,a,b]:=by
 have d:j<lcs.length:=by rw [h.lens.1];exact m
 have f:=h.alll.2 j _ _ (List.getElem?_eq_getElem d) (List.getElem?_eq_getElem m)
 obtain⟨kd,nm,s,a,b,e⟩:=f.five
 rcases (h.slcl.k0 k).2 with ⟨_,h0⟩ | ⟨h0,_⟩ | ⟨g,o,cap,hsv,_,_,hrow⟩
 ·omega
 ·omega
 have hc:∀ i,i<5→lcs.flatten[j*5+i]? = lcs[j][i]?:=fun i p=>kK lcs j i h.five_l d p
 rw [e] at hc f
 refine⟨g,o,cap,kd,nm,s,a,b,hsv,?_,?_,?_,?_,?_,f.k0 k,by rw [List.getElem?_eq_getElem d,e]⟩
 ·exact hrow.cells (j*5+0) _ (hc 0 Wo)
 all_goals rw [Nat.add_assoc]
 ·exact hrow.cells (j*5+1) _ (hc 1 Wo)
 ·exact hrow.cells (j*5+2) _ (hc 2 Wo)
 ·exact hrow.cells (j*5+3) _ (hc 3 Wo)
 ·exact hrow.cells (j*5+4) _ (hc 4 Wo)
theorem yk.at_l (h:yk (Rep n S w) S w cs v vl vm lcs mcs){w':World}(k:zb [] w w')(j:Nat)(f:j<v.l.length) : ∃ g o cap kd nm s a b,vl = .slice (some ⟨g,o,none⟩) v.l.length cap∧w'.cell? ⟨g,o+j*5,none⟩=some (.int .i64 kd)∧w'.cell? ⟨g,o+j*5+1,none⟩=some (.int .i64 nm)∧w'.cell? ⟨g,o+j*5+2,none⟩=some (.string s)∧w'.cell? ⟨g,o+j*5+3,none⟩=some a∧w'.cell? ⟨g,o+j*5+4,none⟩=some b∧Rep n S w' [.int .i64 kd,.int .i64 nm,.string s,a,b] v.l[j]:=by
 obtain⟨g,o,cap,kd,nm,s,a,b,i,m,h2,h3,e,d,h6,_⟩:=h.at_lx k j f
 exact⟨g,o,cap,kd,nm,s,a,b,i,m,h2,h3,e,d,h6⟩
theorem yk.at_mx (h:yk (Rep n S w) S w cs v vl vm lcs mcs){w':World}(k:zb [] w w')(j:Nat)(p:j<v.m.length) : ∃ g o cap kd nm s a b,vm = .slice (some ⟨g,o,none⟩) v.m.length cap∧w'.cell? ⟨g,o+j*6,none⟩=some (.string v.m[j].1)∧w'.cell? ⟨g,o+j*6+1,none⟩=some (.int .i64 kd)∧w'.cell? ⟨g,o+j*6+2,none⟩=some (.int .i64 nm)∧w'.cell? ⟨g,o+j*6+3,none⟩=some (.string s)∧w'.cell? ⟨g,o+j*6+4,none⟩=some a∧w'.cell? ⟨g,o+j*6+5,none⟩=some b∧Rep n S w' [.int .i64 kd,.int .i64 nm,.string s,a,b] v.m[j].2∧mcs[j]? = some (v.m[j].1,[.int .i64 kd,.int .i64 nm,.string s,a,b]):=by
 have d:j<mcs.length:=by rw [h.lens.2];exact p
 have l:=h.allm.2 j _ _ (List.getElem?_eq_getElem d) (List.getElem?_eq_getElem p)
 obtain⟨kd,nm,s,a,b,e⟩:=l.2.five
 rcases (h.slcm.k0 k).2 with ⟨_,h0⟩ | ⟨h0,_⟩ | ⟨g,o,cap,hsv,_,_,hrow⟩
 ·omega
 ·omega
 have hc:∀ i,i<6→(zZ mcs)[j*6+i]? = (yj mcs[j])[i]?:=fun i r=>by
  rw [yB,kK (mcs.map yj) j i h.six_m (by simpa using d) r,List.getElem_map]
 have q:yj mcs[j]=[.string v.m[j].1,.int .i64 kd,.int .i64 nm,.string s,a,b]:=by
  show Value.string mcs[j].1::mcs[j].2=_
  rw [e,l.1]
 have f:=l.2
 rw [e] at f
 rw [q] at hc
 refine⟨g,o,cap,kd,nm,s,a,b,hsv,?_,?_,?_,?_,?_,?_,f.k0 k,by rw [List.getElem?_eq_getElem d];exact congrArg some (Prod.ext l.1 e)⟩
 ·exact hrow.cells (j*6+0) _ (hc 0 Wo)
 all_goals rw [Nat.add_assoc]
 ·exact hrow.cells (j*6+1) _ (hc 1 Wo)
 ·exact hrow.cells (j*6+2) _ (hc 2 Wo)
 ·exact hrow.cells (j*6+3) _ (hc 3 Wo)
 ·exact hrow.cells (j*6+4) _ (hc 4 Wo)
 ·exact hrow.cells (j*6+5) _ (hc 5 Wo)
theorem yk.at_m (h:yk (Rep n S w) S w cs v vl vm lcs mcs){w':World}(k:zb [] w w')(j:Nat)(i:j<v.m.length) : ∃ g o cap kd nm s a b,vm = .slice (some ⟨g,o,none⟩) v.m.length cap∧w'.cell? ⟨g,o+j*6,none⟩=some (.string v.m[j].1)∧w'.cell? ⟨g,o+j*6+1,none⟩=some (.int .i64 kd)∧w'.cell? ⟨g,o+j*6+2,none⟩=some (.int .i64 nm)∧w'.cell? ⟨g,o+j*6+3,none⟩=some (.string s)∧w'.cell? ⟨g,o+j*6+4,none⟩=some a∧w'.cell? ⟨g,o+j*6+5,none⟩=some b∧Rep n S w' [.int .i64 kd,.int .i64 nm,.string s,a,b] v.m[j].2:=by
 obtain⟨g,o,cap,kd,nm,s,a,b,l,p,h2,h3,f,d,h6,e,_⟩:=h.at_mx k j i
 exact⟨g,o,cap,kd,nm,s,a,b,l,p,h2,h3,f,d,h6,e⟩
theorem yk.forms (h:yk (Rep n S w) S w cs v vl vm lcs mcs):∃ a c b d,vl = .slice a v.l.length c∧vm = .slice b v.m.length d∧cs=[.int .i64 v.kind,.int .i64 v.num,.string v.s,.slice a v.l.length c,.slice b v.m.length d]:=by
 obtain⟨a,c,e,-,-⟩:=h.slcl.form
 obtain⟨b,d,f,-,-⟩:=h.slcm.form
 exact⟨a,c,b,d,e,f,by rw [h.cells,e,f]⟩
end
theorem zbz {n:Nat}(S:Nat→Prop)(w:World)(v:VS (V n))(a:v.l=[])(hm:v.m=[])(b:(Lit.int .i64 v.kind).wf=true)(d:(Lit.int .i64 v.num).wf=true):Rep (n+1) S w [.int .i64 v.kind,.int .i64 v.num,.string v.s,.slice none 0 0,.slice none 0 0] v:=
 ⟨.slice none 0 0,.slice none 0 0,[],[],{
  cells:=rfl
  slcl:=by rw [a];exact xX _ _
  alll:=by rw [a];exact zM.nil _
  slcm:=by rw [hm];exact xX _ _
  allm:=by rw [hm];exact zM.nil _
  inl:=by simp [yx]
  inm:=by simp [yx]
  wfk:=b
  wfn:=d }⟩
theorem xa (T:xG P t e size bytes z) {w:World}{v:Value}{n:Nat}{xs:List Value}(hown:w.ownsRow base e size v n xs)
{m:Nat}(hsrc:Slc w size vx m news) (h1:∀ u∈news,u.oneCell'=true) (h63:n+m≤maxLen) (hbytes:(n+m)*bytes≤140737488355328) (hbase:base≤w.heap.size)
  {o:Oper}{a:Act}(s x:Operand)
  (ho:o.op = .call { callee:=.builtin .append,args:=#[s,x],argTypes:=#[t,t] }) (hs:a.eval s=v) (hx:a.eval x=vx)
  (h:∀ b c w',w'.ownsRow base e size (.slice b (n+m) c) (n+m) (xs++news)→zb v.ownBlock.toList w w'→((Value.slice b (n+m) c).ownBlock=v.ownBlock∨(Value.slice b (n+m) c).ownBlock=some w.heap.size)→K (a.put o.dst (.slice b (n+m) c)) w') :
  Oper.wp P o a w K Q:=by
 obtain⟨v',w',hr,h2,h3,h4,h5⟩:=vT T w o.type base v n xs hown vx m news hsrc h1 h63 hbytes hbase
 obtain⟨b,c,rfl,-,-⟩:=(Slc.of_row h2).form
 unfold Oper.wp execOp
 simp only [ho,resolve,invoke,builtin,Sem.run_bind,Sem.run_pure,Result.andThen_ok,List.map_toArray,List.map_cons,List.map_nil,hs,hx,hr]
 exact h b c w' h2 h3 h5
theorem ZQ (T:xG P t e size bytes z) {w:World}{v:Value}(hown:w.ownsRow base e size v 0 [])
{m:Nat}(hsrc:Slc w size vx m news) (h1:∀ u∈news,u.oneCell'=true) (h63:m≤maxLen) (hbytes:m*bytes≤140737488355328) (hbase:base≤w.heap.size)
  {o:Oper}{a:Act}(s x:Operand)
  (ho:o.op = .call { callee:=.builtin .append,args:=#[s,x],argTypes:=#[t,t] }) (hs:a.eval s=v) (hx:a.eval x=vx)
  (h:∀ b c w',w'.ownsRow base e size (.slice b m c) m news→zb v.ownBlock.toList w w'→((Value.slice b m c).ownBlock=v.ownBlock∨(Value.slice b m c).ownBlock=some w.heap.size)→K (a.put o.dst (.slice b m c)) w') :
  Oper.wp P o a w K Q:=by
 refine xa T hown hsrc h1 Ws (by rw [Nat.zero_add];exact hbytes) hbase s x ho hs hx ?_
 rw [Nat.zero_add,List.nil_append]
 exact h
theorem KH {w:World}{b:Nat}{c:Array Value}(h:w.heap[b]? = some (.cells c t f))(v:Value):(w.setCell ⟨b,i,none⟩ v).heap[b]? = some (.cells (c.setIfInBounds i v) t f):=by
 simp [World.setCell,Array.getElem?_modify,h]
theorem yN (g:Nat):∀ (vs:List Value) (o:Nat) (w:World),zb [g] w (w.setCells g o vs)
 | [],o,w=>Wd
 | v::r,o,w=>((zb.refl [g] w).setCell (p:=⟨g,o,none⟩) (.inl Wz) v).trans' (yN g r (o+1) _)
theorem qC (g:Nat){e:Nat}{f:Nat×Nat}:∀ (vs:List Value) (o:Nat) (w:World) (cur:Array Value),w.heap[g]? = some (.cells cur e f) →
  ∃ cur',(w.setCells g o vs).heap[g]? = some (.cells cur' e f)∧cur'.size=cur.size∧∀ j,j<cur.size→cur'[j]? = if o≤j∧j<o+vs.length then vs[j-o]? else cur[j]?
 | [],o,w,cur,h=>⟨cur,h,rfl,fun j hj=>by rw [if_neg Wz]⟩
 | v::r,o,w,cur,h=>by
  have h1:(w.setCell ⟨g,o,none⟩ v).heap[g]? = some (.cells (cur.setIfInBounds o v) e f):=by simp [World.setCell,Array.getElem?_modify,h]
  obtain⟨cur',h2,h3,d⟩:=qC g r (o+1) _ _ h1
  refine⟨cur',h2,by rw [h3];simp,?_⟩
  intro j hj
  rw [d j (by simpa using hj)]
  simp only [List.length_cons]
  by_cases b:j=o
  ·subst b
   rw [if_neg Ws,if_pos Ws]
   simp [hj]
  ·by_cases a:o+1≤j∧j<o+1+r.length
   ·rw [if_pos a,if_pos Ws]
    rw [show j-o=(j-(o+1))+1 by omega]
    rfl
   ·rw [if_neg a,if_neg Ws]
    rw [Array.getElem?_setIfInBounds]
    rw [if_neg Ws]
theorem zd {w:World}{b:Nat}{c:Array Value}{v:Value}(h:w.heap[b]? = some (.cells c t f)){d:Array Value}(hd:c.setIfInBounds i v=d):(w.setCell ⟨b,i,none⟩ v).heap[b]? = some (.cells d t f):=by
 subst hd;exact KH h v
theorem ze {w:World}{o:Obj}{g:Nat}(a:w.heap.size=g):(w.alloc o).heap[g]? = some o:=by
 subst a;exact heap_alloc_new w o
structure vt (w:World)(g:Nat)(key:ByteArray)(k m:Int)(s:ByteArray)(a b:Value):Prop where
 c0:w.cell? ⟨g,0,none⟩=some (.string key)
 c1:w.cell? ⟨g,1,none⟩=some (.int .i64 k)
 c2:w.cell? ⟨g,2,none⟩=some (.int .i64 m)
 c3:w.cell? ⟨g,3,none⟩=some (.string s)
 c4:w.cell? ⟨g,4,none⟩=some a
 c5:w.cell? ⟨g,5,none⟩=some b
theorem pbox_at {w:World}{g:Nat}(e:w.heap.size=g)(key:ByteArray)(k m:Int)(s:ByteArray)(a b:Value)(t:Nat):vt (w.alloc (.cells #[.string key,.int .i64 k,.int .i64 m,.string s,a,b] t)) g key k m s a b:=by
 subst e
 have d:=heap_alloc_new w (.cells #[.string key,.int .i64 k,.int .i64 m,.string s,a,b] t)
 exact⟨za d rfl,za d rfl,za d rfl,za d rfl,za d rfl,za d rfl⟩
theorem vt.kept {w:World}{g:Nat}{key:ByteArray}(h:vt w g key k m s a b)(d:zb X w w')(e:g ∉ X):vt w' g key k m s a b:=
 ⟨d.cell h.c0 e,d.cell h.c1 e,d.cell h.c2 e,d.cell h.c3 e,d.cell h.c4 e,d.cell h.c5 e⟩
theorem vt.k0 {w:World}{g:Nat}{key:ByteArray}(h:vt w g key k m s a b)(d:zb [] w w'):vt w' g key k m s a b:=h.kept d Wz
theorem Rep.move {n:Nat}{S T:Nat→Prop}{w:World}{cs:List Value}{v:V n}(h:Rep n S w cs v)(d:zb X w w')(b:∀ g,g<w.heap.size→S g→g ∉ X∧T g):Rep n T w' cs v:=
 ((h.mono (T:=fun g=>g ∉ X∧T g) b).kept d (fun g a q=>q.1 a)).mono (fun _ _ q=>q.2)
theorem Rep.sl {n:Nat}{S:Nat→Prop}{w:World}{v:V n}(h:Rep n S w [.int .i64 k,.int .i64 m,.string s,a,b] v):∃ p i c q j d,a = .slice p i c∧b = .slice q j d:=by
 match n,v,h with
 | n+1,v,h=>
  obtain⟨vl,vm,lcs,mcs,h⟩:=h
  obtain⟨p,c,q,d,_,_,e⟩:=h.forms
  simp only [List.cons.injEq] at e
  exact⟨_,_,_,_,_,_,e.2.2.2.1,e.2.2.2.2.1⟩
theorem zM.pick {α β γ:Type}{R:α→β→Prop}{Q:α→γ→Prop}:∀ (xs:List α) (ys:List β),zM R xs ys→(∀ x y,y∈ys→R x y→∃ z,Q x z)→∃ zs,zM Q xs zs
 | [],_,_,_=>⟨[],zM.nil _⟩
 | x::xs,[],h,_=>by have:=h.1;simp at this
 | x::xs,y::ys,h,hq=>by
  obtain⟨z,f⟩:=hq x y (List.mem_cons_self ..) (h.2 0 x y rfl rfl)
  obtain⟨zs,e⟩:=zM.pick xs ys ⟨by simpa using h.1,fun j a b i d=>h.2 (j+1) a b (by simpa using i) (by simpa using d)⟩ (fun a b d=>hq a b (List.mem_cons_of_mem _ d))
  exact⟨z::zs,e.cons f⟩
def bP (n:Nat)(B:Nat)(S:Nat→Prop)(w:World)(cs:List Value)(v:V n):Prop:=Rep n S w cs v∧kv B n v
theorem bP.fit:∀ (n d:Nat) {B:Nat}{S:Nat→Prop}{w:World}{cs:List Value}{v:V n},bP n B S w cs v→zH n v≤d→∃ v':V d,bP d B S w cs v'
 | 0,_,_,_,_,_,_,h,_=>h.1.elim
 | n+1,0,_,_,_,_,v,_,hd=>by
  have:zH (n+1) v=1+qM (VS.kids (α:=V n) v |>.map (zH n)):=rfl
  omega
 | n+1,d+1,B,S,w,cs,v,h,hd=>by
  obtain⟨⟨vl,vm,lcs,mcs,h⟩,F⟩:=h
  obtain⟨t,G,C⟩:=F
  have D:∀ x,x∈VS.kids (α:=V n) v→zH n x≤d:=fun x a=>by have:=depthV_kid a;omega
  obtain⟨u,q⟩:=zM.pick (Q:=fun x (z:V d)=>bP d B S w x z) _ _ h.alll (fun x y e k=>bP.fit n d (v:=y) ⟨k,C y (je e)⟩ (D y (je e)))
  obtain⟨A,hm⟩:=zM.pick (Q:=fun x (z:ByteArray×V d)=>bh (bP d B S w) x z∧z.1.size≤B) _ _ h.allm (fun x y e k=>by
   obtain⟨z,H⟩:=bP.fit n d (v:=y.2) ⟨k.2,C _ (kN e)⟩ (D _ (kN e))
   exact⟨(y.1,z),⟨k.1,H⟩,G y e⟩)
  have E:u.length=(VS.l (α:=V n) v).length:=q.1.symm.trans h.alll.1
  have em:A.length=(VS.m (α:=V n) v).length:=hm.1.symm.trans h.allm.1
  have f:∀ x,x∈u→kv B d x:=fun x a=>by
   obtain⟨j,i,rfl⟩:=List.getElem_of_mem a
   exact (q.2 j _ _ (List.getElem?_eq_getElem (by rw [q.1];exact i)) (List.getElem?_eq_getElem i)).2
  have b:∀ p,p∈A→kv B d p.2∧p.1.size≤B:=fun x a=>by
   obtain⟨j,i,rfl⟩:=List.getElem_of_mem a
   have:=hm.2 j _ _ (List.getElem?_eq_getElem (by rw [hm.1];exact i)) (List.getElem?_eq_getElem i)
   exact⟨this.1.2.2,this.2⟩
  refine⟨(⟨VS.kind (α:=V n) v,VS.num (α:=V n) v,VS.s (α:=V n) v,u,A⟩:VS (V d)),⟨vl,vm,lcs,mcs,{
   cells:=h.cells
   slcl:=by have:=h.slcl;rw [← E] at this;exact this
   alll:=q.mono fun _ _ _ r=>r.1
   slcm:=by have:=h.slcm;rw [← em] at this;exact this
   allm:=hm.mono fun _ _ _ r=>⟨r.1.1,r.1.2.1⟩
   inl:=h.inl
   inm:=h.inm
   wfk:=h.wfk
   wfn:=h.wfn }⟩,⟨t.1,by rw [E];exact t.2.1,by rw [em];exact t.2.2⟩,fun p hp=>(b p hp).2,fun x a=>?_⟩
  rcases List.mem_append.1 a with a | a
  ·exact f x a
  ·obtain⟨p,hp,rfl⟩:=List.mem_map.1 a
   exact (b p hp).1
structure yZ (w:World)(g:Nat)(k m:Int)(s:ByteArray)(a b:Value):Prop where
 c0:w.cell? ⟨g,0,none⟩=some (.int .i64 k)
 c1:w.cell? ⟨g,1,none⟩=some (.int .i64 m)
 c2:w.cell? ⟨g,2,none⟩=some (.string s)
 c3:w.cell? ⟨g,3,none⟩=some a
 c4:w.cell? ⟨g,4,none⟩=some b
theorem xr (w:World)(k m:Int)(s:ByteArray)(a b:Value)(t:Nat):yZ (w.alloc (.cells #[.int .i64 k,.int .i64 m,.string s,a,b] t)) w.heap.size k m s a b:=by
 have d:=heap_alloc_new w (.cells #[.int .i64 k,.int .i64 m,.string s,a,b] t)
 exact⟨za d rfl,za d rfl,za d rfl,za d rfl,za d rfl⟩
theorem yZ.kept {w:World}{g:Nat}(h:yZ w g k m s a b)(d:zb X w w')(e:g ∉ X):yZ w' g k m s a b:=
 ⟨d.cell h.c0 e,d.cell h.c1 e,d.cell h.c2 e,d.cell h.c3 e,d.cell h.c4 e⟩
theorem yZ.k0 {w:World}{g:Nat}(h:yZ w g k m s a b)(d:zb [] w w'):yZ w' g k m s a b:=h.kept d Wz
def BB:Nat:=1125899906842624
theorem zaX {n d:Nat}{v:V n}(h:kv BB n v)(hd:d≤21):zO n d v≤50000000000000000:=by
 have a:=large_le (B:=BB) n d v h
 have h2:(22-d)*(20000+2*BB)≤22*(20000+2*BB):=Nat.mul_le_mul_right _ Ws
 have h3:BB=1125899906842624:=rfl
 rw [h3] at a h2
 omega
def vP (n : Nat) : Prop := ∀ (v : V n) {S : Nat → Prop} {w : World} {cs : List Value} {d : Nat}, Rep n S w cs v → kv BB n v → d ≤ 21 →
    Calls prog 43 #[.agg cs.toArray,.int .i64 d] w fun e w'=>e = .returned (.int .i64 (zO n d v))∧zb [] w w'
set_option maxHeartbeats 16000000 in
theorem zbe {n:Nat}(F:vP n):vP (n+1):=fun (v:VS (V n)) {S}{w}{cs}{d} h ht hd=>by
  obtain⟨vl,vm,lcs,mcs,h⟩:=h;obtain⟨a,c,b,e,rfl,rfl,rfl⟩:=h.forms;have H:=qI h;have HT:=qI ht;have IH:=qI F;have u:Hid (zO (n+1) d v=if 20<d∨3000<v.l.length+v.m.length then 10000 else goL (kJ (zO n (d+1))) (goL (zO n (d+1)) (1+v.s.size/10) v.l) v.m):=qI rfl;have U:=xr w v.kind v.num v.s (.slice a v.l.length c) (.slice b v.m.length e) 25;obtain⟨⟨ai,af,ag⟩,-,-⟩:=ht;simp only [BB] at ai af ag;have aj:IntKind.i64.wrap ((v.l.length:Int)+v.m.length)=(v.l.length:Int)+v.m.length:=by rw [IntKind.wrap_i64] <;> omega
  clear h;obtain⟨c0,c1,c2,c3,c4⟩:=U;by_cases aa:20<d
  ·have Q:(20:Int)<d:=by omega
   go_enter func43,ntmps43;go_wp2;go_ret;rw [u.o,if_pos (.inl aa)];exact⟨rfl,(zb.refl _ w).alloc _⟩
  by_cases E:3000<v.l.length+v.m.length
  ·have Q:(d:Int)≤20:=by omega
   have ae:(3000:Int)<(v.l.length:Int)+v.m.length:=Ws;go_enter func43,ntmps43;go_wp2;go_ret;rw [u.o,if_pos (.inr E)];exact⟨rfl,(zb.refl _ w).alloc _⟩
  have u:=qI (u.o.trans (if_neg Ws));have Q:(d:Int)≤20:=Ws;have ae:(v.l.length:Int)+v.m.length≤3000:=Ws;have ak:((v.s.size:Int)).tdiv 10=((v.s.size/10:Nat):Int):=by rw [Int.tdiv_eq_ediv_of_nonneg Ws];omega
  go_enter func43,ntmps43;go_upto_block 0 with fail;go_cut [5,6] from 25 to 45 (fun x i wr=>(∃ k:Nat,i = .int .i64 k)∧∃ X:Nat,x = .int .i64 X∧X≤60000000000000000∧X=goL (zO n (d+1)) (1+v.s.size/10) v.l∧zb [] (w.alloc (.cells #[.int .i64 v.kind,.int .i64 v.num,.string v.s,.slice a v.l.length c,.slice b v.m.length e] 25)) wr);case first=>
   go_wp2_with fail;go_loopw [5,6] (fun x i wr=>∃ k X:Nat,i = .int .i64 k∧k≤v.l.length∧x = .int .i64 X∧X≤60000000000000000∧goL (zO n (d+1)) X (v.l.drop k)=goL (zO n (d+1)) (1+v.s.size/10) v.l∧zb [] (w.alloc (.cells #[.int .i64 v.kind,.int .i64 v.num,.string v.s,.slice a v.l.length c,.slice b v.m.length e] 25)) wr) (fun _ i _=>v.l.length-(intOf i).toNat);case atStart=>exact⟨0,1+v.s.size/10,rfl,XB,by go_num,Ws,rfl,Wd⟩
   case round=>
    obtain⟨k,X,rfl,hk,rfl,hX,B,f⟩:=hrel;have I:=qI (((zb.refl [] w).alloc _).trans' f);obtain⟨b0,b1,b2,b3,L⟩:=(xr w v.kind v.num v.s (.slice a v.l.length c) (.slice b v.m.length e) 25).k0 f;have A:=qI f;clear c0 c1 c2 c3 c4 f;by_cases q:k<v.l.length∧X≤6000
    ·obtain⟨j,hx⟩:=q;have W:(k:Int)<v.l.length:=Ws;have ah:(X:Int)≤6000:=Ws;obtain⟨g,o,cap,kd,nm,st,a1,ad,N,J,q1,q2,q3,q4,K⟩:=H.o.at_l I.o k j;simp only [Value.slice.injEq] at N;obtain⟨rfl,-,rfl⟩:=N;have p:=HT.o.2.2 _ (je (List.getElem_mem j));have cl:=IH.o v.l[k] (d:=d+1) K p Ws;rw [show ((d+1:Nat):Int)=(d:Int)+1 from rfl] at cl;have D:=qI cl;have hY:=zaX (d:=d+1) p Ws;have r:Hid (goL (zO n (d+1)) (X+zO n (d+1) v.l[k]) (v.l.drop (k+1))=goL (zO n (d+1)) (1+v.s.size/10) v.l):=qI (by
      rw [← B,List.drop_eq_getElem_cons j];conv=>rhs;unfold goL
      rw [if_pos hx])
     clear cl K p B;revert D hY r;generalize zO n (d+1) v.l[k]=Y;intro D hY r;go_wp2_with (go_at_call 43;refine D.o.mono ?_;rintro e w2 ⟨rfl,R⟩);case roundEnd=>exact⟨⟨k+1,X+Y,by go_num,Ws,by go_num,Ws,r.o,A.o.then R⟩,by simp [intOf];omega⟩
    ·have t:X=goL (zO n (d+1)) (1+v.s.size/10) v.l:=by
      rw [← B];rcases Nat.lt_or_ge k v.l.length with h1 | h1
      ·exact (goL_stop _ Ws _).symm
      ·rw [List.drop_eq_nil_iff.2 h1];rfl
     have G:((k:Int)<v.l.length∧(6000:Int)<X)∨(v.l.length:Int)≤k:=Ws;clear B q;have HX:=qI t;clear t;rcases G with ⟨s1,s2⟩ | s1
     all_goals
      go_wp2;go_meet;exact⟨⟨k,rfl⟩,X,rfl,hX,HX.o,A.o⟩
  case rest=>
    obtain⟨⟨k,rfl⟩,X,rfl,hX,t,f⟩:=hcut;have HX:=qI t;have A:=qI f;clear t f c0 c1 c2 c3 c4;obtain⟨b0,b1,b2,b3,L⟩:=(xr w v.kind v.num v.s (.slice a v.l.length c) (.slice b v.m.length e) 25).k0 A.o;have I:=qI (((zb.refl [] w).alloc _).trans' A.o);go_wp2_with fail;go_loopw [5,7] (fun x i wr=>∃ k Y:Nat,i = .int .i64 k∧k≤v.m.length∧x = .int .i64 Y∧Y≤120000000000000000∧goL (kJ (zO n (d+1))) Y (v.m.drop k)=goL (kJ (zO n (d+1))) X v.m∧zb [] (w.alloc (.cells #[.int .i64 v.kind,.int .i64 v.num,.string v.s,.slice a v.l.length c,.slice b v.m.length e] 25)) wr) (fun _ i _=>v.m.length-(intOf i).toNat);case atStart=>exact⟨0,X,rfl,XB,rfl,Ws,rfl,A.o⟩
    case round=>
     obtain⟨y,Y,rfl,R,rfl,hY,B,f⟩:=hrel;clear A I b0 b1 b2 b3 L;have I:=qI (((zb.refl [] w).alloc _).trans' f);obtain⟨b0,b1,b2,b3,L⟩:=(xr w v.kind v.num v.s (.slice a v.l.length c) (.slice b v.m.length e) 25).k0 f;have A:=qI f;clear f;by_cases q:y<v.m.length∧Y≤6000
     ·obtain⟨j,hx⟩:=q;have W:(y:Int)<v.m.length:=Ws;have ah:(Y:Int)≤6000:=Ws;obtain⟨g,o,cap,kd,nm,st,a1,ad,N,J,q1,q2,q3,q4,q5,K⟩:=H.o.at_m I.o y j;simp only [Value.slice.injEq] at N;obtain⟨rfl,-,rfl⟩:=N;have p:=HT.o.2.2 _ (kN (List.getElem_mem j));have C:=HT.o.2.1 _ (List.getElem_mem j);simp only [BB] at C;have M:=zaX (d:=d+1) p Ws;have r:Hid (goL (kJ (zO n (d+1))) (Y+kJ (zO n (d+1)) v.m[y]) (v.m.drop (y+1))=goL (kJ (zO n (d+1))) X v.m):=qI (by
       rw [← B,List.drop_eq_getElem_cons j];conv=>rhs;unfold goL
       rw [if_pos hx])
      have Gb:=qI K;have Gd:=qI p;clear K p B;unfold kJ at r;revert J Gb Gd C M r;generalize v.m[y]=pr;obtain⟨key,kid⟩:=pr;intro J C M r Gb Gd;simp only at J C M r Gb Gd;go_wp2_with fail;have e0:=zv L;have e1:=zv J;have D:∀ z:Ext wr,Calls prog 43 #[.agg #[.int .i64 kd,.int .i64 nm,.string st,a1,ad],.int .i64 ((d:Int)+1)] z.w fun e w'=>e = .returned (.int .i64 (zO n (d+1) kid))∧zb [] z.w w':=fun z=>IH.o kid (d:=d+1) (Gb.o.k0 z.k) Gd.o Ws;have e2:=zv q1;have e3:=zv q2;have e4:=zv q3;have e5:=zv q4;have e6:=zv q5;revert D M r;generalize zO n (d+1) kid=Z;intro M r D;have al:(key.size:Int)≤1125899906842624:=Ws;refine yg wr Wr Wr Wd ?_;clear b0 b1 b2 b3 L J q1 q2 q3 q4 q5;repeat go_big_quiet_step ((go_at_call 43;exact JU (D _)))
      refine wpQuiet_nil ?_;intro w2 O;go_wp2;case roundEnd=>exact⟨⟨y+1,Y+(1+key.size/10+Z),by go_num,Ws,by go_num,Ws,r.o,A.o.then O⟩,by simp [intOf];omega⟩
     ·have P:Y=goL (kJ (zO n (d+1))) X v.m:=by
       rw [← B];rcases Nat.lt_or_ge y v.m.length with h1 | h1
       ·exact (goL_stop _ Ws _).symm
       ·rw [List.drop_eq_nil_iff.2 h1];rfl
      have G:((y:Int)<v.m.length∧(6000:Int)<Y)∨(v.m.length:Int)≤y:=Ws;clear B q;have HY:=qI P;clear P;rcases G with ⟨t1,t2⟩ | t1
      all_goals
       go_wp2;go_ret;have ab:zO (n+1) d v=Y:=by rw [u.o,← HX.o];exact HY.o.symm
       rw [ab];exact⟨rfl,I.o⟩
theorem Z2:∀ (n:Nat),vP n
 | 0=>fun v {_}{_}{_}{_} h _ _=>h.elim
 | n+1=>zbe (Z2 n)
theorem large_any:∀ (n:Nat) (v:V n) {S:Nat→Prop}{w:World}{cs:List Value}{d:Nat},Rep n S w cs v→kv BB n v→d≤21→Calls prog 43 #[.agg cs.toArray,.int .i64 d] w fun e w'=>e = .returned (.int .i64 (zO n d v))∧zb [] w w':=fun n=>Z2 n
theorem cellsIntV:Tryz.prog.cellsOf 3=1:=Wr
theorem K2:Tryz.prog.cellsOf 9=1:=Wr
theorem cellsVals:Tryz.prog.cellsOf 22=1:=Wr
theorem cellsPairs:Tryz.prog.cellsOf 23=1:=Wr
theorem za6:Tryz.prog.cellsOf 25=5:=Wr
theorem cellsPair:Tryz.prog.cellsOf 41=6:=Wr
section
variable {H : Type} {enc : TypeId × Value → H} {w : World} {held : Bool}
theorem Qc {P:Program}{e:TypeId}:∀ {l:List (DataW H)}{d:DataW H}{k:Nat},d∈l→k∈d.weights P e→k∈DataW.weightsAll P e l
 | [],_,_,h,_=>by cases h
 | a::l,d,k,h,hk=>by
  rw [DataW.weightsAll,List.mem_append];rcases List.mem_cons.1 h with rfl | h
  ·exact .inl hk
  ·exact .inr (Qc h hk)
theorem qo {P:Program}{t:TypeId}{fs:Array Field}{xs:List (DataW H×List MemPlace)}(h:P.underlying t=some (.struct fs)){j:Nat}{a:TypeId}{y:DataW H×List MemPlace}{k:Nat}(e:(fs.toList.map (·.type))[j]? = some a)(b:xs[j]? = some y)(d:k∈y.1.weights P a):k∈(DataW.agg (xs.map (·.1)):DataW H).weights P t:=by
 rw [DataW.weights,h];exact DataW.weights_mem_each (j:=j) e (by rw [List.getElem?_map,b];rfl) k d
theorem JC {P:Program}{t e size:Nat}(X:P.underlying t=some (.slice e))(hc:P.cellsOf e=size)(p:0<size){q:Nat}{v:Value}{x:DataW H×List MemPlace}{B:Nat}(h:DataW.trod enc P w 0 (fun _=>true) held q t [v]=some x)(G:∀ k,k∈x.1.weights P t→k≤B)(hb:0<P.bytesOf e) : ∃ n xs,Slc w size v n xs∧n≤B∧(n=0∨∃ m,q=m+1∧∀ i,i<n→∃ y,DataW.trod enc P w 0 (fun _=>true) held m e ((xs.drop (i*size)).take size)=some y∧∀ k,k∈y.1.weights P e→k≤B):=by
 rcases DataW.trod_slice X h with ⟨A,_⟩ | ⟨a,len,cap,d,rest,m,C,A,Q,_,hl,hm,U,Z,_⟩
 ·obtain rfl:v = .slice none 0 0:=by simpa using A
  exact⟨0,[],xX _ _,XB,.inl rfl⟩
 ·obtain rfl:v = .slice (some a) len cap:=by simpa using A
  rw [hc] at Z;by_cases h0:len=0;·subst h0;exact⟨0,[],⟨Wz,.inr (.inl ⟨rfl,a,cap,rfl,hm⟩)⟩,XB,.inl rfl⟩
  ·rw [Q] at G;have W:(DataW.slice (d.map (·.1)) (rest.map (·.1)):DataW H).weights P t=((d.map (·.1)).length+(rest.map (·.1)).length)*P.bytesOf e::(DataW.weightsAll P e (d.map (·.1))++DataW.weightsAll P e (rest.map (·.1))):=by rw [DataW.weights,X]
   simp only at G;rw [W] at G;have s:len≤B:=by have l:=G _ (List.mem_cons_self ..);rw [List.length_map,List.length_map,U] at l;have h2:(len+rest.length)*1≤(len+rest.length)*P.bytesOf e:=Nat.mul_le_mul_left _ hb;omega
   have K:∀ i,i<len→∃ b,w.cells? 0 (a.add (i*size)) size=some b∧∃ y,DataW.trod enc P w 0 (fun _=>true) held m e b=some y∧∀ k,k∈y.1.weights P e→k≤B:=by intro i O;have l:=Z i O;rw [List.getElem?_eq_getElem Ws] at l;obtain⟨b,h2,h3⟩:=Option.bind_eq_some_iff.1 l;exact⟨b,h2,_,h3,fun k hk=>G k (List.mem_cons_of_mem _ (List.mem_append_left _ (Qc (List.mem_map_of_mem (List.getElem_mem Ws)) hk)))⟩
   have f:∀ j,j<len*size→∃ u,w.cell? (a.add j)=some u:=by intro j L;have O:j/size<len:=Nat.div_lt_of_lt_mul (by rw [Nat.mul_comm];exact L);obtain⟨b,l,_⟩:=K _ O;obtain⟨_,h2,h3⟩:=World.cells?_some l;have F:=Nat.mod_lt j p;have M:=h3 _ F;rw [Deep.add_add,show j/size*size+j%size=j by rw [Nat.mul_comm];exact Nat.div_add_mod j size] at M;rw [M];exact⟨b[j%size],by simp [h2,F]⟩
   have D:0<len*size:=Nat.mul_pos Ws p;obtain⟨u0,J⟩:=f 0 D;obtain⟨g,o,I⟩:=a;have E:I=none:=by simpa [Addr.add] using World.cell?_spot J
   subst E;have R:g<w.heap.size:=by
    rcases Nat.lt_or_ge g w.heap.size with h | h;·exact h
    ·exfalso;simp [World.cell?,Addr.add,Array.getElem?_eq_none h] at J
   refine⟨len,(List.range (len*size)).map fun j=>(w.cell? ⟨g,o+j,none⟩).getD (.bool false),⟨Wz,.inr (.inr ⟨g,o,cap,rfl,hl,hm,⟨?_,R⟩⟩)⟩,s,.inr ⟨m,C,?_⟩⟩
   ·intro j u N;rw [List.getElem?_map] at N;by_cases L:j<len*size;·obtain⟨u',z⟩:=f j L;rw [bQ] at z;simp [L,z] at N;rw [z,N]
    ·simp [L] at N
   ·intro i O;obtain⟨b,l,h2⟩:=K i Ws;obtain⟨_,h3,M⟩:=World.cells?_some l;have aa:i*size+size≤len*size:=by have:=Nat.mul_le_mul_right size (show i+1≤len by omega);rw [Nat.add_mul,Nat.one_mul] at this;exact this
    have e1:(((List.range (len*size)).map fun j=>(w.cell? ⟨g,o+j,none⟩).getD (.bool false)).drop (i*size)).take size=b:=by
     apply List.ext_getElem?;intro r;by_cases F:r<size;·have Y:=M r F;rw [Deep.add_add,bQ] at Y;rw [List.getElem?_take,if_pos F,List.getElem?_drop,List.getElem?_map,List.getElem?_range Ws];simp only [Option.map_some];rw [Y];simp [h3,F]
     ·rw [List.getElem?_eq_none (by rw [List.length_take];omega),List.getElem?_eq_none Ws]
    rw [e1];exact h2
theorem zbg {α:Type}{l:List α}(h:l.length=5):∃ a b c d e,l=[a,b,c,d,e]:=by
 match l,h with
 | [a,b,c,d,e],_=>exact⟨a,b,c,d,e,rfl⟩
theorem list_sixV {α:Type}{l:List α}(h:l.length=6):∃ a b c d e f,l=[a,b,c,d,e,f]:=by
 match l,h with
 | [a,b,c,d,e,f],_=>exact⟨a,b,c,d,e,f,rfl⟩
theorem texts_up {B:Nat}:∀ (n:Nat) (v:V n),kv B n v→kv B (n+1) (up n v)
 | 0,v,_=>nomatch v
 | n+1,(v:VS (V n)),⟨⟨h1,h2,h3⟩,h4,h5⟩=>by
  refine⟨⟨h1,?_,?_⟩,?_,?_⟩;·show (v.l.map _).length≤B;rw [List.length_map];exact h2
  ·show (v.m.map _).length≤B;rw [List.length_map];exact h3
  ·intro p hp;obtain⟨q,hq,rfl⟩:=List.mem_map.1 hp;exact h4 q hq
  ·intro x b;have a:x∈(VS.map (up n) v).kids:=b;rw [VS.kids_map] at a;obtain⟨y,d,rfl⟩:=List.mem_map.1 a;exact texts_up n y (h5 y d)
theorem bP.up {n B:Nat}{S:Nat→Prop}{cs:List Value}{v:V n}(h:bP n B S w cs v):bP (n+1) B S w cs (Go.Proofs.YtjccecajigmfkaaGreatDoor.up n v):=⟨h.1.up,texts_up n v h.2⟩
def qX (size:Nat)(xs:List Value)(n:Nat):List (List Value):=(List.range n).map fun i=>(xs.drop (i*size)).take size
theorem YH {size:Nat}:∀ (n:Nat) (xs:List Value),xs.length=n*size→(qX size xs n).flatten=xs
 | 0,xs,h=>by rw [Nat.zero_mul] at h;rw [List.eq_nil_of_length_eq_zero h];rfl
 | n+1,xs,h=>by
  have h':(xs.drop size).length=n*size:=by rw [List.length_drop,h,Nat.add_mul,Nat.one_mul];omega
  have a:=YH n (xs.drop size) h';unfold qX at a ⊢;rw [List.range_succ_eq_map,List.map_cons,List.flatten_cons,Nat.zero_mul,List.drop_zero,List.map_map];have e:((fun i=>(xs.drop (i*size)).take size) ∘ Nat.succ)=fun i=>((xs.drop size).drop (i*size)).take size:=by funext i;simp only [Function.comp,List.drop_drop];rw [show Nat.succ i*size=size+i*size by rw [Nat.succ_mul];omega]
  rw [e,a];exact List.take_append_drop size xs
def pairF (c:List Value):ByteArray×List Value:=(match c.head? with | some (.string s)=>s | _=>⟨#[]⟩,c.tail)
theorem trod_value {B:Nat}:∀ (fuel:Nat) {cs:List Value}{x:DataW H×List MemPlace},DataW.trod enc prog w 0 (fun _=>true) held fuel 25 cs=some x→(∀ k,k∈x.1.weights prog 25→k≤B)→∃ v:V fuel,bP fuel B (fun g=>g<w.heap.size) w cs v:=by
 intro fuel;induction fuel using Nat.strongRecOn with
 | ind fuel IH=>
  intro cs x h hw;obtain⟨xs,n,aj,ai,N,O,hf⟩:=DataW.trod_struct underlying25 h;subst aj;rw [za6] at N;obtain⟨c0,c1,c2,c3,c4,rfl⟩:=zbg N;obtain⟨y0,y1,y2,y3,y4,rfl⟩:=zbg O;have h0:DataW.trod enc prog w 0 (fun _=>true) held n 3 (([c0,c1,c2,c3,c4].drop 0).take (Tryz.prog.cellsOf 3))=some y0:=hf 0 _ rfl;have h1:DataW.trod enc prog w 0 (fun _=>true) held n 3 (([c0,c1,c2,c3,c4].drop 1).take (Tryz.prog.cellsOf 3))=some y1:=hf 1 _ rfl;have h2:DataW.trod enc prog w 0 (fun _=>true) held n 9 (([c0,c1,c2,c3,c4].drop 2).take (Tryz.prog.cellsOf 9))=some y2:=hf 2 _ rfl;have h3:DataW.trod enc prog w 0 (fun _=>true) held n 22 (([c0,c1,c2,c3,c4].drop 3).take (Tryz.prog.cellsOf 22))=some y3:=hf 3 _ rfl;have h4:DataW.trod enc prog w 0 (fun _=>true) held n 23 (([c0,c1,c2,c3,c4].drop 4).take (Tryz.prog.cellsOf 23))=some y4:=hf 4 _ rfl;rw [cellsIntV] at h0 h1;rw [K2] at h2;rw [cellsVals] at h3;rw [cellsPairs] at h4;have G:∀ (j:Nat) (F:TypeId) (y:DataW H×List MemPlace),([3,3,9,22,23]:List TypeId)[j]? = some F→[y0,y1,y2,y3,y4][j]? = some y→∀ k,k∈y.1.weights prog F→k≤B:=by intro j F y ht U k D;refine hw k ?_;rw [ai];exact qo underlying25 ht U D
  obtain⟨i,e0,_,w0⟩:=DataW.trod_int underlying3 (x:=y0) h0;obtain⟨j,e1,_,w1⟩:=DataW.trod_int underlying3 (x:=y1) h1;obtain⟨s,e2,f2,-⟩:=DataW.trod_string underlying9 (x:=y2) h2;have w2:s.size≤B:=by have h9:=G 2 _ y2 rfl rfl s.data.toList.length (by rw [f2];show _∈DataW.weights prog 9 (.lit (.string s.data.toList));simp [DataW.weights]);simpa using h9
  have hL:=JC (v:=c3) (x:=y3) underlying22 za6 Wo h3 (G 3 _ y3 rfl rfl) (by rw [show Tryz.prog.bytesOf 25=80 by kernel_rfl];decide);have hM:=JC (v:=c4) (x:=y4) underlying23 cellsPair Wo h4 (G 4 _ y4 rfl rfl) (by rw [show Tryz.prog.bytesOf 41=96 by kernel_rfl];decide);simp only [List.drop_zero,List.drop_succ_cons,List.take_succ_cons,List.take_zero,List.cons.injEq,and_true] at e0 e1 e2;subst e0 e1 e2;obtain⟨K,xl,sl,ml,N⟩:=hL;obtain⟨d,f,sm,mm,hm⟩:=hM;have gl:∃ Y:List (V n),zM (bP n B (fun g=>g<w.heap.size) w) (qX 5 xl K) Y:=by
   refine zM.pick (R:=fun (c:List Value) (k:Nat)=>∃ z:V n,bP n B (fun g=>g<w.heap.size) w c z) _ (List.range K) ⟨by simp [qX],?_⟩ (fun _ _ _ r=>r);intro q c k hc D;have X:q<K:=by have:=(List.getElem?_eq_some_iff.1 D).1;simpa using this
   unfold qX at hc;rw [List.getElem?_map,List.getElem?_range X] at hc;simp only [Option.map_some,Option.some.injEq] at hc;subst hc;rcases N with h0 | ⟨m,hm,N⟩
   ·omega
   obtain⟨y,U,J⟩:=N q X;obtain⟨z,P⟩:=IH m Ws U J;subst hm;exact⟨_,P.up⟩
  have gm:∃ Q:List (ByteArray×V n),zM (fun c (z:ByteArray×V n)=>(c = .string z.1::c.tail∧bP n B (fun g=>g<w.heap.size) w c.tail z.2)∧z.1.size≤B) (qX 6 f d) Q:=by
   refine zM.pick (R:=fun (c:List Value) (k:Nat)=>∃ z:ByteArray×V n,(c = .string z.1::c.tail∧bP n B (fun g=>g<w.heap.size) w c.tail z.2)∧z.1.size≤B) _ (List.range d) ⟨by simp [qX],?_⟩ (fun _ _ _ r=>r);intro q c k hc D;have X:q<d:=by have:=(List.getElem?_eq_some_iff.1 D).1;simpa using this
   unfold qX at hc;rw [List.getElem?_map,List.getElem?_range X] at hc;simp only [Option.map_some,Option.some.injEq] at hc;subst hc;rcases hm with h0 | ⟨m,ae,hm⟩
   ·omega
   obtain⟨y,U,J⟩:=hm q X;obtain⟨ys,n2,ah,ak,l,E,u⟩:=DataW.trod_struct underlying41 U;rw [cellsPair] at l;revert l u;generalize (f.drop (q*6)).take 6=c6;intro l u;obtain⟨d0,d1,d2,d3,d4,d5,rfl⟩:=list_sixV l;obtain⟨L,M,rfl⟩:∃ L M,ys=[L,M]:=by
    match ys,E with
    | [a,b],_=>exact⟨a,b,rfl⟩
   have k0:DataW.trod enc prog w 0 (fun _=>true) held n2 9 (([d0,d1,d2,d3,d4,d5].drop 0).take (Tryz.prog.cellsOf 9))=some L:=u 0 _ rfl;have k1:DataW.trod enc prog w 0 (fun _=>true) held n2 25 (([d0,d1,d2,d3,d4,d5].drop 1).take (Tryz.prog.cellsOf 25))=some M:=u 1 _ rfl;rw [K2] at k0;rw [za6] at k1;have Z:∀ (j:Nat) (F:TypeId) (y':DataW H×List MemPlace),([9,25]:List TypeId)[j]? = some F→[L,M][j]? = some y'→∀ k,k∈y'.1.weights prog F→k≤B:=by intro j F y' ht ag k D;refine J k ?_;rw [ak];exact qo underlying41 ht ag D
   obtain⟨s2,q0,af,-⟩:=DataW.trod_string underlying9 (x:=L) k0;simp only [List.drop_zero,List.take_succ_cons,List.take_zero,List.cons.injEq,and_true] at q0;subst q0;have q2:s2.size≤B:=by have h9:=Z 0 _ L rfl rfl s2.data.toList.length (by rw [af];show _∈DataW.weights prog 9 (.lit (.string s2.data.toList));simp [DataW.weights]);simpa using h9
   have an:DataW.trod enc prog w 0 (fun _=>true) held n2 25 [d1,d2,d3,d4,d5]=some M:=k1;obtain⟨z,P⟩:=IH n2 Ws an (Z 1 _ M rfl rfl);subst ah;subst ae;exact⟨(s2,Go.Proofs.YtjccecajigmfkaaGreatDoor.up _ (Go.Proofs.YtjccecajigmfkaaGreatDoor.up _ z)),⟨rfl,P.up.up⟩,q2⟩
  obtain⟨Y,al⟩:=gl;obtain⟨Q,I⟩:=gm;have el:Y.length=K:=by rw [← al.1];simp [qX]
  have em:Q.length=d:=by rw [← I.1];simp [qX]
  have aa:∀ x,x∈Y→kv B n x:=fun x t=>by obtain⟨j,C,rfl⟩:=List.getElem_of_mem t;exact (al.2 j _ _ (List.getElem?_eq_getElem (by rw [al.1];exact C)) (List.getElem?_eq_getElem C)).2
  have A:∀ p,p∈Q→kv B n p.2∧p.1.size≤B:=fun x t=>by obtain⟨j,C,rfl⟩:=List.getElem_of_mem t;have:=I.2 j _ _ (List.getElem?_eq_getElem (by rw [I.1];exact C)) (List.getElem?_eq_getElem C);exact⟨this.1.2.2,this.2⟩
  have W:∀ c,c∈qX 6 f d→yj (pairF c)=c:=fun c hc=>by obtain⟨j,C,rfl⟩:=List.getElem_of_mem hc;have h5:=(I.2 j _ _ (List.getElem?_eq_getElem C) (List.getElem?_eq_getElem (by rw [← I.1];exact C))).1.1;rw [h5];rfl
  have ao:zZ ((qX 6 f d).map pairF)=f:=by
   rw [yB,List.map_map];have e:(qX 6 f d).map (yj ∘ pairF)=qX 6 f d:=by
    conv=>rhs;rw [← List.map_id (qX 6 f d)]
    exact List.map_congr_left fun c hc=>W c hc
   rw [e];exact YH d f sm.1
  have ad:(qX 5 xl K).flatten=xl:=YH K xl sl.1
  refine⟨(⟨i,j,s,Y,Q⟩:VS (V n)),⟨c3,c4,qX 5 xl K,(qX 6 f d).map pairF,{
   cells:=rfl
   slcl:=by rw [el,ad];exact sl
   alll:=al.mono fun _ _ _ r=>r.1
   slcm:=by rw [em,ao];exact sm
   allm:=?_
   inl:=fun g hg=>sl.lt hg
   inm:=fun g hg=>sm.lt hg
   wfk:=w0
   wfn:=w1 }⟩,⟨w2,by rw [el];exact ml,by rw [em];exact mm⟩,fun p hp=>(A p hp).2,fun x t=>?_⟩
  ·refine⟨by rw [List.length_map];exact I.1,?_⟩;intro q c z hc P;rw [List.getElem?_map,Option.map_eq_some_iff] at hc;obtain⟨c',ab,rfl⟩:=hc;have h5:=(I.2 q c' z ab P).1;refine⟨?_,h5.2.1⟩;rw [h5.1];rfl
  ·rcases List.mem_append.1 t with t | t;·exact aa x t
   ·obtain⟨p,hp,rfl⟩:=List.mem_map.1 t;exact (A p hp).1
end
end Go.Proofs.YtjccecajigmfkaaGreatDoor

/- Parts of one proof, merged: XCU XCV XJT XGU XED XKK XEA XIN XIK XIL XHJ XLastB XPH XHb. -/
import Derived.Test.YtjccecajigmfkaaGreatDoorSgT
import Derived.Test.YtjccecajigmfkaaGreatDoorSgU
import Derived.Laws.StructEq
import Derived.Test.YtjccecajigmfkaaGreatDoorSgV
import Derived.Handed
set_option linter.all false
set_option maxHeartbeats 12800000
set_option maxRecDepth 100000
namespace Go.Proofs.YtjccecajigmfkaaGreatDoor
open Go.Proofs.Tryz
open Go.RowKit
variable {a b:Option Addr}{k:yX}{n:Nat}{op:Oper}{rest:List Oper}{v:V n}
structure yh where
 id:ByteArray
 sig:ByteArray
deriving Inhabited
def yh.enc (r:yh):List Value:=[.string r.id,.string r.sig]
def jH (l:List yh):List Value:=l.flatMap yh.enc
def xn (r:yh):Bool:=b8 r.id&&((xo r.sig).isSome&&decide (r.sig.size≤1048576))
def yh.small (r:yh):Prop:=r.id.size≤140737488355328∧r.sig.size≤140737488355328
def xT (w:World)(v:Value)(l:List yh):Prop:=Slc w 2 v l.length (jH l)
theorem xT.k0 {w w':World}{v:Value}{l:List yh}(h:xT w v l)(k:zb [] w w'):xT w' v l:=Slc.k0 h k
theorem rowsL_at:∀ (l:List yh) (j:Nat) (hj:j<l.length) (i:Nat) (_:i<2),(jH l)[j*2+i]? = (l[j].enc)[i]?
 | r::t,0,_,i,hi=>by show (r.enc++jH t)[0*2+i]? = _;rw [List.getElem?_append_left (by simp [yh.enc];omega),Nat.zero_mul,Nat.zero_add];rfl
 | r::t,j+1,hj,i,hi=>by show (r.enc++jH t)[(j+1)*2+i]? = _;rw [List.getElem?_append_right (by simp [yh.enc];omega),show (j+1)*2+i-r.enc.length=j*2+i by simp [yh.enc];omega];exact rowsL_at t j (by simpa using hj) i hi
theorem xT.cells {w:World}{a:Option Addr}{c:Nat}{l:List yh}(h:xT w (.slice a l.length c) l)(m:0<l.length):∃ g o,a=some ⟨g,o,none⟩∧g<w.heap.size∧l.length≤c∧∀ (j:Nat) (hj:j<l.length) (i:Nat) (u:Value),(l[j].enc)[i]? = some u→w.cell? ⟨g,o+j*2+i,none⟩=some u:=by
 rcases h.2 with ⟨-,k⟩ | ⟨k,-⟩ | ⟨g,o,cap,e,h2,-,b⟩;·omega
 ·omega
 ·simp only [Value.slice.injEq] at e;refine⟨g,o,e.1,b.lt,Ws,fun j hj i u d=>?_⟩;have f:i<2:=(List.getElem?_eq_some_iff.1 d).1;rw [Nat.add_assoc];exact b.cells (j*2+i) u (by rw [rowsL_at l j hj i f];exact d)
theorem isRow_any (r:yh)(C:r.small)(w:World):zJ w 66 #[.agg r.enc.toArray] (.bool (xn r)):=by
 obtain⟨q,s⟩:=XE (w.alloc (.cells #[.string r.id,.string r.sig] 38));have v:Hid (zb [] w q):=qI (kA1 s.o);have t:Hid (q.heap[w.heap.size]? = some (.cells #[.string r.id,.string r.sig] 38 (0,0))):=qI (by rw [s.o];exact ze rfl);have c0:=za (o:=0) t.o rfl;have k:=JF r.id C.1 q;have i:Hid (∀ w2,zb [] q w2→Calls prog 58 #[.string r.sig] w2 _):=qI (fun w2 _=>JF r.sig C.2 w2);have j:Hid (xn r=(b8 r.id&&((xo r.sig).isSome&&decide (r.sig.size≤1048576)))):=qI rfl;have n:Hid (b8 r.id=match xo r.id with | none=>false | some l=>decide (l.length=32)):=qI rfl;clear C;rcases hu:xo r.id with _ | l
 ·rw [hu] at k n;rw [n.o] at j;have A:Hid (∀ w2,zb [] q w2→Calls prog 58 #[.string r.sig] w2 fun e w'=>(∃ x z,e = .returned (.tuple #[x,.int .i64 z]))∧zb [] w2 w'):=qI (fun w2 d=>(i.o w2 d).mono (fun e w' h=>⟨by
   rcases hv:xo r.sig with _ | m;·rw [hv] at h;exact⟨_,_,h.1⟩
   ·rw [hv] at h;obtain⟨⟨a,c,D,-,-⟩,-⟩:=h;exact⟨_,_,D⟩,h.2⟩))
  have k:=qI k;clear hu i n;go_enter func66,ntmps66;go_upto_region 1 with fail;refine xg s.o ?_;go_upto_region 2 with (go_at_call 58;refine k.o.mono ?_;rintro e B ⟨rfl,d⟩;have u:=d.cell (za (o:=1) t.o rfl) Wz;have f:=qI d;clear d);go_wp2_with (go_at_call 58;refine (A.o _ f.o).mono ?_;rintro e w2 ⟨⟨H,G,rfl⟩,d⟩;have p:=qI d;clear d);go_ret;exact⟨by rw [j.o];rfl,v.o.then (f.o.then p.o)⟩
 ·rw [hu] at k n;have n:Hid (b8 r.id=decide (l.length=32)):=qI n.o;rw [n.o] at j;have k:=qI k;rcases hv:xo r.sig with _ | m
  ·rw [hv] at i j;have i:Hid (yL q 58 #[.string r.sig] (.tuple #[.slice none 0 0,.int .i64 10])):=i;clear hu hv n;go_enter func66,ntmps66;go_upto_region 1 with fail;refine xg s.o ?_;go_upto_region 2 with (go_at_call 58;refine k.o.mono ?_;rintro e B ⟨⟨E,c1,rfl,-,-⟩,d⟩;have u:=d.cell (za (o:=1) t.o rfl) Wz;have f:=qI d;clear d);go_wp2_with (go_at_call 58;refine (i.o _ f.o).mh ?_;rintro e w2 rfl p);go_ret;exact⟨by rw [j.o];simp,v.o.then (f.o.then p.o)⟩
  ·rw [hv] at i j;have i:Hid (∀ w2,zb [] q w2→Calls prog 58 #[.string r.sig] w2 fun e w'=>(∃ a c,e = .returned (.tuple #[.slice a m.length c,.int .i64 0]))∧zb [] w2 w'):=qI (fun w2 d=>(i.o w2 d).mono (fun e w' h=>⟨by obtain⟨⟨a,c,D,-,-⟩,-⟩:=h;exact⟨a,c,D⟩,h.2⟩));clear hu hv n;by_cases y:l.length=32;·have F:=(xw (a:=(l.length:Int)) (b:=32) Ws).1;rw [decide_eq_true y] at j;clear y;go_enter func66,ntmps66;go_upto_region 1 with fail;refine xg s.o ?_;go_upto_region 2 with (go_at_call 58;refine k.o.mono ?_;rintro e B ⟨⟨E,c1,rfl,-,-⟩,d⟩;have u:=d.cell (za (o:=1) t.o rfl) Wz;have f:=qI d;clear d);go_wp2_with (go_at_call 58;refine (i.o _ f.o).mono ?_;rintro e w2 ⟨⟨a2,c2,rfl⟩,d⟩;have I:=d.cell u Wz;have p:=qI d;clear d);go_ret;exact⟨by rw [j.o];simp;omega,v.o.then (f.o.then p.o)⟩
   ·have F:=(zR (a:=(l.length:Int)) (b:=32) Ws).1;rw [decide_eq_false y] at j;clear y;go_enter func66,ntmps66;go_upto_region 1 with fail;refine xg s.o ?_;go_upto_region 2 with (go_at_call 58;refine k.o.mono ?_;rintro e B ⟨⟨E,c1,rfl,-,-⟩,d⟩;have u:=d.cell (za (o:=1) t.o rfl) Wz;have f:=qI d;clear d);go_wp2_with (go_at_call 58;refine (i.o _ f.o).mono ?_;rintro e w2 ⟨⟨a2,c2,rfl⟩,d⟩;have p:=qI d;clear d);go_ret;exact⟨by rw [j.o];rfl,v.o.then (f.o.then p.o)⟩
theorem noRow_any (r:yh)(i:r.small)(w:World):zJ w 65 #[.agg r.enc.toArray] (.bool (!xn r)):=by
 obtain⟨a,d⟩:=XE (w.alloc (.cells #[.string r.id,.string r.sig] 38));have k:Hid (zb [] w a):=qI (kA1 d.o);have h:Hid (a.heap[w.heap.size]? = some (.cells #[.string r.id,.string r.sig] 38 (0,0))):=qI (by rw [d.o];exact ze rfl);have c0:=za (o:=0) h.o rfl;have c1:=za (o:=1) h.o rfl;have f:Hid (zJ a 66 #[.agg #[.string r.id,.string r.sig]] (.bool (xn r))):=qI (isRow_any r i a);clear i;generalize xn r=b at f;go_enter func65,ntmps65;go_upto_region 1 with fail;refine xg d.o ?_;go_wp2_with (go_at_call 66;refine f.o.mh ?_;rintro e l rfl j);go_ret;exact⟨rfl,k.o.then j.o⟩
theorem aggSig (w:World):(isAgg (Tryz.shIndexSig_ren.t 23)).run prog w = .ok true w:=isAgg38 w
theorem sizeSig (w:World):(Go.sizeOf (Tryz.shIndexSig_ren.t 23)).run prog w = .ok 2 w:=sizeOf38 w
theorem enterNoRow:∀ (args:Array Value) (w:World),(callFunc 65 args).run prog w = .ok (.enter 65 args) w:=enters_of func65 Wr rfl
instance:Inhabited {r:yh // r.small}:=⟨⟨⟨⟨#[]⟩,⟨#[]⟩⟩,⟨XB,XB⟩⟩⟩
theorem nilSig_any (w:World)(a:Option Addr)(c:Nat):zJ w 116 #[.slice a 0 c,.func (.func 65) #[] #[]] (.int .i64 (-1)):=by
 go_enter func116,ntmps116;go_wp2_with fail;go_loopw [5,8] (fun _ i wr=>i = .int .i64 0∧zb [] w wr) (fun _ _ _=>0);case atStart=>exact⟨rfl,Wd⟩
 case round=>obtain⟨rfl,b⟩:=hrel;have d:=qI b;clear b;go_wp2;go_ret;exact⟨rfl,d.o⟩
theorem indexSig_any {w:World}{c:Nat}{l:List yh}(h:xT w (.slice a l.length c) l)(y:∀ r,r∈l→r.small)(A:l.length≤1000000) : Calls prog 116 #[.slice a l.length c,.func (.func 65) #[] #[]] w fun e w'=>(∃ z:Int,decide (0≤z) = !(l.all xn)∧e = .returned (.int .i64 z))∧zb [] w w':=by
 rcases Nat.eq_zero_or_pos l.length with h0 | h0;·have n:=List.eq_nil_of_length_eq_zero h0;subst n;exact (nilSig_any w a c).mono (fun e w' h=>⟨⟨-1,Wz,h.1⟩,h.2⟩)
 ·obtain⟨g,o,rfl,v,hc,d⟩:=h.cells h0;obtain⟨zs,m⟩:∃ zs:List {r:yh // r.small},Hid (zs=l.attach.map fun x=>⟨x.1,y x.1 x.2⟩):=⟨_,qI rfl⟩;have q:zs.length=l.length:=by rw [m.o];simp
  have f:∀ (j:Nat) (s:j<l.length),(zs[j]!).1=l[j]:=fun j s=>by rw [getElem!_pos zs j Ws];simp [m.o]
  have k:zs.any (fun x=>!xn x.1) = !(l.all xn):=by
   rw [m.o,List.any_map,List.not_all_eq_any_not];conv=>rhs;rw [← List.attach_map_subtype_val l,List.any_map]
   rfl
  refine (AnyQ.slices_IndexFunc Tryz.shIndexSig 2 aggSig sizeSig (fun x:{r:yh // r.small}=>x.1.enc) (fun _=>rfl) (fun x=>!xn x.1) 65 #[] enterNoRow g o l.length c zs w (fun W x b=>?_) Ws Ws v (fun j s i u p=>?_)).mono ?_;·refine (noRow_any x.1 x.2 W).mono ?_;rintro e w' ⟨rfl,t⟩;exact⟨rfl,((zb.of_below b).then t).below (XA) Wz⟩
  ·rw [f j Ws] at p;exact d j Ws i u p
  ·rintro e w' ⟨rfl,b⟩;refine⟨⟨_,?_,rfl⟩,zb.of_below b⟩;rw [List.take_of_length_le Ws,Lib.idxBy_nonneg_iff,k]
theorem noRows_any {w:World}{c:Nat}{l:List yh}(h:xT w (.slice a l.length c) l)(d:∀ r,r∈l→r.small)(j:l.length≤1000000) : zJ w 64 #[.slice a l.length c,.func (.func 65) #[] #[]] (.bool (!(l.all xn))):=by
 have f:=qI (indexSig_any h d j);clear h d j;generalize l.all xn=b at f;generalize l.length=n at f;go_enter func64,ntmps64;go_wp2_with (go_at_call 116;refine f.o.mono ?_;rintro e p ⟨⟨z,d,rfl⟩,i⟩;have m:=qI i;have k:=qI d;clear i d);go_ret;exact⟨by rw [← k.o];rfl,m.o⟩
def kindE:(n:Nat)→V n→Int
 | 0,_=>0
 | _+1,(v:VS (V _))=>v.kind
theorem Rep.kindE:∀ {n:Nat}{S:Nat→Prop}{w:World}{k m:Int}{s:ByteArray}{a b:Value}{x:V n},Rep n S w [.int .i64 k,.int .i64 m,.string s,a,b] x→k=Go.Proofs.YtjccecajigmfkaaGreatDoor.kindE n x
 | 0,_,_,_,_,_,_,_,x,_=>nomatch x
 | n+1,S,w,k,m,s,a,b,x,h=>by obtain⟨vl,vm,lcs,mcs,ho⟩:=Rep.open_ h;have e:=ho.cells;simp only [List.cons.injEq,Value.int.injEq,true_and] at e;exact e.1
def yf (n:Nat)(v:V n)(l:List yh):Bool:=decide (kindE n v=6)&&(decide (zY n v=0)&&(decide (zH n v<12)&&(decide (l.length≤16)&&l.all xn)))
def kE (n:Nat)(v:V n)(l:List yh):List UInt8:=if yf n v l=true then (xR n v).1 else []
structure Env (n:Nat)(S:Nat→Prop)(w:World)(cs:List Value)(v:V n)(a:Option Addr)(c:Nat)(l:List yh):Prop where
 rep:Rep n S w cs v
 small:zP n v
 deep:n≤100
 rows:xT w (.slice a l.length c) l
 texts:∀ r,r∈l→r.small
 few:l.length≤1000000
theorem Env.k0 {n:Nat}{S:Nat→Prop}{w w':World}{cs:List Value}{v:V n}{a:Option Addr}{c:Nat}{l:List yh}(h:Env n S w cs v a c l)(k:zb [] w w'):Env n S w' cs v a c l:=
 ⟨h.rep.k0 k,h.small,h.deep,h.rows.k0 k,h.texts,h.few⟩
def YJ (cs:List Value)(a:Option Addr)(m c:Nat):List Value:=cs++[.slice a m c]
theorem valDepth_any {S:Nat→Prop}{w:World}{cs:List Value}(h:Rep n S w cs v)(k:zP n v)(y:n≤100)(l:xH w) : zJ w 63 #[.agg cs.toArray] (.int .i64 (zH n v)):=by
 obtain⟨kd,u,st,j,s,x,p2,p,r,rfl⟩:=h.conv;obtain⟨t,f⟩:=XE (w.alloc (.cells #[.int .i64 kd,.int .i64 u,.string st,.slice j s x,.slice p2 p r] 25));have i:Hid (zb [] w t):=qI (kA1 f.o);have a:Hid (t.heap[w.heap.size]? = some (.cells #[.int .i64 kd,.int .i64 u,.string st,.slice j s x,.slice p2 p r] 25 (0,0))):=qI (by rw [f.o];exact ze rfl);have d:=qI (look_any (h.k0 i.o) k y (l.k0 i.o));clear h k l;have c0:=za (o:=0) a.o rfl;have c1:=za (o:=1) a.o rfl;have c2:=za (o:=2) a.o rfl;have c3:=za (o:=3) a.o rfl;have c4:=za (o:=4) a.o rfl;generalize zH n v=D at d;generalize zq n v=C at d;generalize zo n v=R at d;go_enter func63,ntmps63;go_upto_region 1 with fail;refine xg f.o ?_;go_wp2_with (go_at_call 115;refine d.o.mono ?_;rintro e A ⟨⟨b,rfl,q⟩,m⟩;have z:=qI m;have B:=za (o:=0) (v:=.int .i64 D) q rfl;clear m q);go_ret;exact⟨rfl,i.o.then z.o⟩
section
variable {H : Type} {enc : TypeId × Value → H} {w : World} {held : Bool}
theorem JL {α:Type}{l:List α}(h:l.length=2):∃ a b,l=[a,b]:=by
 rcases l with _ | ⟨a,_ | ⟨b,_ | ⟨c,l⟩⟩⟩ <;> simp at h;exact⟨a,b,rfl⟩
end
section
variable {H : Type} {enc : TypeId × Value → H} {w : World} {held : Bool}
end
theorem chunks_of {α:Type}{size:Nat}{cell:α→List Value}{Q:α→Prop}:∀ (n:Nat) (xs:List Value),xs.length=n*size→(∀ i,i<n→∃ a,(xs.drop (i*size)).take size=cell a∧Q a)→∃ l:List α,l.length=n∧l.flatMap cell=xs∧∀ a,a∈l→Q a
 | 0,xs,hl,_=>⟨[],rfl,by rw [Nat.zero_mul] at hl;rw [List.eq_nil_of_length_eq_zero hl];rfl,fun _ h=>(nomatch h)⟩
 | n+1,xs,hl,h=>by
  obtain⟨a,h1,h2⟩:=h 0 Ws;rw [Nat.zero_mul,List.drop_zero] at h1;obtain⟨l,h3,f,e⟩:=chunks_of (size:=size) (cell:=cell) (Q:=Q) n (xs.drop size) (by rw [List.length_drop,hl,Nat.add_mul];omega) (fun i k=>by
   obtain⟨b,h6,j⟩:=h (i+1) Ws;refine⟨b,?_,j⟩;rw [List.drop_drop,← h6];congr 2;rw [Nat.add_mul];omega)
  refine⟨a::l,by simp [h3],?_,fun b d=>?_⟩;·rw [List.flatMap_cons,f,← h1,List.take_append_drop]
  ·rcases List.mem_cons.1 d with rfl | d;·exact h2
   ·exact e b d
section
variable {H : Type} {enc : TypeId × Value → H} {w : World} {held : Bool}
theorem trod_sigrow {d:Nat}{cs:List Value}{x:DataW H×List MemPlace}(h:DataW.trod enc prog w 0 (fun _=>true) held d 38 cs=some x){B:Nat}(e:∀ k,k∈x.1.weights prog 38→k≤B):∃ r:yh,cs=r.enc∧(r.id.size≤B∧r.sig.size≤B):=by
 obtain⟨xs,n,A,a,q,b,i⟩:=DataW.trod_struct underlying38 h;rw [show Tryz.prog.cellsOf 38=2 by kernel_rfl] at q;obtain⟨c0,c1,rfl⟩:=JL q;obtain⟨l,f,rfl⟩:=JL b;have p:DataW.trod enc prog w 0 (fun _=>true) held n 9 (([c0,c1].drop 0).take (Tryz.prog.cellsOf 9))=some l:=i 0 _ rfl;have m:DataW.trod enc prog w 0 (fun _=>true) held n 9 (([c0,c1].drop 1).take (Tryz.prog.cellsOf 9))=some f:=i 1 _ rfl;rw [K2] at p m;obtain⟨s,u,E,-⟩:=DataW.trod_string underlying9 p;obtain⟨t,C,v,-⟩:=DataW.trod_string underlying9 m;obtain rfl:c0 = .string s:=by simpa using u
 obtain rfl:c1 = .string t:=by simpa using C
 have z:=e s.data.toList.length (by rw [a];exact qo (j:=0) (y:=l) underlying38 rfl rfl (by rw [E];show _∈DataW.weights prog 9 (.lit (.string s.data.toList));simp [DataW.weights]));have D:=e t.data.toList.length (by rw [a];exact qo (j:=1) (y:=f) underlying38 rfl rfl (by rw [v];show _∈DataW.weights prog 9 (.lit (.string t.data.toList));simp [DataW.weights]));exact⟨⟨s,t⟩,rfl,by simpa using z,by simpa using D⟩
theorem trod_sigs {a:Nat}{v:Value}{x:DataW H×List MemPlace}(h:DataW.trod enc prog w 0 (fun _=>true) held a 26 [v]=some x){B:Nat}(f:∀ k,k∈x.1.weights prog 26→k≤B):∃ l:List yh,xT w v l∧l.length≤B∧∀ r,r∈l→r.id.size≤B∧r.sig.size≤B:=by
 obtain⟨n,xs,d,h2,h3⟩:=JC underlying26 (show Tryz.prog.cellsOf 38=2 by kernel_rfl) Wo h f (by rw [show Tryz.prog.bytesOf 38=32 by kernel_rfl];decide);obtain⟨l,s,e,j⟩:=chunks_of (cell:=yh.enc) (Q:=fun r=>r.id.size≤B∧r.sig.size≤B) n xs d.1 (fun i p=>by
  rcases h3 with h0 | ⟨m,_,h3⟩;·omega
  obtain⟨y,q,b⟩:=h3 i p;exact trod_sigrow q b)
 refine⟨l,?_,Ws,j⟩;unfold xT jH;rw [s,e];exact d
theorem trod_room {P:Program}{t e:TypeId}(q:P.underlying t=some (.slice e)){f:Nat}{v:Value}{x:DataW H×List MemPlace}{B:Nat}(h:DataW.trod enc P w 0 (fun _=>true) held f t [v]=some x)(i:∀ k,k∈x.1.weights P t→k≤B):∃ a len cap,v = .slice a len cap∧len*P.bytesOf e≤B:=by
 rcases DataW.trod_slice q h with ⟨d,_⟩ | ⟨a,len,cap,b,rest,m,l,d,j,_,u,hm,n,s,_⟩
 ·obtain rfl:v = .slice none 0 0:=by simpa using d
  exact⟨none,0,0,rfl,Ws⟩
 ·obtain rfl:v = .slice (some a) len cap:=by simpa using d
  refine⟨some a,len,cap,rfl,?_⟩;rw [j] at i;have p:(DataW.slice (b.map (·.1)) (rest.map (·.1)):DataW H).weights P t=((b.map (·.1)).length+(rest.map (·.1)).length)*P.bytesOf e::(DataW.weightsAll P e (b.map (·.1))++DataW.weightsAll P e (rest.map (·.1))):=by rw [DataW.weights,q]
  simp only at i;rw [p] at i;have r:=i _ (List.mem_cons_self ..);rw [List.length_map,List.length_map,n] at r;exact Nat.le_trans (Nat.mul_le_mul_right _ (Nat.le_add_right _ _)) r
theorem six_cells {α:Type}{l:List α}(h:l.length=6):∃ a b c d e f,l=[a,b,c,d,e,f]:=by
 rcases l with _ | ⟨a,_ | ⟨b,_ | ⟨c,_ | ⟨d,_ | ⟨e,_ | ⟨f,_ | ⟨g,l⟩⟩⟩⟩⟩⟩⟩ <;> simp at h;exact⟨a,b,c,d,e,f,rfl⟩
theorem trod_env {i:Nat}{cs:List Value}{x:DataW H×List MemPlace}(h:DataW.trod enc prog w 0 (fun _=>true) held i 28 cs=some x){B:Nat}(E:B≤BB)(m:∀ k,k∈x.1.weights prog 28→k≤B) : ∃ (n:Nat) (v:V n) (vcs:List Value) (a:Option Addr) (c:Nat) (l:List yh),cs=YJ vcs a l.length c∧bP n BB (fun g=>g<w.heap.size) w vcs v∧xT w (.slice a l.length c) l∧(∀ r,r∈l→r.id.size≤B∧r.sig.size≤B)∧l.length≤B∧l.length*32≤B:=by
 obtain⟨xs,n,D,d,C,f,t⟩:=DataW.trod_struct underlying28 h;rw [show Tryz.prog.cellsOf 28=6 by kernel_rfl] at C;obtain⟨c0,c1,c2,c3,c4,c5,rfl⟩:=six_cells C;obtain⟨z,p,rfl⟩:=JL f;have A:DataW.trod enc prog w 0 (fun _=>true) held n 25 (([c0,c1,c2,c3,c4,c5].drop 0).take (Tryz.prog.cellsOf 25))=some z:=t 0 _ rfl;have q:DataW.trod enc prog w 0 (fun _=>true) held n 26 (([c0,c1,c2,c3,c4,c5].drop 5).take (Tryz.prog.cellsOf 26))=some p:=t 1 _ rfl;rw [show Tryz.prog.cellsOf 25=5 by kernel_rfl] at A;rw [show Tryz.prog.cellsOf 26=1 by kernel_rfl] at q;obtain⟨v,hv⟩:=trod_value n A (B:=BB) (fun k e=>Nat.le_trans (m k (by rw [d];exact qo (j:=0) (y:=z) underlying28 rfl rfl e)) E);obtain⟨l,s,F,G⟩:=trod_sigs (v:=c5) q (fun k e=>m k (by rw [d];exact qo (j:=1) (y:=p) underlying28 rfl rfl e));obtain⟨I,len,cap,u,b⟩:=trod_room (v:=c5) underlying26 q (fun k e=>m k (by rw [d];exact qo (j:=1) (y:=p) underlying28 rfl rfl e));rw [show Tryz.prog.bytesOf 38=32 by kernel_rfl] at b;obtain⟨a,c,rfl,-,-⟩:=s.form;obtain rfl:l.length=len:=by simp only [Value.slice.injEq] at u;exact u.2.1
 exact⟨n,v,_,a,c,l,rfl,hv,s,G,F,b⟩
end
theorem refLarge_any {S:Nat→Prop}{w:World}{cs:List Value}(h:Rep n S w cs v)(i:kv BB n v) : zJ w 13 #[.agg cs.toArray] (.bool (decide (6000<zO n 0 v))):=by
 obtain⟨kd,t,st,y,x,rfl⟩:=h.five;obtain⟨l,s,u,p2,p,q,rfl,rfl⟩:=h.sl;obtain⟨r,j⟩:=XE (w.alloc (.cells #[.int .i64 kd,.int .i64 t,.string st,.slice l s u,.slice p2 p q] 25));have k:Hid (zb [] w r):=qI (kA1 j.o);have b:=qI (large_any n v (h.k0 k.o) i (d:=0) Ws);rw [show ((0:Nat):Int)=0 from rfl] at b;have f:Hid (decide ((6000:Int)<(zO n 0 v:Int))=decide (6000<zO n 0 v)):=qI (by
  by_cases h:6000<zO n 0 v;·rw [decide_eq_true h,decide_eq_true Ws]
  ·rw [decide_eq_false h,decide_eq_false Ws])
 clear h i;revert b f;generalize zO n 0 v=L;intro b f;go_enter func13,ntmps13;go_wp2_with fail;rw [← j.o];refine b.o.mono ?_;rintro e w2 ⟨rfl,a⟩;have m:=qI (k.o.then a);clear a;go_wp2;go_ret;exact⟨bV f.o,m.o⟩
theorem ZD {S:Nat→Prop}{w:World}{cs:List Value}(h:Rep n S w cs v)(x:zP n v)(F:n≤100) : zJ w 26 #[.agg cs.toArray] (.int .i64 (zY n v)):=by
 obtain⟨kd,M,st,Q,P,rfl⟩:=h.five;obtain⟨N,H,I,p2,L,G,rfl,rfl⟩:=h.sl;obtain⟨p,m⟩:=XE (w.alloc (.cells #[.int .i64 kd,.int .i64 M,.string st,.slice N H I,.slice p2 L G] 25));have l:Hid (zb [] w p):=qI (kA1 m.o);have u:Hid (yZ p w.heap.size kd M st (.slice N H I) (.slice p2 L G)):=qI (by rw [m.o];exact xr _ _ _ _ _ _ _);have s:=qI (depth_any n v (h.k0 l.o) x F);have t:Hid (∀ w1,zb [] p w1→_):=qI fun w1 (k:zb [] p w1)=>count_any n v (h.k0 (l.o.trans' k)) x
 have A:Hid (∀ w1,zb [] p w1→_):=qI fun w1 (k:zb [] p w1)=>refRight_any n v (h.k0 (l.o.trans' k)) x;have z:=x.1;have y:zH n v≤100:=Nat.le_trans (jb n v) F;have r:Hid (zY n v=if 12<zH n v then 41 else if 4096<zq n v then 42 else if zo n v then 0 else 40):=qI rfl;clear h x;revert s t A z y r;generalize zH n v=D;generalize zq n v=C;generalize zo n v=R;generalize zY n v=K;intro s t A z y r;by_cases q:12<D
 ·have B:(12:Int)<D:=by omega
  have j:Hid (K=41):=qI (by rw [r.o,if_pos q]);go_enter func26,ntmps26;go_wp2_with fail;rw [← m.o];refine s.o.mono ?_;rintro e w2 ⟨rfl,a⟩;have d:=qI (l.o.then a);clear a;go_wp2;go_ret;rw [j.o];exact⟨rfl,d.o⟩
 have B:¬ (12:Int)<D:=Ws;by_cases h2:4096<C
 ·have E:(4096:Int)<C:=by omega
  have j:Hid (K=42):=qI (by rw [r.o,if_neg q,if_pos h2]);go_enter func26,ntmps26;go_wp2_with fail;rw [← m.o];refine s.o.mono ?_;rintro e w2 ⟨rfl,a⟩;have d:=qI a;obtain⟨c0,c1,c2,c3,c4⟩:=u.o.k0 a;clear a;go_wp2_with (go_at_call 70;refine (t.o _ d.o).mono ?_;rintro e J ⟨rfl,b⟩);go_ret;rw [j.o];exact⟨rfl,(l.o.then d.o).then b⟩
 have E:¬ (4096:Int)<C:=Ws;cases R with
 | true=>
  have j:Hid (K=0):=qI (by rw [r.o,if_neg q,if_neg h2,if_pos rfl]);clear q h2;go_enter func26,ntmps26;go_wp2_with fail;rw [← m.o];refine s.o.mono ?_;rintro e w2 ⟨rfl,a⟩;have d:=qI a;obtain⟨c0,c1,c2,c3,c4⟩:=u.o.k0 a;clear a;go_wp2_with (first
   | (go_at_call 70;refine (t.o _ d.o).mono ?_;rintro e J ⟨rfl,b⟩;have f:=qI (d.o.then b);obtain⟨y0,y1,y2,y3,y4⟩:=u.o.k0 f.o;clear b)
   | (go_at_call 71;refine (A.o _ f.o).mono ?_;rintro e O ⟨rfl,i⟩))
  go_ret;rw [j.o];exact⟨rfl,(l.o.then f.o).then i⟩
 | false=>
  have j:Hid (K=40):=qI (by rw [r.o,if_neg q,if_neg h2,if_neg Wz]);clear q h2;go_enter func26,ntmps26;go_wp2_with fail;rw [← m.o];refine s.o.mono ?_;rintro e w2 ⟨rfl,a⟩;have d:=qI a;obtain⟨c0,c1,c2,c3,c4⟩:=u.o.k0 a;clear a;go_wp2_with (first
   | (go_at_call 70;refine (t.o _ d.o).mono ?_;rintro e J ⟨rfl,b⟩;have f:=qI (d.o.then b);obtain⟨y0,y1,y2,y3,y4⟩:=u.o.k0 f.o;clear b)
   | (go_at_call 71;refine (A.o _ f.o).mono ?_;rintro e O ⟨rfl,i⟩))
  go_ret;rw [j.o];exact⟨rfl,(l.o.then f.o).then i⟩
attribute [local go_sem] Oper.semAt_some
theorem incomingR {S:Nat→Prop}{w:World}{cs:List Value}(h:bP n BB S w cs v) : (∀ w1,zb [] w w1→Calls prog 13 #[.agg cs.toArray] w1 fun e w'=>e = .returned (.bool true)∧zb [] w1 w')∨((∀ w1,zb [] w w1→Calls prog 13 #[.agg cs.toArray] w1 fun e w'=>e = .returned (.bool false)∧zb [] w1 w')∧∃ v':V 21,Rep 21 S w cs v'∧zP 21 v'):=by
 have f:∀ {d:Nat}{u:V d}{b:Bool},bP d BB S w cs u→decide (6000<zO d 0 u)=b→∀ w1,zb [] w w1→Calls prog 13 #[.agg cs.toArray] w1 fun e w'=>e = .returned (.bool b)∧zb [] w1 w':=fun a j w1 k=>by have i:=refLarge_any (a.1.k0 k) a.2;rw [j] at i;exact i
 by_cases hd:zH n v≤21
 ·obtain⟨u,a⟩:=bP.fit n 21 h hd;by_cases h6:zO 21 0 u≤6000;·exact .inr ⟨f a (decide_eq_false Ws),u,a.1,small_of h6⟩
  ·exact .inl (f a (decide_eq_true Ws))
 ·refine .inl (f h (decide_eq_true ?_));rcases Nat.lt_or_ge 6000 (zO n 0 v) with h1 | h1
  ·exact h1
  ·exfalso;rcases (Y1 n 0 v h1).2.2 with rfl | h2
   ·exact nomatch v
   ·omega
def Qe (P:Prop)(w:World)(x:Value):Prop:=
 (∀ w1,zb [] w w1→Calls prog 13 #[x] w1 fun e w'=>e = .returned (.bool true)∧zb [] w1 w')∨((∀ w1,zb [] w w1→Calls prog 13 #[x] w1 fun e w'=>e = .returned (.bool false)∧zb [] w1 w')∧P)
theorem Qe.k0 {P:Prop}{w w':World}{x:Value}(h:Qe P w x)(k:zb [] w w'):Qe P w' x:=by
 rcases h with h | ⟨h,hp⟩;·exact .inl fun a b=>h a (k.then b)
 ·exact .inr ⟨fun a b=>h a (k.then b),hp⟩
theorem Y7 {P:Prop}{w:World}{kd nm:Int}{st:ByteArray}{X p2:Option Addr}{Z R W O:Nat}(h:Qe P w (.agg #[.int .i64 kd,.int .i64 nm,.string st,.slice X Z R,.slice p2 W O])){c:Nat}{l:List yh}(hr:xT w (.slice a l.length c) l)(hz:∀ r,r∈l→r.small)(hl:l.length≤140737488355328) : Calls prog 5 #[.agg #[.int .i64 kd,.int .i64 nm,.string st,.slice X Z R,.slice p2 W O,.slice a l.length c]] w fun e w'=>(∃ b,e = .returned (.bool b)∧(b=false→l.length≤50∧P))∧zb [] w w':=by
 obtain⟨M,G⟩:=XE (w.alloc (.cells #[.int .i64 kd,.int .i64 nm,.string st,.slice X Z R,.slice p2 W O,.slice a l.length c] 28));have s:Hid (zb [] w M):=qI (kA1 G.o);have Gd:Hid (M.heap[w.heap.size]? = some (.cells #[.int .i64 kd,.int .i64 nm,.string st,.slice X Z R,.slice p2 W O,.slice a l.length c] 28 (0,0))):=qI (by rw [G.o];exact ze rfl);have Gs:=qI h;have Gt:Hid (∀ i,i<l.length→∃ g o E D,a=some ⟨g,o,none⟩∧M.cell? ⟨g,o+i*2,none⟩=some (.string E)∧M.cell? ⟨g,o+i*2+1,none⟩=some (.string D)∧E.size≤140737488355328∧D.size≤140737488355328):=qI (fun i hi=>by
  obtain⟨g,o,B,-,-,h2⟩:=(hr.k0 s.o).cells Ws;exact⟨g,o,l[i].id,l[i].sig,B,h2 i hi 0 _ rfl,h2 i hi 1 _ rfl,hz _ (List.getElem_mem _)⟩)
 have aa:(l.length:Int)≤140737488355328:=Ws;clear h hr hz hl;generalize hm:l.length=m at G Gd Gt aa ⊢;have HM:=qI hm;clear hm;obtain⟨c0,c1,c2,c3,c4,c5⟩:=yS Gd.o;go_enter func5,ntmps5;go_upto_region 1 with fail;refine xg G.o ?_;go_wp2_with fail;go_loopw [3,4] (fun z i wr=>∃ (k:Nat) (j:Nat),z = .int .i64 j∧i = .int .i64 k∧k≤60∧j≤k*281474976710656∧zb [] M wr) (fun _ i _=>60-(intOf i).toNat);case atStart=>exact⟨0,0,rfl,rfl,XB,XB,Wd⟩
 case round=>
  obtain⟨k,j,rfl,rfl,hk,L,d⟩:=hrel;have p:=qI d;have HK:=qI hk;have Gq:=qI L;have Y:=d.cell c0 Wz;have y1:=d.cell c1 Wz;have y2:=d.cell c2 Wz;have y3:=d.cell c3 Wz;have y4:=d.cell c4 Wz;have H:=d.cell c5 Wz;clear d L;by_cases t:k<m
  ·by_cases C:k<60
   ·obtain⟨g,o,E,D,rfl,e0,e1,Q⟩:=Gt.o k t;have y:(k:Int)<m:=Ws;have ah:(k:Int)<60:=Ws;have Gm:=qI t;have A:=qI C;have Gv:=qI (p.o.cell e0 Wz);have Gw:=qI (p.o.cell e1 Wz);have Gu:=qI Q;clear e0 e1 Q t C hk;obtain⟨q,ae⟩:∃ q:Nat,q=E.size/10:=⟨_,rfl⟩;obtain⟨v,ab⟩:∃ v:Nat,v=D.size/10:=⟨_,rfl⟩;have Gx:Hid (((E.size:Nat):Int)/10=q):=qI Ws;have Gy:Hid (((D.size:Nat):Int)/10=v):=qI Ws;have I:Hid (q≤140737488355328∧v≤140737488355328):=qI (by have B:=Gu.o.1;have h2:=Gu.o.2;omega);have Gz:Hid (wrap64 (q:Int)=q):=qI (by have:=I.o;unfold wrap64;omega);have Ja:Hid (wrap64 (v:Int)=v):=qI (by have:=I.o;unfold wrap64;omega);have G:Hid (wrap64 ((j:Int)+q)=(j:Int)+q):=qI (by have:=I.o;have:=Gq.o;have:=A.o;unfold wrap64;omega);have Jb:Hid (wrap64 ((j:Int)+q+v)=(j:Int)+q+v):=qI (by have:=I.o;have:=Gq.o;have:=A.o;unfold wrap64;omega);clear ae ab;go_upto_region 5 with fail
    refine bM (n:=48) 19 [fI (.int .i64 j),
     fI (.pointer (some ⟨w.heap.size,5,none⟩)),
     fI (.slice (some ⟨g,o,none⟩) m c),
     fI (.int .i64 k),
     fI (.pointer (some ⟨g,o+k*2,none⟩)),
     fI (.pointer (some ⟨g,o+k*2,none⟩)),
     fI (.string E),
     fI (.int .i64 E.size),
     fI (.int .i64 q),
     fI (.int .i64 ((j:Int)+q)),
     fI (.pointer (some ⟨w.heap.size,5,none⟩)),
     fI (.slice (some ⟨g,o,none⟩) m c),
     fI (.int .i64 k),
     fI (.pointer (some ⟨g,o+k*2,none⟩)),
     fI (.pointer (some ⟨g,o+k*2+1,none⟩)),
     fI (.string D),
     fI (.int .i64 D.size),
     fI (.int .i64 v),
     fI (.int .i64 ((j:Int)+q+v))] Wr rfl Wr (fun x=>qm) (fun x hx=>by rw [show x 19 = .int .i64 j from hx 19 Wo Wo]) ?_ ?_
    ·refine⟨?_,?_,?_,?_,?_,?_,?_,?_,?_,?_,?_,?_,?_,?_,?_,?_,?_,?_,?_,trivial⟩ <;> intro x w2 d b hd;·exact zi
     ·exact zi
     ·have R:x 1=_:=hd 1 Wr;have Y:=d.cell H Wz;exact zi
     ·exact zi
     ·have O:x 2=_:=hd 2 Wr;have d3:x 3=_:=hd 3 Wr;have B:=y;exact zi
     ·have d4:x 4=_:=hd 4 Wr;exact zi
     ·have d5:x 5=_:=hd 5 Wr;have Y:=d.cell Gv.o Wz;exact zi
     ·have d6:x 6=_:=hd 6 Wr;exact zi
     ·have d7:x 7=_:=hd 7 Wr;have B:=Gx.o;have h2:=Gz.o;exact zi
     ·have d0:x 0=_:=hd 0 Wr;have d8:x 8=_:=hd 8 Wr;have B:=G.o;exact zi
     ·exact zi
     ·have aq:x 10=_:=hd 10 Wr;have Y:=d.cell H Wz;exact zi
     ·exact zi
     ·have ap:x 11=_:=hd 11 Wr;have an:x 12=_:=hd 12 Wr;have B:=y;exact zi
     ·have am:x 13=_:=hd 13 Wr;exact zi
     ·have al:x 14=_:=hd 14 Wr;have Y:=d.cell Gw.o Wz;exact zi
     ·have ak:x 15=_:=hd 15 Wr;exact zi
     ·have ai:x 16=_:=hd 16 Wr;have B:=Gy.o;have h2:=Ja.o;exact zi
     ·have d9:x 9=_:=hd 9 Wr;have ao:x 17=_:=hd 17 Wr;have B:=Jb.o;exact zi
    ·intro x w7 d b7 hd N;have aj:x 18=_:=hd 18 Wo;have Gr:=qI d;clear hd N d;change wpList _ _ _ [_] _ _;go_wp2;case roundEnd=>exact⟨⟨k+1,j+q+v,by go_num,by go_num,by have:=A.o;omega,by have:=I.o;have:=Gq.o;omega,p.o.then Gr.o⟩,by have:=A.o;simp [intOf];omega⟩
   ·obtain rfl:k=60:=by omega
    have y:(60:Int)<m:=Ws;have F:(50:Int)<m:=Ws;clear C t;rcases Gs.o with hT | ⟨hF,-⟩
    ·go_wp2_with (go_at_call 13;refine (hT _ (s.o.then p.o)).mh ?_;rintro e K rfl u);go_ret;exact⟨⟨true,rfl,fun h=>nomatch h⟩,s.o.then (p.o.then u.o)⟩
    ·go_wp2_with (go_at_call 13;refine (hF _ (s.o.then p.o)).mono ?_;rintro e K ⟨rfl,f⟩;have u:=qI f;have z5:=f.cell H Wz;clear f);go_ret;exact⟨⟨true,rfl,fun h=>nomatch h⟩,s.o.then (p.o.then u.o)⟩
  ·have ag:(m:Int)≤k:=by omega
   clear t;rcases Gs.o with hT | ⟨hF,hv⟩
   ·go_wp2_with (go_at_call 13;refine (hT _ (s.o.then p.o)).mh ?_;rintro e K rfl u);go_ret;exact⟨⟨true,rfl,fun h=>nomatch h⟩,s.o.then (p.o.then u.o)⟩
   ·have HF:=qI hF;have HV:=qI hv;clear hF hv;by_cases F:50<m
    ·have J:(50:Int)<m:=by omega
     clear F;go_wp2_with (go_at_call 13;refine (HF.o _ (s.o.then p.o)).mono ?_;rintro e K ⟨rfl,f⟩;have u:=qI f;have z5:=f.cell H Wz;clear f);go_ret;exact⟨⟨true,rfl,fun h=>nomatch h⟩,s.o.then (p.o.then u.o)⟩
    ·have J:(m:Int)≤50:=by omega
     have ad:Hid (m≤50):=qI Ws;obtain⟨b,U⟩:∃ b,decide ((20000:Int)<j)=b:=⟨_,rfl⟩;clear F;cases b;·have af:(j:Int)≤20000:=XC (of_decide_eq_false U);clear U;go_wp2_with (go_at_call 13;refine (HF.o _ (s.o.then p.o)).mono ?_;rintro e K ⟨rfl,f⟩;have u:=qI f;have z5:=f.cell H Wz;clear f);go_ret;exact⟨⟨_,rfl,fun _=>⟨ad.o,HV.o⟩⟩,s.o.then (p.o.then u.o)⟩
     ·have af:(20000:Int)<j:=of_decide_eq_true U;clear U;go_wp2_with (go_at_call 13;refine (HF.o _ (s.o.then p.o)).mono ?_;rintro e K ⟨rfl,f⟩;have u:=qI f;have z5:=f.cell H Wz;clear f);go_ret;exact⟨⟨true,rfl,fun h=>nomatch h⟩,s.o.then (p.o.then u.o)⟩
theorem wpList_loadK {ops:Array Oper}{a:Act}{w:World}{Q:Exit→Act→World→Prop}(d:Region.wanted op (yielded ops a.tmps)=true)(x:Operand)(f:op.op = .load 51 x){g of:Nat}(j:w.rangeAt g of (bl k))(i:k.root.length=32)(b:a.eval x = .pointer (some ⟨g,of,none⟩))(h:wpList prog ops Q rest (a.put op.dst (.agg (yU k))) w):wpList prog ops Q (op::rest) a w:=
 BigFrame.wpList_want d fun _ e=>wp_load_mid 51 x f g of b (bl k) _ j underlying51 rfl (by rw [xS i];exact K6) (e _ _ h)
theorem idS_size (h:yr k=true):(qb k).size=64:=by
 unfold qb;rw [if_pos h,jU,yK]
def QV {n:Nat}:Option (V (n+1))→List (V n)
 | none=>[]
 | some x=>VS.l (α:=V n) x
theorem flist_le (v:VS (V (n+1)))(bad:Bool)(s:ByteArray)(a:Nat):(QV (QD v bad s a).1).length≤a:=by
 unfold QD;cases h:jO v bad s 5 (fun x=>decide ((bI (n+1) x:Int)≤a)) with
 | mk r b=>
  cases r with
  | none=>exact XB
  | some x=>have:=(KW h).2.1;simp only [decide_eq_true_eq] at this;show (VS.l (α:=V n) x).length≤a;have e:bI (n+1) x=(VS.l (α:=V n) x).length:=rfl;omega
theorem flist_small {v:VS (V (n+1))}{bad:Bool}{s:ByteArray}{a:Int}(f:zP (n+2) v):∀ x,x∈QV (QD v bad s a).1→zP n x∧(Zx n x).size≤400000:=by
 unfold QD;cases h:jO v bad s 5 (fun x=>decide ((bI (n+1) x:Int)≤a)) with
 | mk r b=>
  cases r with
  | none=>intro x d;cases d
  | some x=>
   intro y i;have j:zP (n+1) x:=f.kid (KW h).1;have h2:=zP.kid (v:=x) j (je i);refine⟨h2,?_⟩;cases n with
   | zero=>exact nomatch y
   | succ n=>have h3:=h2.2;have e:zT (n+1) y=(VS.s (α:=V n) y).size+VS.keyBytes (α:=V n) y+((VS.kids (α:=V n) y).map (zT n)).sum:=rfl;show (VS.s (α:=V n) y).size≤400000;omega
def Zz {n:Nat}(S:Nat→Prop)(w:World)(a:Option Addr)(c:Nat)(xs:List (V n))(lcs:List (List Value)):Prop:=Slc w 5 (.slice a xs.length c) xs.length lcs.flatten∧zM (Rep n S w) lcs xs∧∀ g,yx (.slice a xs.length c)=some g→S g
theorem Zz.kept {n:Nat}{S:Nat→Prop}{X:List Nat}{w w':World}{a:Option Addr}{c:Nat}{xs:List (V n)}{lcs:List (List Value)}(h:Zz S w a c xs lcs)(k:zb X w w')(b:∀ i,i∈X→¬ S i):Zz S w' a c xs lcs:=
 ⟨h.1.kept k (fun g e d=>b g d (h.2.2 g e)),h.2.1.mono (fun _ _ _ r=>r.kept k b),h.2.2⟩
theorem Q9.items {w w':World}{e:Ending}{r:Option (V (n+1))}(h:Q9 (n+1) w w' e r):∃ a c lcs,e = .returned (.slice a (QV r).length c)∧Zz (fun g=>w.heap.size≤g∧g<w'.heap.size) w' a c (QV r) lcs:=by
 cases r with
 | none=>exact⟨none,0,[],h,xX _ _,zM.nil _,by simp [QV,yx]⟩
 | some x=>obtain⟨s,p,c,q,j,d,rfl,b⟩:=h;obtain⟨f,vm,lcs,mcs,h2⟩:=Rep.open_ (v:=(x:VS (V n))) b.rep;have e:=h2.cells;simp only [List.cons.injEq,and_true] at e;obtain⟨-,-,-,rfl,-⟩:=e;exact⟨p,c,lcs,rfl,h2.slcl,h2.alll,h2.inl⟩
attribute [local go_sem] Oper.semAt_some
theorem fieldsRow : (Tryz.prog.fieldsOf 38).toList = [⟨"KeyId", 9, 0, false, "", "", 0⟩, ⟨"Sig", 9, 1, false, "", "", 16⟩] := by
 unfold Program.fieldsOf;rw [underlying38]
def yc (r s:yh):Bool:=r.id.toList == s.id.toList&&r.sig.toList == s.sig.toList
theorem sameRow_self (r:yh):yc r r=true:=by simp [yc]
theorem KM {P : Program}{w : World}{d : Nat}{xs ys : Array Value}{f : Field}{fs : List Field}{a b : Value}{e e' : Bool}(h0 : f.name ≠ "_")(h1 : (part f.type xs f.offset).run P w = .ok a w)(h1' : (part f.type ys f.offset).run P w = .ok b w)(h2 : (Op.equalIn d f.type a b).run P w = .ok e w)(h3 : (Op.eqFields d xs ys fs).run P w = .ok e' w) : (Op.eqFields d xs ys (f :: fs)).run P w = .ok (e && e') w := by
 simp only [Op.eqFields,if_pos h0,Sem.run_bind,h1,h1',h2,Result.andThen_ok];cases e;·simp
 ·simp [h3]
theorem equal_row (d:Nat)(r s:yh)(w:World):(Op.equalIn (d+3) 38 (.agg #[.string r.id,.string r.sig]) (.agg #[.string s.id,.string s.sig])).run prog w = .ok (yc r s) w:=by
 have p0:∀ q:yh,(part 9 #[.string q.id,.string q.sig] 0).run prog w = .ok (.string q.id) w:=fun q=>run_part_plain w Wr rfl;have p1:∀ q:yh,(part 9 #[.string q.id,.string q.sig] 1).run prog w = .ok (.string q.sig) w:=fun q=>run_part_plain w Wr rfl;refine (run_equalIn_struct w (d+2) _ _ _ (by rw [underlying38];unfold Program.fieldsOf;rw [underlying38]) Wr).trans ?_;rw [fieldsRow]
 have h9 := KM (P := Tryz.prog) (w := w) (d := d + 2) (xs := #[.string r.id, .string r.sig]) (ys := #[.string s.id, .string s.sig]) (f := ⟨"KeyId", 9, 0, false, "", "", 0⟩) (fs := [⟨"Sig", 9, 1, false, "", "", 16⟩]) Wo (p0 r) (p0 s) (run_equalIn_string w (d + 1) _ _ _ underlying9)
  (KM (fs:=[]) (e':=true) Wo (p1 r) (p1 s) (run_equalIn_string w (d+1) _ _ _ underlying9) rfl)
 rw [Bool.and_true] at h9;exact h9
theorem neq_row (r s:yh)(w:World):(binOp .neq 38 (.agg #[.string r.id,.string r.sig]) (.agg #[.string s.id,.string s.sig])).run prog w = .ok (.bool (!(yc r s))) w:=by
 rw [run_neq_struct,equal_row 9997 r s];rfl
theorem guardRow (op:BinOp)(x y:Operand)(r s:yh)(w:World):(eqGuard op 38 x y (.agg #[.string r.id,.string r.sig]) (.agg #[.string s.id,.string s.sig])).run prog w = .ok () w:=run_eqGuard_agg w op _ x y _ _ Wr
theorem bF {ops:Array Oper}{a:Act}{w:World}{Q:Exit→Act→World→Prop}{r s:yh}(d:Region.wanted op (yielded ops a.tmps)=true)(i j:Nat)(e:op.op = .binOp .neq 38 (.tmp i) (.tmp j) 38)(b:a.eval (.tmp i) = .agg #[.string r.id,.string r.sig])(l:a.eval (.tmp j) = .agg #[.string s.id,.string s.sig])(h:wpList prog ops Q rest (a.put op.dst (.bool (!(yc r s)))) w):wpList prog ops Q (op::rest) a w:=
 BigFrame.wpList_want d fun K k=>by
  have f:(execOp a.eval op).run prog w = .ok (.value (.bool (!(yc r s)))) w:=by unfold execOp;simp only [e,b,l,Sem.run_bind,guardRow,neq_row,Result.andThen_ok,Sem.run_pure]
  unfold Oper.wp;rw [f];exact k _ _ h
theorem Kz {α:Type}(r:α→α→Bool):∀ l m:List α,eqL r l m=true↔l.length=m.length∧∀ j (h1:j<l.length) (h2:j<m.length),r l[j] m[j]=true
 | [],[]=>by simp [eqL]
 | [],y::m=>by simp [eqL]
 | x::l,[]=>by simp [eqL]
 | x::l,y::m=>by
  have ih:=Kz r l m;have e:eqL r (x::l) (y::m)=(r x y&&eqL r l m):=rfl;rw [e,Bool.and_eq_true,ih];constructor
  ·rintro ⟨b,h1,h2⟩;refine⟨by simp [h1],fun j h3 a=>?_⟩;cases j with
   | zero=>exact b
   | succ j=>exact h2 j (by simpa using h3) (by simpa using a)
  ·rintro ⟨h1,h2⟩;refine⟨h2 0 Wz Wz,by simpa using h1,fun j h3 a=>?_⟩;exact h2 (j+1) (by simpa using h3) (by simpa using a)
theorem eqR_len {l m:List yh}(h:¬ l.length=m.length):eqL yc l m=false:=by
 rw [Bool.eq_false_iff];intro a;exact h ((Kz _ _ _).1 a).1
theorem eqR_no {l m:List yh}(k:Nat)(a:k<l.length)(h2:k<m.length)(h:yc l[k] m[k]=false):eqL yc l m=false:=by
 rw [Bool.eq_false_iff];intro h3;rw [((Kz _ _ _).1 h3).2 k a h2] at h;cases h
theorem eqR_all {l m:List yh}(a:l.length=m.length)(h:∀ j (h1:j<l.length) (h2:j<m.length),yc l[j] m[j]=true):eqL yc l m=true:=(Kz _ _ _).2 ⟨a,h⟩
theorem eqR_self (l:List yh):eqL yc l l=true:=eqR_all rfl (fun j _ _=>sameRow_self _)
theorem slcEqual_any {w:World}{c:Nat}{l:List yh}(R:xT w (.slice a l.length c) l){d:Nat}{m:List yh}(O:xT w (.slice b m.length d) m)(hl:l.length≤1000000)(hm:m.length≤1000000) : zJ w 22 #[.slice a l.length c,.slice b m.length d] (.bool (eqL yc l m)):=by
 by_cases f:l.length=m.length;rotate_left;·have y:eqL yc l m=false:=eqR_len f;rw [y];have M:¬ (l.length:Int)=m.length:=Ws;have D:decide ((l.length:Int)=m.length)=false:=decide_eq_false M;generalize (l.length:Nat)=n1 at M D ⊢;generalize (m.length:Nat)=n2 at M D ⊢;clear R O hl hm f y;go_enter func22,ntmps22;go_wp2;go_ret;exact⟨rfl,Wd⟩
 ·have HA:=qI R;have HB:=qI (f ▸ O:xT w (.slice b m.length d) m);obtain⟨n,C⟩:=XE l.length;have X:Hid (n=m.length):=qI (by rw [C.o];exact f);rw [show Value.slice b m.length d = .slice b n d by rw [X.o],show Value.slice a l.length c = .slice a n c by rw [C.o]];have ab:(n:Int)≤1000000:=XC C.o;have Jc:Hid (∀ q,q=eqL yc l m→q=eqL yc l m):=qI (fun _ h=>h);clear R O hl hm f;go_enter func22,ntmps22;go_wp2_with fail;go_loopw [5,13] (fun _ v wr=>∃ k:Nat,v = .int .i64 k∧k≤n∧(∀ j (p:j<l.length) (h2:j<m.length),j<k→yc l[j] m[j]=true)∧zb [] w wr) (fun _ v _=>n-(intOf v).toNat);case atStart=>exact⟨0,rfl,XB,fun j _ _ h=>absurd h (Nat.not_lt_zero j),Wd⟩
  case round=>
   obtain⟨k,rfl,hk,u,G⟩:=hrel;have Y:=qI u;have A:=qI G;clear u G;by_cases t:k<n
   ·have p:k<l.length:=by rw [← C.o];exact t
    have h2:k<m.length:=by rw [← X.o];exact t
    obtain⟨I,J,rfl,-,-,B⟩:=HA.o.cells Ws;obtain⟨gb,H,rfl,-,-,z⟩:=HB.o.cells Ws;have P:wr.cell? ⟨I,J+k*2,none⟩=some (.string l[k].id):=A.o.cell (B k p 0 _ rfl) Wz;have L:wr.cell? ⟨I,J+k*2+1,none⟩=some (.string l[k].sig):=A.o.cell (B k p 1 _ rfl) Wz;have U:wr.cell? ⟨gb,H+k*2,none⟩=some (.string m[k].id):=A.o.cell (z k h2 0 _ rfl) Wz;have Q:wr.cell? ⟨gb,H+k*2+1,none⟩=some (.string m[k].sig):=A.o.cell (z k h2 1 _ rfl) Wz;have E:(k:Int)<n:=Ws;have Gn:Hid ((k:Int)<n):=qI E;have Gm:=qI t;have K:Hid (yc l[k] m[k]=false→eqL yc l m=false):=qI (eqR_no k p h2);have W:Hid (yc l[k] m[k]=true→∀ j (p:j<l.length) (h2:j<m.length),j<k+1→yc l[j] m[j]=true):=qI (fun h j p h2 hj=>by
     rcases Nat.lt_or_ge j k with h3 | h3;·exact Y.o j p h2 h3
     ·obtain rfl:j=k:=by omega
      exact h)
    clear B z t hk;generalize l[k]=r at P L K W;generalize m[k]=s at U Q K W;clear p h2;go_upto_region 6 with fail
    refine yz (n:=26) 8 [fI (.slice (some ⟨I,J,none⟩) n c),
     fI (.int .i64 k),
     fI (.pointer (some ⟨I,J+k*2,none⟩)),
     fI (.agg #[.string r.id,.string r.sig]),
     fI (.slice (some ⟨gb,H,none⟩) n d),
     fI (.int .i64 k),
     fI (.pointer (some ⟨gb,H+k*2,none⟩)),
     fI (.agg #[.string s.id,.string s.sig])] Wr rfl Wr (fun x=>qm) ?_ ?_
    ·refine⟨?_,?_,?_,?_,?_,?_,?_,?_,trivial⟩ <;> intro x w2 i b hd;·exact zi
     ·exact zi
     ·have d0:x 0=_:=hd 0 Wr;have d1:x 1=_:=hd 1 Wr;have N:=Gn.o;exact zi
     ·have d2:x 2=_:=hd 2 Wr;have y0:=i.cell P Wz;have y1:=i.cell L Wz;exact zi
     ·exact zi
     ·exact zi
     ·have d4:x 4=_:=hd 4 Wr;have d5:x 5=_:=hd 5 Wr;have N:=Gn.o;exact zi
     ·have d6:x 6=_:=hd 6 Wr;have y0:=i.cell U Wz;have y1:=i.cell Q Wz;exact zi
    ·intro x w7 i b7 hd F;have d3:x 3=_:=hd 3 Wo;have Z:x 7=_:=hd 7 Wo;have Gp:=qI i;clear hd F i P L U Q;change wpList _ _ _ [_] _ _;obtain⟨e,y⟩:∃ e,yc r s=e:=⟨_,rfl⟩;cases e;·go_wp2_with (refine bF (r:=r) (s:=s) Wk _ _ rfl d3 Z ?_;rw [y];simp only [Bool.not_false]);go_ret;exact⟨by rw [K.o y];rfl,A.o.then Gp.o⟩
     ·go_wp2_with (refine bF (r:=r) (s:=s) Wk _ _ rfl d3 Z ?_;rw [y];simp only [Bool.not_true]);case roundEnd=>exact⟨⟨k+1,by go_num,Gm.o,W.o y,A.o.then Gp.o⟩,by have:=Gm.o;simp [intOf];omega⟩
   ·obtain rfl:k=n:=by omega
    have aa:¬ (k:Int)<k:=Ws;go_wp2;go_ret;exact⟨by rw [eqR_all (by rw [← C.o,← X.o]) (fun j p h2=>Y.o j p h2 (by rw [C.o];exact p))];rfl,A.o⟩
theorem sameRows_any {w:World}{c:Nat}{l:List yh}(R:xT w (.slice a l.length c) l){d:Nat}{m:List yh}(O:xT w (.slice b m.length d) m)(hl:l.length≤1000000)(hm:m.length≤1000000) : zJ w 25 #[.slice a l.length c,.slice b m.length d] (.bool (eqL yc l m)):=by
 by_cases f:l.length=m.length;rotate_left;·have y:eqL yc l m=false:=eqR_len f;rw [y];have M:¬ (l.length:Int)=m.length:=Ws;have D:decide ((l.length:Int)=m.length)=false:=decide_eq_false M;generalize (l.length:Nat)=n1 at M D ⊢;generalize (m.length:Nat)=n2 at M D ⊢;clear R O hl hm f y;go_enter func25,ntmps25;go_wp2;go_ret;exact⟨rfl,Wd⟩
 ·have HA:=qI R;have HB:=qI (f ▸ O:xT w (.slice b m.length d) m);obtain⟨n,C⟩:=XE l.length;have X:Hid (n=m.length):=qI (by rw [C.o];exact f);rw [show Value.slice b m.length d = .slice b n d by rw [X.o],show Value.slice a l.length c = .slice a n c by rw [C.o]];have ab:(n:Int)≤1000000:=XC C.o;have Jc:Hid (∀ q,q=eqL yc l m→q=eqL yc l m):=qI (fun _ h=>h);clear R O hl hm f;go_enter func25,ntmps25;go_wp2_with fail;go_loopw [5] (fun v wr=>∃ k:Nat,v = .int .i64 k∧k≤n∧(∀ j (p:j<l.length) (h2:j<m.length),j<k→yc l[j] m[j]=true)∧zb [] w wr) (fun v _=>n-(intOf v).toNat);case atStart=>exact⟨0,rfl,XB,fun j _ _ h=>absurd h (Nat.not_lt_zero j),Wd⟩
  case round=>
   obtain⟨k,rfl,hk,u,G⟩:=hrel;have Y:=qI u;have A:=qI G;clear u G;by_cases t:k<n
   ·have p:k<l.length:=by rw [← C.o];exact t
    have h2:k<m.length:=by rw [← X.o];exact t
    obtain⟨I,J,rfl,-,-,B⟩:=HA.o.cells Ws;obtain⟨gb,H,rfl,-,-,z⟩:=HB.o.cells Ws;have P:wr.cell? ⟨I,J+k*2,none⟩=some (.string l[k].id):=A.o.cell (B k p 0 _ rfl) Wz;have L:wr.cell? ⟨I,J+k*2+1,none⟩=some (.string l[k].sig):=A.o.cell (B k p 1 _ rfl) Wz;have U:wr.cell? ⟨gb,H+k*2,none⟩=some (.string m[k].id):=A.o.cell (z k h2 0 _ rfl) Wz;have Q:wr.cell? ⟨gb,H+k*2+1,none⟩=some (.string m[k].sig):=A.o.cell (z k h2 1 _ rfl) Wz;have E:(k:Int)<n:=Ws;have Gn:Hid ((k:Int)<n):=qI E;have Gm:=qI t;have K:Hid (yc l[k] m[k]=false→eqL yc l m=false):=qI (eqR_no k p h2);have W:Hid (yc l[k] m[k]=true→∀ j (p:j<l.length) (h2:j<m.length),j<k+1→yc l[j] m[j]=true):=qI (fun h j p h2 hj=>by
     rcases Nat.lt_or_ge j k with h3 | h3;·exact Y.o j p h2 h3
     ·obtain rfl:j=k:=by omega
      exact h)
    clear B z t hk;generalize l[k]=r at P L K W;generalize m[k]=s at U Q K W;clear p h2;go_upto_region 6 with fail
    refine yz (n:=26) 8 [fI (.slice (some ⟨I,J,none⟩) n c),
     fI (.int .i64 k),
     fI (.pointer (some ⟨I,J+k*2,none⟩)),
     fI (.agg #[.string r.id,.string r.sig]),
     fI (.slice (some ⟨gb,H,none⟩) n d),
     fI (.int .i64 k),
     fI (.pointer (some ⟨gb,H+k*2,none⟩)),
     fI (.agg #[.string s.id,.string s.sig])] Wr rfl Wr (fun x=>qm) ?_ ?_
    ·refine⟨?_,?_,?_,?_,?_,?_,?_,?_,trivial⟩ <;> intro x w2 i b hd;·exact zi
     ·exact zi
     ·have d0:x 0=_:=hd 0 Wr;have d1:x 1=_:=hd 1 Wr;have N:=Gn.o;exact zi
     ·have d2:x 2=_:=hd 2 Wr;have y0:=i.cell P Wz;have y1:=i.cell L Wz;exact zi
     ·exact zi
     ·exact zi
     ·have d4:x 4=_:=hd 4 Wr;have d5:x 5=_:=hd 5 Wr;have N:=Gn.o;exact zi
     ·have d6:x 6=_:=hd 6 Wr;have y0:=i.cell U Wz;have y1:=i.cell Q Wz;exact zi
    ·intro x w7 i b7 hd F;have d3:x 3=_:=hd 3 Wo;have Z:x 7=_:=hd 7 Wo;have Gp:=qI i;clear hd F i P L U Q;change wpList _ _ _ [_] _ _;obtain⟨e,y⟩:∃ e,yc r s=e:=⟨_,rfl⟩;cases e;·go_wp2_with (refine bF (r:=r) (s:=s) Wk _ _ rfl d3 Z ?_;rw [y];simp only [Bool.not_false]);go_ret;exact⟨by rw [K.o y];rfl,A.o.then Gp.o⟩
     ·go_wp2_with (refine bF (r:=r) (s:=s) Wk _ _ rfl d3 Z ?_;rw [y];simp only [Bool.not_true]);case roundEnd=>exact⟨⟨k+1,by go_num,Gm.o,W.o y,A.o.then Gp.o⟩,by have:=Gm.o;simp [intOf];omega⟩
   ·obtain rfl:k=n:=by omega
    have aa:¬ (k:Int)<k:=Ws;go_wp2;go_ret;exact⟨by rw [eqR_all (by rw [← C.o,← X.o]) (fun j p h2=>Y.o j p h2 (by rw [C.o];exact p))];rfl,A.o⟩
theorem YZ (a:Array Bool){i j:Nat}(h:i≠j)(d:Bool):(a.setIfInBounds i true).getD j d=a.getD j d:=by
 simp [Array.getD_eq_getD_getElem?,Array.getElem?_setIfInBounds,h]
section
variable {P : Program} {ops : Array Oper} {Q : Exit → Act → World → Prop} {md : Region.Mode} {S : World → Prop} {L : Nat}
def yF (P:Program)(md:Region.Mode)(ops:Array Oper)(Q:Exit→Act→World→Prop)(S:World→Prop)(L:Nat):Nat→Array Bool→Act→World→Prop
 | 0,listed,a,w=>Region.ready md ops listed=[]∧Q .normal a w
 | fuel+1,listed,a,w=>
  (Region.ready md ops listed=[]→Q .normal a w) ∧
  ∀ i∈Region.ready md ops listed,wpOp P ops Q i (fun a' w'=>(i=L∨listed.getD L false=true∨S w')∧yF P md ops Q S L fuel (listed.setIfInBounds i true) a' w') a w
theorem Y6:∀ (fuel:Nat) (listed:Array Bool) (a:Act) (w:World),yF P md ops Q S L fuel listed a w→wpAny P md ops Q fuel listed a w
 | 0,_,_,_,h=>h
 | fuel+1,_,_,_,h=>⟨h.1,fun i hi=>wpOp_mono (fun a' w' h'=>Y6 fuel _ a' w' h'.2) (h.2 i hi)⟩
theorem wpAnyU_first {i:Nat}{t:Oper}{v:Value}(O:ops[i]? = some t)(q:∀ (j:Nat) (o:Oper) cs b,ops[j]? = some o→o.op≠.select cs b)(Y:∀ c a w,Q (.panic c) (a.put t.dst v) w→Q (.panic c) a w)(m:late md ops L i=true)(I:i≠L) : ∀ (fuel:Nat) (listed:Array Bool) (a:Act) (w:World), (∀ j oj,ops[j]? = some oj→j≠i→listed.getD j true=false→(∀ e∈oj.after,Region.binds md e=true→e.on≠i)→t.apart ops oj=true)→listed.getD L false=false→i∈Region.ready md ops listed→YieldsIf P ops S t v a→S w→yF P md ops Q S L fuel (listed.setIfInBounds i true) (a.put t.dst v) w→yF P md ops Q S L (fuel+1) listed a w:=by
 intro fuel;induction fuel with
 | zero=>
  intro listed a w _ N u F C H;refine⟨fun h=>(by rw [h] at u;cases u),fun j G=>?_⟩;by_cases d:j=i;·subst d;exact F.wpOp O C ⟨.inr (.inr C),H⟩
  ·have:=ready_mono G d;rw [H.1] at this;cases this
 | succ fuel ih=>
  intro listed a w l N u F C H;refine⟨fun h=>(by rw [h] at u;cases u),fun j G=>?_⟩;by_cases d:j=i;·subst d;exact F.wpOp O C ⟨.inr (.inr C),H⟩
  ·have n:=H.2 j (ready_mono G d);obtain⟨s,oj,f,A⟩:=mem_ready.1 G;have r:∀ e∈oj.after,Region.binds md e=true→e.on≠i:=fun e M y R=>by
    have n:=A e M y;have U:=(mem_ready.1 u).1;rw [R] at n;rcases Nat.lt_or_ge i listed.size with h' | h'
    ·simp [h'] at U n;rw [U] at n;cases n
    ·simp [Array.getElem?_eq_none h'] at n
   have D:j≠L:=by
    intro e;subst e;unfold late at m;rw [Bool.or_eq_true] at m;rcases m with m | m;rotate_left
    ·have n:ops.size≤j:=by simpa using m
     rw [Array.getElem?_eq_none n] at f;cases f
    unfold zaQ at m;rw [f] at m;simp only [Option.map_some,Option.getD_some,Array.any_eq_true'] at m;obtain⟨e,M,y⟩:=m;simp only [Bool.and_eq_true,beq_iff_eq] at y;exact r e M y.1 y.2
   have h2:=wpOp_putIf f (l j oj f d s r) (fun cs b=>q i t cs b O) (fun cs b=>q j oj cs b f) Y F n
   have p:∀ k ok,ops[k]? = some ok→k≠i→(listed.setIfInBounds j true).getD k true=false →
     (∀ e∈ok.after,Region.binds md e=true→e.on≠i)→t.apart ops ok=true:=fun k ok X J B K=>by
    refine l k ok X J ?_ K;by_cases E:j=k;·subst E;exact s
    ·rw [getD_set_ne true E] at B;exact B
   refine wpOp_mono (fun W w' h3=>?_) h2;have z:S w':=by
    rcases h3.2.1 with g | g | g;·exact absurd g D
    ·by_cases x:i=L;·exact absurd x I
     ·rw [YZ listed x false,N] at g;cases g
    ·exact g
   refine⟨.inr (.inr z),ih (listed.setIfInBounds j true) W w' p (by rw [YZ listed D false];exact N) (ready_mono u (Ne.symm d)) h3.1 z ?_⟩;rw [Array.setIfInBounds_comm _ _ d];exact h3.2.2
theorem wpAnyU_pure0 {i:Nat}{p:Oper}{v:Value}(G:ops[i]? = some p)(m:∀ (j:Nat) (o:Oper) cs b,ops[j]? = some o→o.op≠.select cs b)(R:∀ c a w,Q (.panic c) (a.put p.dst v) w→Q (.panic c) a w) : ∀ (fuel:Nat) (listed:Array Bool) (a:Act) (w:World), (∀ j oj,ops[j]? = some oj→j≠i→listed.getD j true=false→(∀ e∈oj.after,Region.binds md e=true→e.on≠i)→p.apart ops oj=true)→listed.getD L false=true→i∈Region.ready md ops listed→YieldsIf P ops (fun _=>True) p v a→yF P md ops Q S L fuel (listed.setIfInBounds i true) (a.put p.dst v) w→yF P md ops Q S L (fuel+1) listed a w:=by
 intro fuel;induction fuel with
 | zero=>
  intro listed a w _ t q B H;refine⟨fun h=>(by rw [h] at q;cases q),fun j C=>?_⟩;by_cases d:j=i;·subst d;exact B.wpOp G trivial ⟨.inr (.inl t),H⟩
  ·have:=ready_mono C d;rw [H.1] at this;cases this
 | succ fuel ih=>
  intro listed a w f t q B H;refine⟨fun h=>(by rw [h] at q;cases q),fun j C=>?_⟩;by_cases d:j=i;·subst d;exact B.wpOp G trivial ⟨.inr (.inl t),H⟩
  ·have r:=H.2 j (ready_mono C d);obtain⟨n,oj,s,u⟩:=mem_ready.1 C;have A:∀ e∈oj.after,Region.binds md e=true→e.on≠i:=fun e U N I=>by
    have r:=u e U N;have J:=(mem_ready.1 q).1;rw [I] at r;rcases Nat.lt_or_ge i listed.size with h' | h'
    ·simp [h'] at J r;rw [J] at r;cases r
    ·simp [Array.getElem?_eq_none h'] at r
   have h2:=wpOp_putIf s (f j oj s d n A) (fun cs b=>m i p cs b G) (fun cs b=>m j oj cs b s) R B r
   have l:∀ k ok,ops[k]? = some ok→k≠i→(listed.setIfInBounds j true).getD k true=false →
     (∀ e∈ok.after,Region.binds md e=true→e.on≠i)→p.apart ops ok=true:=fun k ok M E x F=>by
    refine f k ok M E ?_ F;by_cases z:j=k;·subst z;exact n
    ·rw [getD_set_ne true z] at x;exact x
   refine wpOp_mono (fun K w' h3=>?_) h2;have D:(listed.setIfInBounds j true).getD L false=true:=by
    by_cases y:j=L
    ·subst y;by_cases O:j<listed.size;·simp [O]
     ·rw [Array.setIfInBounds_eq_of_size_le Ws];exact t
    ·rw [YZ listed y false];exact t
   refine⟨.inr (.inl t),ih (listed.setIfInBounds j true) K w' l D (ready_mono q (Ne.symm d)) h3.1 ?_⟩;rw [Array.setIfInBounds_comm _ _ d];exact h3.2.2
theorem wpAnyU_take {i:Nat}{e:Oper}{v:Value}{d:Nat}{b:Array Bool}{a:Act}{w:World}(j:ops[i]? = some e)(k:Region.noSelect ops=true)(l:Region.free md ops b i=true)(p:(Region.ready md ops b).contains i=true)(q:late md ops L i=true)(f:i≠L)(n:b.getD L false=false)(s:∀ c a w,Q (.panic c) (a.put e.dst v) w→Q (.panic c) a w)(r:YieldsIf P ops S e v a)(m:S w)(h:yF P md ops Q S L d (b.setIfInBounds i true) (a.put e.dst v) w):yF P md ops Q S L (d+1) b a w:=
 wpAnyU_first j (Region.noSelect_spec k) s q f d b a w (Region.free_spec j l) n (by simpa using p) r m h
theorem wpAnyU_one {i:Nat}{e:Oper}{d:Nat}{b:Array Bool}{a:Act}{w:World}(n:ops[i]? = some e)(f:Region.ready md ops b=[i])(l:Region.wanted e (yielded ops a.tmps)=true)(h:∀ K:Act→World→Prop,(∀ a' w',(i=L∨b.getD L false=true∨S w')→yF P md ops Q S L d (b.setIfInBounds i true) a' w'→K a' w')→e.wp P a w K Q):yF P md ops Q S L (d+1) b a w:=by
 refine⟨fun k=>(by rw [f] at k;cases k),?_⟩;rw [f];intro j m;have:j=i:=by simpa using m
 subst this;unfold wpOp;rw [n];simp only;rw [if_pos l];exact .inl (h _ fun a' w' p h2=>⟨p,h2⟩)
theorem wpAnyU_done {listed:Array Bool}{a:Act}{w:World}(hr:Region.ready md ops listed=[])(h:Q .normal a w) :
  ∀ fuel,yF P md ops Q S L fuel listed a w
 | 0=>⟨hr,h⟩
 | _+1=>⟨fun _=>h,by rw [hr];simp⟩
theorem wp_regionU {id:Nat}{a:Act}{w:World}(S:World→Prop)(L:Nat)(hm:P.follows .mixedOrders=true)(h:yF P .any ops Q S L ops.size (Array.replicate ops.size false) a { w with drawn:=w.drawn+1 }):(Code.region id ops true).wp P Q a w:=
 wp_region_any hm (Y6 _ _ _ _ h)
theorem YI {id n:Nat}{a:Act}{w:World}(S:World→Prop)(L:Nat)(b:ops.size=n)(hm:P.follows .mixedOrders=true)(h:yF P .any ops Q S L n (Array.replicate n false) a { w with drawn:=w.drawn+1 }):(Code.region id ops true).wp P Q a w:=by
 subst b;exact wp_regionU S L hm h
theorem ZN {d:Nat}{b:Array Bool}{a:Act}{w:World}(h:∀ O R,O=ops→R=Q→yF P md O R S L d b a w):yF P md ops Q S L d b a w:=h _ _ rfl rfl
theorem wpAnyU_take' {O:Array Oper}{i dst:Nat}{j:Oper}{v:Value}{e:Nat}{b:Array Bool}{a:Act}{w:World}(s:O=ops)(p:ops[i]? = some j)(hd:j.dst=some dst)(k:Region.noSelect ops=true)(m:Region.free md ops b i=true)(q:(Region.ready md ops b).contains i=true)(r:late md ops L i=true)(f:i≠L)(n:b.getD L false=false)(u:∀ c a (d:Nat) v w,Q (.panic c) (a.put (some d) v) w→Q (.panic c) a w)(t:YieldsIf P ops S j v a)(l:S w)(h:yF P md O Q S L e (b.setIfInBounds i true) (a.put (some dst) v) w):yF P md O Q S L (e+1) b a w:=by
 subst s;exact wpAnyU_take p k m q r f n (fun c a w h=>u c a dst v w (by rw [hd] at h;exact h)) t l (by rw [hd];exact h)
theorem wpAnyU_one' {O:Array Oper}{i:Nat}{e:Oper}{d:Nat}{b:Array Bool}{a:Act}{w:World}(k:O=ops)(l:ops[i]? = some e)(f:Region.ready md ops b=[i])(j:Region.wanted e (yielded ops a.tmps)=true)(h:∀ K:Act→World→Prop,(∀ a' w',(i=L∨b.getD L false=true∨S w')→yF P md O Q S L d (b.setIfInBounds i true) a' w'→K a' w')→e.wp P a w K Q):yF P md O Q S L (d+1) b a w:=by
 subst k;exact wpAnyU_one l f j h
theorem yQ {O:Array Oper}{b:Array Bool}{a:Act}{w:World}(f:O=ops)(e:Region.ready md ops b=[])(h:Q .normal a w)(d:Nat):yF P md O Q S L d b a w:=by
 subst f;exact wpAnyU_done e h d
theorem wpAnyU_pure {O:Array Oper}{i dst:Nat}{f:Oper}{v:Value}{e:Nat}{b:Array Bool}{a:Act}{w:World}(p:O=ops)(j:ops[i]? = some f)(hd:f.dst=some dst)(k:Region.noSelect ops=true)(l:Region.free md ops b i=true)(n:(Region.ready md ops b).contains i=true)(m:b.getD L false=true)(r:∀ c a (d:Nat) v w,Q (.panic c) (a.put (some d) v) w→Q (.panic c) a w)(q:YieldsIf P ops (fun _=>True) f v a)(h:yF P md O Q S L e (b.setIfInBounds i true) (a.put (some dst) v) w):yF P md O Q S L (e+1) b a w:=by
 subst p;exact wpAnyU_pure0 j (Region.noSelect_spec k) (fun c a w h=>r c a dst v w (by rw [hd] at h;exact h)) e b a w (Region.free_spec j l) m (by simpa using n) q (by rw [hd];exact h)
theorem ql {O:Array Oper}{i j:Nat}{h k:Oper}{d:Nat}{b:Array Bool}{a:Act}{w:World}(s:O=ops)(r:ops[i]? = some h)(t:ops[j]? = some k)(p:Region.ready md ops b=[i,j])(e:Region.wanted h (yielded ops a.tmps)=true)(l:Region.wanted k (yielded ops a.tmps)=true)(u:∀ K:Act→World→Prop,(∀ a' w',(i=L∨b.getD L false=true∨S w')→yF P md O Q S L d (b.setIfInBounds i true) a' w'→K a' w')→h.wp P a w K Q)(h2:∀ K:Act→World→Prop,(∀ a' w',(j=L∨b.getD L false=true∨S w')→yF P md O Q S L d (b.setIfInBounds j true) a' w'→K a' w')→k.wp P a w K Q):yF P md O Q S L (d+1) b a w:=by
 subst s;refine⟨fun q=>(by rw [p] at q;cases q),?_⟩;rw [p];intro m hm;simp only [List.mem_cons,List.not_mem_nil,or_false] at hm;rcases hm with rfl | rfl
 ·unfold wpOp;rw [r];simp only;rw [if_pos e];exact .inl (u _ fun a' w' f n=>⟨f,n⟩)
 ·unfold wpOp;rw [t];simp only;rw [if_pos l];exact .inl (h2 _ fun a' w' f n=>⟨f,n⟩)
theorem qU (i:Nat)(v:Value){O:Array Oper}{dst:Nat}{j:Oper}{f:Nat}{b:Array Bool}{a:Act}{w:World}(m:O=ops)(l:ops[i]? = some j)(hd:j.dst=some dst)(e:(Region.noSelect ops&&(Region.free md ops b i&&((Region.ready md ops b).contains i&&(late md ops L i&&(!(i == L)&&(!(b.getD L false)&&Region.wanted j (yielded ops a.tmps)))))))=true)(p:∀ c a (d:Nat) v w,Q (.panic c) (a.put (some d) v) w→Q (.panic c) a w)(n:∀ w,S w→(execOp a.eval j).run P w = .ok (.value v) w)(k:S w)(h:yF P md O Q S L f (b.setIfInBounds i true) (a.put (some dst) v) w):yF P md O Q S L (f+1) b a w:=by
 simp only [Bool.and_eq_true,Bool.not_eq_true',beq_eq_false_iff_ne] at e;exact wpAnyU_take' m l hd e.1 e.2.1 e.2.2.1 e.2.2.2.1 e.2.2.2.2.1 e.2.2.2.2.2.1 p (.inl ⟨e.2.2.2.2.2.2,n⟩) k h
theorem qV (i:Nat){O:Array Oper}{f:Oper}{d:Nat}{b:Array Bool}{a:Act}{w:World}(j:O=ops)(k:ops[i]? = some f)(e:((Region.ready md ops b == [i])&&Region.wanted f (yielded ops a.tmps))=true)(h:∀ K:Act→World→Prop,(∀ a' w',(i=L∨b.getD L false=true∨S w')→yF P md O Q S L d (b.setIfInBounds i true) a' w'→K a' w')→f.wp P a w K Q):yF P md O Q S L (d+1) b a w:=by
 rw [Bool.and_eq_true,beq_iff_eq] at e;exact wpAnyU_one' j k e.1 e.2 h
theorem qW (i:Nat)(v:Value){O:Array Oper}{dst:Nat}{j:Oper}{e:Nat}{b:Array Bool}{a:Act}{w:World}(l:O=ops)(k:ops[i]? = some j)(hd:j.dst=some dst)(f:(Region.noSelect ops&&(Region.free md ops b i&&((Region.ready md ops b).contains i&&(b.getD L false&&Region.wanted j (yielded ops a.tmps)))))=true)(n:∀ c a (d:Nat) v w,Q (.panic c) (a.put (some d) v) w→Q (.panic c) a w)(m:∀ w,True→(execOp a.eval j).run P w = .ok (.value v) w)(h:yF P md O Q S L e (b.setIfInBounds i true) (a.put (some dst) v) w):yF P md O Q S L (e+1) b a w:=by
 simp only [Bool.and_eq_true] at f;exact wpAnyU_pure l k hd f.1 f.2.1 f.2.2.1 f.2.2.2.1 n (.inl ⟨f.2.2.2.2,m⟩) h
end
def ZL:List Value:=[.int .i64 0,.int .i64 0,.string ⟨#[]⟩,.slice none 0 0,.slice none 0 0]
def Z6 (cs:List Value):Prop:=∃ k m s p i c q j d,cs=[.int .i64 k,.int .i64 m,.string s,.slice p i c,.slice q j d]
theorem Z6.len {cs:List Value}(h:Z6 cs):cs.length=5:=by obtain⟨_,_,_,_,_,_,_,_,_,rfl⟩:=h;rfl
theorem Z6.one {cs:List Value}(h:Z6 cs):∀ u,u∈cs→u.oneCell'=true:=by
 obtain⟨_,_,_,_,_,_,_,_,_,rfl⟩:=h;intro u a;simp only [List.mem_cons,List.not_mem_nil,or_false] at a;rcases a with rfl | rfl | rfl | rfl | rfl <;> rfl
def kq (d:Nat)(X:PX)(p:Nat)(S:ByteArray)(w:World)(e:Ending)(w':World):Prop:=
 ∃ cs:List Value,e = .returned (.agg cs.toArray)∧Z6 cs∧zb [p] w w' ∧
  match X with
  | .inl x=>PS w' p S 4097 (.inl x)
  | .inr (s,c)=>match zy d s c with
   | .inl x=>PS w' p S 4097 (.inl x)
   | .inr (v,r,c')=>PS w' p S 4097 (.inr (r,c'))∧xU d w.heap.size w' cs v
def J7:PX→Prop | .inl _=>True | .inr (_,c)=>c≤4096
def qt (d:Nat):Prop:=∀ {w:World}{p:Nat}{S:ByteArray}{X:PX},PS w p S 4097 X→J7 X→S.size≤262144→qA p w →
 Calls prog 74 #[.pointer (some ⟨p,0,none⟩),.int .i64 d] w fun e w'=>kq d X p S w e w'
structure zal (W:World)(bv b2 b3 p d:Nat)(w:World):Prop where
 ptr:w.heap[b2]? = some (.cells #[.pointer (some ⟨p,0,none⟩)] 107 (0,0))
 dep:w.heap[b3]? = some (.cells #[.int .i64 d] 3 (0,0))
 kept:zb [p,bv] W w
structure LPos (W:World)(bv b2 b3 p:Nat):Prop where
 hp:p<W.heap.size
 hv:bv<W.heap.size
 h2:b2<W.heap.size
 h3:b3<W.heap.size
 lt:p<bv
 pv:p≠bv
 p2:p≠b2
 p3:p≠b3
 v2:bv≠b2
 v3:bv≠b3
structure LJ (W:World)(bv b2 b3 p d:Nat)(acc:List (V d))(w:World)(vl:Value)(lcs:List (List Value)):Prop where
 cap:zal W bv b2 b3 p d w
 blk:w.heap[bv]? = some (.cells (kh 5 0 ⟨#[]⟩ vl (.slice none 0 0)) 25 (0,0))
 row:w.ownsRow W.heap.size 25 5 vl acc.length lcs.flatten
 all:zM (Rep d (fun g=>W.heap.size≤g∧vl.ownBlock≠some g) w) lcs acc
structure LBad (W:World)(bv b2 b3 p d:Nat)(w:World):Prop where
 cap:zal W bv b2 b3 p d w
 blk:∃ a n c,w.heap[bv]? = some (.cells (kh 5 0 ⟨#[]⟩ (.slice a n c) (.slice none 0 0)) 25 (0,0))
section
variable {W w w' : World} {bv b2 b3 p d : Nat}
theorem zal.step (h:zal W bv b2 b3 p d w)(hp:LPos W bv b2 b3 p){X:List Nat}(k:zb X w w')(b:∀ g,g∈X→g=p∨g=bv∨W.heap.size≤g):zal W bv b2 b3 p d w':=by
 have i:=h.kept.size;refine⟨k.heap h.ptr ?_,k.heap h.dep ?_,h.kept.trans k ?_⟩
 ·intro a;rcases b _ a with e | e | e;·exact hp.p2 e.symm
  ·exact hp.v2 e.symm
  ·have:=hp.h2;omega
 ·intro a;rcases b _ a with e | e | e;·exact hp.p3 e.symm
  ·exact hp.v3 e.symm
  ·have:=hp.h3;omega
 ·intro g f;rcases b _ f with e | e | e;·exact .inl (by simp [e])
  ·exact .inl (by simp [e])
  ·exact .inr e
theorem LJ.step {acc:List (V d)}{e:Value}{lcs:List (List Value)}(h:LJ W bv b2 b3 p d acc w e lcs)(hp:LPos W bv b2 b3 p)(k:zb [p] w w'):LJ W bv b2 b3 p d acc w' e lcs:=
 ⟨h.cap.step hp k (fun g a=>by simp at a;exact .inl a),k.heap h.blk (by simpa using hp.pv.symm),zk h.row k (fun g a b=>by simp at b;have:=(h.row.lt g a).1;have:=hp.hp;omega),h.all.mono fun _ _ _ r=>r.move k (fun g _ q=>⟨fun b=>by simp at b;have:=hp.hp;omega,q⟩)⟩
theorem LBad.step (h:LBad W bv b2 b3 p d w)(hp:LPos W bv b2 b3 p)(k:zb [p] w w'):LBad W bv b2 b3 p d w':=by
 obtain⟨a,n,c,e⟩:=h.blk;exact⟨h.cap.step hp k (fun g b=>by simp at b;exact .inl b),a,n,c,k.heap e (by simpa using hp.pv.symm)⟩
theorem LJ.bad {acc:List (V d)}{b:Value}{lcs:List (List Value)}(h:LJ W bv b2 b3 p d acc w b lcs):LBad W bv b2 b3 p d w:=by
 obtain⟨a,c,rfl,-,-⟩:=(Slc.of_row h.row).form;exact⟨h.cap,_,_,_,h.blk⟩
theorem LJ.snoc {acc:List (V d)}{k e:Value}{lcs:List (List Value)}{t C l:World}{cs:List Value}{v:V d}{g x:Nat}(h:LJ W bv b2 b3 p d acc w k lcs)(hp:LPos W bv b2 b3 p)(u:zal W bv b2 b3 p d l)(s:l.heap[bv]? = some (.cells (kh 5 0 ⟨#[]⟩ e (.slice none 0 0)) 25 (0,0)))(B:zb [p] w t)(A:zb k.ownBlock.toList t C)(z:zb [bv,g] C l)(f:e.ownBlock=some g)(b:k.ownBlock=some g∨g=t.heap.size)(m:l.ownsRow W.heap.size 25 5 e (acc.length+1) (lcs++[cs]).flatten)(n:Rep d (fun i=>x≤i) t cs v)(G:w.heap.size≤x):LJ W bv b2 b3 p d (acc++[v]) l e (lcs++[cs]):=by
 have F:=hp.hp;have D:=hp.hv;have H:=h.cap.kept.size;have E:=B.size;refine⟨u,s,by rw [List.length_append];exact m,zM.snoc (h.all.mono fun c y _ r=>?_) ?_⟩
 ·refine ((r.move (T:=fun i=>W.heap.size≤i∧k.ownBlock≠some i∧i<w.heap.size) B (fun i j q=>⟨fun a=>by simp at a;omega,q.1,q.2,j⟩)).move (T:=fun i=>W.heap.size≤i∧k.ownBlock≠some i∧i<w.heap.size) A (fun i j q=>⟨fun a=>q.2.1 (XD a),q⟩)).move z (fun i j q=>⟨fun a=>?_,q.1,fun a=>?_⟩)
  ·simp at a;rcases a with a | a
   ·omega
   ·rcases b with b | b;·exact q.2.1 (by rw [b,a])
    ·omega
  ·rw [f] at a;injection a with a;rcases b with b | b
   ·exact q.2.1 (by rw [b,a])
   ·omega
 ·refine (n.move (T:=fun i=>x≤i∧i<t.heap.size∧k.ownBlock≠some i) A (fun i j q=>⟨fun a=>?_,q,j,fun a=>?_⟩)).move z (fun i j q=>⟨fun a=>?_,Ws,fun a=>?_⟩);·have:=(h.row.lt i (XD a)).2;omega
  ·have:=(h.row.lt i a).2;omega
  ·simp at a;rcases a with a | a
   ·omega
   ·rcases b with b | b;·exact q.2.2 (by rw [b,a])
    ·omega
  ·rw [f] at a;injection a with a;rcases b with b | b
   ·exact q.2.2 (by rw [b,a])
   ·omega
theorem zal.tabs (h:zal W bv b2 b3 p d w)(hp:LPos W bv b2 b3 p)(a:qA p W):qA p w:=by
 obtain⟨b,f,h2,h3⟩:=a;have:=hp.lt;exact⟨b,f,h2.trans h.kept (fun i e=>by simp at e;exact .inr Ws),h3⟩
def Zk (W:World)(bv b2 b3 p d:Nat)(S:ByteArray)(s:List UInt8)(c:Nat)(acc:List (V d))(w':World):Prop:=
 match yq (zy d) s c acc with
 | .inl x=>PS w' p S 4097 (.inl x)∧LBad W bv b2 b3 p d w'
 | .inr (acc',r,c')=>PS w' p S 4097 (.inr (r,c'))∧∃ vl lcs,LJ W bv b2 b3 p d acc' w' vl lcs
theorem ZW {S:ByteArray}{s:List UInt8}{c:Nat}{acc:List (V d)}(a:∀ x,zy d s c = .inl x→PS w' p S 4097 (.inl x)∧LBad W bv b2 b3 p d w')(h2:∀ v r c',zy d s c = .inr (v,r,c')→PS w' p S 4097 (.inr (r,c'))∧∃ vl lcs,LJ W bv b2 b3 p d (acc++[v]) w' vl lcs):Zk W bv b2 b3 p d S s c acc w':=by
 unfold Zk yq;cases h:zy d s c with
 | inl x=>exact a x h
 | inr y=>obtain⟨v,r,c'⟩:=y;exact h2 v r c' h
def qf (d:Nat)(s:List UInt8)(c p:Nat)(S:ByteArray)(Bc:Nat)(cs:List Value)(w':World):Prop:=
 match zy d s c with
 | .inl x=>PS w' p S 4097 (.inl x)
 | .inr (v,r,c')=>PS w' p S 4097 (.inr (r,c'))∧Rep d (fun i=>Bc≤i) w' cs v
theorem qf.k0 {s:List UInt8}{c a:Nat}{S:ByteArray}{cs:List Value}(h:qf d s c p S a cs w)(k:zb [] w w'):qf d s c p S a cs w':=by
 unfold qf at *;cases e:zy d s c with
 | inl x=>rw [e] at h;exact PS.k0 h k
 | inr y=>obtain⟨v,r,b⟩:=y;rw [e] at h;exact⟨PS.k0 h.1 k,h.2.k0 k⟩
theorem kq.said {s:List UInt8}{c:Nat}{S:ByteArray}{e:Ending}(h:kq d (.inr (s,c)) p S w e w'):∃ cs:List Value,e = .returned (.agg cs.toArray)∧Z6 cs∧zb [p] w w'∧qf d s c p S w.heap.size cs w':=by
 obtain⟨cs,b,h2,h3,a⟩:=h;refine⟨cs,b,h2,h3,?_⟩;unfold qf;simp only at a;cases e:zy d s c with
 | inl x=>rw [e] at a;exact a
 | inr y=>obtain⟨v,r,f⟩:=y;rw [e] at a;exact⟨a.1,a.2.rep⟩
end
section
variable {H : Type} {enc : TypeId × Value → H}
theorem handed_shaped {a:Assume}{C:Checked}{os:Os}{f:FuncId}{l:Func}{s:ChangeSpec}{k:List PathCond}{apart fresh b h:Bool}{X:World→Array Value→Prop}(G:∀ (w w':World) (args:Array Value),w.heap=w'.heap→X w args→X w' args)(own:ownKnob C.prog.godebug=none)(n:os.Started)(p:C.prog.inits.idxOf? f=none)(y:C.prog.funcs[f]? = some l)(m:∃ (w:World) (tape:Tape) (i:Input),w.os=os∧(w.forCall tape i).Shaped C.prog∧i.vars=[]∧Input.okWide C.prog (w.forCall tape i) .any w.heap.size f i∧((s.pre enc C.prog l k apart (w.forCall tape i).memory i.args∧X (w.forCall tape i).memory i.args)∧sizedMet enc C.prog l (OpenSpec.ofChange s) apart (w.forCall tape i).memory i.args)∧a.holds C.prog (lone (Frame.enter C.prog f i.args .normal) [] (w.forCall tape i)))(d:∀ (W:World) (base:Nat) (args:Array Value) (ds gs:List (DataW H)) (before:List MemPlace), (∀ (j:Nat) t v,l.params[j]? = some t→args[j]? = some v→Value.okWide C.prog W .any base t v)→DataW.Whole enc C.prog l.params.toList s.vars apart W args.toList ds gs before→(DataW.weightsEach C.prog (l.params.toList++s.plain.varTypes C.prog) (ds++gs)).all (· ≤ reachBytes)=true→X W args→W.ShapedOpen C.prog→Calls C.prog f args W fun e W'=>∃ v,e = .returned v∧s.post enc C.prog l apart fresh b h W args v W') : ReturnsInHanded a C os f .any (fun w args=>(s.pre enc C.prog l k apart w args∧X w args)∧sizedMet enc C.prog l (OpenSpec.ofChange s) apart w args) (s.post enc C.prog l apart fresh b h):=by
 refine returnsInHanded_of_calls own n p m ?_;intro w tape i _ A _ x r _;obtain⟨_,_,_,z,u,_,_,_,_,q⟩:=x;obtain rfl:z=l:=Option.some.inj (u.symm.trans y);obtain⟨⟨⟨ds,gs,before,B,-⟩,D⟩,F⟩:=r;refine (d (w.forCall tape i) w.heap.size i.args ds gs before q (DataW.Whole.of_heap Wk B) (F.weights B) (G _ _ _ Wk D) A).mono fun e W' E=>?_;obtain⟨v,rfl,hp⟩:=E;exact ChangeSpec.post_blind hp
end
end Go.Proofs.YtjccecajigmfkaaGreatDoor

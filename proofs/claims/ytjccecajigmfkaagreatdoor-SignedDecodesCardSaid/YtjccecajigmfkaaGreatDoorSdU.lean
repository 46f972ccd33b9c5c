/- Parts of one proof, merged: XAV XCU XHJ XCV XIN XIK XIL XGD XKK XLastB XPH XHb XTb. -/
import Derived.Deep.Slices
import Derived.OpenShut
import Derived.SizedLaws
import Derived.Test.YtjccecajigmfkaaGreatDoorSdR
import Derived.Laws.StructEq
import Derived.Test.YtjccecajigmfkaaGreatDoorSdS
import Derived.Test.YtjccecajigmfkaaGreatDoorSdT
import Derived.Handed
import Derived.Test.YtjccecajigmfkaaGreatDoorRows
import Derived.LaidMore
import Derived.Stop.LaidErr
import Derived.MakeChecks
import Derived.Lib.LaidTab
import Derived.Lib.LaidU8T
import Derived.Lib.LaidCase
import Derived.PinnedBridge
set_option linter.all false
set_option maxHeartbeats 12800000
set_option maxRecDepth 100000
namespace Go.Proofs.YtjccecajigmfkaaGreatDoor
open Go.Proofs.Tryz
open Go.RowKit
variable {a b:Option Addr}{k:yY}{n:Nat}{op:Oper}{rest:List Oper}{t:TypeId}
theorem cellsByteV:Tryz.prog.cellsOf 5=1:=Wr
section
variable {H : Type} {enc : TypeId × Value → H} {w : World} {held : Bool}
theorem YS {P:Program}{e:TypeId}:∀ {l:List (DataW H)}{d:DataW H}{k:Nat},d∈l→k∈d.weights P e→k∈DataW.weightsAll P e l
 | [],_,_,h,_=>by cases h
 | a::l,d,k,h,hk=>by
  rw [DataW.weightsAll,uO];rcases XY.1 h with rfl | h
  ·exact .inl hk
  ·exact .inr (YS h hk)
theorem trod_slcV {P:Program}{t e size:Nat}(X:P.underlying t=some (.slice e))(hc:P.cellsOf e=size)(q:0<size){p:Nat}{v:Value}{x:DataW H×List MemPlace}{B:Nat}(h:DataW.trod enc P w 0 (fun _=>true) held p t [v]=some x)(J:∀ k,k∈x.1.weights P t→k≤B)(hb:0<P.bytesOf e) : ∃ n xs,Slc w size v n xs∧n≤B∧(n=0∨∃ m,p=m+1∧∀ i,i<n→∃ y,DataW.trod enc P w 0 (fun _=>true) held m e ((xs.drop (i*size)).take size)=some y∧∀ k,k∈y.1.weights P e→k≤B):=by
 rcases DataW.trod_slice X h with ⟨s,_⟩ | ⟨a,len,cap,d,rest,m,z,s,U,_,hl,hm,W,Y,_⟩
 ·obtain rfl:v = .slice none 0 0:=by simpa using s
  exact⟨0,[],xt _ _,XB,.inl rfl⟩
 ·obtain rfl:v = .slice (some a) len cap:=by simpa using s
  rw [hc] at Y;by_cases h0:len=0;·subst h0;exact⟨0,[],⟨Wz,.inr (.inl ⟨rfl,a,cap,rfl,hm⟩)⟩,XB,.inl rfl⟩
  ·rw [U] at J;have R:(DataW.slice (d.map (·.1)) (rest.map (·.1)):DataW H).weights P t=((d.map (·.1)).length+(rest.map (·.1)).length)*P.bytesOf e::(DataW.weightsAll P e (d.map (·.1))++DataW.weightsAll P e (rest.map (·.1))):=by rw [DataW.weights,X]
   simp only at J;rw [R] at J;have E:len≤B:=by have l:=J _ (Xp ..);rw [Xb,Xb,W] at l;have h2:(len+rest.length)*1≤(len+rest.length)*P.bytesOf e:=ug _ hb;omega
   have K:∀ i,i<len→∃ b,w.cells? 0 (a.add (i*size)) size=some b∧∃ y,DataW.trod enc P w 0 (fun _=>true) held m e b=some y∧∀ k,k∈y.1.weights P e→k≤B:=by intro i M;have l:=Y i M;rw [XN Ws] at l;obtain⟨b,h2,h3⟩:=Option.bind_eq_some_iff.1 l;exact⟨b,h2,_,h3,fun k hk=>J k (Xj _ (uu _ (YS (List.mem_map_of_mem (XX Ws)) hk)))⟩
   have f:∀ j,j<len*size→∃ u,w.cell? (a.add j)=some u:=by intro j I;have M:j/size<len:=Nat.div_lt_of_lt_mul (by rw [Nat.mul_comm];exact I);obtain⟨b,l,_⟩:=K _ M;obtain⟨_,h2,h3⟩:=World.cells?_some l;have F:=Nat.mod_lt j q;have N:=h3 _ F;rw [Deep.add_add,show j/size*size+j%size=j by rw [Nat.mul_comm];exact Nat.div_add_mod j size] at N;rw [N];exact⟨b[j%size],by simp [h2,F]⟩
   have A:0<len*size:=Nat.mul_pos Ws q;obtain⟨u0,G⟩:=f 0 A;obtain⟨g,o,L⟩:=a;have C:L=none:=by simpa [Addr.add] using World.cell?_spot G
   subst C;have Q:g<w.heap.size:=by
    rcases Xr g w.heap.size with h | h;·exact h
    ·exfalso;simp [World.cell?,Addr.add,Xy h] at G
   refine⟨len,(List.range (len*size)).map fun j=>(w.cell? ⟨g,o+j,none⟩).getD (.bool false),⟨Wz,.inr (.inr ⟨g,o,cap,rfl,hl,hm,⟨?_,Q⟩⟩)⟩,E,.inr ⟨m,z,?_⟩⟩
   ·intro j u O;rw [Xs] at O;by_cases I:j<len*size;·obtain⟨u',D⟩:=f j I;rw [Zo] at D;simp [I,D] at O;rw [D,O]
    ·simp [I] at O
   ·intro i M;obtain⟨b,l,h2⟩:=K i Ws;obtain⟨_,h3,N⟩:=World.cells?_some l;have aa:i*size+size≤len*size:=by have:=uY size (show i+1≤len by omega);rw [Nat.add_mul,Nat.one_mul] at this;exact this
    have e1:(((List.range (len*size)).map fun j=>(w.cell? ⟨g,o+j,none⟩).getD (.bool false)).drop (i*size)).take size=b:=by
     apply VL;intro r;by_cases F:r<size;·have Z:=N r F;rw [Deep.add_add,Zo] at Z;rw [X9,XK F,uq,Xs,List.getElem?_range Ws];simp only [uv];rw [Z];simp [h3,F]
     ·rw [uQ (by rw [Xe];omega),uQ Ws]
    rw [e1];exact h2
def za6:Value→UInt8
 | .int _ k=>UInt8.ofNat k.toNat
 | _=>0
theorem byteOfV_wf {k:Int}(h:(Lit.int .u8 k).wf=true):bv (za6 (.int .u8 k)) = .int .u8 k:=by
 have a:=bounds_u8 h;unfold bv za6;congr 1;simp only [ui];omega
theorem one_cellV {xs:List Value}{i:Nat}(a:i<xs.length):(xs.drop (i*1)).take 1=[xs[i]]:=by
 rw [Nat.mul_one,X0 a];rfl
theorem trod_bytesV {b:Nat}{v:Value}{x:DataW H×List MemPlace}(h:DataW.trod enc prog w 0 (fun _=>true) held b 32 [v]=some x){B:Nat}(j:∀ k,k∈x.1.weights prog 32→k≤B):∃ l:List UInt8,zm w v l∧l.length≤B:=by
 obtain⟨n,xs,p,h2,h3⟩:=trod_slcV underlying32 cellsByteV Wo h j (by rw [show Tryz.prog.bytesOf 5=1 by kernel_rfl];decide);have a:xs.length=n:=by simpa using p.1
 refine⟨xs.map za6,?_,by simpa [a] using h2⟩;have e:(xs.map za6).map bv=xs:=by
  apply uZ Wz;intro i s f;rcases h3 with h0 | ⟨m,_,h3⟩
  ·omega
  obtain⟨y,q,-⟩:=h3 i Ws;rw [one_cellV f] at q;obtain⟨k,r,_,j⟩:=DataW.trod_int underlying5 q;have d:xs[i] = .int .u8 k:=by simpa using r
  simp only [uJ];rw [d];exact byteOfV_wf j
 unfold zm;rw [e,Xb,a];exact p
end
structure yg where
 id:ByteArray
 sig:ByteArray
deriving Inhabited
variable {l m:List yg}
def yg.enc (r:yg):List Value:=[.string r.id,.string r.sig]
def kI (l:List yg):List Value:=l.flatMap yg.enc
def xo (r:yg):Bool:=Zx r.id&&((xn r.sig).isSome&&decide (r.sig.size≤1048576))
def yg.small (r:yg):Prop:=r.id.size≤140737488355328∧r.sig.size≤140737488355328
def ky (w:World)(v:Value)(l:List yg):Prop:=Slc w 2 v l.length (kI l)
theorem ky.k0 {w w':World}{v:Value}{l:List yg}(h:ky w v l)(k:zb [] w w'):ky w' v l:=Slc.k0 h k
theorem rowsL_at:∀ (l:List yg) (j:Nat) (hj:j<l.length) (i:Nat) (_:i<2),(kI l)[j*2+i]? = (l[j].enc)[i]?
 | r::t,0,_,i,hi=>by show (r.enc++kI t)[0*2+i]? = _;rw [Xz (by simp [yg.enc];omega),Nat.zero_mul,Xd];rfl
 | r::t,j+1,hj,i,hi=>by show (r.enc++kI t)[(j+1)*2+i]? = _;rw [Xx (by simp [yg.enc];omega),show (j+1)*2+i-r.enc.length=j*2+i by simp [yg.enc];omega];exact rowsL_at t j (by simpa using hj) i hi
theorem ky.cells {w:World}{a:Option Addr}{c:Nat}{l:List yg}(h:ky w (.slice a l.length c) l)(m:0<l.length):∃ g o,a=some ⟨g,o,none⟩∧g<w.heap.size∧l.length≤c∧∀ (j:Nat) (hj:j<l.length) (i:Nat) (u:Value),(l[j].enc)[i]? = some u→w.cell? ⟨g,o+j*2+i,none⟩=some u:=by
 rcases h.2 with ⟨-,k⟩ | ⟨k,-⟩ | ⟨g,o,cap,d,h2,-,b⟩;·omega
 ·omega
 ·simp only [XU] at d;refine⟨g,o,d.1,b.lt,Ws,fun j hj i u e=>?_⟩;have f:i<2:=(X6.1 e).1;rw [uS];exact b.cells (j*2+i) u (by rw [rowsL_at l j hj i f];exact e)
theorem isRow_any (r:yg)(C:r.small)(w:World):zG w 66 #[.agg r.enc.toArray] (.bool (xo r)):=by
 obtain⟨q,s⟩:=XE (w.alloc (.cells #[.string r.id,.string r.sig] 38));have y:Hid (zb [] w q):=qI (kA1 s.o);have t:Hid (q.heap[w.heap.size]? = some (.cells #[.string r.id,.string r.sig] 38 (0,0))):=qI (by rw [s.o];exact zd rfl);have c0:=za (o:=0) t.o rfl;have k:=J9 r.id C.1 q;have i:Hid (∀ w2,zb [] q w2→Calls prog 58 #[.string r.sig] w2 _):=qI (fun w2 _=>J9 r.sig C.2 w2);have j:Hid (xo r=(Zx r.id&&((xn r.sig).isSome&&decide (r.sig.size≤1048576)))):=qI rfl;have n:Hid (Zx r.id=match xn r.id with | none=>false | some l=>decide (l.length=32)):=qI rfl;clear C;rcases hu:xn r.id with _ | l
 ·rw [hu] at k n;rw [n.o] at j;have A:Hid (∀ w2,zb [] q w2→Calls prog 58 #[.string r.sig] w2 fun e w'=>(∃ x z,e = .returned (.tuple #[x,.int .i64 z]))∧zb [] w2 w'):=qI (fun w2 d=>(i.o w2 d).mono (fun e w' h=>⟨by
   rcases hv:xn r.sig with _ | m;·rw [hv] at h;exact⟨_,_,h.1⟩
   ·rw [hv] at h;obtain⟨⟨a,c,B,-,-⟩,-⟩:=h;exact⟨_,_,B⟩,h.2⟩))
  have k:=qI k;clear hu i n;go_enter func66,ntmps66;go_upto_region 1 with fail;refine yZ s.o ?_;go_upto_region 2 with (go_at_call 58;refine k.o.mono ?_;rintro e w1 ⟨rfl,d⟩;have u:=d.cell (za (o:=1) t.o rfl) Wz;have f:=qI d;clear d);go_wp2_with (go_at_call 58;refine (A.o _ f.o).mono ?_;rintro e w2 ⟨⟨F,H,rfl⟩,d⟩;have p:=qI d;clear d);go_ret;exact⟨by rw [j.o];rfl,y.o.then (f.o.then p.o)⟩
 ·rw [hu] at k n;have n:Hid (Zx r.id=decide (l.length=32)):=qI n.o;rw [n.o] at j;have k:=qI k;rcases hv:xn r.sig with _ | m
  ·rw [hv] at i j;have i:Hid (xz q 58 #[.string r.sig] (.tuple #[.slice none 0 0,.int .i64 10])):=i;clear hu hv n;go_enter func66,ntmps66;go_upto_region 1 with fail;refine yZ s.o ?_;go_upto_region 2 with (go_at_call 58;refine k.o.mono ?_;rintro e w1 ⟨⟨D,c1,rfl,-,-⟩,d⟩;have u:=d.cell (za (o:=1) t.o rfl) Wz;have f:=qI d;clear d);go_wp2_with (go_at_call 58;refine (i.o _ f.o).mh ?_;rintro e w2 rfl p);go_ret;exact⟨by rw [j.o];simp,y.o.then (f.o.then p.o)⟩
  ·rw [hv] at i j;have i:Hid (∀ w2,zb [] q w2→Calls prog 58 #[.string r.sig] w2 fun e w'=>(∃ a c,e = .returned (.tuple #[.slice a m.length c,.int .i64 0]))∧zb [] w2 w'):=qI (fun w2 d=>(i.o w2 d).mono (fun e w' h=>⟨by obtain⟨⟨a,c,B,-,-⟩,-⟩:=h;exact⟨a,c,B⟩,h.2⟩));clear hu hv n;by_cases v:l.length=32;·have E:=(yq (a:=(l.length:Int)) (b:=32) Ws).1;rw [XT v] at j;clear v;go_enter func66,ntmps66;go_upto_region 1 with fail;refine yZ s.o ?_;go_upto_region 2 with (go_at_call 58;refine k.o.mono ?_;rintro e w1 ⟨⟨D,c1,rfl,-,-⟩,d⟩;have u:=d.cell (za (o:=1) t.o rfl) Wz;have f:=qI d;clear d);go_wp2_with (go_at_call 58;refine (i.o _ f.o).mono ?_;rintro e w2 ⟨⟨a2,c2,rfl⟩,d⟩;have G:=d.cell u Wz;have p:=qI d;clear d);go_ret;exact⟨by rw [j.o];simp;omega,y.o.then (f.o.then p.o)⟩
   ·have E:=(zq (a:=(l.length:Int)) (b:=32) Ws).1;rw [XO v] at j;clear v;go_enter func66,ntmps66;go_upto_region 1 with fail;refine yZ s.o ?_;go_upto_region 2 with (go_at_call 58;refine k.o.mono ?_;rintro e w1 ⟨⟨D,c1,rfl,-,-⟩,d⟩;have u:=d.cell (za (o:=1) t.o rfl) Wz;have f:=qI d;clear d);go_wp2_with (go_at_call 58;refine (i.o _ f.o).mono ?_;rintro e w2 ⟨⟨a2,c2,rfl⟩,d⟩;have p:=qI d;clear d);go_ret;exact⟨by rw [j.o];rfl,y.o.then (f.o.then p.o)⟩
theorem noRow_any (r:yg)(f:r.small)(w:World):zG w 65 #[.agg r.enc.toArray] (.bool (!xo r)):=by
 obtain⟨a,d⟩:=XE (w.alloc (.cells #[.string r.id,.string r.sig] 38));have k:Hid (zb [] w a):=qI (kA1 d.o);have h:Hid (a.heap[w.heap.size]? = some (.cells #[.string r.id,.string r.sig] 38 (0,0))):=qI (by rw [d.o];exact zd rfl);have c0:=za (o:=0) h.o rfl;have c1:=za (o:=1) h.o rfl;have i:Hid (zG a 66 #[.agg #[.string r.id,.string r.sig]] (.bool (xo r))):=qI (isRow_any r f a);clear f;generalize xo r=b at i;go_enter func65,ntmps65;go_upto_region 1 with fail;refine yZ d.o ?_;go_wp2_with (go_at_call 66;refine i.o.mh ?_;rintro e w1 rfl j);go_ret;exact⟨rfl,k.o.then j.o⟩
theorem aggSig (w:World):(isAgg (Tryz.shIndexSig_ren.t 23)).run prog w = .ok true w:=isAgg38 w
theorem sizeSig (w:World):(Go.sizeOf (Tryz.shIndexSig_ren.t 23)).run prog w = .ok 2 w:=sizeOf38 w
theorem enterNoRow:∀ (args:Array Value) (w:World),(callFunc 65 args).run prog w = .ok (.enter 65 args) w:=enters_of func65 Wr rfl
instance:Inhabited {r:yg // r.small}:=⟨⟨⟨⟨#[]⟩,⟨#[]⟩⟩,⟨XB,XB⟩⟩⟩
theorem nilSig_any (w:World)(a:Option Addr)(c:Nat):zG w 116 #[.slice a 0 c,.func (.func 65) #[] #[]] (.int .i64 (-1)):=by
 go_enter func116,ntmps116;go_wp2_with fail;go_loopw [5,8] (fun _ i wr=>i = .int .i64 0∧zb [] w wr) (fun _ _ _=>0);case atStart=>exact⟨rfl,Wd⟩
 case round=>obtain⟨rfl,b⟩:=hrel;have d:=qI b;clear b;go_wp2;go_ret;exact⟨rfl,d.o⟩
theorem indexSig_any {w:World}{c:Nat}(h:ky w (.slice a l.length c) l)(v:∀ r,r∈l→r.small)(A:l.length≤1000000) : Calls prog 116 #[.slice a l.length c,.func (.func 65) #[] #[]] w fun e w'=>(∃ z:Int,decide (0≤z) = !(l.all xo)∧e = .returned (.int .i64 z))∧zb [] w w':=by
 rcases VD l.length with h0 | h0;·have n:=Xh h0;subst n;exact (nilSig_any w a c).mono (fun e w' h=>⟨⟨-1,Wz,h.1⟩,h.2⟩)
 ·obtain⟨g,o,rfl,t,hc,d⟩:=h.cells h0;obtain⟨zs,m⟩:∃ zs:List {r:yg // r.small},Hid (zs=l.attach.map fun x=>⟨x.1,v x.1 x.2⟩):=⟨_,qI rfl⟩;have s:zs.length=l.length:=by rw [m.o];simp
  have k:∀ (j:Nat) (q:j<l.length),(zs[j]!).1=l[j]:=fun j q=>by rw [getElem!_pos zs j Ws];simp [m.o]
  have f:zs.any (fun x=>!xo x.1) = !(l.all xo):=by
   rw [m.o,List.any_map,List.not_all_eq_any_not];conv=>rhs;rw [← List.attach_map_subtype_val l,List.any_map]
   rfl
  refine (AnyQ.slices_IndexFunc Tryz.shIndexSig 2 aggSig sizeSig (fun x:{r:yg // r.small}=>x.1.enc) (fun _=>rfl) (fun x=>!xo x.1) 65 #[] enterNoRow g o l.length c zs w (fun W x b=>?_) Ws Ws t (fun j q i u p=>?_)).mono ?_;·refine (noRow_any x.1 x.2 W).mono ?_;rintro e w' ⟨rfl,y⟩;exact⟨rfl,((zb.of_below b).then y).below (XA) Wz⟩
  ·rw [k j Ws] at p;exact d j Ws i u p
  ·rintro e w' ⟨rfl,b⟩;refine⟨⟨_,?_,rfl⟩,zb.of_below b⟩;rw [Xl Ws,Lib.idxBy_nonneg_iff,f]
theorem noRows_any {w:World}{c:Nat}(h:ky w (.slice a l.length c) l)(d:∀ r,r∈l→r.small)(i:l.length≤1000000) : zG w 64 #[.slice a l.length c,.func (.func 65) #[] #[]] (.bool (!(l.all xo))):=by
 have f:=qI (indexSig_any h d i);clear h d i;generalize l.all xo=b at f;generalize l.length=n at f;go_enter func64,ntmps64;go_wp2_with (go_at_call 116;refine f.o.mono ?_;rintro e w1 ⟨⟨z,d,rfl⟩,j⟩;have k:=qI j;have m:=qI d;clear j d);go_ret;exact⟨by rw [← m.o];rfl,k.o⟩
attribute [local go_sem] Oper.semAt_some
theorem fieldsRow : (Tryz.prog.fieldsOf 38).toList = [⟨"KeyId", 9, 0, false, "", "", 0⟩, ⟨"Sig", 9, 1, false, "", "", 16⟩] := by
 unfold Program.fieldsOf;rw [underlying38]
def ye (r s:yg):Bool:=r.id.toList == s.id.toList&&r.sig.toList == s.sig.toList
theorem sameRow_self (r:yg):ye r r=true:=by simp [ye]
theorem JC {P : Program}{w : World}{d : Nat}{xs ys : Array Value}{f : Field}{fs : List Field}{a b : Value}{e e' : Bool}(h0 : f.name ≠ "_")(h1 : (part f.type xs f.offset).run P w = .ok a w)(h1' : (part f.type ys f.offset).run P w = .ok b w)(h2 : (Op.equalIn d f.type a b).run P w = .ok e w)(h3 : (Op.eqFields d xs ys fs).run P w = .ok e' w) : (Op.eqFields d xs ys (f :: fs)).run P w = .ok (e && e') w := by
 simp only [Op.eqFields,XK h0,Sem.run_bind,h1,h1',h2,Result.andThen_ok];cases e;·simp
 ·simp [h3]
theorem equal_row (d:Nat)(r s:yg)(w:World):(Op.equalIn (d+3) 38 (.agg #[.string r.id,.string r.sig]) (.agg #[.string s.id,.string s.sig])).run prog w = .ok (ye r s) w:=by
 have p0:∀ q:yg,(part 9 #[.string q.id,.string q.sig] 0).run prog w = .ok (.string q.id) w:=fun q=>run_part_plain w Wr rfl;have p1:∀ q:yg,(part 9 #[.string q.id,.string q.sig] 1).run prog w = .ok (.string q.sig) w:=fun q=>run_part_plain w Wr rfl;refine (run_equalIn_struct w (d+2) _ _ _ (by rw [underlying38];unfold Program.fieldsOf;rw [underlying38]) Wr).trans ?_;rw [fieldsRow]
 have h9 := JC (P := Tryz.prog) (w := w) (d := d + 2) (xs := #[.string r.id, .string r.sig]) (ys := #[.string s.id, .string s.sig]) (f := ⟨"KeyId", 9, 0, false, "", "", 0⟩) (fs := [⟨"Sig", 9, 1, false, "", "", 16⟩]) Wo (p0 r) (p0 s) (run_equalIn_string w (d + 1) _ _ _ underlying9)
  (JC (fs:=[]) (e':=true) Wo (p1 r) (p1 s) (run_equalIn_string w (d+1) _ _ _ underlying9) rfl)
 rw [ub] at h9;exact h9
theorem neq_row (r s:yg)(w:World):(binOp .neq 38 (.agg #[.string r.id,.string r.sig]) (.agg #[.string s.id,.string s.sig])).run prog w = .ok (.bool (!(ye r s))) w:=by
 rw [run_neq_struct,equal_row 9997 r s];rfl
theorem guardRow (op:BinOp)(x y:Operand)(r s:yg)(w:World):(eqGuard op 38 x y (.agg #[.string r.id,.string r.sig]) (.agg #[.string s.id,.string s.sig])).run prog w = .ok () w:=run_eqGuard_agg w op _ x y _ _ Wr
theorem b8 {ops:Array Oper}{a:Act}{w:World}{Q:Exit→Act→World→Prop}{r s:yg}(e:Region.wanted op (yielded ops a.tmps)=true)(i j:Nat)(l:op.op = .binOp .neq 38 (.tmp i) (.tmp j) 38)(d:a.eval (.tmp i) = .agg #[.string r.id,.string r.sig])(k:a.eval (.tmp j) = .agg #[.string s.id,.string s.sig])(h:wpList prog ops Q rest (a.put op.dst (.bool (!(ye r s)))) w):wpList prog ops Q (op::rest) a w:=
 BigFrame.wpList_want e fun K b=>by
  have f:(execOp a.eval op).run prog w = .ok (.value (.bool (!(ye r s)))) w:=by unfold execOp;simp only [l,d,k,Sem.run_bind,guardRow,neq_row,Result.andThen_ok,Sem.run_pure]
  unfold Oper.wp;rw [f];exact b _ _ h
theorem JK {α:Type}(r:α→α→Bool):∀ l m:List α,eqL r l m=true↔l.length=m.length∧∀ j (h1:j<l.length) (h2:j<m.length),r l[j] m[j]=true
 | [],[]=>by simp [eqL]
 | [],y::m=>by simp [eqL]
 | x::l,[]=>by simp [eqL]
 | x::l,y::m=>by
  have ih:=JK r l m;have e:eqL r (x::l) (y::m)=(r x y&&eqL r l m):=rfl;rw [e,XR,ih];constructor
  ·rintro ⟨b,h1,h2⟩;refine⟨by simp [h1],fun j h3 a=>?_⟩;cases j with
   | zero=>exact b
   | succ j=>exact h2 j (by simpa using h3) (by simpa using a)
  ·rintro ⟨h1,h2⟩;refine⟨h2 0 Wz Wz,by simpa using h1,fun j h3 a=>?_⟩;exact h2 (j+1) (by simpa using h3) (by simpa using a)
theorem eqR_len (h:¬ l.length=m.length):eqL ye l m=false:=by
 rw [Bool.eq_false_iff];intro a;exact h ((JK _ _ _).1 a).1
theorem eqR_no (k:Nat)(a:k<l.length)(h2:k<m.length)(h:ye l[k] m[k]=false):eqL ye l m=false:=by
 rw [Bool.eq_false_iff];intro h3;rw [((JK _ _ _).1 h3).2 k a h2] at h;cases h
theorem eqR_all (a:l.length=m.length)(h:∀ j (h1:j<l.length) (h2:j<m.length),ye l[j] m[j]=true):eqL ye l m=true:=(JK _ _ _).2 ⟨a,h⟩
theorem eqR_self (l:List yg):eqL ye l l=true:=eqR_all rfl (fun j _ _=>sameRow_self _)
theorem slcEqual_any {w:World}{c:Nat}(O:ky w (.slice a l.length c) l){d:Nat}(K:ky w (.slice b m.length d) m)(hl:l.length≤1000000)(hm:m.length≤1000000) : zG w 22 #[.slice a l.length c,.slice b m.length d] (.bool (eqL ye l m)):=by
 by_cases f:l.length=m.length;rotate_left;·have A:eqL ye l m=false:=eqR_len f;rw [A];have U:¬ (l.length:Int)=m.length:=Ws;have E:decide ((l.length:Int)=m.length)=false:=XO U;generalize (l.length:Nat)=n1 at U E ⊢;generalize (m.length:Nat)=n2 at U E ⊢;clear O K hl hm f A;go_enter func22,ntmps22;go_wp2;go_ret;exact⟨rfl,Wd⟩
 ·have HA:=qI O;have HB:=qI (f ▸ K:ky w (.slice b m.length d) m);obtain⟨n,C⟩:=XE l.length;have L:Hid (n=m.length):=qI (by rw [C.o];exact f);rw [show Value.slice b m.length d = .slice b n d by rw [L.o],show Value.slice a l.length c = .slice a n c by rw [C.o]];have aa:(n:Int)≤1000000:=XC C.o;have Gu:Hid (∀ q,q=eqL ye l m→q=eqL ye l m):=qI (fun _ h=>h);clear O K hl hm f;go_enter func22,ntmps22;go_wp2_with fail;go_loopw [5,13] (fun _ v wr=>∃ k:Nat,v = .int .i64 k∧k≤n∧(∀ j (p:j<l.length) (h2:j<m.length),j<k→ye l[j] m[j]=true)∧zb [] w wr) (fun _ v _=>n-(intOf v).toNat);case atStart=>exact⟨0,rfl,XB,fun j _ _ h=>absurd h (Nat.not_lt_zero j),Wd⟩
  case round=>
   obtain⟨k,rfl,hk,u,G⟩:=hrel;have Gf:=qI u;have z:=qI G;clear u G;by_cases t:k<n
   ·have p:k<l.length:=by rw [← C.o];exact t
    have h2:k<m.length:=by rw [← L.o];exact t
    obtain⟨H,J,rfl,-,-,B⟩:=HA.o.cells Ws;obtain⟨gb,I,rfl,-,-,y⟩:=HB.o.cells Ws;have P:wr.cell? ⟨H,J+k*2,none⟩=some (.string l[k].id):=z.o.cell (B k p 0 _ rfl) Wz;have N:wr.cell? ⟨H,J+k*2+1,none⟩=some (.string l[k].sig):=z.o.cell (B k p 1 _ rfl) Wz;have W:wr.cell? ⟨gb,I+k*2,none⟩=some (.string m[k].id):=z.o.cell (y k h2 0 _ rfl) Wz;have Q:wr.cell? ⟨gb,I+k*2+1,none⟩=some (.string m[k].sig):=z.o.cell (y k h2 1 _ rfl) Wz;have D:(k:Int)<n:=Ws;have Gl:Hid ((k:Int)<n):=qI D;have Z:=qI t;have M:Hid (ye l[k] m[k]=false→eqL ye l m=false):=qI (eqR_no k p h2);have R:Hid (ye l[k] m[k]=true→∀ j (p:j<l.length) (h2:j<m.length),j<k+1→ye l[j] m[j]=true):=qI (fun h j p h2 hj=>by
     rcases Xr j k with h3 | h3;·exact Gf.o j p h2 h3
     ·obtain rfl:j=k:=by omega
      exact h)
    clear B y t hk;generalize l[k]=r at P N M R;generalize m[k]=s at W Q M R;clear p h2;go_upto_region 6 with fail
    refine yG (n:=26) 8 [fI (.slice (some ⟨H,J,none⟩) n c),
     fI (.int .i64 k),
     fI (.pointer (some ⟨H,J+k*2,none⟩)),
     fI (.agg #[.string r.id,.string r.sig]),
     fI (.slice (some ⟨gb,I,none⟩) n d),
     fI (.int .i64 k),
     fI (.pointer (some ⟨gb,I+k*2,none⟩)),
     fI (.agg #[.string s.id,.string s.sig])] Wr rfl Wr (fun x=>qB) ?_ ?_
    ·refine⟨?_,?_,?_,?_,?_,?_,?_,?_,trivial⟩ <;> intro x w2 i b hd;·exact zi
     ·exact zi
     ·have d0:x 0=_:=hd 0 Wr;have d1:x 1=_:=hd 1 Wr;have X:=Gl.o;exact zi
     ·have d2:x 2=_:=hd 2 Wr;have y0:=i.cell P Wz;have y1:=i.cell N Wz;exact zi
     ·exact zi
     ·exact zi
     ·have d4:x 4=_:=hd 4 Wr;have d5:x 5=_:=hd 5 Wr;have X:=Gl.o;exact zi
     ·have d6:x 6=_:=hd 6 Wr;have y0:=i.cell W Wz;have y1:=i.cell Q Wz;exact zi
    ·intro x w7 i b7 hd F;have d3:x 3=_:=hd 3 Wo;have Y:x 7=_:=hd 7 Wo;have Gi:=qI i;clear hd F i P N W Q;change wpList _ _ _ [_] _ _;obtain⟨e,A⟩:∃ e,ye r s=e:=⟨_,rfl⟩;cases e;·go_wp2_with (refine b8 (r:=r) (s:=s) Wk _ _ rfl d3 Y ?_;rw [A];simp only [Bool.not_false]);go_ret;exact⟨by rw [M.o A];rfl,z.o.then Gi.o⟩
     ·go_wp2_with (refine b8 (r:=r) (s:=s) Wk _ _ rfl d3 Y ?_;rw [A];simp only [Bool.not_true]);case roundEnd=>exact⟨⟨k+1,by go_num,Z.o,R.o A,z.o.then Gi.o⟩,by have:=Z.o;simp [intOf];omega⟩
   ·obtain rfl:k=n:=by omega
    have ab:¬ (k:Int)<k:=Ws;go_wp2;go_ret;exact⟨by rw [eqR_all (by rw [← C.o,← L.o]) (fun j p h2=>Gf.o j p h2 (by rw [C.o];exact p))];rfl,z.o⟩
theorem sameRows_any {w:World}{c:Nat}(O:ky w (.slice a l.length c) l){d:Nat}(K:ky w (.slice b m.length d) m)(hl:l.length≤1000000)(hm:m.length≤1000000) : zG w 25 #[.slice a l.length c,.slice b m.length d] (.bool (eqL ye l m)):=by
 by_cases f:l.length=m.length;rotate_left;·have A:eqL ye l m=false:=eqR_len f;rw [A];have U:¬ (l.length:Int)=m.length:=Ws;have E:decide ((l.length:Int)=m.length)=false:=XO U;generalize (l.length:Nat)=n1 at U E ⊢;generalize (m.length:Nat)=n2 at U E ⊢;clear O K hl hm f A;go_enter func25,ntmps25;go_wp2;go_ret;exact⟨rfl,Wd⟩
 ·have HA:=qI O;have HB:=qI (f ▸ K:ky w (.slice b m.length d) m);obtain⟨n,C⟩:=XE l.length;have L:Hid (n=m.length):=qI (by rw [C.o];exact f);rw [show Value.slice b m.length d = .slice b n d by rw [L.o],show Value.slice a l.length c = .slice a n c by rw [C.o]];have aa:(n:Int)≤1000000:=XC C.o;have Gu:Hid (∀ q,q=eqL ye l m→q=eqL ye l m):=qI (fun _ h=>h);clear O K hl hm f;go_enter func25,ntmps25;go_wp2_with fail;go_loopw [5] (fun v wr=>∃ k:Nat,v = .int .i64 k∧k≤n∧(∀ j (p:j<l.length) (h2:j<m.length),j<k→ye l[j] m[j]=true)∧zb [] w wr) (fun v _=>n-(intOf v).toNat);case atStart=>exact⟨0,rfl,XB,fun j _ _ h=>absurd h (Nat.not_lt_zero j),Wd⟩
  case round=>
   obtain⟨k,rfl,hk,u,G⟩:=hrel;have Gf:=qI u;have z:=qI G;clear u G;by_cases t:k<n
   ·have p:k<l.length:=by rw [← C.o];exact t
    have h2:k<m.length:=by rw [← L.o];exact t
    obtain⟨H,J,rfl,-,-,B⟩:=HA.o.cells Ws;obtain⟨gb,I,rfl,-,-,y⟩:=HB.o.cells Ws;have P:wr.cell? ⟨H,J+k*2,none⟩=some (.string l[k].id):=z.o.cell (B k p 0 _ rfl) Wz;have N:wr.cell? ⟨H,J+k*2+1,none⟩=some (.string l[k].sig):=z.o.cell (B k p 1 _ rfl) Wz;have W:wr.cell? ⟨gb,I+k*2,none⟩=some (.string m[k].id):=z.o.cell (y k h2 0 _ rfl) Wz;have Q:wr.cell? ⟨gb,I+k*2+1,none⟩=some (.string m[k].sig):=z.o.cell (y k h2 1 _ rfl) Wz;have D:(k:Int)<n:=Ws;have Gl:Hid ((k:Int)<n):=qI D;have Z:=qI t;have M:Hid (ye l[k] m[k]=false→eqL ye l m=false):=qI (eqR_no k p h2);have R:Hid (ye l[k] m[k]=true→∀ j (p:j<l.length) (h2:j<m.length),j<k+1→ye l[j] m[j]=true):=qI (fun h j p h2 hj=>by
     rcases Xr j k with h3 | h3;·exact Gf.o j p h2 h3
     ·obtain rfl:j=k:=by omega
      exact h)
    clear B y t hk;generalize l[k]=r at P N M R;generalize m[k]=s at W Q M R;clear p h2;go_upto_region 6 with fail
    refine yG (n:=26) 8 [fI (.slice (some ⟨H,J,none⟩) n c),
     fI (.int .i64 k),
     fI (.pointer (some ⟨H,J+k*2,none⟩)),
     fI (.agg #[.string r.id,.string r.sig]),
     fI (.slice (some ⟨gb,I,none⟩) n d),
     fI (.int .i64 k),
     fI (.pointer (some ⟨gb,I+k*2,none⟩)),
     fI (.agg #[.string s.id,.string s.sig])] Wr rfl Wr (fun x=>qB) ?_ ?_
    ·refine⟨?_,?_,?_,?_,?_,?_,?_,?_,trivial⟩ <;> intro x w2 i b hd;·exact zi
     ·exact zi
     ·have d0:x 0=_:=hd 0 Wr;have d1:x 1=_:=hd 1 Wr;have X:=Gl.o;exact zi
     ·have d2:x 2=_:=hd 2 Wr;have y0:=i.cell P Wz;have y1:=i.cell N Wz;exact zi
     ·exact zi
     ·exact zi
     ·have d4:x 4=_:=hd 4 Wr;have d5:x 5=_:=hd 5 Wr;have X:=Gl.o;exact zi
     ·have d6:x 6=_:=hd 6 Wr;have y0:=i.cell W Wz;have y1:=i.cell Q Wz;exact zi
    ·intro x w7 i b7 hd F;have d3:x 3=_:=hd 3 Wo;have Y:x 7=_:=hd 7 Wo;have Gi:=qI i;clear hd F i P N W Q;change wpList _ _ _ [_] _ _;obtain⟨e,A⟩:∃ e,ye r s=e:=⟨_,rfl⟩;cases e;·go_wp2_with (refine b8 (r:=r) (s:=s) Wk _ _ rfl d3 Y ?_;rw [A];simp only [Bool.not_false]);go_ret;exact⟨by rw [M.o A];rfl,z.o.then Gi.o⟩
     ·go_wp2_with (refine b8 (r:=r) (s:=s) Wk _ _ rfl d3 Y ?_;rw [A];simp only [Bool.not_true]);case roundEnd=>exact⟨⟨k+1,by go_num,Z.o,R.o A,z.o.then Gi.o⟩,by have:=Z.o;simp [intOf];omega⟩
   ·obtain rfl:k=n:=by omega
    have ab:¬ (k:Int)<k:=Ws;go_wp2;go_ret;exact⟨by rw [eqR_all (by rw [← C.o,← L.o]) (fun j p h2=>Gf.o j p h2 (by rw [C.o];exact p))];rfl,z.o⟩
def kindE:(n:Nat)→V n→Int
 | 0,_=>0
 | _+1,(v:VS (V _))=>v.kind
theorem Rep.kindE:∀ {n:Nat}{S:Nat→Prop}{w:World}{k m:Int}{s:ByteArray}{a b:Value}{x:V n},Rep n S w [.int .i64 k,.int .i64 m,.string s,a,b] x→k=Go.Proofs.YtjccecajigmfkaaGreatDoor.kindE n x
 | 0,_,_,_,_,_,_,_,x,_=>nomatch x
 | n+1,S,w,k,m,s,a,b,x,h=>by obtain⟨vl,vm,lcs,mcs,ho⟩:=Rep.open_ h;have e:=ho.cells;simp only [VG,Value.int.injEq,true_and] at e;exact e.1
def yd (n:Nat)(v:V n)(l:List yg):Bool:=decide (kindE n v=6)&&(decide (zV n v=0)&&(decide (zM n v<12)&&(decide (l.length≤16)&&l.all xo)))
def kY (n:Nat)(v:V n)(l:List yg):List UInt8:=if yd n v l=true then (xV n v).1 else []
structure Env (n:Nat)(S:Nat→Prop)(w:World)(cs:List Value)(v:V n)(a:Option Addr)(c:Nat)(l:List yg):Prop where
 rep:Rep n S w cs v
 small:zP n v
 deep:n≤100
 rows:ky w (.slice a l.length c) l
 texts:∀ r,r∈l→r.small
 few:l.length≤1000000
theorem Env.k0 {n:Nat}{S:Nat→Prop}{w w':World}{cs:List Value}{v:V n}{a:Option Addr}{c:Nat}{l:List yg}(h:Env n S w cs v a c l)(k:zb [] w w'):Env n S w' cs v a c l:=
 ⟨h.rep.k0 k,h.small,h.deep,h.rows.k0 k,h.texts,h.few⟩
def zaQ (cs:List Value)(a:Option Addr)(m c:Nat):List Value:=cs++[.slice a m c]
theorem valDepth_any {v:V n}{S:Nat→Prop}{w:World}{cs:List Value}(h:Rep n S w cs v)(x:zP n v)(z:n≤100)(j:xS w) : zG w 63 #[.agg cs.toArray] (.int .i64 (zM n v)):=by
 obtain⟨kd,t,st,u,q,k,p2,m,p,rfl⟩:=h.conv;obtain⟨r,i⟩:=XE (w.alloc (.cells #[.int .i64 kd,.int .i64 t,.string st,.slice u q k,.slice p2 m p] 25));have f:Hid (zb [] w r):=qI (kA1 i.o);have a:Hid (r.heap[w.heap.size]? = some (.cells #[.int .i64 kd,.int .i64 t,.string st,.slice u q k,.slice p2 m p] 25 (0,0))):=qI (by rw [i.o];exact zd rfl);have d:=qI (look_any (h.k0 f.o) x z (j.k0 f.o));clear h x j;have c0:=za (o:=0) a.o rfl;have c1:=za (o:=1) a.o rfl;have c2:=za (o:=2) a.o rfl;have c3:=za (o:=3) a.o rfl;have c4:=za (o:=4) a.o rfl;generalize zM n v=D at d;generalize zp n v=C at d;generalize zn n v=R at d;go_enter func63,ntmps63;go_upto_region 1 with fail;refine yZ i.o ?_;go_wp2_with (go_at_call 115;refine d.o.mono ?_;rintro e w1 ⟨⟨b,rfl,l⟩,s⟩;have y:=qI s;have A:=za (o:=0) (v:=.int .i64 D) l rfl;clear s l);go_ret;exact⟨rfl,f.o.then y.o⟩
theorem wpList_loadK {ops:Array Oper}{a:Act}{w:World}{Q:Exit→Act→World→Prop}(f:Region.wanted op (yielded ops a.tmps)=true)(x:Operand)(j:op.op = .load 51 x){g of:Nat}(i:w.rangeAt g of (bf k))(b:k.root.length=32)(e:a.eval x = .pointer (some ⟨g,of,none⟩))(h:wpList prog ops Q rest (a.put op.dst (.agg (yV k))) w):wpList prog ops Q (op::rest) a w:=
 BigFrame.wpList_want f fun _ d=>wp_load_mid 51 x j g of e (bf k) _ i underlying51 rfl (by rw [xW b];exact J4) (d _ _ h)
theorem idS_size (h:yl k=true):(qe k).size=64:=by
 unfold qe;rw [XK h,j7,yP]
def kN {n:Nat}:Option (V (n+1))→List (V n)
 | none=>[]
 | some x=>VS.l (α:=V n) x
theorem flist_le (v:VS (V (n+1)))(bad:Bool)(s:ByteArray)(a:Nat):(kN (bu v bad s a).1).length≤a:=by
 unfold bu;cases h:jt v bad s 5 (fun x=>decide ((vI (n+1) x:Int)≤a)) with
 | mk r b=>
  cases r with
  | none=>exact XB
  | some x=>have:=(KJ h).2.1;simp only [Xa] at this;show (VS.l (α:=V n) x).length≤a;have e:vI (n+1) x=(VS.l (α:=V n) x).length:=rfl;omega
theorem flist_small {v:VS (V (n+1))}{bad:Bool}{s:ByteArray}{a:Int}(i:zP (n+2) v):∀ x,x∈kN (bu v bad s a).1→zP n x∧(bw n x).size≤400000:=by
 unfold bu;cases h:jt v bad s 5 (fun x=>decide ((vI (n+1) x:Int)≤a)) with
 | mk r b=>
  cases r with
  | none=>intro x j;cases j
  | some x=>
   intro y d;have f:zP (n+1) x:=i.kid (KJ h).1;have h2:=zP.kid (v:=x) f (YP d);refine⟨h2,?_⟩;cases n with
   | zero=>exact nomatch y
   | succ n=>have h3:=h2.2;have e:zW (n+1) y=(VS.s (α:=V n) y).size+VS.keyBytes (α:=V n) y+((VS.kids (α:=V n) y).map (zW n)).sum:=rfl;show (VS.s (α:=V n) y).size≤400000;omega
def jG {n:Nat}(S:Nat→Prop)(w:World)(a:Option Addr)(c:Nat)(xs:List (V n))(lcs:List (List Value)):Prop:=Slc w 5 (.slice a xs.length c) xs.length lcs.flatten∧zL (Rep n S w) lcs xs∧∀ g,yt (.slice a xs.length c)=some g→S g
theorem jG.kept {n:Nat}{S:Nat→Prop}{X:List Nat}{w w':World}{a:Option Addr}{c:Nat}{xs:List (V n)}{lcs:List (List Value)}(h:jG S w a c xs lcs)(k:zb X w w')(b:∀ i,i∈X→¬ S i):jG S w' a c xs lcs:=
 ⟨h.1.kept k (fun g e d=>b g d (h.2.2 g e)),h.2.1.mono (fun _ _ _ r=>r.kept k b),h.2.2⟩
theorem KH.items {w w':World}{e:Ending}{r:Option (V (n+1))}(h:KH (n+1) w w' e r):∃ a c lcs,e = .returned (.slice a (kN r).length c)∧jG (fun g=>w.heap.size≤g∧g<w'.heap.size) w' a c (kN r) lcs:=by
 cases r with
 | none=>exact⟨none,0,[],h,xt _ _,zL.nil _,by simp [kN,yt]⟩
 | some x=>obtain⟨s,p,c,q,j,d,rfl,b⟩:=h;obtain⟨f,vm,lcs,mcs,h2⟩:=Rep.open_ (v:=(x:VS (V n))) b.rep;have e:=h2.cells;simp only [VG,and_true] at e;obtain⟨-,-,-,rfl,-⟩:=e;exact⟨p,c,lcs,rfl,h2.slcl,h2.alll,h2.inl⟩
def zcm (z:Int):Int:=if 48≤z∧z≤57 then z-48 else if 97≤z∧z≤102 then z-97+10 else -1
theorem dig1_low (c:UInt8):(yW c=true→zcm c.toNat=(hv c:Int)∧hv c<16)∧(yW c=false→zcm c.toNat = -1):=by
 have h:∀ n:Fin 256,(yW (UInt8.ofNat n.val)=true→zcm (UInt8.ofNat n.val).toNat=(hv (UInt8.ofNat n.val):Int)∧hv (UInt8.ofNat n.val)<16)∧(yW (UInt8.ofNat n.val)=false→zcm (UInt8.ofNat n.val).toNat = -1):=by decide +kernel
 have:=h ⟨c.toNat,c.toNat_lt⟩;simpa only [uR] using this
theorem index_str {P:Program}(a:P.underlying t=some .string)(s:ByteArray)(m:Nat)(h:m<s.data.toList.length)(W:World):(Instr.index t (.string s) (.int .i64 m)).run P W = .ok (.int .u8 s.data.toList[m].toNat) W:=by
 rw [run_index_string _ t s .i64 m a,dif_pos ⟨Ws,by simp only [ue] at h;have:s.data.size=s.size:=rfl;omega⟩];rfl
theorem index_str1 {P:Program}(a:P.underlying t=some .string)(s:ByteArray)(m:Nat)(h:m+1<s.data.toList.length)(W:World):(Instr.index t (.string s) (.int .i64 ((m:Int)+1))).run P W = .ok (.int .u8 s.data.toList[m+1].toNat) W:=index_str a s (m+1) h W
theorem hex_join16 (x y:Nat)(b:x<16)(a:y<16):Value.int .u8 ((16*(x:Int)+y)%256)=bv (UInt8.ofNat (x*16+y)):=by
 unfold bv;congr 1;have:(UInt8.ofNat (x*16+y)).toNat=x*16+y:=by simp [ui];omega
 rw [this];omega
theorem Kb (z:Int)(m:0≤z)(j:z≤255)(w:World):Calls prog 73 #[.int .u8 z] w fun e w'=>e = .returned (.int .i64 (zcm z))∧w=w':=by
 by_cases c1:48≤z∧z≤57;·have a:Hid (zcm z=z-48):=qI (by unfold zcm;rw [XK c1]);obtain⟨i,h⟩:=c1;go_enter func73,ntmps73;go_wp2;go_ret;exact⟨kV a.o.symm,rfl⟩
 by_cases c2:97≤z∧z≤102;·have a:Hid (zcm z=z-97+10):=qI (by unfold zcm;rw [XJ c1,XK c2]);obtain⟨i,h⟩:=c2;have l:¬ z≤57:=Ws;clear c1;go_enter func73,ntmps73;go_wp2;go_ret;exact⟨kV a.o.symm,rfl⟩
 have a:Hid (zcm z = -1):=qI (by unfold zcm;rw [XJ c1,XJ c2]);have f:z<48∨(57<z∧z<97)∨102<z:=Ws;clear c1 c2;rcases f with g | ⟨g,k⟩ | g
 ·have d:¬ 48≤z:=by omega
  have b:¬ 97≤z:=Ws;go_enter func73,ntmps73;go_wp2;go_ret;exact⟨kV a.o.symm,rfl⟩
 ·have k0:48≤z:=by omega
  have d:¬ z≤57:=Ws;have b:¬ 97≤z:=Ws;go_enter func73,ntmps73;go_wp2;go_ret;exact⟨kV a.o.symm,rfl⟩
 ·have k0:48≤z:=by omega
  have d:¬ z≤57:=Ws;have b:97≤z:=Ws;have n:¬ z≤102:=Ws;go_enter func73,ntmps73;go_wp2;go_ret;exact⟨kV a.o.symm,rfl⟩
theorem tyB1:qq prog 32 5 1 1 (.int .u8 0):=⟨underlying32,Wr,rfl,Wo⟩
def UnhexR (w w':World)(e:Ending):Option (List UInt8)→Prop
 | none=>e = .returned (.tuple #[.slice none 0 0,.bool false])
 | some l=>∃ a c,e = .returned (.tuple #[.slice a l.length c,.bool true])∧zm w' (.slice a l.length c) l∧∀ g,yt (.slice a l.length c)=some g→w.heap.size≤g
theorem KR (s:ByteArray)(hs:s.size≤140737488355328)(w:World):Calls prog 28 #[.string s] w fun e w'=>UnhexR w w' e (xn s)∧zb [] w w':=by
 obtain⟨z,HZ⟩:=XE s.size;have HL:Hid (s.data.toList.length=s.size):=qI Wz;have HU:Hid (xn s=if s.size%2=0∧s.data.toList.all yW=true then some (xl s.data.toList) else none):=qI rfl;have HP:=qI (ZT s.data.toList);have Gv:=qI (Qn s.data.toList);have aj:(s.size:Int)≤140737488355328:=Ws;have Gh:Hid (∀ (j:Nat) (h:j<s.data.toList.length),yW s.data.toList[j]=false→xn s=none):=qI (fun j h hl=>by
  rw [HU.o,XJ];rintro ⟨-,ha⟩;have:=Xk.1 ha _ (XX h);rw [hl] at this;cases this)
 have M:=qI hs;clear hs;go_enter func28,ntmps28;go_wp2_with fail;go_loopw [4,5] (fun out i wr=>∃ (m k:Nat) (a:Option Addr) (c:Nat),i = .int .i64 m∧Hid (m=2*k∧m≤s.size)∧out = .slice a k c∧wr.ownsRow w.heap.size 5 1 (.slice a k c) k (((xl s.data.toList).take k).map bv)∧Hid (∀ (j:Nat) (h:j<s.data.toList.length),j<m→yW s.data.toList[j]=true)∧zb [] w wr) (fun _ i _=>s.size-(intOf i).toNat);case atStart=>exact⟨0,0,none,0,rfl,qI ⟨rfl,XB⟩,rfl,World.ownsRow_nil _ _ _ _,qI (fun j h Z=>by omega),Wd⟩
 case round=>
  obtain⟨m,k,a,c,rfl,B,rfl,d,Gn,R⟩:=hrel;have Gj:=qI d;have L:=qI R;clear d R;by_cases F:m<s.size
  ·have ag:(m:Int)<s.size:=by omega
   by_cases A:m+1<s.size;rotate_left
   ·have af:(s.size:Int)≤(m:Int)+1:=by omega
    have C:Hid (xn s=none):=qI (by rw [HU.o,XJ];rintro ⟨h1,-⟩;have:=B.o.1;omega);clear A F;go_wp2;go_ret2;rw [C.o];exact⟨rfl,L.o⟩
   have af:(m:Int)+1<s.size:=Ws;have E:m<s.data.toList.length:=by rw [HL.o];exact F
   have u:m+1<s.data.toList.length:=by rw [HL.o];exact A
   have U:=qI (index_str underlying9 s m E);have X:=qI (index_str1 underlying9 s m u);have N1:=qI (Gh.o m E);have N2:=qI (Gh.o (m+1) u);have K:=qI (dig1_low s.data.toList[m]);have J:=qI (dig1_low s.data.toList[m+1]);have L1:Hid (yW s.data.toList[m]=true→yW s.data.toList[m+1]=true→∀ (j:Nat) (h:j<s.data.toList.length),j<m+2→yW s.data.toList[j]=true):=qI (fun g1 g2 j h Z=>by
    rcases Xr j m with q | q;·exact Gn.o j h q
    ·obtain rfl | rfl:j=m∨j=m+1:=by omega
     ·exact g1
     ·exact g2)
   have f:=qI (Kb (s.data.toList[m].toNat:Int) Ws (XC (s.data.toList[m].toNat_lt)));have t:=qI (Kb (s.data.toList[m+1].toNat:Int) Ws (XC (s.data.toList[m+1].toNat_lt)));have P:2*k+1<s.data.toList.length:=by rw [← B.o.1];exact u
   obtain⟨p1,p2⟩:=Gv.o k P;have C:Hid ((xl s.data.toList).take (k+1)=(xl s.data.toList).take k++[UInt8.ofNat (hv s.data.toList[m]*16+hv s.data.toList[m+1])]):=qI (by
    rw [XZ p1,p2];simp only [B.o.1])
   have Gr:Hid (m+1<s.size):=qI A;clear p1 p2 P;revert U X N1 N2 K J L1 f t C;generalize s.data.toList[m]=xb;generalize s.data.toList[m+1]=yb;intro U X N1 N2 K J L1 f t C;obtain⟨px,HX⟩:∃ px:Int,Hid (px=xb.toNat):=⟨_,qI rfl⟩;obtain⟨py,HY⟩:∃ py:Int,Hid (py=yb.toNat):=⟨_,qI rfl⟩;rw [← HX.o] at U f K;rw [← HY.o] at X t J;clear E u A F;have H:=U.o;have ab:=X.o;rcases Bool.eq_false_or_eq_true (yW xb) with e1 | e1
   rotate_left;·have Gp:=qI (N1.o e1);rw [K.o.2 e1] at f;go_wp2_with (go_at_call 73;refine (f.o _).mono ?_;rintro e w5 ⟨rfl,rfl⟩);go_ret2;rw [Gp.o];exact⟨rfl,L.o⟩
   obtain⟨O,l⟩:=K.o.1 e1;rcases Bool.eq_false_or_eq_true (yW yb) with e2 | e2;rotate_left
   ·have Gp:=qI (N2.o e2);rw [J.o.2 e2] at t;rw [O] at f;clear O l;generalize hv xb=p at *;go_wp2_with first
     | (have Gw:=I;go_at_call 73;refine (t.o _).mono ?_;rintro e w5 ⟨rfl,rfl⟩)
     | (go_at_call 73;refine (f.o _).mono ?_;rintro e w5 ⟨rfl,rfl⟩;have I:=True.intro)
    go_ret2;rw [Gp.o];exact⟨rfl,L.o⟩
   obtain⟨d2,y⟩:=J.o.1 e2;rw [O] at f;rw [d2] at t;have Gx:=qI (L1.o e1 e2);clear O d2 K J e1 e2 L1 N1 N2;revert f t C l y;generalize hv xb=p;generalize hv yb=hy;intro C f t l y;have G:=qI l;have Y:=qI y;clear l y;go_upto_region 7 with first
    | (have Gw:=I;go_at_call 73;refine (t.o _).mono ?_;rintro e w5 ⟨rfl,rfl⟩)
    | (go_at_call 73;refine (f.o _).mono ?_;rintro e w5 ⟨rfl,rfl⟩;have I:=True.intro)
   clear H ab;obtain⟨bb,Gs⟩:=XE (UInt8.ofNat (p*16+hy));rw [← Gs.o] at C
   refine Kf (n:=48) 14 [fI (.slice a k c),
    fI (.string s),
    fI (.int .i64 m),
    fI (.int .u8 px),
    fI (.int .i64 p),
    fI (.int .i64 (16*p)),
    fI (.string s),
    fI (.int .i64 m),
    fI (.int .i64 (m+1)),
    fI (.int .u8 py),
    fI (.int .i64 hy),
    fI (.int .i64 (16*p+hy)),
    fI (.int .u8 (bb.toNat:Int)),
    je [bv bb] 1 1] Wr rfl Wr (fun x=>qB) (fun x p=>by rw [show x 15 = .slice a k c from p 15 Wo Wo]) ?_ ?_
   ·refine⟨?_,?_,?_,?_,?_,?_,?_,?_,?_,?_,?_,?_,?_,?_,trivial⟩ <;> intro x w2 D b hd;·exact zi
    ·exact zi
    ·exact zi
    ·have O:x 1=_:=hd 1 Wr;have d2:x 2=_:=hd 2 Wr;have H:=U.o w2;exact zi
    ·have d3:x 3=_:=hd 3 Wr;have CX:=f.o w2;go_wp2_with (go_at_call 73;refine CX.mono ?_;rintro e w5 ⟨rfl,rfl⟩);exact⟨rfl,Wd⟩
    ·have d4:x 4=_:=hd 4 Wr;have ad:(p:Int)<16:=XC G.o;exact zi
    ·exact zi
    ·exact zi
    ·have d7:x 7=_:=hd 7 Wr;exact zi
    ·have d6:x 6=_:=hd 6 Wr;have d8:x 8=_:=hd 8 Wr;have H:=X.o w2;exact zi
    ·have d9:x 9=_:=hd 9 Wr;have CX:=t.o w2;go_wp2_with (go_at_call 73;refine CX.mono ?_;rintro e w5 ⟨rfl,rfl⟩);exact⟨rfl,Wd⟩
    ·have d5:x 5=_:=hd 5 Wr;have ak:x 10=_:=hd 10 Wr;have ad:(p:Int)<16:=XC G.o;have ah:(hy:Int)<16:=XC Y.o;exact zi
    ·have ai:x 11=_:=hd 11 Wr;have HJ:Hid (Value.int .u8 ((16*(p:Int)+hy)%256)=bv bb):=qI (by rw [Gs.o];exact hex_join16 p hy G.o Y.o);go_wp2_with fail;refine⟨?_,Wd⟩;exact HJ.o
    ·have al:x 12=_:=hd 12 Wr;go_wp2;exact⟨⟨w2.heap.size,rfl,XA,Wz,bR w2 _ _ _ rfl⟩,Wd.alloc _⟩
   ·intro x9 w7 D b hd Q;have d0:x9 0=_:=hd 0 Wo;obtain⟨g9,ae,g1,g2,W⟩:=hd 13 Wo;have Gy:=qI W;have Gi:=qI D;clear hd Q D W g1 g2;change wpList _ _ _ [_,_] _ _;go_wp2_with (at_builtin;refine zz tyB1 (v:=.slice a k c) (n:=k) (zk Gj.o Gi.o Wz) Gy.o (by simp [bv,Value.oneCell']) (by simp only [maxLen];have:=M.o;have:=B.o;omega) (XH M.o B.o) (by have:=L.o.size;have:=Gi.o.size;simp;omega) rfl _ _ rfl d0 ae ?_;intro v5 w8 r N _ aa;obtain⟨a5,c5,rfl,-,-⟩:=(Slc.of_row r).form;have Gq:=qI r;have Gz:=qI N;clear r N aa);case roundEnd=>refine⟨⟨m+2,k+1,a5,c5,by go_num,qI (XH B.o Gr.o),rfl,by rw [C.o,Xc];exact Gq.o,Gx,(L.o.then Gi.o).trans Gz.o (fun i hi=>.inr (Gj.o.lt i (XD hi)).1)⟩,by have:=Gr.o;simp [intOf];omega⟩
  ·have HE:Hid (xn s=some (xl s.data.toList)):=qI (by
    have h1:=B.o;rw [HU.o,XK ⟨Ws,Xk.2 (fun c hc=>by
     obtain⟨j,Z,rfl⟩:=uI hc;exact Gn.o j Z (by rw [HL.o] at Z;omega))⟩])
   have Gt:Hid (k=(xl s.data.toList).length):=qI (by have h1:=B.o;rw [HP.o,HL.o];omega);go_wp2;go_ret2;rw [HE.o];have d:=Gj.o;rw [Gt.o,Xw] at d;refine⟨⟨a,c,by rw [← Gt.o];rfl,Slc.of_row d,fun g hg=>(d.lt g (yL hg)).1⟩,L.o⟩
theorem refCheck_any {v:V n}{S:Nat→Prop}{w:World}{cs:List Value}(h:Rep n S w cs v)(y:zP n v)(M:n≤100) : zG w 26 #[.agg cs.toArray] (.int .i64 (zV n v)):=by
 obtain⟨kd,G,st,Q,P,rfl⟩:=h.five;obtain⟨L,J,F,p2,H,I,rfl,rfl⟩:=h.sl;obtain⟨m,p⟩:=XE (w.alloc (.cells #[.int .i64 kd,.int .i64 G,.string st,.slice L J F,.slice p2 H I] 25));have j:Hid (zb [] w m):=qI (kA1 p.o);have t:Hid (yA m w.heap.size kd G st (.slice L J F) (.slice p2 H I)):=qI (by rw [p.o];exact xr _ _ _ _ _ _ _);have r:=qI (depth_any n v (h.k0 j.o) y M);have z:Hid (∀ w1,zb [] m w1→_):=qI fun w1 (k:zb [] m w1)=>count_any n v (h.k0 (j.o.trans' k)) y
 have A:Hid (∀ w1,zb [] m w1→_):=qI fun w1 (k:zb [] m w1)=>refRight_any n v (h.k0 (j.o.trans' k)) y;have x:=y.1;have u:zM n v≤100:=X7 (jw n v) M;have s:Hid (zV n v=if 12<zM n v then 41 else if 4096<zp n v then 42 else if zn n v then 0 else 40):=qI rfl;clear h y;revert r z A x u s;generalize zM n v=D;generalize zp n v=C;generalize zn n v=R;generalize zV n v=K;intro r z A x u s;by_cases q:12<D
 ·have B:(12:Int)<D:=by omega
  have f:Hid (K=41):=qI (by rw [s.o,XK q]);go_enter func26,ntmps26;go_wp2_with fail;rw [← p.o];refine r.o.mono ?_;rintro e w2 ⟨rfl,a⟩;have d:=qI (j.o.then a);clear a;go_wp2;go_ret;rw [f.o];exact⟨rfl,d.o⟩
 have B:¬ (12:Int)<D:=Ws;by_cases h2:4096<C
 ·have E:(4096:Int)<C:=by omega
  have f:Hid (K=42):=qI (by rw [s.o,XJ q,XK h2]);go_enter func26,ntmps26;go_wp2_with fail;rw [← p.o];refine r.o.mono ?_;rintro e w2 ⟨rfl,a⟩;have d:=qI a;obtain⟨c0,c1,c2,c3,c4⟩:=t.o.k0 a;clear a;go_wp2_with (go_at_call 70;refine (z.o _ d.o).mono ?_;rintro e N ⟨rfl,b⟩);go_ret;rw [f.o];exact⟨rfl,(j.o.then d.o).then b⟩
 have E:¬ (4096:Int)<C:=Ws;cases R with
 | true=>
  have f:Hid (K=0):=qI (by rw [s.o,XJ q,XJ h2,XK rfl]);clear q h2;go_enter func26,ntmps26;go_wp2_with fail;rw [← p.o];refine r.o.mono ?_;rintro e w2 ⟨rfl,a⟩;have d:=qI a;obtain⟨c0,c1,c2,c3,c4⟩:=t.o.k0 a;clear a;go_wp2_with (first
   | (go_at_call 70;refine (z.o _ d.o).mono ?_;rintro e N ⟨rfl,b⟩;have l:=qI (d.o.then b);obtain⟨y0,y1,y2,y3,y4⟩:=t.o.k0 l.o;clear b)
   | (go_at_call 71;refine (A.o _ l.o).mono ?_;rintro e O ⟨rfl,i⟩))
  go_ret;rw [f.o];exact⟨rfl,(j.o.then l.o).then i⟩
 | false=>
  have f:Hid (K=40):=qI (by rw [s.o,XJ q,XJ h2,XJ Wz]);clear q h2;go_enter func26,ntmps26;go_wp2_with fail;rw [← p.o];refine r.o.mono ?_;rintro e w2 ⟨rfl,a⟩;have d:=qI a;obtain⟨c0,c1,c2,c3,c4⟩:=t.o.k0 a;clear a;go_wp2_with (first
   | (go_at_call 70;refine (z.o _ d.o).mono ?_;rintro e N ⟨rfl,b⟩;have l:=qI (d.o.then b);obtain⟨y0,y1,y2,y3,y4⟩:=t.o.k0 l.o;clear b)
   | (go_at_call 71;refine (A.o _ l.o).mono ?_;rintro e O ⟨rfl,i⟩))
  go_ret;rw [f.o];exact⟨rfl,(j.o.then l.o).then i⟩
theorem Y9 (a:Array Bool){i j:Nat}(h:i≠j)(d:Bool):(a.setIfInBounds i true).getD j d=a.getD j d:=by
 simp [Xg,uN,h]
section
variable {P : Program} {ops : Array Oper} {Q : Exit → Act → World → Prop} {md : Region.Mode} {S : World → Prop} {L : Nat}
def yI (P:Program)(md:Region.Mode)(ops:Array Oper)(Q:Exit→Act→World→Prop)(S:World→Prop)(L:Nat):Nat→Array Bool→Act→World→Prop
 | 0,listed,a,w=>Region.ready md ops listed=[]∧Q .normal a w
 | fuel+1,listed,a,w=>
  (Region.ready md ops listed=[]→Q .normal a w) ∧
  ∀ i∈Region.ready md ops listed,wpOp P ops Q i (fun a' w'=>(i=L∨listed.getD L false=true∨S w')∧yI P md ops Q S L fuel (listed.setIfInBounds i true) a' w') a w
theorem Qv:∀ (fuel:Nat) (listed:Array Bool) (a:Act) (w:World),yI P md ops Q S L fuel listed a w→wpAny P md ops Q fuel listed a w
 | 0,_,_,_,h=>h
 | fuel+1,_,_,_,h=>⟨h.1,fun i hi=>wpOp_mono (fun a' w' h'=>Qv fuel _ a' w' h'.2) (h.2 i hi)⟩
theorem wpAnyU_first {i:Nat}{t:Oper}{v:Value}(N:ops[i]? = some t)(q:∀ (j:Nat) (o:Oper) cs b,ops[j]? = some o→o.op≠.select cs b)(Y:∀ c a w,Q (.panic c) (a.put t.dst v) w→Q (.panic c) a w)(m:late md ops L i=true)(K:i≠L) : ∀ (fuel:Nat) (listed:Array Bool) (a:Act) (w:World), (∀ j oj,ops[j]? = some oj→j≠i→listed.getD j true=false→(∀ e∈oj.after,Region.binds md e=true→e.on≠i)→t.apart ops oj=true)→listed.getD L false=false→i∈Region.ready md ops listed→YieldsIf P ops S t v a→S w→yI P md ops Q S L fuel (listed.setIfInBounds i true) (a.put t.dst v) w→yI P md ops Q S L (fuel+1) listed a w:=by
 intro fuel;induction fuel with
 | zero=>
  intro listed a w _ I u F C H;refine⟨fun h=>(by rw [h] at u;cases u),fun j G=>?_⟩;by_cases d:j=i;·subst d;exact F.wpOp N C ⟨.inr (.inr C),H⟩
  ·have:=ready_mono G d;rw [H.1] at this;cases this
 | succ fuel ih=>
  intro listed a w l I u F C H;refine⟨fun h=>(by rw [h] at u;cases u),fun j G=>?_⟩;by_cases d:j=i;·subst d;exact F.wpOp N C ⟨.inr (.inr C),H⟩
  ·have n:=H.2 j (ready_mono G d);obtain⟨s,oj,f,B⟩:=mem_ready.1 G;have r:∀ e∈oj.after,Region.binds md e=true→e.on≠i:=fun e M x O=>by
    have n:=B e M x;have U:=(mem_ready.1 u).1;rw [O] at n;rcases Xr i listed.size with h' | h'
    ·simp [h'] at U n;rw [U] at n;cases n
    ·simp [Xy h'] at n
   have A:j≠L:=by
    intro e;subst e;unfold late at m;rw [uW] at m;rcases m with m | m;rotate_left
    ·have n:ops.size≤j:=by simpa using m
     rw [Xy n] at f;cases f
    unfold zbX at m;rw [f] at m;simp only [uv,VB,Array.any_eq_true'] at m;obtain⟨e,M,x⟩:=m;simp only [XR,beq_iff_eq] at x;exact r e M x.1 x.2
   have h2:=wpOp_putIf f (l j oj f d s r) (fun cs b=>q i t cs b N) (fun cs b=>q j oj cs b f) Y F n
   have p:∀ k ok,ops[k]? = some ok→k≠i→(listed.setIfInBounds j true).getD k true=false →
     (∀ e∈ok.after,Region.binds md e=true→e.on≠i)→t.apart ops ok=true:=fun k ok X J D R=>by
    refine l k ok X J ?_ R;by_cases E:j=k;·subst E;exact s
    ·rw [getD_set_ne true E] at D;exact D
   refine wpOp_mono (fun W w' h3=>?_) h2;have y:S w':=by
    rcases h3.2.1 with g | g | g;·exact absurd g A
    ·by_cases z:i=L;·exact absurd z K
     ·rw [Y9 listed z false,I] at g;cases g
    ·exact g
   refine⟨.inr (.inr y),ih (listed.setIfInBounds j true) W w' p (by rw [Y9 listed A false];exact I) (ready_mono u (Ne.symm d)) h3.1 y ?_⟩;rw [Array.setIfInBounds_comm _ _ d];exact h3.2.2
theorem wpAnyU_pure0 {i:Nat}{q:Oper}{v:Value}(F:ops[i]? = some q)(m:∀ (j:Nat) (o:Oper) cs b,ops[j]? = some o→o.op≠.select cs b)(O:∀ c a w,Q (.panic c) (a.put q.dst v) w→Q (.panic c) a w) : ∀ (fuel:Nat) (listed:Array Bool) (a:Act) (w:World), (∀ j oj,ops[j]? = some oj→j≠i→listed.getD j true=false→(∀ e∈oj.after,Region.binds md e=true→e.on≠i)→q.apart ops oj=true)→listed.getD L false=true→i∈Region.ready md ops listed→YieldsIf P ops (fun _=>True) q v a→yI P md ops Q S L fuel (listed.setIfInBounds i true) (a.put q.dst v) w→yI P md ops Q S L (fuel+1) listed a w:=by
 intro fuel;induction fuel with
 | zero=>
  intro listed a w _ t s B H;refine⟨fun h=>(by rw [h] at s;cases s),fun j C=>?_⟩;by_cases d:j=i;·subst d;exact B.wpOp F trivial ⟨.inr (.inl t),H⟩
  ·have:=ready_mono C d;rw [H.1] at this;cases this
 | succ fuel ih=>
  intro listed a w f t s B H;refine⟨fun h=>(by rw [h] at s;cases s),fun j C=>?_⟩;by_cases d:j=i;·subst d;exact B.wpOp F trivial ⟨.inr (.inl t),H⟩
  ·have r:=H.2 j (ready_mono C d);obtain⟨n,oj,p,x⟩:=mem_ready.1 C;have A:∀ e∈oj.after,Region.binds md e=true→e.on≠i:=fun e R K G=>by
    have r:=x e R K;have J:=(mem_ready.1 s).1;rw [G] at r;rcases Xr i listed.size with h' | h'
    ·simp [h'] at J r;rw [J] at r;cases r
    ·simp [Xy h'] at r
   have h2:=wpOp_putIf p (f j oj p d n A) (fun cs b=>m i q cs b F) (fun cs b=>m j oj cs b p) O B r
   have l:∀ k ok,ops[k]? = some ok→k≠i→(listed.setIfInBounds j true).getD k true=false →
     (∀ e∈ok.after,Region.binds md e=true→e.on≠i)→q.apart ops ok=true:=fun k ok N E y I=>by
    refine f k ok N E ?_ I;by_cases z:j=k;·subst z;exact n
    ·rw [getD_set_ne true z] at y;exact y
   refine wpOp_mono (fun M w' h3=>?_) h2;have D:(listed.setIfInBounds j true).getD L false=true:=by
    by_cases u:j=L
    ·subst u;by_cases U:j<listed.size;·simp [U]
     ·rw [Array.setIfInBounds_eq_of_size_le Ws];exact t
    ·rw [Y9 listed u false];exact t
   refine⟨.inr (.inl t),ih (listed.setIfInBounds j true) M w' l D (ready_mono s (Ne.symm d)) h3.1 ?_⟩;rw [Array.setIfInBounds_comm _ _ d];exact h3.2.2
theorem wpAnyU_take {i:Nat}{e:Oper}{v:Value}{d:Nat}{b:Array Bool}{a:Act}{w:World}(j:ops[i]? = some e)(q:Region.noSelect ops=true)(r:Region.free md ops b i=true)(m:(Region.ready md ops b).contains i=true)(p:late md ops L i=true)(f:i≠L)(l:b.getD L false=false)(s:∀ c a w,Q (.panic c) (a.put e.dst v) w→Q (.panic c) a w)(n:YieldsIf P ops S e v a)(k:S w)(h:yI P md ops Q S L d (b.setIfInBounds i true) (a.put e.dst v) w):yI P md ops Q S L (d+1) b a w:=
 wpAnyU_first j (Region.noSelect_spec q) s p f d b a w (Region.free_spec j r) l (by simpa using m) n k h
theorem wpAnyU_one {i:Nat}{e:Oper}{d:Nat}{b:Array Bool}{a:Act}{w:World}(m:ops[i]? = some e)(f:Region.ready md ops b=[i])(p:Region.wanted e (yielded ops a.tmps)=true)(h:∀ K:Act→World→Prop,(∀ a' w',(i=L∨b.getD L false=true∨S w')→yI P md ops Q S L d (b.setIfInBounds i true) a' w'→K a' w')→e.wp P a w K Q):yI P md ops Q S L (d+1) b a w:=by
 refine⟨fun k=>(by rw [f] at k;cases k),?_⟩;rw [f];intro j n;have:j=i:=by simpa using n
 subst this;unfold wpOp;rw [m];simp only;rw [XK p];exact .inl (h _ fun a' w' l h2=>⟨l,h2⟩)
theorem wpAnyU_done {listed:Array Bool}{a:Act}{w:World}(hr:Region.ready md ops listed=[])(h:Q .normal a w) :
  ∀ fuel,yI P md ops Q S L fuel listed a w
 | 0=>⟨hr,h⟩
 | _+1=>⟨fun _=>h,by rw [hr];simp⟩
theorem wp_regionU {id:Nat}{a:Act}{w:World}(S:World→Prop)(L:Nat)(hm:P.follows .mixedOrders=true)(h:yI P .any ops Q S L ops.size (Array.replicate ops.size false) a { w with drawn:=w.drawn+1 }):(Code.region id ops true).wp P Q a w:=
 wp_region_any hm (Qv _ _ _ _ h)
theorem zaO {id n:Nat}{a:Act}{w:World}(S:World→Prop)(L:Nat)(b:ops.size=n)(hm:P.follows .mixedOrders=true)(h:yI P .any ops Q S L n (Array.replicate n false) a { w with drawn:=w.drawn+1 }):(Code.region id ops true).wp P Q a w:=by
 subst b;exact wp_regionU S L hm h
theorem JB {d:Nat}{b:Array Bool}{a:Act}{w:World}(h:∀ O R,O=ops→R=Q→yI P md O R S L d b a w):yI P md ops Q S L d b a w:=h _ _ rfl rfl
theorem wpAnyU_take' {O:Array Oper}{i dst:Nat}{f:Oper}{v:Value}{e:Nat}{b:Array Bool}{a:Act}{w:World}(s:O=ops)(k:ops[i]? = some f)(hd:f.dst=some dst)(r:Region.noSelect ops=true)(t:Region.free md ops b i=true)(p:(Region.ready md ops b).contains i=true)(q:late md ops L i=true)(j:i≠L)(m:b.getD L false=false)(u:∀ c a (d:Nat) v w,Q (.panic c) (a.put (some d) v) w→Q (.panic c) a w)(n:YieldsIf P ops S f v a)(l:S w)(h:yI P md O Q S L e (b.setIfInBounds i true) (a.put (some dst) v) w):yI P md O Q S L (e+1) b a w:=by
 subst s;exact wpAnyU_take k r t p q j m (fun c a w h=>u c a dst v w (by rw [hd] at h;exact h)) n l (by rw [hd];exact h)
theorem wpAnyU_one' {O:Array Oper}{i:Nat}{e:Oper}{d:Nat}{b:Array Bool}{a:Act}{w:World}(l:O=ops)(j:ops[i]? = some e)(f:Region.ready md ops b=[i])(k:Region.wanted e (yielded ops a.tmps)=true)(h:∀ K:Act→World→Prop,(∀ a' w',(i=L∨b.getD L false=true∨S w')→yI P md O Q S L d (b.setIfInBounds i true) a' w'→K a' w')→e.wp P a w K Q):yI P md O Q S L (d+1) b a w:=by
 subst l;exact wpAnyU_one j f k h
theorem qm {O:Array Oper}{b:Array Bool}{a:Act}{w:World}(f:O=ops)(e:Region.ready md ops b=[])(h:Q .normal a w)(d:Nat):yI P md O Q S L d b a w:=by
 subst f;exact wpAnyU_done e h d
theorem wpAnyU_pure {O:Array Oper}{i dst:Nat}{f:Oper}{v:Value}{e:Nat}{b:Array Bool}{a:Act}{w:World}(n:O=ops)(j:ops[i]? = some f)(hd:f.dst=some dst)(p:Region.noSelect ops=true)(q:Region.free md ops b i=true)(m:(Region.ready md ops b).contains i=true)(k:b.getD L false=true)(r:∀ c a (d:Nat) v w,Q (.panic c) (a.put (some d) v) w→Q (.panic c) a w)(l:YieldsIf P ops (fun _=>True) f v a)(h:yI P md O Q S L e (b.setIfInBounds i true) (a.put (some dst) v) w):yI P md O Q S L (e+1) b a w:=by
 subst n;exact wpAnyU_pure0 j (Region.noSelect_spec p) (fun c a w h=>r c a dst v w (by rw [hd] at h;exact h)) e b a w (Region.free_spec j q) k (by simpa using m) l (by rw [hd];exact h)
theorem jx {O:Array Oper}{i j:Nat}{n k:Oper}{d:Nat}{b:Array Bool}{a:Act}{w:World}(u:O=ops)(s:ops[i]? = some n)(t:ops[j]? = some k)(q:Region.ready md ops b=[i,j])(f:Region.wanted n (yielded ops a.tmps)=true)(l:Region.wanted k (yielded ops a.tmps)=true)(r:∀ K:Act→World→Prop,(∀ a' w',(i=L∨b.getD L false=true∨S w')→yI P md O Q S L d (b.setIfInBounds i true) a' w'→K a' w')→n.wp P a w K Q)(h2:∀ K:Act→World→Prop,(∀ a' w',(j=L∨b.getD L false=true∨S w')→yI P md O Q S L d (b.setIfInBounds j true) a' w'→K a' w')→k.wp P a w K Q):yI P md O Q S L (d+1) b a w:=by
 subst u;refine⟨fun p=>(by rw [q] at p;cases p),?_⟩;rw [q];intro m hm;simp only [XY,Xi,uC] at hm;rcases hm with rfl | rfl
 ·unfold wpOp;rw [s];simp only;rw [XK f];exact .inl (r _ fun a' w' e h=>⟨e,h⟩)
 ·unfold wpOp;rw [t];simp only;rw [XK l];exact .inl (h2 _ fun a' w' e h=>⟨e,h⟩)
theorem qU (i:Nat)(v:Value){O:Array Oper}{dst:Nat}{j:Oper}{f:Nat}{b:Array Bool}{a:Act}{w:World}(n:O=ops)(k:ops[i]? = some j)(hd:j.dst=some dst)(e:(Region.noSelect ops&&(Region.free md ops b i&&((Region.ready md ops b).contains i&&(late md ops L i&&(!(i == L)&&(!(b.getD L false)&&Region.wanted j (yielded ops a.tmps)))))))=true)(p:∀ c a (d:Nat) v w,Q (.panic c) (a.put (some d) v) w→Q (.panic c) a w)(m:∀ w,S w→(execOp a.eval j).run P w = .ok (.value v) w)(l:S w)(h:yI P md O Q S L f (b.setIfInBounds i true) (a.put (some dst) v) w):yI P md O Q S L (f+1) b a w:=by
 simp only [XR,Bool.not_eq_true',beq_eq_false_iff_ne] at e;exact wpAnyU_take' n k hd e.1 e.2.1 e.2.2.1 e.2.2.2.1 e.2.2.2.2.1 e.2.2.2.2.2.1 p (.inl ⟨e.2.2.2.2.2.2,m⟩) l h
theorem qV (i:Nat){O:Array Oper}{e:Oper}{d:Nat}{b:Array Bool}{a:Act}{w:World}(k:O=ops)(j:ops[i]? = some e)(f:((Region.ready md ops b == [i])&&Region.wanted e (yielded ops a.tmps))=true)(h:∀ K:Act→World→Prop,(∀ a' w',(i=L∨b.getD L false=true∨S w')→yI P md O Q S L d (b.setIfInBounds i true) a' w'→K a' w')→e.wp P a w K Q):yI P md O Q S L (d+1) b a w:=by
 rw [XR,beq_iff_eq] at f;exact wpAnyU_one' k j f.1 f.2 h
theorem qW (i:Nat)(v:Value){O:Array Oper}{dst:Nat}{j:Oper}{e:Nat}{b:Array Bool}{a:Act}{w:World}(m:O=ops)(k:ops[i]? = some j)(hd:j.dst=some dst)(f:(Region.noSelect ops&&(Region.free md ops b i&&((Region.ready md ops b).contains i&&(b.getD L false&&Region.wanted j (yielded ops a.tmps)))))=true)(n:∀ c a (d:Nat) v w,Q (.panic c) (a.put (some d) v) w→Q (.panic c) a w)(l:∀ w,True→(execOp a.eval j).run P w = .ok (.value v) w)(h:yI P md O Q S L e (b.setIfInBounds i true) (a.put (some dst) v) w):yI P md O Q S L (e+1) b a w:=by
 simp only [XR] at f;exact wpAnyU_pure m k hd f.1 f.2.1 f.2.2.1 f.2.2.2.1 n (.inl ⟨f.2.2.2.2,l⟩) h
end
def ZY:List Value:=[.int .i64 0,.int .i64 0,.string ⟨#[]⟩,.slice none 0 0,.slice none 0 0]
def jY (cs:List Value):Prop:=∃ k m s p i c q j d,cs=[.int .i64 k,.int .i64 m,.string s,.slice p i c,.slice q j d]
theorem jY.len {cs:List Value}(h:jY cs):cs.length=5:=by obtain⟨_,_,_,_,_,_,_,_,_,rfl⟩:=h;rfl
theorem jY.one {cs:List Value}(h:jY cs):∀ u,u∈cs→u.oneCell'=true:=by
 obtain⟨_,_,_,_,_,_,_,_,_,rfl⟩:=h;intro u a;simp only [XY,Xi,uC] at a;rcases a with rfl | rfl | rfl | rfl | rfl <;> rfl
def k9 (d:Nat)(X:PX)(p:Nat)(S:ByteArray)(w:World)(e:Ending)(w':World):Prop:=
 ∃ cs:List Value,e = .returned (.agg cs.toArray)∧jY cs∧zb [p] w w' ∧
  match X with
  | .inl x=>PS w' p S 4097 (.inl x)
  | .inr (s,c)=>match zl d s c with
   | .inl x=>PS w' p S 4097 (.inl x)
   | .inr (v,r,c')=>PS w' p S 4097 (.inr (r,c'))∧yC d w.heap.size w' cs v
def zaK:PX→Prop | .inl _=>True | .inr (_,c)=>c≤4096
def qu (d:Nat):Prop:=∀ {w:World}{p:Nat}{S:ByteArray}{X:PX},PS w p S 4097 X→zaK X→S.size≤262144→qD p w →
 Calls prog 74 #[.pointer (some ⟨p,0,none⟩),.int .i64 d] w fun e w'=>k9 d X p S w e w'
structure LCap (W:World)(bv b2 b3 p d:Nat)(w:World):Prop where
 ptr:w.heap[b2]? = some (.cells #[.pointer (some ⟨p,0,none⟩)] 107 (0,0))
 dep:w.heap[b3]? = some (.cells #[.int .i64 d] 3 (0,0))
 kept:zb [p,bv] W w
structure LPos (W:World)(bv b2 b3 p:Nat):Prop where
 hp:p<W.heap.size
 hv:bv<W.heap.size
 h2:b2<W.heap.size
 h3:b3<W.heap.size
 lt:p<bv
 pv:p≠bv
 p2:p≠b2
 p3:p≠b3
 v2:bv≠b2
 v3:bv≠b3
structure LJ (W:World)(bv b2 b3 p d:Nat)(acc:List (V d))(w:World)(vl:Value)(lcs:List (List Value)):Prop where
 cap:LCap W bv b2 b3 p d w
 blk:w.heap[bv]? = some (.cells (xD 5 0 ⟨#[]⟩ vl (.slice none 0 0)) 25 (0,0))
 row:w.ownsRow W.heap.size 25 5 vl acc.length lcs.flatten
 all:zL (Rep d (fun g=>W.heap.size≤g∧vl.ownBlock≠some g) w) lcs acc
structure LBad (W:World)(bv b2 b3 p d:Nat)(w:World):Prop where
 cap:LCap W bv b2 b3 p d w
 blk:∃ a n c,w.heap[bv]? = some (.cells (xD 5 0 ⟨#[]⟩ (.slice a n c) (.slice none 0 0)) 25 (0,0))
section
variable {W w w' : World} {bv b2 b3 p d : Nat}
theorem LCap.step (h:LCap W bv b2 b3 p d w)(hp:LPos W bv b2 b3 p){X:List Nat}(k:zb X w w')(a:∀ g,g∈X→g=p∨g=bv∨W.heap.size≤g):LCap W bv b2 b3 p d w':=by
 have i:=h.kept.size;refine⟨k.heap h.ptr ?_,k.heap h.dep ?_,h.kept.trans k ?_⟩
 ·intro b;rcases a _ b with e | e | e;·exact hp.p2 e.symm
  ·exact hp.v2 e.symm
  ·have:=hp.h2;omega
 ·intro b;rcases a _ b with e | e | e;·exact hp.p3 e.symm
  ·exact hp.v3 e.symm
  ·have:=hp.h3;omega
 ·intro g f;rcases a _ f with e | e | e;·exact .inl (by simp [e])
  ·exact .inl (by simp [e])
  ·exact .inr e
theorem LJ.step {acc:List (V d)}{e:Value}{lcs:List (List Value)}(h:LJ W bv b2 b3 p d acc w e lcs)(hp:LPos W bv b2 b3 p)(k:zb [p] w w'):LJ W bv b2 b3 p d acc w' e lcs:=
 ⟨h.cap.step hp k (fun g a=>by simp at a;exact .inl a),k.heap h.blk (by simpa using hp.pv.symm),zk h.row k (fun g a b=>by simp at b;have:=(h.row.lt g a).1;have:=hp.hp;omega),h.all.mono fun _ _ _ r=>r.move k (fun g _ q=>⟨fun b=>by simp at b;have:=hp.hp;omega,q⟩)⟩
theorem LBad.step (h:LBad W bv b2 b3 p d w)(hp:LPos W bv b2 b3 p)(k:zb [p] w w'):LBad W bv b2 b3 p d w':=by
 obtain⟨a,n,c,e⟩:=h.blk;exact⟨h.cap.step hp k (fun g b=>by simp at b;exact .inl b),a,n,c,k.heap e (by simpa using hp.pv.symm)⟩
theorem LJ.bad {acc:List (V d)}{b:Value}{lcs:List (List Value)}(h:LJ W bv b2 b3 p d acc w b lcs):LBad W bv b2 b3 p d w:=by
 obtain⟨a,c,rfl,-,-⟩:=(Slc.of_row h.row).form;exact⟨h.cap,_,_,_,h.blk⟩
theorem LJ.snoc {acc:List (V d)}{k e:Value}{lcs:List (List Value)}{w5 w6 l:World}{cs:List Value}{v:V d}{g Bc:Nat}(h:LJ W bv b2 b3 p d acc w k lcs)(hp:LPos W bv b2 b3 p)(m:LCap W bv b2 b3 p d l)(t:l.heap[bv]? = some (.cells (xD 5 0 ⟨#[]⟩ e (.slice none 0 0)) 25 (0,0)))(x:zb [p] w w5)(u:zb k.ownBlock.toList w5 w6)(z:zb [bv,g] w6 l)(f:e.ownBlock=some g)(b:k.ownBlock=some g∨g=w5.heap.size)(s:l.ownsRow W.heap.size 25 5 e (acc.length+1) (lcs++[cs]).flatten)(n:Rep d (fun i=>Bc≤i) w5 cs v)(D:w.heap.size≤Bc):LJ W bv b2 b3 p d (acc++[v]) l e (lcs++[cs]):=by
 have C:=hp.hp;have B:=hp.hv;have E:=h.cap.kept.size;have A:=x.size;refine⟨m,t,by rw [XM];exact s,zL.snoc (h.all.mono fun c y _ r=>?_) ?_⟩
 ·refine ((r.move (T:=fun i=>W.heap.size≤i∧k.ownBlock≠some i∧i<w.heap.size) x (fun i j q=>⟨fun a=>by simp at a;omega,q.1,q.2,j⟩)).move (T:=fun i=>W.heap.size≤i∧k.ownBlock≠some i∧i<w.heap.size) u (fun i j q=>⟨fun a=>q.2.1 (XD a),q⟩)).move z (fun i j q=>⟨fun a=>?_,q.1,fun a=>?_⟩)
  ·simp at a;rcases a with a | a
   ·omega
   ·rcases b with b | b;·exact q.2.1 (by rw [b,a])
    ·omega
  ·rw [f] at a;injection a with a;rcases b with b | b
   ·exact q.2.1 (by rw [b,a])
   ·omega
 ·refine (n.move (T:=fun i=>Bc≤i∧i<w5.heap.size∧k.ownBlock≠some i) u (fun i j q=>⟨fun a=>?_,q,j,fun a=>?_⟩)).move z (fun i j q=>⟨fun a=>?_,Ws,fun a=>?_⟩);·have:=(h.row.lt i (XD a)).2;omega
  ·have:=(h.row.lt i a).2;omega
  ·simp at a;rcases a with a | a
   ·omega
   ·rcases b with b | b;·exact q.2.2 (by rw [b,a])
    ·omega
  ·rw [f] at a;injection a with a;rcases b with b | b
   ·exact q.2.2 (by rw [b,a])
   ·omega
theorem LCap.tabs (h:LCap W bv b2 b3 p d w)(hp:LPos W bv b2 b3 p)(a:qD p W):qD p w:=by
 obtain⟨f,b,h2,h3⟩:=a;have:=hp.lt;exact⟨f,b,h2.trans h.kept (fun i e=>by simp at e;exact .inr Ws),h3⟩
def bB (W:World)(bv b2 b3 p d:Nat)(S:ByteArray)(s:List UInt8)(c:Nat)(acc:List (V d))(w':World):Prop:=
 match zR (zl d) s c acc with
 | .inl x=>PS w' p S 4097 (.inl x)∧LBad W bv b2 b3 p d w'
 | .inr (acc',r,c')=>PS w' p S 4097 (.inr (r,c'))∧∃ vl lcs,LJ W bv b2 b3 p d acc' w' vl lcs
theorem listAns_of {S:ByteArray}{s:List UInt8}{c:Nat}{acc:List (V d)}(a:∀ x,zl d s c = .inl x→PS w' p S 4097 (.inl x)∧LBad W bv b2 b3 p d w')(h2:∀ v r c',zl d s c = .inr (v,r,c')→PS w' p S 4097 (.inr (r,c'))∧∃ vl lcs,LJ W bv b2 b3 p d (acc++[v]) w' vl lcs):bB W bv b2 b3 p d S s c acc w':=by
 unfold bB zR;cases h:zl d s c with
 | inl x=>exact a x h
 | inr y=>obtain⟨v,r,c'⟩:=y;exact h2 v r c' h
def jh (d:Nat)(s:List UInt8)(c p:Nat)(S:ByteArray)(Bc:Nat)(cs:List Value)(w':World):Prop:=
 match zl d s c with
 | .inl x=>PS w' p S 4097 (.inl x)
 | .inr (v,r,c')=>PS w' p S 4097 (.inr (r,c'))∧Rep d (fun i=>Bc≤i) w' cs v
theorem jh.k0 {s:List UInt8}{c Bc:Nat}{S:ByteArray}{cs:List Value}(h:jh d s c p S Bc cs w)(k:zb [] w w'):jh d s c p S Bc cs w':=by
 unfold jh at *;cases e:zl d s c with
 | inl x=>rw [e] at h;exact PS.k0 h k
 | inr y=>obtain⟨v,r,a⟩:=y;rw [e] at h;exact⟨PS.k0 h.1 k,h.2.k0 k⟩
theorem k9.said {s:List UInt8}{c:Nat}{S:ByteArray}{e:Ending}(h:k9 d (.inr (s,c)) p S w e w'):∃ cs:List Value,e = .returned (.agg cs.toArray)∧jY cs∧zb [p] w w'∧jh d s c p S w.heap.size cs w':=by
 obtain⟨cs,b,h2,h3,a⟩:=h;refine⟨cs,b,h2,h3,?_⟩;unfold jh;simp only at a;cases e:zl d s c with
 | inl x=>rw [e] at a;exact a
 | inr y=>obtain⟨v,r,f⟩:=y;rw [e] at a;exact⟨a.1,a.2.rep⟩
end
section
variable {H : Type} {enc : TypeId × Value → H}
theorem handed_shaped {a:Assume}{C:Checked}{os:Os}{f:FuncId}{k:Func}{s:ChangeSpec}{l:List PathCond}{apart fresh b h:Bool}{X:World→Array Value→Prop}(F:∀ (w w':World) (args:Array Value),w.heap=w'.heap→X w args→X w' args)(own:ownKnob C.prog.godebug=none)(n:os.Started)(p:C.prog.inits.idxOf? f=none)(x:C.prog.funcs[f]? = some k)(m:∃ (w:World) (tape:Tape) (i:Input),w.os=os∧(w.forCall tape i).Shaped C.prog∧i.vars=[]∧Input.okWide C.prog (w.forCall tape i) .any w.heap.size f i∧((s.pre enc C.prog k l apart (w.forCall tape i).memory i.args∧X (w.forCall tape i).memory i.args)∧sizedMet enc C.prog k (OpenSpec.ofChange s) apart (w.forCall tape i).memory i.args)∧a.holds C.prog (lone (Frame.enter C.prog f i.args .normal) [] (w.forCall tape i)))(d:∀ (W:World) (base:Nat) (args:Array Value) (ds gs:List (DataW H)) (before:List MemPlace), (∀ (j:Nat) t v,k.params[j]? = some t→args[j]? = some v→Value.okWide C.prog W .any base t v)→DataW.Whole enc C.prog k.params.toList s.vars apart W args.toList ds gs before→(DataW.weightsEach C.prog (k.params.toList++s.plain.varTypes C.prog) (ds++gs)).all (· ≤ reachBytes)=true→X W args→W.ShapedOpen C.prog→Calls C.prog f args W fun e W'=>∃ v,e = .returned v∧s.post enc C.prog k apart fresh b h W args v W') : ReturnsInHanded a C os f .any (fun w args=>(s.pre enc C.prog k l apart w args∧X w args)∧sizedMet enc C.prog k (OpenSpec.ofChange s) apart w args) (s.post enc C.prog k apart fresh b h):=by
 refine returnsInHanded_of_calls own n p m ?_;intro w tape i _ A _ y u _;obtain⟨_,_,_,z,r,_,_,_,_,q⟩:=y;obtain rfl:z=k:=Option.some.inj (r.symm.trans x);obtain⟨⟨⟨ds,gs,before,B,-⟩,G⟩,E⟩:=u;refine (d (w.forCall tape i) w.heap.size i.args ds gs before q (DataW.Whole.of_heap Wk B) (E.weights B) (F _ _ _ Wk G) A).mono fun e W' D=>?_;obtain⟨v,rfl,hp⟩:=D;exact ChangeSpec.post_blind hp
end
def jV : List (String × DataW Unit) := [("math/bits.deBruijn32tab", Rows.laid_math_bits_deBruijn32tab), ("math/bits.deBruijn64tab", Rows.laid_math_bits_deBruijn64tab), ("internal/strconv.uint64pow10", Rows.laid_internal_strconv_uint64pow10), ("unicode/utf8.acceptRanges", Rows.laid_unicode_utf8_acceptRanges), ("pursuivant/sha.constants", Rows.laid_pursuivant_sha_constants), ("unicode.CaseRanges", Rows.laid_unicode_CaseRanges), ("unicode/utf8.first", Rows.laid_unicode_utf8_first)]
theorem gPow : Tryz.prog.globalNamed "internal/strconv.uint64pow10" = some 4 := by kernel_rfl
theorem gKs : Tryz.prog.globalNamed "pursuivant/sha.constants" = some 0 := by kernel_rfl
theorem first_eq:Rows.laid_unicode_utf8_first=Lib.firstData:=Pinned.utf8First_eq
theorem ranges_eq:Rows.laid_unicode_CaseRanges=Lib.caseData:=Pinned.caseRanges_eq
theorem accept_eq:Rows.laid_unicode_utf8_acceptRanges=Lib.acceptData:=Wr
theorem pow_eq:(Rows.laid_internal_strconv_uint64pow10:DataW Unit)=Lib.tabData .u64 Lib.pow10Tab:=Wr
theorem ks_eq:(Rows.laid_pursuivant_sha_constants:DataW Unit)=Lib.tabData .u32 KS:=Wr
theorem tabs_of_laid {W:World}(hL:laidMetH prog jV W):xS W:=by
 rw [MakeChecks.laidMetH_plain _ _ _ Wr] at hL
 have r1 : ("unicode/utf8.first", Lib.firstData) ∈ jV := by rw [← first_eq]; simp [jV]
 have r2 : ("unicode/utf8.acceptRanges", Lib.acceptData) ∈ jV := by rw [← accept_eq]; simp [jV]
 have r3 : ("unicode.CaseRanges", Lib.caseData) ∈ jV := by rw [← ranges_eq]; simp [jV]
 refine⟨utf8Tabs_of_readsT (U8Types.of260 { Tryz.shDecode with }) ⟨Wr,Wr,Wr,Wr,Wr,Wr,Wr⟩ (Lib.laidMet.reads hL r1) (Lib.laidMet.reads hL r2),caseVar_of_reads { Tryz.shToLower with } Wr ⟨Wr,Wr,Wr,Wr,Wr,Wr⟩ (Lib.laidMet.reads hL r3),?_⟩;have h3:=hL.tail.tail;rw [show (Rows.laid_internal_strconv_uint64pow10:DataW Unit)=Lib.tabData .u64 Lib.pow10Tab from pow_eq] at h3;exact Lib.tabIs_of_head gPow Wr underlying297 underlying250 Wr Wr h3
theorem ksIs_of_laid {W : World}(hL : laidMetH Tryz.prog jV W) : Lib.TabIs Tryz.prog W "pursuivant/sha.constants" .u32 KS := by
 rw [MakeChecks.laidMetH_plain _ _ _ Wr] at hL;have h3:=hL.tail.tail.tail.tail;rw [show (Rows.laid_pursuivant_sha_constants:DataW Unit)=Lib.tabData .u32 KS from ks_eq] at h3;exact Lib.tabIs_of_head gKs Wr underlying263 underlying220 Wr Wr h3
theorem ks_of_laid {W:World}(b:laidMetH prog jV W):kg W:=by
 have h:=ksIs_of_laid b;unfold Lib.TabIs World.var? at h;rw [gKs] at h;simp only [Option.bind_some] at h;split at h
 ·rename_i cs t f a;have hc:=Option.some.inj h;subst hc;intro j v hv;rw [Xd];refine za a ?_;rw [uB];have e:yo KS 0=KS.map (fun z=>Value.int .u32 z):=by unfold yo;rw [List.replicate_zero,Xn];rfl
  rw [e] at hv;exact hv
 ·cases h
end Go.Proofs.YtjccecajigmfkaaGreatDoor

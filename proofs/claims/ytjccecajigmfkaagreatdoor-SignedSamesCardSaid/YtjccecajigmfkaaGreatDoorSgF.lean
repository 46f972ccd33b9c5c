/- Parts of one proof, merged: XKB XKC XVC XVM XVO XVA XVI XVT XPX XVH XVJ. -/
import Derived.Test.YtjccecajigmfkaaGreatDoorSgD
import Derived.Test.YtjccecajigmfkaaGreatDoorSgE
import Derived.Lib.MapU
import Derived.Lib.SlTrimSet
import Derived.Lib.Bytealg
set_option linter.all false
set_option maxHeartbeats 12800000
set_option maxRecDepth 10000
namespace Go.Proofs.YtjccecajigmfkaaGreatDoor
open Go.Proofs.Tryz
open Go.RowKit
variable {b:List UInt8}{d:Nat}{e:Int}{j k:Nat}{t:List UInt8}{β:Type}{ys:List β}
theorem QQ:xG prog 22 25 5 80 (.agg #[.int .i64 0,.int .i64 0,.string ByteArray.empty,.slice none 0 0,.slice none 0 0]):=⟨underlying22,Wr,Wr,Wo⟩
theorem kS:xG prog 23 41 6 96 (.agg #[.string ByteArray.empty,.int .i64 0,.int .i64 0,.string ByteArray.empty,.slice none 0 0,.slice none 0 0]):=⟨underlying23,Wr,Wr,Wo⟩
theorem Rep.one {n:Nat}{S:Nat→Prop}{w:World}{cs:List Value}{v:V n}(h:Rep n S w cs v):∀ u∈cs,u.oneCell'=true:=by
 match n,v,h with
 | n+1,v,h=>
  obtain⟨vl,vm,lcs,mcs,h⟩:=h
  obtain⟨a,c,b,d,_,_,rfl⟩:=h.forms
  intro u e
  simp only [List.mem_cons,List.not_mem_nil,or_false] at e
  rcases e with rfl | rfl | rfl | rfl | rfl <;> rfl
theorem zM.mem_left {α:Type}{R:α→β→Prop}{xs:List α}(h:zM R xs ys){x:α}(d:x∈xs):∃ y,y∈ys∧R x y:=by
 obtain⟨j,b,rfl⟩:=List.getElem_of_mem d
 have a:j<ys.length:=by rw [← h.1];exact b
 exact⟨ys[j],List.getElem_mem a,h.2 j _ _ (List.getElem?_eq_getElem b) (List.getElem?_eq_getElem a)⟩
theorem zM.map_both {α γ δ:Type}{R:α→β→Prop}{Q:γ→δ→Prop}{f:α→γ}{g:β→δ}{xs:List α}(h:zM R xs ys)(d:∀ x y,R x y→Q (f x) (g y)):zM Q (xs.map f) (ys.map g):=by
 refine⟨by simp [h.1],?_⟩
 intro j x z a b
 rw [List.getElem?_map,Option.map_eq_some_iff] at a b
 obtain⟨x,a,rfl⟩:=a
 obtain⟨y,e,rfl⟩:=b
 exact d x y (h.2 j x y a e)
theorem flat_one {R:List Value→Prop}{b:List (List Value)}(h:∀ c,c∈b→∀ u∈c,u.oneCell'=true):∀ u∈b.flatten,u.oneCell'=true:=by
 intro u a
 obtain⟨c,hc,a⟩:=List.mem_flatten.1 a
 exact h c hc u a
theorem Ki {t size g base:Nat}(W:World)(b:W.heap.size=g)(a:base≤g):(W.alloc (.cells #[] t)).ownsRow base t size (.slice (some ⟨g,0,none⟩) 0 0) 0 []:=by
 subst b
 exact World.ownsRow_made W #[] 0 a Wo Wz
def kidsC (lcs:List (List Value))(mcs:List (ByteArray×List Value)):List (List Value):=lcs++mcs.map (fun p=>p.2)
section
variable {n : Nat} {S : Nat → Prop} {w : World} {cs : List Value} {v : VS (V n)} {vl vm : Value} {lcs : List (List Value)} {mcs : List (ByteArray × List Value)}
theorem yk.kids (h:yk (Rep n S w) S w cs v vl vm lcs mcs):zM (Rep n S w) (kidsC lcs mcs) v.kids:=
 h.alll.app (h.allm.map_both fun _ _ r=>r.2)
theorem yk.ones (h:yk (Rep n S w) S w cs v vl vm lcs mcs):∀ u∈lcs.flatten,u.oneCell'=true:=
 flat_one (R:=fun _=>True) fun c hc=>by
  obtain⟨y,_,a⟩:=h.alll.mem_left hc
  exact a.one
end
def Q0 (n:Nat)(w:World)(x:Value)(vs:List (V n)):Prop:=∃ lcs,Slc w 5 x vs.length lcs.flatten∧zM (Rep n (fun _=>True) w) lcs vs
theorem Slc.at5 {w:World}{x:Value}{m:Nat}{lcs:List (List Value)}(h:Slc w 5 x m lcs.flatten)(l:∀ c,c∈lcs→c.length=5)(p:j<lcs.length){k i:Int}{s:ByteArray}{a b:Value}(e:lcs[j]=[.int .i64 k,.int .i64 i,.string s,a,b]) : ∃ g o cap,x = .slice (some ⟨g,o,none⟩) m cap∧w.cell? ⟨g,o+j*5,none⟩=some (.int .i64 k)∧w.cell? ⟨g,o+j*5+1,none⟩=some (.int .i64 i)∧w.cell? ⟨g,o+j*5+2,none⟩=some (.string s)∧w.cell? ⟨g,o+j*5+3,none⟩=some a∧w.cell? ⟨g,o+j*5+4,none⟩=some b:=by
 have r:=bX lcs l
 have hm:=h.1
 rcases h.2 with ⟨_,q⟩ | ⟨q,_⟩ | ⟨g,o,cap,f,_,_,d⟩
 ·omega
 ·omega
 have hc:∀ i,i<5→lcs.flatten[j*5+i]? = lcs[j][i]?:=fun i n=>kK lcs j i l p n
 rw [e] at hc
 refine⟨g,o,cap,f,?_,?_,?_,?_,?_⟩
 ·exact d.cells (j*5+0) _ (hc 0 Wo)
 all_goals rw [Nat.add_assoc]
 ·exact d.cells (j*5+1) _ (hc 1 Wo)
 ·exact d.cells (j*5+2) _ (hc 2 Wo)
 ·exact d.cells (j*5+3) _ (hc 3 Wo)
 ·exact d.cells (j*5+4) _ (hc 4 Wo)
theorem Q0.k0 {n:Nat}{w b:World}{x:Value}{a:List (V n)}(h:Q0 n w x a)(k:zb [] w b):Q0 n b x a:=by
 obtain⟨lcs,d,h2⟩:=h
 exact⟨lcs,d.k0 k,h2.mono fun _ _ _ r=>r.k0 k⟩
theorem Q0.at {n:Nat}{w:World}{x:Value}{f:List (V n)}(h:Q0 n w x f)(m:j<f.length):∃ g o cap k i s a b,x = .slice (some ⟨g,o,none⟩) f.length cap∧w.cell? ⟨g,o+j*5,none⟩=some (.int .i64 k)∧w.cell? ⟨g,o+j*5+1,none⟩=some (.int .i64 i)∧w.cell? ⟨g,o+j*5+2,none⟩=some (.string s)∧w.cell? ⟨g,o+j*5+3,none⟩=some a∧w.cell? ⟨g,o+j*5+4,none⟩=some b∧Rep n (fun _=>True) w [.int .i64 k,.int .i64 i,.string s,a,b] f[j]:=by
 obtain⟨lcs,A,h2⟩:=h
 have d:j<lcs.length:=by rw [h2.1];exact m
 have l:=h2.2 j _ _ (List.getElem?_eq_getElem d) (List.getElem?_eq_getElem m)
 obtain⟨k,i,s,a,b,e⟩:=l.five
 obtain⟨g,o,cap,q,p,t,u,v,z⟩:=A.at5 (fun c hc=>by obtain⟨y,_,r⟩:=h2.mem_left hc;exact r.len) d e
 rw [e] at l
 exact⟨g,o,cap,k,i,s,a,b,q,p,t,u,v,z,l⟩
theorem kids_any {n:Nat}{v:VS (V n)}{S:Nat→Prop}{w:World}{cs:List Value}(h:Rep (n+1) S w cs v)(hv:v.l.length+v.m.length≤20000) : Calls prog 72 #[.agg cs.toArray] w fun e w'=>(∃ a c,e = .returned (.slice a v.kids.length c)∧Q0 n w' (.slice a v.kids.length c) v.kids)∧zb [] w w':=by
 obtain⟨vl,vm,lcs,mcs,h⟩:=h
 obtain⟨a,c,b,e,rfl,rfl,rfl⟩:=h.forms
 have H:=qI h
 have B:v.kids.length=v.l.length+v.m.length:=by simp [VS.kids]
 have Gb:=qI B
 have ad:v.l.length≤20000:=Ws
 have ab:v.m.length≤20000:=Ws
 have aa:(v.m.length:Int)≤20000:=Ws
 have HV:=qI hv
 have Q:=qI (xr w v.kind v.num v.s (.slice a v.l.length c) (.slice b v.m.length e) 25)
 have Y:=qI (((zb.refl [] w).alloc (.cells #[.int .i64 v.kind,.int .i64 v.num,.string v.s,.slice a v.l.length c,.slice b v.m.length e] 25)))
 obtain⟨c0,c1,c2,c3,c4⟩:=Q.o
 clear h B hv
 have O:=qI ((zb.refl [] (w.alloc (.cells #[.int .i64 v.kind,.int .i64 v.num,.string v.s,.slice a v.l.length c,.slice b v.m.length e] 25))).alloc (.cells #[] 25))
 have Gw:Hid ((w.alloc (.cells #[.int .i64 v.kind,.int .i64 v.num,.string v.s,.slice a v.l.length c,.slice b v.m.length e] 25)).heap.size=w.heap.size+1):=qI Wz
 have Gf:=qI (Ki (t:=25) (size:=5) (g:=w.heap.size+1) (base:=w.heap.size+1) (w.alloc (.cells #[.int .i64 v.kind,.int .i64 v.num,.string v.s,.slice a v.l.length c,.slice b v.m.length e] 25)) Wz (XA))
 have E:=qI ((H.o.slcl.k0 Y.o).k0 O.o)
 go_enter func72,ntmps72
 go_wp2_with (at_builtin;refine zG QQ Gf.o E.o H.o.ones (by simp only [maxLen];omega) Ws Wz rfl _ _ rfl rfl rfl ?_;intro v' w1 d A _ G)
 have Gk:=qI d
 have Gl:=qI (O.o.trans A (by intro i F;simp [Value.ownBlock] at F;exact .inr (by simp [F])))
 clear d A G Gf E c0 c1 c2 c3 c4
 go_loopw [3,4] (fun o i wr=>∃ k:Nat,i = .int .i64 k∧k≤v.m.length∧wr.ownsRow (w.heap.size+1) 25 5 o (v.l.length+k) (lcs.flatten++((mcs.take k).map (fun p=>p.2)).flatten)∧zb [] (w.alloc (.cells #[.int .i64 v.kind,.int .i64 v.num,.string v.s,.slice a v.l.length c,.slice b v.m.length e] 25)) wr) (fun _ i _=>v.m.length-(intOf i).toNat)
 case atStart=>exact⟨0,rfl,XB,by simpa using Gk.o,Gl.o⟩
 case round=>
  obtain⟨k,rfl,hk,q,j⟩:=hrel
  have X:=qI q
  have I:=qI (Y.o.trans' j)
  obtain⟨b0,b1,b2,b3,b4⟩:=Q.o.k0 j
  have N:=qI j
  clear q j
  by_cases y:k<v.m.length
  ·have Z:(k:Int)<v.m.length:=by omega
   obtain⟨g,o,cap,kd,D,st,C,f,U,q0,q1,q2,q3,q4,q5,P,K⟩:=H.o.at_mx I.o k y
   simp only [Value.slice.injEq] at U
   obtain⟨rfl,-,rfl⟩:=U
   have Gu:=qI P.one
   have u:k<mcs.length:=by rw [H.o.lens.2];exact y
   have HX:Hid (mcs[k].2=[.int .i64 kd,.int .i64 D,.string st,C,f]):=qI (by rw [List.getElem?_eq_getElem u] at K;rw [Option.some.inj K])
   have HT:Hid (((mcs.take (k+1)).map (fun p=>p.2)).flatten=((mcs.take k).map (fun p=>p.2)).flatten++[.int .i64 kd,.int .i64 D,.string st,C,f]):=qI (by
    rw [List.take_succ_eq_append_getElem u,List.map_append,List.flatten_append,← HX.o]
    simp)
   have E:=qI (yv wr [.int .i64 kd,.int .i64 D,.string st,C,f] 5 1 25 wr.heap.size rfl rfl Wo)
   have L:=qI ((zb.refl [] wr).alloc (.cells #[.int .i64 kd,.int .i64 D,.string st,C,f] 25))
   have Gg:=qI (zk X.o L.o Wz)
   have Gn:Hid (w.heap.size+1≤(wr.alloc (.cells #[.int .i64 kd,.int .i64 D,.string st,C,f] 25)).heap.size):=qI (by have J:=N.o.size;have h2:=Gw.o;have h3:=L.o.size;omega)
   clear P K
   go_wp2_with (at_builtin;refine zG QQ Gg.o E.o Gu.o (by simp only [maxLen];omega) Ws Gn.o rfl _ _ rfl rfl rfl ?_;intro v' w2 x M _ ae)
   case roundEnd=>
    refine⟨⟨k+1,by go_num,Ws,?_,?_⟩,by simp [intOf];omega⟩
    ·rw [HT.o,← List.append_assoc,← Nat.add_assoc]
     exact x
    ·refine (N.o.then L.o).trans M ?_
     intro i F
     exact .inr (by have:=(Gg.o.lt i (XD F)).1;rw [Gw.o];exact this)
  ·obtain rfl:k=v.m.length:=by omega
   have W:Hid (Q0 n wr u3 v.kids):=qI ⟨kidsC lcs mcs,by
    have e1:mcs.take v.m.length=mcs:=List.take_of_length_le (by rw [H.o.lens.2];exact XA)
    have J:=X.o
    rw [e1] at J
    rw [Gb.o,kidsC,List.flatten_append]
    exact Slc.of_row J,(H.o.kids.mono fun _ _ _ r=>(r.k0 I.o).mono (fun _ _ _=>trivial))⟩
   obtain⟨R,z,-⟩:=W.o
   obtain⟨a',c',e',-,-⟩:=z.form
   subst e'
   clear z
   go_wp2_with fail
   go_ret
   exact⟨⟨_,_,rfl,W.o⟩,I.o⟩
theorem maxL_snoc (l:List Nat)(x:Nat):qM (l++[x])=max (qM l) x:=by
 rw [zaT];simp [qM]
theorem xP {α:Type}(f:α→β)(l:List α)(k:Nat)(h:k<l.length):(l.take (k+1)).map f=(l.take k).map f++[f l[k]]:=by
 rw [List.take_succ_eq_append_getElem h,List.map_append];rfl
theorem jb:∀ (n:Nat) (v:V n),zH n v≤n
 | 0,v=>nomatch v
 | n+1,(v:VS (V n))=>by
  show 1+qM (v.kids.map (zH n))≤n+1
  have:qM (v.kids.map (zH n))≤n:=bt.2 (fun x a=>by
   obtain⟨y,_,rfl⟩:=List.mem_map.1 a
   exact jb n y)
  omega
theorem zP.few {n:Nat}{v:VS (V n)}(h:zP (n+1) v):v.l.length+v.m.length≤20000:=by
 have:=kids_few v;have:=h.1;omega
def bf (n : Nat) : Prop := ∀ (v : V n) {S : Nat → Prop} {w : World} {cs : List Value}, Rep n S w cs v → zP n v → n ≤ 100 →
    Calls prog 27 #[.agg cs.toArray] w fun e w'=>e = .returned (.int .i64 (zH n v))∧zb [] w w'
theorem zbu {n:Nat}(f:bf n):bf (n+1):=fun (v:VS (V n)) {S}{w}{cs} h hs hn=>by
  have Gh:=qI h
  have R:=qI hs
  obtain⟨vl,vm,lcs,mcs,h⟩:=h
  obtain⟨a,c,b,e,rfl,rfl,rfl⟩:=h.forms
  have Z:=qI f
  have E:Hid (∀ x,x∈v.kids→zH n x≤n):=qI fun x _=>jb n x
  have r:Hid (zH (n+1) v=1+qM (v.kids.map (zH n))):=qI rfl
  have W:=qI (xr w v.kind v.num v.s (.slice a v.l.length c) (.slice b v.m.length e) 25)
  have P:=qI (((zb.refl [] w).alloc (.cells #[.int .i64 v.kind,.int .i64 v.num,.string v.s,.slice a v.l.length c,.slice b v.m.length e] 25)))
  have J:Hid (v.kids.length≤20000):=qI (by have:=hs.few;simp only [VS.kids,List.length_append,List.length_map];omega)
  obtain⟨c0,c1,c2,c3,c4⟩:=W.o
  clear h hs
  have O:=qI (kids_any (Gh.o.k0 P.o) R.o.few)
  go_enter func27,ntmps27
  go_wp2_with (go_at_call 72;refine O.o.mono ?_;rintro e U ⟨⟨ak,ck,rfl,u⟩,q⟩)
  have G:=qI u
  have X:=qI (P.o.then q)
  clear u q c0 c1 c2 c3 c4 O
  have t:=J.o
  revert G E r J t
  have I:Hid (∀ x,x∈v.kids→zP n x):=qI fun x F=>R.o.kid F
  revert I
  generalize v.kids=kids
  intro I E r J G t
  go_loopw [3,5] (fun m i wr=>∃ k:Nat,i = .int .i64 k∧k≤kids.length∧m = .int .i64 (qM ((kids.take k).map (zH n)))∧zb [] U wr) (fun _ i _=>kids.length-(intOf i).toNat)
  case atStart=>exact⟨0,rfl,XB,rfl,Wd⟩
  case round=>
   obtain⟨k,rfl,hk,rfl,z⟩:=hrel
   have B:=qI z
   clear z
   by_cases d:k<kids.length
   ·have Q:(k:Int)<kids.length:=by omega
    obtain⟨g,o,cap,kd,nm,st,a1,b1,N,q0,q1,q2,q3,q4,L⟩:=(G.o.k0 B.o).at d
    simp only [Value.slice.injEq] at N
    obtain⟨rfl,-,rfl⟩:=N
    have A:=qI (Z.o kids[k] L (I.o _ (List.getElem_mem d)) Ws)
    have hd:=E.o kids[k] (List.getElem_mem d)
    have C:Hid (qM ((kids.take (k+1)).map (zH n))=max (qM ((kids.take k).map (zH n))) (zH n kids[k])):=qI (by rw [xP _ _ _ d,maxL_snoc])
    clear L
    revert A hd C
    generalize zH n kids[k]=D
    generalize qM ((kids.take k).map (zH n))=M
    intro A hd C
    by_cases H:M<D
    ·have p:(M:Int)<D:=by omega
     go_wp2_with (go_at_call 27;refine A.o.mono ?_;rintro e w2 ⟨rfl,j⟩)
     case roundEnd=>
      refine⟨⟨k+1,by go_num,Ws,?_,B.o.then j⟩,by simp [intOf];omega⟩
      rw [C.o,Nat.max_eq_right (Nat.le_of_lt H)]
    ·have p:¬ (M:Int)<D:=by omega
     go_wp2_with (go_at_call 27;refine A.o.mono ?_;rintro e w2 ⟨rfl,j⟩)
     case roundEnd=>
      refine⟨⟨k+1,by go_num,Ws,?_,B.o.then j⟩,by simp [intOf];omega⟩
      rw [C.o,Nat.max_eq_left Ws]
   ·obtain rfl:k=kids.length:=by omega
    rw [List.take_length]
    have K:qM (kids.map (zH n))≤n:=bt.2 (fun x F=>by
     obtain⟨y,Y,rfl⟩:=List.mem_map.1 F
     exact E.o y Y)
    revert K r
    generalize qM (kids.map (zH n))=M
    intro r K
    go_wp2_with fail
    go_ret
    rw [r.o]
    exact⟨by simp;omega,X.o.then B.o⟩
theorem Z4:∀ (n:Nat),bf n
 | 0=>fun v {_}{_}{_} h _ _=>h.elim
 | n+1=>zbu (Z4 n)
theorem depth_any:∀ (n:Nat) (v:V n) {S:Nat→Prop}{w:World}{cs:List Value},Rep n S w cs v→zP n v→n≤100→Calls prog 27 #[.agg cs.toArray] w fun e w'=>e = .returned (.int .i64 (zH n v))∧zb [] w w':=fun n=>Z4 n
def vO (n : Nat) : Prop := ∀ (v : V n) {S : Nat → Prop} {w : World} {cs : List Value}, Rep n S w cs v → zP n v →
    Calls prog 70 #[.agg cs.toArray] w fun e w'=>e = .returned (.int .i64 (zq n v))∧zb [] w w'
theorem zbK {n:Nat}(f:vO n):vO (n+1):=fun (v:VS (V n)) {S}{w}{cs} h hs=>by
  have W:=qI h
  have N:=qI hs
  obtain⟨vl,vm,lcs,mcs,h⟩:=h
  obtain⟨a,c,b,e,rfl,rfl,rfl⟩:=h.forms
  have U:=qI f
  have C:Hid (zq (n+1) v=1+(v.kids.map (zq n)).sum):=qI rfl
  have A:Hid (1+(v.kids.map (zq n)).sum≤20000):=qI hs.1
  have P:=qI (xr w v.kind v.num v.s (.slice a v.l.length c) (.slice b v.m.length e) 25)
  have K:=qI (((zb.refl [] w).alloc (.cells #[.int .i64 v.kind,.int .i64 v.num,.string v.s,.slice a v.l.length c,.slice b v.m.length e] 25)))
  have G:Hid (v.kids.length≤20000):=qI (by have:=hs.few;simp only [VS.kids,List.length_append,List.length_map];omega)
  obtain⟨c0,c1,c2,c3,c4⟩:=P.o
  clear h hs
  have J:=qI (kids_any (W.o.k0 K.o) N.o.few)
  go_enter func70,ntmps70
  go_wp2_with (go_at_call 72;refine J.o.mono ?_;rintro e O ⟨⟨ak,ck,rfl,r⟩,p⟩)
  have B:=qI r
  have R:=qI (K.o.then p)
  clear r p c0 c1 c2 c3 c4 J
  have q:=G.o
  revert B A C G q
  have E:Hid (∀ x,x∈v.kids→zP n x):=qI fun x Q=>N.o.kid Q
  revert E
  generalize v.kids=kids
  intro E C A G B q
  go_loopw [3,5] (fun m i wr=>∃ k:Nat,i = .int .i64 k∧k≤kids.length∧m = .int .i64 (1+((kids.take k).map (zq n)).sum:Nat)∧zb [] O wr) (fun _ i _=>kids.length-(intOf i).toNat)
  case atStart=>exact⟨0,rfl,XB,rfl,Wd⟩
  case round=>
   obtain⟨k,rfl,Z,rfl,t⟩:=hrel
   have z:=qI t
   clear t
   by_cases d:k<kids.length
   ·have L:(k:Int)<kids.length:=by omega
    obtain⟨g,o,cap,kd,nm,st,a1,X,I,q0,Y,q2,q3,q4,H⟩:=(B.o.k0 z.o).at d
    simp only [Value.slice.injEq] at I
    obtain⟨rfl,-,rfl⟩:=I
    have y:=qI (U.o kids[k] H (E.o _ (List.getElem_mem d)))
    have u:Hid (1+((kids.take (k+1)).map (zq n)).sum=(1+((kids.take k).map (zq n)).sum)+zq n kids[k]):=qI (by rw [xP _ _ _ d,List.sum_append];simp;omega)
    have j:(1+((kids.take k).map (zq n)).sum)+zq n kids[k]≤20000:=by
     rw [← u.o]
     have h1:(kids.map (zq n)).sum=((kids.take (k+1)).map (zq n)).sum+((kids.drop (k+1)).map (zq n)).sum:=by
      rw [← List.sum_append,← List.map_append,List.take_append_drop]
     have:=A.o
     omega
    clear H
    revert y j u
    generalize zq n kids[k]=D
    generalize 1+((kids.take k).map (zq n)).sum=M
    intro y u j
    go_wp2_with (go_at_call 70;refine y.o.mono ?_;rintro e w2 ⟨rfl,F⟩)
    case roundEnd=>
     refine⟨⟨k+1,by go_num,Ws,?_,z.o.then F⟩,by simp [intOf];omega⟩
     rw [u.o]
     go_num
   ·obtain rfl:k=kids.length:=by omega
    rw [List.take_length]
    go_wp2_with fail
    go_ret
    rw [C.o]
    exact⟨rfl,R.o.then z.o⟩
theorem Z7:∀ (n:Nat),vO n
 | 0=>fun v {_}{_}{_} h _=>h.elim
 | n+1=>zbK (Z7 n)
theorem count_any:∀ (n:Nat) (v:V n) {S:Nat→Prop}{w:World}{cs:List Value},Rep n S w cs v→zP n v→Calls prog 70 #[.agg cs.toArray] w fun e w'=>e = .returned (.int .i64 (zq n v))∧zb [] w w':=fun n=>Z7 n
theorem J2:∀ (l:List (List UInt8)) (x:List UInt8),zX (l++[x])=if l=[] then x else zX l++44::x
 | [],x=>rfl
 | [a],x=>rfl
 | a::b::t,x=>by
  have ih:=J2 (b::t) x
  rw [if_neg Wz] at ih
  rw [if_neg Wz]
  show a++(44::zX (b::t++[x]))=(a++(44::zX (b::t)))++44::x
  rw [ih]
  simp
theorem leK_of_lt {α:Type}{a b:ByteArray×α}(h:ltB a.1 b.1=true):leK a b=true:=by
 unfold ltB at h;unfold leK
 rw [decide_eq_true_iff] at *
 exact List.le_of_lt h
theorem leK_of_not {α:Type}{a b:ByteArray×α}(h:ltB a.1 b.1=false):leK b a=true:=by
 unfold ltB at h;unfold leK
 rw [decide_eq_true_iff]
 rw [decide_eq_false_iff_not,List.not_lt] at h
 exact h
theorem put_sorted {α:Type}{l:List (ByteArray×α)}{p:ByteArray×α}(i:l.Pairwise (fun x y=>leK x y=true))(r:k≤l.length)(q:∀ j (hj:j<l.length),k≤j→ltB p.1 l[j].1=true)(h2:k=0∨∃ h:k-1<l.length,ltB p.1 (l[k-1]).1=false) : (l.take k++p::l.drop k).Pairwise (fun x y=>leK x y=true):=by
 have hd:l.take k++l.drop k=l:=List.take_append_drop k l
 rw [← hd,List.pairwise_append] at i
 obtain⟨f,n,m⟩:=i
 rw [List.pairwise_append,List.pairwise_cons]
 refine⟨f,⟨?_,n⟩,?_⟩
 ·intro y b
  obtain⟨j,hj,rfl⟩:=List.getElem_of_mem b
  rw [List.length_drop] at hj
  rw [List.getElem_drop]
  exact leK_of_lt (q (k+j) Ws Ws)
 ·intro x d y b
  rcases List.mem_cons.1 b with rfl | b
  ·rcases h2 with rfl | ⟨h,h2⟩
   ·simp at d
   ·have a:leK (l[k-1]) y=true:=leK_of_not h2
    obtain⟨j,hj,rfl⟩:=List.getElem_of_mem d
    rw [List.length_take] at hj
    rw [List.getElem_take]
    by_cases e:j=k-1
    ·subst e;exact a
    ·refine Qt _ _ _ ?_ a
     have:=(List.pairwise_iff_getElem.1 f) j (k-1) (by rw [List.length_take];omega) (by rw [List.length_take];omega) Ws
     simpa using this
  ·exact m x d y b
theorem put_perm {α:Type}(l:List (ByteArray×α))(p:ByteArray×α)(k:Nat):(l.take k++p::l.drop k).Perm (l++[p]):=by
 have a:(l.take k++p::l.drop k).Perm (p::(l.take k++l.drop k)):=List.perm_middle
 rw [List.take_append_drop] at a
 exact a.trans (List.perm_append_singleton p l).symm
def qD (it:Nat→List UInt8)(k:Nat):List UInt8:=zX ((List.range k).map it)
theorem Za (it:Nat→List UInt8):qD it 0=[]:=rfl
theorem zbP (it:Nat→List UInt8):qD it 1=it 0:=rfl
theorem JO (it:Nat→List UInt8)(h:0<k):qD it (k+1)=(qD it k++[44])++it k:=by
 unfold qD
 rw [List.range_succ,List.map_append,List.map_cons,List.map_nil,J2,if_neg (by
  intro e
  have:=congrArg List.length e
  simp at this
  omega)]
 simp
theorem Q8 (it:Nat→List UInt8)(k:Nat):(qD it (k+1)).length=(qD it k).length+(if k=0 then 0 else 1)+(it k).length:=by
 rcases Nat.eq_zero_or_pos k with rfl | h
 ·rw [zbP,Za];simp
 ·rw [JO it h,if_neg Ws]
  simp only [List.length_append,List.length_cons,List.length_nil]
theorem Ku (it:Nat→List UInt8){n:Nat}(h:k≤n):(qD it k).length≤(qD it n).length:=by
 induction n with
 | zero => obtain rfl : k = 0 := by omega
           exact XA
 | succ n ih=>
  by_cases e:k=n+1
  ·subst e;exact XA
  ·have:=ih Ws
   have:=Q8 it n
   omega
theorem preC_all {α:Type}(f:α→List UInt8)(xs:List α):qD (fun k=>(xs.map f).getD k []) xs.length=zX (xs.map f):=by
 unfold qD
 congr 1
 refine List.ext_getElem Wz fun i a h2=>?_
 simp only [List.getElem_map,List.getElem_range]
 simp only [List.length_map,List.length_range] at a
 simp [a]
open Go.Lib (decodeL toLowerU toLowerD mapGoD encodeRune encodeRuneZ caseA caseT lookupIdx CaseRow)
def yW (c:UInt8):Bool:=decide (48≤c.toNat∧c.toNat≤57) || decide (97≤c.toNat∧c.toNat≤102)
def qR (c:UInt8):Bool:=(vB c).isSome
def xY (c:UInt8):UInt8:=if 65≤c.toNat∧c.toNat≤90 then UInt8.ofNat (c.toNat+32) else c
def rowFine (x:CaseRow):Bool:=
 decide ((x.2.1:Int)<128) || (if x.delta 1 > 1114111 then decide (128≤x.1) else
  decide ((0:Int)≤max x.1 128+x.delta 1)&&(decide ((102:Int)<max x.1 128+x.delta 1) || (decide ((57:Int)<max x.1 128+x.delta 1)&&decide ((x.2.1:Int)+x.delta 1<97)) || decide ((x.2.1:Int)+x.delta 1<48)))
theorem rows_fine:caseT.all rowFine=true:=by decide +kernel
theorem lookup_row (T:Array CaseRow)(r:Int):∀ (f lo hi i:Nat),lookupIdx T r f lo hi=some i→((T.getD i (0,0,0,0,0)).1:Int)≤r∧r≤((T.getD i (0,0,0,0,0)).2.1:Int):=by
 intro f
 induction f with
 | zero=>intro lo hi i h;cases h
 | succ f ih=>
  intro lo hi i h
  unfold lookupIdx at h
  split at h
  ·split at h
   ·rename_i hc
    injection h with h
    subst h
    exact hc
   ·split at h
    ·exact ih _ _ _ h
    ·exact ih _ _ _ h
  ·cases h
theorem lower_far (r:Int)(h:128≤r):0≤toLowerU r∧¬ (48≤toLowerU r∧toLowerU r≤57)∧¬ (97≤toLowerU r∧toLowerU r≤102):=by
 unfold toLowerU
 rw [if_neg Ws]
 unfold Lib.toR Lib.lookupGo
 cases f:lookupIdx caseA r (caseA.size+1) 0 caseA.size with
 | none=>
  show 0≤r∧¬ (48≤r∧r≤57)∧¬ (97≤r∧r≤102)
  omega
 | some i=>
  obtain⟨d,h2⟩:=lookup_row caseA r _ _ _ _ f
  show 0≤Lib.convertR 1 r (caseA.getD i (0,0,0,0,0))∧¬ (48≤Lib.convertR 1 r (caseA.getD i (0,0,0,0,0))∧Lib.convertR 1 r (caseA.getD i (0,0,0,0,0))≤57)∧¬ (97≤Lib.convertR 1 r (caseA.getD i (0,0,0,0,0))∧Lib.convertR 1 r (caseA.getD i (0,0,0,0,0))≤102)
  have a:rowFine (caseA.getD i (0,0,0,0,0))=true:=by
   by_cases b:i<caseA.size
   ·have e:caseA.getD i (0,0,0,0,0)=caseA[i]:=by simp [Array.getD,b]
    rw [e]
    exact List.all_eq_true.1 rows_fine _ (by
     have:caseA[i]∈caseA.toList:=Array.getElem_mem_toList b
     exact this)
   ·have e:caseA.getD i (0,0,0,0,0)=(0,0,0,0,0):=by simp [Array.getD,b]
    rw [e] at h2
    have h2:r≤0:=h2
    omega
  revert d h2 a
  generalize caseA.getD i (0,0,0,0,0)=x
  intro d h2 a
  unfold rowFine at a
  unfold Lib.convertR
  split
  ·rename_i hd
   rw [if_pos hd] at a
   simp only [Bool.or_eq_true,decide_eq_true_eq] at a
   omega
  ·rename_i hd
   rw [if_neg hd] at a
   simp only [Bool.or_eq_true,Bool.and_eq_true,decide_eq_true_eq] at a
   omega
theorem byteZ (z:Int)(a:0≤z)(b:z<256):(z.toNat.toUInt8).toNat=z.toNat:=by
 show (UInt8.ofNat z.toNat).toNat=z.toNat
 rw [UInt8.toNat_ofNat'];omega
theorem enc_far (z:Int)(a:0≤z)(d:¬ (48≤z∧z≤57))(h2:¬ (97≤z∧z≤102)):(encodeRune z).all yW=false:=by
 have key:∀ (y:Int) (t:List Int),encodeRuneZ z=y::t→0≤y→y<256→¬ (48≤y∧y≤57)→¬ (97≤y∧y≤102)→(encodeRune z).all yW=false:=by
  intro y t e k0 b f h
  unfold encodeRune
  rw [e,List.map_cons,List.all_cons]
  have:yW y.toNat.toUInt8=false:=by
   unfold yW
   rw [byteZ y k0 b,Bool.or_eq_false_iff]
   exact⟨decide_eq_false Ws,decide_eq_false Ws⟩
  rw [this];rfl
 by_cases c1:z≤127
 ·exact key z [] (Lib.encodeRuneZ_one a c1) a Ws d h2
 by_cases c2:z≤2047
 ·exact key _ _ (Lib.encodeRuneZ_two Ws c2) Ws Ws Ws Ws
 by_cases c3:(2048≤z∧z<55296)∨(57343<z∧z≤65535)
 ·exact key _ _ (Lib.encodeRuneZ_three c3) Ws Ws Ws Ws
 by_cases c4:65536≤z∧z≤1114111
 ·exact key _ _ (Lib.encodeRuneZ_four c4.1 c4.2) Ws Ws Ws Ws
 ·exact key _ _ (Lib.encodeRuneZ_bad Ws) Wo Wo Wo Wo
theorem low_ascii:∀ n:Fin 128,toLowerU (n.val:Int)=((xY (UInt8.ofNat n.val)).toNat:Int)∧yW (xY (UInt8.ofNat n.val))=qR (UInt8.ofNat n.val)∧vB (xY (UInt8.ofNat n.val))=vB (UInt8.ofNat n.val)∧(xY (UInt8.ofNat n.val)).toNat<128:=by decide +kernel
theorem low_byte (b:UInt8)(h:b.toNat<128):toLowerU (b.toNat:Int)=((xY b).toNat:Int)∧yW (xY b)=qR b∧vB (xY b)=vB b∧(xY b).toNat<128:=by
 have:=low_ascii ⟨b.toNat,h⟩
 simp only [UInt8.ofNat_toNat] at this
 exact this
theorem zbq {b:UInt8}(h:128≤b.toNat):qR b=false:=by
 unfold qR vB
 rw [if_neg Ws,if_neg Ws,if_neg Ws]
 rfl
theorem enc_byte (b:UInt8)(h:b.toNat<128):encodeRune (b.toNat:Int)=[b]:=by
 unfold encodeRune
 rw [Lib.encodeRuneZ_one Ws Ws,List.map_cons,List.map_nil]
 congr 1
 show UInt8.ofNat ((b.toNat:Int).toNat)=b
 rw [Int.toNat_natCast,UInt8.ofNat_toNat]
theorem lower_go:∀ (n:Nat) (l:List UInt8),l.length≤n→(mapGoD toLowerU n l).all yW=l.all qR∧(l.all qR=true→mapGoD toLowerU n l=l.map xY):=by
 intro n
 induction n with
 | zero=>
  intro l h
  match l,h with
  | [],_=>exact⟨rfl,fun _=>rfl⟩
 | succ n ih=>
  intro l h
  by_cases a:l=[]
  ·subst a;exact⟨rfl,fun _=>rfl⟩
  unfold mapGoD
  rw [if_neg a]
  by_cases u:(decodeL l).1=65533∧(decodeL l).2=1
  ·obtain⟨d,f,p⟩:=lower_far ((65533:Nat):Int) Wo
   have e:(decodeL l).1=65533:=u.1
   rw [e]
   show ((if 0≤toLowerU ((65533:Nat):Int) then encodeRune (toLowerU ((65533:Nat):Int)) else [])++_).all yW=_∧_
   rw [if_pos (by exact d),List.all_append,enc_far _ d f p,Bool.false_and]
   have r:l.all qR=false:=by
    match l,a with
    | b::t,_=>
     have j:128≤b.toNat:=by
      refine Nat.le_of_not_lt fun hc=>?_
      have:decodeL (b::t)=(b.toNat,1):=by
       rw [qJ]
       unfold Lib.decodeN
       rw [if_pos (show gb (b::t) 0<128 from hc)]
       rfl
      rw [this] at e
      have e:b.toNat=65533:=e
      omega
     rw [List.all_cons,zbq j,Bool.false_and]
   rw [r]
   exact⟨rfl,fun q=>by cases q⟩
  ·have D:=vE a u
   revert D
   generalize (decodeL l).1=c
   generalize (decodeL l).2=k
   intro D
   have B:=D.pos
   have h2:=D.le
   by_cases s:k=1
   ·subst s
    obtain⟨m,i⟩:=D.one rfl
    match l,a with
    | b::t,_=>
     have m:b.toNat<128:=m
     have i:c=b.toNat:=i
     subst i
     obtain⟨v,p2,p3,A⟩:=low_byte b m
     obtain⟨z,x⟩:=ih t (by simp only [List.length_cons] at h;omega)
     rw [v,if_pos Ws,enc_byte _ A]
     show ([xY b]++mapGoD toLowerU n t).all yW=_∧(_→[xY b]++mapGoD toLowerU n t=_)
     rw [List.all_append,List.all_cons,List.all_nil,Bool.and_true,p2,z,List.all_cons]
     refine⟨rfl,fun q=>?_⟩
     rw [Bool.and_eq_true] at q
     rw [x q.2];rfl
   ·have w:=D.high Ws
    have hc:128≤c:=by
     have y:=D.rune
     refine Nat.le_of_not_lt fun hc=>?_
     have:(yo c).length=k:=by rw [y,List.length_take];omega
     rw [qP c D.valid,if_pos hc] at this
     exact s this.symm
    obtain⟨d,f,p⟩:=lower_far (c:Int) Ws
    rw [if_pos d,List.all_append,enc_far _ d f p,Bool.false_and]
    have r:l.all qR=false:=by
     match l,a with
     | b::t,_=>
      have:128≤b.toNat:=w b (by
       match k,B with
       | k+1,_=>rw [List.take_succ_cons];exact List.mem_cons_self ..)
      rw [List.all_cons,zbq this,Bool.false_and]
    rw [r]
    exact⟨rfl,fun q=>by cases q⟩
theorem lower_hex (l:List UInt8):(toLowerD l).all yW=l.all qR∧(l.all qR=true→toLowerD l=l.map xY):=lower_go l.length l (XA)
theorem KE (b:UInt8)(h:qR b=true):vB (xY b)=vB b∧yW (xY b)=true:=by
 have a:b.toNat<128:=Nat.lt_of_not_le fun hc=>by rw [zbq hc] at h;cases h
 obtain⟨_,p2,p3,_⟩:=low_byte b a
 exact⟨p3,by rw [p2];exact h⟩
open Go.Lib
theorem dw_nil {α:Type}(p:α→Bool):∀ (l:List α),l.dropWhile p=[]↔∀ x,x∈l→p x=true
 | []=>by simp
 | a::l=>by
  rw [List.dropWhile_cons]
  by_cases h:p a=true
  ·rw [if_pos h,dw_nil p l]
   simp [h]
  ·rw [if_neg h]
   simp [h]
theorem trimS_nil (l cs:List UInt8):trimS l cs=[]↔l.all (cs.contains ·)=true:=by
 unfold trimS trimLeftS trimRightS
 rw [dw_nil,List.all_eq_true]
 constructor
 ·intro h
  have d:(l.reverse.dropWhile (cs.contains ·))=[]:=by
   rcases Decidable.em ((l.reverse.dropWhile (cs.contains ·))=[]) with h1 | h1
   ·exact h1
   ·have h2:=List.head_dropWhile_not (cs.contains ·) h1
    rw [h _ (by simpa using List.head_mem h1)] at h2
    cases h2
  rw [dw_nil] at d
  exact fun x a=>d x (by simpa using a)
 ·intro h x a
  have b:x∈l.reverse.dropWhile (cs.contains ·):=by simpa using a
  have:=(List.dropWhile_sublist (cs.contains ·)).subset b
  exact h x (by simpa using this)
def kw:List UInt8:=[48,49,50,51,52,53,54,55,56,57,97,98,99,100,101,102]
theorem KR (c:UInt8):UInt8.ofNat c.toNat=c:=Wz
theorem zaK (c:UInt8):kw.contains c=yW c:=by
 have h:∀ n:Fin 256,kw.contains (UInt8.ofNat n.val)=yW (UInt8.ofNat n.val):=by decide +kernel
 have:=h ⟨c.toNat,c.toNat_lt⟩
 simpa [KR] using this
def hv (c:UInt8):Nat:=(vB c).getD 0
theorem xv (c:UInt8)(hc:yW c=true):indexByte kw c=hv c∧hv c<16∧vB c=some (hv c):=by
 have h:∀ n:Fin 256,yW (UInt8.ofNat n.val)=true→indexByte kw (UInt8.ofNat n.val)=hv (UInt8.ofNat n.val)∧hv (UInt8.ofNat n.val)<16∧vB (UInt8.ofNat n.val)=some (hv (UInt8.ofNat n.val)):=by decide +kernel
 have:=h ⟨c.toNat,c.toNat_lt⟩
 simp only [KR] at this
 exact this hc
def xh:List UInt8→List UInt8
 | a::b::r=>UInt8.ofNat (hv a*16+hv b)::xh r
 | _=>[]
theorem ZE:∀ (l:List UInt8),(xh l).length=l.length/2
 | []=>rfl
 | [_]=>by simp [xh]
 | a::b::r=>by
  have:=ZE r
  simp only [xh,List.length_cons]
  omega
def Kj:List UInt8:=[34,92,47,98,102,110,114,116]
def escapedL:List UInt8:=[34,92,47,8,12,10,13,9]
theorem esc_found (y:UInt8):(∃ (k:Nat) (e:UInt8),k<8∧indexByte Kj y=(k:Int)∧escapedL[k]? = some e∧e.toNat<128∧∀ x r,bo (x::y::r)=some ([e],2))∨(indexByte Kj y = -1∧∀ x r,bo (x::y::r)=match jf (x::y::r) with | none=>none | some z=> if z<55296∨57343<z then some (yo z,6) else if 56319<z then none else match jf ((x::y::r).drop 6) with | none=>none | some t=>if 56320≤t∧t≤57343 then some (yo (65536+(z-55296)*1024+(t-56320)),12) else none):=by
 by_cases i:y=34
 ·subst i;exact .inl ⟨0,34,Wo,Wo,rfl,Wo,fun _ _=>rfl⟩
 by_cases j:y=92
 ·subst j;exact .inl ⟨1,92,Wo,Wo,rfl,Wo,fun _ _=>rfl⟩
 by_cases h2:y=47
 ·subst h2;exact .inl ⟨2,47,Wo,Wo,rfl,Wo,fun _ _=>rfl⟩
 by_cases h3:y=98
 ·subst h3;exact .inl ⟨3,8,Wo,Wo,rfl,Wo,fun _ _=>rfl⟩
 by_cases f:y=102
 ·subst f;exact .inl ⟨4,12,Wo,Wo,rfl,Wo,fun _ _=>rfl⟩
 by_cases b:y=110
 ·subst b;exact .inl ⟨5,10,Wo,Wo,rfl,Wo,fun _ _=>rfl⟩
 by_cases h6:y=114
 ·subst h6;exact .inl ⟨6,13,Wo,Wo,rfl,Wo,fun _ _=>rfl⟩
 by_cases d:y=116
 ·subst d;exact .inl ⟨7,9,Wo,Wo,rfl,Wo,fun _ _=>rfl⟩
 refine .inr ⟨?_,fun x r=>?_⟩
 ·have a:∀ v,y≠v→(v == y)=false:=fun v h=>by simpa using fun e:v=y=>h e.symm
  unfold Kj
  simp [indexByte,a 34 i,a 92 j,a 47 h2,a 98 h3,a 102 f,a 110 b,a 114 h6,a 116 d]
 ·conv=>lhs;unfold bo
  simp only
  rw [if_neg i,if_neg j,if_neg h2,if_neg h3,if_neg f,if_neg b,if_neg h6,if_neg d]
  all_goals rfl
theorem four_low (a b c d:UInt8):(∃ n,hex4 a b c d=some n∧n<65536∧toLowerD [a,b,c,d]=[xY a,xY b,xY c,xY d]∧[xY a,xY b,xY c,xY d].all yW=true∧n=(hv (xY a)*16+hv (xY b))*256+(hv (xY c)*16+hv (xY d)))∨(hex4 a b c d=none∧(toLowerD [a,b,c,d]).all yW=false):=by
 obtain⟨j,h2⟩:=lower_hex [a,b,c,d]
 by_cases e:[a,b,c,d].all qR=true
 ·have l:=h2 e
  rw [e,l] at j
  simp only [List.all_cons,List.all_nil,Bool.and_true,Bool.and_eq_true] at e
  obtain⟨h,i,hc,hd⟩:=e
  obtain⟨r,a2⟩:=KE a h
  obtain⟨p,b2⟩:=KE b i
  obtain⟨c1,c2⟩:=KE c hc
  obtain⟨u,s⟩:=KE d hd
  obtain⟨-,v,m⟩:=xv _ a2
  obtain⟨-,b3,t⟩:=xv _ b2
  obtain⟨-,c3,c4⟩:=xv _ c2
  obtain⟨-,w,q⟩:=xv _ s
  refine .inl ⟨_,?_,?_,l,j,rfl⟩
  ·unfold hex4
   rw [← r,← p,← c1,← u,m,t,c4,q]
   simp only [Option.some.injEq]
   omega
  ·omega
 ·refine .inr ⟨?_,by rw [j];simpa using e⟩
  simp only [List.all_cons,List.all_nil,Bool.and_true,Bool.and_eq_true] at e
  unfold hex4
  have f:∀ x:UInt8,¬ qR x=true→vB x=none:=fun x k=>by
   unfold qR at k
   simpa using k
  by_cases h:qR a=true
  ·by_cases i:qR b=true
   ·by_cases hc:qR c=true
    ·have hd:¬ qR d=true:=fun hd=>e ⟨h,i,hc,hd⟩
     rw [f d hd]
     cases vB a <;> cases vB b <;> cases vB c <;> rfl
    ·rw [f c hc]
     cases vB a <;> cases vB b <;> rfl
   ·rw [f b i]
    cases vB a <;> rfl
  ·rw [f a h]
theorem YY:∀ (l:List UInt8) (k:Nat) (h:2*k+1<l.length),∃ h2:k<(xh l).length,(xh l)[k]=UInt8.ofNat (hv l[2*k]*16+hv l[2*k+1])
 | [],k,h=>by simp at h
 | [_],k,h=>by simp at h
 | a::b::r,0,h=>⟨by simp [xh],rfl⟩
 | a::b::r,k+1,h=>by
  obtain⟨h2,h3⟩:=YY r k (by simp only [List.length_cons] at h;omega)
  refine⟨by simp only [xh,List.length_cons];omega,?_⟩
  have d:(a::b::r)[2*(k+1)]=r[2*k]'(by simp only [List.length_cons] at h;omega):=by
   simp only [show 2*(k+1)=2*k+1+1 by omega,List.getElem_cons_succ]
  have e:(a::b::r)[2*(k+1)+1]=r[2*k+1]'(by simp only [List.length_cons] at h;omega):=by
   simp only [show 2*(k+1)+1=2*k+1+1+1 by omega,List.getElem_cons_succ]
  rw [d,e,← h3]
  rfl
def xo (s:ByteArray):Option (List UInt8):=if s.size%2=0∧s.data.toList.all yW=true then some (xh s.data.toList) else none
open Go.Lib (decodeL)
def YU (m:Nat):Prop:=m<55296∨(57344≤m∧m≤1114111)
def Zj (s:List UInt8):Sum Int (List UInt8×Nat):=
 match s with
 | []=>.inl 31
 | c::_=>
  if c.toNat<32 then .inl 31
  else if c=92 then (match bo s with | none=>.inl 31 | some x=>.inr x)
  else if (decodeL s).1=65533∧(decodeL s).2=1 then .inl 30
  else .inr (s.take (decodeL s).2,(decodeL s).2)
theorem unq_part (f:Nat)(s acc:List UInt8)(h:s.head? ≠ some 34):xW (f+1) s acc=match Zj s with | .inl e=>.inl e | .inr (b,n)=>xW f (s.drop n) (acc++b):=by
 cases s with
 | nil=>rfl
 | cons c r=>
  have d:¬ c=34:=fun e=>h (by rw [e];rfl);have i:xW (f+1) (c::r) acc=if c=34 then .inr (acc,r) else if c.toNat<32 then .inl 31 else if c=92 then (match bo (c::r) with | none=>.inl 31 | some (b,n)=>xW f ((c::r).drop n) (acc++b)) else if (decodeL (c::r)).1=65533∧(decodeL (c::r)).2=1 then .inl 30 else xW f ((c::r).drop (decodeL (c::r)).2) (acc++(c::r).take (decodeL (c::r)).2):=rfl;have j:Zj (c::r)=if c.toNat<32 then .inl 31 else if c=92 then (match bo (c::r) with | none=>.inl 31 | some x=>.inr x) else if (decodeL (c::r)).1=65533∧(decodeL (c::r)).2=1 then .inl 30 else .inr ((c::r).take (decodeL (c::r)).2,(decodeL (c::r)).2):=rfl;rw [i,j,if_neg d];by_cases a:c.toNat<32;·rw [if_pos a,if_pos a]
  rw [if_neg a,if_neg a];by_cases h2:c=92
  ·rw [if_pos h2,if_pos h2];cases bo (c::r) with
   | none=>rfl
   | some x=>obtain⟨b,n⟩:=x;rfl
  rw [if_neg h2,if_neg h2];by_cases h3:(decodeL (c::r)).1=65533∧(decodeL (c::r)).2=1;·rw [if_pos h3,if_pos h3]
  ·rw [if_neg h3,if_neg h3]
theorem unq_quoteEnd (f:Nat)(s acc:List UInt8)(h:s.head? = some 34):xW (f+1) s acc = .inr (acc,s.tail):=by
 cases s with
 | nil=>cases h
 | cons c r=>simp only [List.head?_cons,Option.some.injEq] at h;subst h;exact unq_end f r acc
theorem zaS (e:UInt8)(h:e.toNat<128):yo e.toNat=[e]:=by
 rw [qP _ Ws,if_pos h,UInt8.ofNat_toNat]
theorem esc_rune {s:List UInt8}{n:Nat}(h:bo s=some (b,n)):∃ m,YU m∧yo m=b:=by
 match s,h with
 | [],h=>cases h
 | [_],h=>cases h
 | x::y::r,h=>
  rcases esc_found y with ⟨k,e,-,-,-,i,a⟩ | ⟨-,a⟩;·rw [a] at h;injection h with h;injection h with h1 h2;subst h1;exact⟨e.toNat,.inl Ws,zaS e i⟩
  ·rw [a] at h;split at h;·cases h
   ·split at h;·rename_i z d hc;injection h with h;injection h with h1 h2;have:=(jP d).1;exact⟨z,by unfold YU;omega,h1⟩
    split at h;·cases h
    split at h;·cases h
    ·rename_i z d j f t l;split at h;·injection h with h;injection h with h1 h2;exact⟨_,by unfold YU;omega,h1⟩
     ·cases h
theorem part_ok {s:List UInt8}{n:Nat}(h:Zj s = .inr (b,n)):1≤n∧n≤s.length∧b≠[]∧b.length≤n∧∃ m,YU m∧yo m=b:=by
 have d:∀ m,YU m→yo m≠[]:=fun m hm e=>by have:=(km m hm).2.1;rw [e] at this;simp at this
 have a:(1≤n∧n≤s.length∧b.length≤n)→(∃ m,YU m∧yo m=b)→1≤n∧n≤s.length∧b≠[]∧b.length≤n∧∃ m,YU m∧yo m=b:=by rintro ⟨p,a2,l⟩ ⟨m,f,m2⟩;exact⟨p,a2,by rw [← m2];exact d m f,l,m,f,m2⟩
 unfold Zj at h;split at h;·cases h
 ·rename_i c r;split at h;·cases h
  split at h
  ·split at h;·cases h
   ·rename_i x i;injection h with h;subst h;obtain⟨u,t,k,j⟩:=K5 i;exact a ⟨k,j,t⟩ (esc_rune i)
  split at h;·cases h
  ·rename_i q;injection h with h;injection h with h1 h2;subst h1 h2;have D:=vE Wz q;exact a ⟨D.pos,D.le,by rw [List.length_take];omega⟩ ⟨_,D.valid,D.rune⟩
def ZY (s:List UInt8)(k:Nat)(acc:List UInt8):Prop:=(k≤s.length∧acc.length≤k)∧∃ f,(s.drop k).length<f∧xW f (s.drop k) acc=kH s
theorem ZY.start {c:UInt8}{r:List UInt8}(h:c=34):ZY (c::r) 1 []:=by
 subst h;exact⟨⟨Wz,Wz⟩,r.length+1,Wz,by unfold kH;simp⟩
theorem ZY.done {s acc:List UInt8}(h:ZY s k acc)(hd:(s.drop k).head? = some 34):kH s = .inr (acc,s.drop (k+1))∧k+1≤s.length:=by
 obtain⟨b,f,a,h2⟩:=h
 match f,a with
 | f+1,a=>rw [← h2,unq_quoteEnd f _ _ hd,List.tail_drop];refine⟨rfl,?_⟩;refine Nat.lt_of_not_le fun hc=>?_;rw [List.drop_eq_nil_of_le hc] at hd;cases hd
theorem ZY.bad {s acc:List UInt8}(h:ZY s k acc)(hd:(s.drop k).head? ≠ some 34)(hp:Zj (s.drop k) = .inl e):kH s = .inl e:=by
 obtain⟨b,f,a,h2⟩:=h
 match f,a with
 | f+1,a=>rw [← h2,unq_part f _ _ hd,hp]
theorem ZY.next {s acc:List UInt8}{n:Nat}(h:ZY s k acc)(hd:(s.drop k).head? ≠ some 34)(hp:Zj (s.drop k) = .inr (b,n)):ZY s (k+n) (acc++b):=by
 obtain⟨e,f,a,h2⟩:=h;obtain⟨d,p2,-,p3,-⟩:=part_ok hp;rw [List.length_drop] at p2
 match f,a with
 | f+1,a=>
  refine⟨⟨Ws,by rw [List.length_append];omega⟩,f,?_,?_⟩;·rw [List.length_drop] at a ⊢;omega
  ·rw [← h2,unq_part f _ _ hd,hp];show xW f (s.drop (k+n)) (acc++b)=xW f ((s.drop k).drop n) (acc++b);rw [List.drop_drop]
def YV (s:List UInt8)(e:Ending):Prop:=
 match kH s with
 | .inr (t,r)=>∃ k,k≤s.length∧s.drop k=r∧1≤k∧e = .returned (.tuple #[.string (zx t),.int .i64 (k:Nat),.int .i64 0])
 | .inl x=>∃ k,k≤s.length∧e = .returned (.tuple #[.string ⟨#[]⟩,.int .i64 (k:Nat),.int .i64 x])
theorem unqAns_ok {s r:List UInt8}(h:kH s = .inr (t,r))(a:k≤s.length)(h2:s.drop k=r)(h3:1≤k):YV s (.returned (.tuple #[.string (zx t),.int .i64 (k:Nat),.int .i64 0])):=by
 unfold YV;rw [h];exact⟨k,a,h2,h3,rfl⟩
theorem zbN {s:List UInt8}{x:Int}(h:kH s = .inl x)(a:k≤s.length):YV s (.returned (.tuple #[.string ⟨#[]⟩,.int .i64 (k:Nat),.int .i64 x])):=by
 unfold YV;rw [h];exact⟨k,a,rfl⟩
theorem K8:∀ (f:Nat) (s acc:List UInt8) (e:Int),xW f s acc = .inl e→e=30∨e=31
 | 0,_,_,e,h=>by injection h with h;omega
 | f+1,s,acc,e,h=>by
  unfold xW at h;split at h;·injection h with h;omega
  split at h;·cases h
  split at h;·injection h with h;omega
  split at h
  ·split at h;·injection h with h;omega
   ·exact K8 f _ _ e h
  split at h;·injection h with h;omega
  ·exact K8 f _ _ e h
theorem unq_err {s:List UInt8}(h:kH s = .inl e):e=30∨e=31:=by
 unfold kH at h;split at h;·injection h with h;omega
 split at h;·exact K8 _ _ _ _ h
 ·injection h with h;omega
theorem jw (l:List UInt8)(c:UInt8):0≤indexByte l c↔l.contains c=true:=by
 induction l with
 | nil=>simp [indexByte]
 | cons b l ih=>
  unfold indexByte;have a:=indexByte_ge l c;by_cases h:b=c;·subst h;simp
  ·have d:(b == c)=false:=by simpa using h
   have h2:(b::l).contains c=l.contains c:=by
    simp only [List.contains_cons];have:(c == b)=false:=by simpa using fun e:c=b=>h e.symm
    rw [this,Bool.false_or]
   rw [d,h2];simp only [Bool.false_eq_true,if_false];by_cases h3:indexByte l c = -1;·rw [h3] at ih;simp only [h3,beq_self_eq_true,if_true];exact ih
   ·have f:(indexByte l c == -1)=false:=by simpa using h3
    rw [f];simp only [Bool.false_eq_true,if_false];rw [← ih];omega
def blanksL:List UInt8:=[32,9,10,13]
def zaD:List UInt8:=[48,49,50,51,52,53,54,55,56,57]
theorem zbj (c:UInt8):blanksL.contains c=Zt c:=by
 have h:∀ n:Fin 256,blanksL.contains (UInt8.ofNat n.val)=Zt (UInt8.ofNat n.val):=by decide +kernel
 have:=h ⟨c.toNat,c.toNat_lt⟩;simpa [KR] using this
theorem dig_contains (c:UInt8):zaD.contains c=xz c:=by
 have h:∀ n:Fin 256,zaD.contains (UInt8.ofNat n.val)=xz (UInt8.ofNat n.val):=by decide +kernel
 have:=h ⟨c.toNat,c.toNat_lt⟩;simpa [KR] using this
theorem trim_blanks (l:List UInt8):trimLeftS l blanksL=zu l:=by
 unfold trimLeftS zu;congr 1;funext c;exact zbj c
theorem trim_digits (l:List UInt8):trimLeftS l zaD=l.dropWhile xz:=by
 unfold trimLeftS;congr 1;funext c;exact dig_contains c
theorem take_run (l:List UInt8):l.takeWhile xz++l.dropWhile xz=l:=List.takeWhile_append_dropWhile
theorem run_len (l:List UInt8):(l.takeWhile xz).length=l.length-(l.dropWhile xz).length∧(l.dropWhile xz).length≤l.length:=by
 have:=congrArg List.length (take_run l);rw [List.length_append] at this;omega
theorem left_app {α:Type}{a b l:List α}(h:a++b=l):l.take a.length=a∧l.drop a.length=b:=by subst h;simp
theorem run_take (l:List UInt8):l.take (l.takeWhile xz).length=l.takeWhile xz∧l.drop (l.takeWhile xz).length=l.dropWhile xz:=left_app (take_run l)
theorem drop_skip (s:List UInt8)(i:Nat):∃ k,i≤k∧(i≤s.length→k≤s.length)∧s.drop k=zu (s.drop i)∧k=i+((s.drop i).length-(zu (s.drop i)).length)∧(zu (s.drop i)).length≤(s.drop i).length:=by
 have a:(zu (s.drop i)).length≤(s.drop i).length:=(List.dropWhile_sublist _).length_le;refine⟨_,?_,?_,?_,rfl,a⟩;·omega
 ·intro h;rw [List.length_drop] at *;omega
 ·have h:(s.drop i).takeWhile Zt++zu (s.drop i)=s.drop i:=List.takeWhile_append_dropWhile;have h2:=congrArg List.length h;rw [List.length_append] at h2;rw [← List.drop_drop];have e:(s.drop i).length-(zu (s.drop i)).length=((s.drop i).takeWhile Zt).length:=Ws;rw [e];exact (left_app h).2
theorem sum_take (s:List UInt8)(k:Nat)(h:k<s.length):zQ (s.take (k+1))=10*zQ (s.take k)+(s[k].toNat-48):=by
 rw [List.take_succ_eq_append_getElem h];unfold zQ;rw [List.foldl_append];rfl
theorem fold_ge:∀ (s:List UInt8) (a:Nat),a≤s.foldl (fun a c=>10*a+(c.toNat-48)) a
 | [],a=>XA
 | c::s,a=>by have:=fold_ge s (10*a+(c.toNat-48));simp only [List.foldl_cons];omega
theorem sum_mono (s:List UInt8)(k:Nat):zQ (s.take k)≤zQ s:=by
 conv=>rhs;rw [← List.take_append_drop k s]
 unfold zQ;rw [List.foldl_append];exact fold_ge _ _
def js {σ:Type}(step:List UInt8→Nat→σ→Sum Int (σ×List UInt8×Nat))(stop:UInt8):Nat→List UInt8→Nat→σ→Sum Int (σ×List UInt8×Nat)
 | 0,_,_,_=>.inl 50
 | f+1,s,c,acc=>
  match step s c acc with
  | .inl e=>.inl e
  | .inr (acc',r,c')=>if r.head? = some stop then .inr (acc',r.tail,c') else if r.head? = some 44 then js step stop f r.tail c' acc' else .inl 50
def yP {σ:Type}(step:List UInt8→Nat→σ→Sum Int (σ×List UInt8×Nat))(stop:UInt8)(f:Nat)(s:List UInt8)(c:Nat)(acc:σ):Sum Int (σ×List UInt8×Nat):=
 if (zu s).head? = some stop then .inr (acc,(zu s).tail,c) else js step stop f (zu s) c acc
section
variable {α : Type} (sub : List UInt8 → Nat → Sum Int (α × List UInt8 × Nat))
def yq (s:List UInt8)(c:Nat)(acc:List α):Sum Int (List α×List UInt8×Nat):=
 match sub s c with
 | .inl e=>.inl e
 | .inr (v,r,c')=>.inr (acc++[v],r,c')
def yl (s:List UInt8)(c:Nat)(acc:List (ByteArray×α)):Sum Int (List (ByteArray×α)×List UInt8×Nat):=
 match kH (zu s) with
 | .inl e=>.inl e
 | .inr (k,r)=>
  if acc.any (fun p=>decide (p.1=zx k)) then .inl 53
  else if (zu r).head? = some 58 then
   match sub (zu r).tail c with
   | .inl e=>.inl e
   | .inr (v,r,c')=>.inr (acc++[(zx k,v)],r,c')
  else .inl 50
theorem zbJ:∀ (f:Nat) (s:List UInt8) (c:Nat) (acc:List α),ZZ sub f s c acc=js (yq sub) 93 f s c acc
 | 0,_,_,_=>rfl
 | f+1,s,c,acc=>by
  unfold ZZ js;have hs:yq sub s c acc=match sub s c with | .inl e=>.inl e | .inr (v,r,c')=>.inr (acc++[v],r,c'):=rfl
  rw [hs];cases sub s c with
  | inl e=>rfl
  | inr x=>obtain⟨v,r,c'⟩:=x;simp only [zbJ f]
theorem zab:∀ (f:Nat) (s:List UInt8) (c:Nat) (acc:List (ByteArray×α)),bi sub f s c acc=js (yl sub) 125 f s c acc
 | 0,_,_,_=>rfl
 | f+1,s,c,acc=>by
  unfold bi js;have hs:yl sub s c acc=match kH (zu s) with
   | .inl e=>.inl e
   | .inr (k,r)=>
    if acc.any (fun p=>decide (p.1=zx k)) then .inl 53
    else if (zu r).head? = some 58 then
     match sub (zu r).tail c with
     | .inl e=>.inl e
     | .inr (v,r,c')=>.inr (acc++[(zx k,v)],r,c')
    else .inl 50:=rfl
  rw [hs];cases kH (zu s) with
  | inl e=>rfl
  | inr x=>
   obtain⟨k,r⟩:=x;simp only;by_cases a:acc.any (fun p=>decide (p.1=zx k))=true;·rw [if_pos a,if_pos a]
   ·rw [if_neg a,if_neg a];by_cases h2:(zu r).head? = some 58
    ·rw [if_pos h2,if_pos h2];cases sub (zu r).tail c with
     | inl e=>rfl
     | inr y=>obtain⟨v,b,c'⟩:=y;simp only [zab f]
    ·rw [if_neg h2,if_neg h2]
theorem pRead_items (s:List UInt8)(c:Nat)(hd:s.head? = some 91):xA sub s c=match yP (yq sub) 93 (s.length+1) s.tail c [] with | .inl e=>.inl e | .inr (l,r,c')=>.inr (⟨5,0,⟨#[]⟩,l,[]⟩,r,c'):=by
 cases s with
 | nil=>cases hd
 | cons y t=>
  simp only [List.head?_cons,Option.some.injEq] at hd;subst hd;have b:xA sub (91::t) c=if (zu t).head? = some 93 then .inr (leaf 5 0 ⟨#[]⟩,(zu t).tail,c) else match ZZ sub ((91::t).length+1) (zu t) c [] with | .inl e=>.inl e | .inr (l,r,c')=>.inr (⟨5,0,⟨#[]⟩,l,[]⟩,r,c'):=by unfold xA;rw [if_neg (by simp [Zh,List.isPrefixOf]),if_neg (by simp [Zb,List.isPrefixOf]),if_neg (by simp [jY,List.isPrefixOf]),if_neg Wz,if_pos Wz];rfl
  rw [b,zbJ];show _=(match yP (yq sub) 93 ((91::t).length+1) t c [] with | .inl e=>.inl e | .inr (l,r,c')=>.inr (⟨5,0,⟨#[]⟩,l,[]⟩,r,c'):Sum Int (VS α×List UInt8×Nat));by_cases h:(zu t).head? = some 93;·have a:yP (yq sub) 93 ((91::t).length+1) t c []=Sum.inr ([],(zu t).tail,c):=if_pos h;rw [a];exact if_pos h
  ·have a:yP (yq sub) 93 ((91::t).length+1) t c []=js (yq sub) 93 ((91::t).length+1) (zu t) c []:=if_neg h;rw [a];exact if_neg h
theorem pRead_map (s:List UInt8)(c:Nat)(hd:s.head? = some 123):xA sub s c=match yP (yl sub) 125 (s.length+1) s.tail c [] with | .inl e=>.inl e | .inr (l,r,c')=>.inr (⟨6,0,⟨#[]⟩,[],l⟩,r,c'):=by
 cases s with
 | nil=>cases hd
 | cons y t=>
  simp only [List.head?_cons,Option.some.injEq] at hd;subst hd;have b:xA sub (123::t) c=if (zu t).head? = some 125 then .inr (leaf 6 0 ⟨#[]⟩,(zu t).tail,c) else match bi sub ((123::t).length+1) (zu t) c [] with | .inl e=>.inl e | .inr (l,r,c')=>.inr (⟨6,0,⟨#[]⟩,[],l⟩,r,c'):=by unfold xA;rw [if_neg (by simp [Zh,List.isPrefixOf]),if_neg (by simp [Zb,List.isPrefixOf]),if_neg (by simp [jY,List.isPrefixOf]),if_neg Wz,if_neg Wz,if_pos Wz];rfl
  rw [b,zab];show _=(match yP (yl sub) 125 ((123::t).length+1) t c [] with | .inl e=>.inl e | .inr (l,r,c')=>.inr (⟨6,0,⟨#[]⟩,[],l⟩,r,c'):Sum Int (VS α×List UInt8×Nat));by_cases h:(zu t).head? = some 125;·have a:yP (yl sub) 125 ((123::t).length+1) t c []=Sum.inr ([],(zu t).tail,c):=if_pos h;rw [a];exact if_pos h
  ·have a:yP (yl sub) 125 ((123::t).length+1) t c []=js (yl sub) 125 ((123::t).length+1) (zu t) c []:=if_neg h;rw [a];exact if_neg h
end
abbrev PX:=Sum Int (List UInt8×Nat)
def zbk (e:Int):PX→PX | .inl x=>.inl x | .inr _=>.inl e
def jI:PX→List UInt8 | .inl _=>[] | .inr (r,_)=>r
def kL:PX→PX | .inl e=>.inl e | .inr (r,c)=>.inr (zu r,c)
def QY (w:List UInt8):PX→Bool | .inl _=>false | .inr (r,_)=>w.isPrefixOf r
def dropX (n:Nat):PX→PX | .inl e=>.inl e | .inr (r,c)=>.inr (r.drop n,c)
def eatX (w:List UInt8)(x:PX):PX:=if QY w x=true then dropX w.length x else x
def Z3 (w:List UInt8)(x:PX):PX:=if QY w x=true then dropX w.length x else zbk 50 x
def JN:PX→List UInt8 | .inl _=>[] | .inr (r,_)=>match kH r with | .inl _=>[] | .inr (t,_)=>t
def Q6:PX→PX | .inl e=>.inl e | .inr (r,c)=>match kH r with | .inl e=>.inl e | .inr (_,r')=>.inr (r',c)
theorem bA (a:UInt8)(r:List UInt8)(c:Nat):QY [a] (.inr (r,c))=decide (r.head? = some a):=by
 cases r with
 | nil=>rfl
 | cons b t=>
  show List.isPrefixOf [a] (b::t)=_;simp only [List.isPrefixOf,Bool.and_true,List.head?_cons,Option.some.injEq];by_cases h:a=b;·subst h;simp
  ·have:¬ b=a:=fun e=>h e.symm;simp [h,this]
theorem za0 {w:List UInt8}{x:PX}(h:QY w x=true):eatX w x=dropX w.length x:=if_pos h
theorem Km {w:List UInt8}{x:PX}(h:QY w x=false):eatX w x=x:=if_neg (by rw [h];decide)
theorem needX_yes {w:List UInt8}{x:PX}(h:QY w x=true):Z3 w x=dropX w.length x:=if_pos h
theorem Kk {w:List UInt8}{x:PX}(h:QY w x=false):Z3 w x=zbk 50 x:=if_neg (by rw [h];decide)
def numM (r:List UInt8):Bool:=decide (r.head? = some 45)
def jl (r:List UInt8):List UInt8:=if numM r=true then r.tail else r
def jk (r:List UInt8):List UInt8:=(jl r).takeWhile xz
theorem JH (r:List UInt8):jE r=jB (numM r) (jl r):=by
 unfold jE jl numM;by_cases h:r.head? = some 45;·rw [if_pos h,decide_eq_true h,if_pos rfl]
 ·rw [if_neg h,decide_eq_false h,if_neg Wo]
theorem num_none {r:List UInt8}(h:jk r=[]):jE r = .inl 50:=by
 rw [JH];unfold jB;exact if_pos (.inl h)
theorem num_zero {r:List UInt8}(h:jk r=48::t)(h2:numM r=true∨t≠[]):jE r = .inl 50:=by
 rw [JH];unfold jB;refine if_pos (.inr ⟨by show (jk r).head? = _;rw [h];rfl,?_⟩);rcases h2 with h2 | h2
 ·exact .inl h2
 ·refine .inr ?_;show 1<(jk r).length;rw [h,List.length_cons];have:=List.length_pos_iff.2 h2;omega
theorem zbc {r:List UInt8}{d:UInt8}(h:jk r=d::t)(h2:¬ (d=48∧(numM r=true∨t≠[]))) : jE r=if vq ((jl r).drop (jk r).length) [46,101,69]=true then .inl 51 else if 9007199254740991<zQ (jk r) then .inl 52 else .inr (if numM r=true then -(zQ (jk r):Int) else zQ (jk r),(jl r).drop (jk r).length):=by
 rw [JH];unfold jB;refine if_neg ?_;rintro (h3 | ⟨h3,h4⟩);·have a:jk r=[]:=h3;rw [h] at a;cases a
 ·have a:(jk r).head? = some 48:=h3;have b:numM r=true∨1<(jk r).length:=h4;rw [h] at a b;simp only [List.head?_cons,Option.some.injEq] at a;refine h2 ⟨a,?_⟩;rcases b with h4 | h4
  ·exact .inl h4
  ·refine .inr fun e=>?_;rw [e] at h4;simp at h4
theorem numD_dig (r:List UInt8):∀ c,c∈jk r→48≤c.toNat∧c.toNat≤57:=by
 intro c hc;have h:xz c=true:=by have:=List.all_takeWhile (p:=xz) (l:=jl r);exact List.all_eq_true.1 this c hc
 unfold xz at h;simpa using h
def zap {σ:Type}(step:List UInt8→Nat→σ→Sum Int (σ×List UInt8×Nat))(stop:UInt8)(R:Sum Int (σ×List UInt8×Nat))(s:List UInt8)(c:Nat)(acc:σ):Prop:=∃ f,s.length<f∧js step stop f s c acc=R
section
variable {σ : Type} {step : List UInt8 → Nat → σ → Sum Int (σ × List UInt8 × Nat)} {stop : UInt8} {R : Sum Int (σ × List UInt8 × Nat)} {s r : List UInt8} {c c' : Nat} {acc acc' : σ}
theorem zap.bad (h:zap step stop R s c acc){e:Int}(b:step s c acc = .inl e):R = .inl e:=by
 obtain⟨f,a,h2⟩:=h
 match f,a with
 | f+1,a=>rw [← h2];unfold js;rw [b]
theorem zap.done (h:zap step stop R s c acc)(d:step s c acc = .inr (acc',r,c'))(b:r.head? = some stop):R = .inr (acc',r.tail,c'):=by
 obtain⟨f,a,h2⟩:=h
 match f,a with
 | f+1,a=>rw [← h2];unfold js;rw [d];exact if_pos b
theorem zap.next (h:zap step stop R s c acc)(e:step s c acc = .inr (acc',r,c'))(i:r.head? ≠ some stop)(b:r.head? = some 44)(j:r.length≤s.length):zap step stop R r.tail c' acc':=by
 obtain⟨f,d,h2⟩:=h
 match f,d with
 | f+1,d=>
  refine⟨f,?_,?_⟩
  ·cases r with
   | nil=>cases b
   | cons a t=>simp only [List.tail_cons,List.length_cons] at *;omega
  ·rw [← h2];conv=>rhs;unfold js
   rw [e];simp only;rw [if_neg i,if_pos b]
theorem zap.other (h:zap step stop R s c acc)(e:step s c acc = .inr (acc',r,c'))(b:r.head? ≠ some stop)(d:r.head? ≠ some 44):R = .inl 50:=by
 obtain⟨f,a,h2⟩:=h
 match f,a with
 | f+1,a=>rw [← h2];unfold js;rw [e];simp only;rw [if_neg b,if_neg d]
end
theorem zai {s r:List UInt8}{c c':Nat}{v:V d}(h:zy d s c = .inr (v,r,c')):r.length≤s.length∧c'≤4096:=by
 obtain⟨b,h2,h3,a⟩:=ZM d s c v r c' h;exact⟨Ws,h3⟩
theorem listStep_le {s r:List UInt8}{c c':Nat}{acc acc':List (V d)}(h:yq (zy d) s c acc = .inr (acc',r,c')):r.length≤s.length∧c'≤4096:=by
 unfold yq at h;split at h;·cases h
 ·rename_i v a c0 hv;injection h with h;injection h with h1 h2;injection h2 with h2 h3;subst h2;subst h3;exact zai hv
theorem pairStep_le {s r:List UInt8}{c c':Nat}{acc acc':List (ByteArray×V d)}(h:yl (zy d) s c acc = .inr (acc',r,c')):r.length≤s.length∧c'≤4096:=by
 unfold yl at h;split at h;·cases h
 ·rename_i k f b;split at h;·cases h
  split at h
  ·split at h;·cases h
   ·rename_i v l c1 hv;injection h with h;injection h with h1 h2;injection h2 with h2 h3;subst h2;subst h3;obtain⟨e,a⟩:=zai hv;have h6:=(Qm b).2;have i:=kC s;have j:=kC f;rw [List.length_tail] at e;exact⟨Ws,a⟩
  ·cases h
end Go.Proofs.YtjccecajigmfkaaGreatDoor

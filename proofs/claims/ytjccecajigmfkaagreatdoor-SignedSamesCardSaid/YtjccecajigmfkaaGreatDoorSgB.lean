/- Parts of one proof, merged: XLast XQ XJA XLib XOr XCO XMap. -/
import Derived.Test.YtjccecajigmfkaaGreatDoorSgA
import Derived.OrdersHeld
import Derived.Deep.DrawnRows
import Derived.Deep.RegionHeld3
import Derived.BigQuiet
import Derived.Laws.BitsLemmas
import Derived.Outline
import Derived.WalkSpells
import Derived.Lib.AppendZeros
import Derived.RangeFuncNested
import Derived.RangeFuncBound
import Derived.RangeFuncCalls
import Derived.OrdersIn
import Derived.TacticsIn
import Derived.OwnWalkIn
import Derived.Maps.OwnSet
import Derived.StringKeys
set_option linter.all false
set_option maxHeartbeats 12800000
set_option maxRecDepth 10000
namespace Go.Proofs.YtjccecajigmfkaaGreatDoor
open Go.Proofs.Tryz
variable {W:World}{a:Act}{args:Array Value}{f:FuncId}{v:Value}
section
variable {P : Program} {ops : Array Oper} {Q : Exit → Act → World → Prop} {md : Region.Mode} {S : World → Prop} {L : Nat}
def zS (P:Program)(md:Region.Mode)(ops:Array Oper)(Q:Exit→Act→World→Prop)(S:World→Prop)(L:Nat):Nat→Array Bool→Act→World→Prop
 | 0,listed,a,w=>Region.ready md ops listed=[]∧Q .normal a w
 | fuel+1,listed,a,w=>
  (Region.ready md ops listed=[]→Q .normal a w) ∧
  ∀ i∈Region.ready md ops listed,wpOp P ops Q i (fun a' w'=>(i=L∨S w')∧zS P md ops Q S L fuel (listed.setIfInBounds i true) a' w') a w
theorem QJ:∀ (fuel:Nat) (listed:Array Bool) (a:Act) (w:World),zS P md ops Q S L fuel listed a w→wpAny P md ops Q fuel listed a w
 | 0,_,_,_,h=>h
 | fuel+1,_,_,_,h=>⟨h.1,fun i hi=>wpOp_mono (fun a' w' h'=>QJ fuel _ a' w' h'.2) (h.2 i hi)⟩
def zaQ (md:Region.Mode)(ops:Array Oper)(L i:Nat):Bool:=((ops[L]?).map (·.after.any fun e=>Region.binds md e&&e.on == i)).getD false
def late (md:Region.Mode)(ops:Array Oper)(L i:Nat):Bool:=zaQ md ops L i || decide (ops.size≤L)
theorem wpAnyT_first {i:Nat}{t:Oper}{v:Value}(K:ops[i]? = some t)(q:∀ (j:Nat) (o:Oper) cs b,ops[j]? = some o→o.op≠.select cs b)(W:∀ c a w,Q (.panic c) (a.put t.dst v) w→Q (.panic c) a w)(m:late md ops L i=true) : ∀ (fuel:Nat) (listed:Array Bool) (a:Act) (w:World), (∀ j oj,ops[j]? = some oj→j≠i→listed.getD j true=false→(∀ e∈oj.after,Region.binds md e=true→e.on≠i)→t.apart ops oj=true)→i∈Region.ready md ops listed→YieldsIf P ops S t v a→S w→zS P md ops Q S L fuel (listed.setIfInBounds i true) (a.put t.dst v) w→zS P md ops Q S L (fuel+1) listed a w:=by
 intro fuel
 induction fuel with
 | zero=>
  intro listed a w _ u D B H
  refine⟨fun h=>(by rw [h] at u;cases u),fun j E=>?_⟩
  by_cases d:j=i
  ·subst d;exact D.wpOp K B ⟨.inr B,H⟩
  ·have:=ready_mono E d
   rw [H.1] at this
   cases this
 | succ fuel ih=>
  intro listed a w l u D B H
  refine⟨fun h=>(by rw [h] at u;cases u),fun j E=>?_⟩
  by_cases d:j=i
  ·subst d;exact D.wpOp K B ⟨.inr B,H⟩
  ·have n:=H.2 j (ready_mono E d)
   obtain⟨s,oj,f,z⟩:=mem_ready.1 E
   have r:∀ e∈oj.after,Region.binds md e=true→e.on≠i:=fun e I x M=>by
    have n:=z e I x
    have O:=(mem_ready.1 u).1
    rw [M] at n
    rcases Nat.lt_or_ge i listed.size with h' | h'
    ·simp [h'] at O n;rw [O] at n;cases n
    ·simp [Array.getElem?_eq_none h'] at n
   have J:j≠L:=by
    intro e
    subst e
    unfold late at m
    rw [Bool.or_eq_true] at m
    rcases m with m | m
    rotate_left
    ·have n:ops.size≤j:=by simpa using m
     rw [Array.getElem?_eq_none n] at f
     cases f
    unfold zaQ at m
    rw [f] at m
    simp only [Option.map_some,Option.getD_some,Array.any_eq_true'] at m
    obtain⟨e,I,x⟩:=m
    simp only [Bool.and_eq_true,beq_iff_eq] at x
    exact r e I x.1 x.2
   have h2:=wpOp_putIf f (l j oj f d s r) (fun cs b=>q i t cs b K) (fun cs b=>q j oj cs b f) W D n
   have p:∀ k ok,ops[k]? = some ok→k≠i→(listed.setIfInBounds j true).getD k true=false →
     (∀ e∈ok.after,Region.binds md e=true→e.on≠i)→t.apart ops ok=true:=fun k ok U F A G=>by
    refine l k ok U F ?_ G
    by_cases C:j=k
    ·subst C;exact s
    ·rw [getD_set_ne true C] at A;exact A
   refine wpOp_mono (fun R N h3=>?_) h2
   have y:S N:=by
    rcases h3.2.1 with g | g
    ·exact absurd g J
    ·exact g
   refine⟨.inr y,ih (listed.setIfInBounds j true) R N p (ready_mono u (Ne.symm d)) h3.1 y ?_⟩
   rw [Array.setIfInBounds_comm _ _ d]
   exact h3.2.2
theorem wpAnyT_take {i:Nat}{e:Oper}{v:Value}{d:Nat}{b:Array Bool}{a:Act}{w:World}(f:ops[i]? = some e)(j:Region.noSelect ops=true)(k:Region.free md ops b i=true)(m:(Region.ready md ops b).contains i=true)(n:late md ops L i=true)(q:∀ c a w,Q (.panic c) (a.put e.dst v) w→Q (.panic c) a w)(p:YieldsIf P ops S e v a)(l:S w)(h:zS P md ops Q S L d (b.setIfInBounds i true) (a.put e.dst v) w):zS P md ops Q S L (d+1) b a w:=
 wpAnyT_first f (Region.noSelect_spec j) q n d b a w (Region.free_spec f k) (by simpa using m) p l h
theorem wpAnyT_one {i:Nat}{e:Oper}{d:Nat}{b:Array Bool}{a:Act}{w:World}(n:ops[i]? = some e)(f:Region.ready md ops b=[i])(l:Region.wanted e (yielded ops a.tmps)=true)(h:∀ K:Act→World→Prop,(∀ a' w',(i=L∨S w')→zS P md ops Q S L d (b.setIfInBounds i true) a' w'→K a' w')→e.wp P a w K Q):zS P md ops Q S L (d+1) b a w:=by
 refine⟨fun k=>(by rw [f] at k;cases k),?_⟩
 rw [f]
 intro j m
 have:j=i:=by simpa using m
 subst this
 unfold wpOp
 rw [n]
 simp only
 rw [if_pos l]
 exact .inl (h _ fun a' w' p h2=>⟨p,h2⟩)
theorem wpAnyT_done {listed:Array Bool}{a:Act}{w:World}(hr:Region.ready md ops listed=[])(h:Q .normal a w) :
  ∀ fuel,zS P md ops Q S L fuel listed a w
 | 0=>⟨hr,h⟩
 | _+1=>⟨fun _=>h,by rw [hr];simp⟩
theorem za3 {id:Nat}{a:Act}{w:World}(S:World→Prop)(L:Nat)(hm:P.follows .mixedOrders=true)(h:zS P .any ops Q S L ops.size (Array.replicate ops.size false) a { w with drawn:=w.drawn+1 }):(Code.region id ops true).wp P Q a w:=
 wp_region_any hm (QJ _ _ _ _ h)
theorem zt {id n:Nat}{a:Act}{w:World}(S:World→Prop)(L:Nat)(b:ops.size=n)(hm:P.follows .mixedOrders=true)(h:zS P .any ops Q S L n (Array.replicate n false) a { w with drawn:=w.drawn+1 }):(Code.region id ops true).wp P Q a w:=by
 subst b
 exact za3 S L hm h
theorem zF {d:Nat}{b:Array Bool}{a:Act}{w:World}(h:∀ O R,O=ops→R=Q→zS P md O R S L d b a w):zS P md ops Q S L d b a w:=h _ _ rfl rfl
theorem zV {O:Array Oper}{i dst:Nat}{f:Oper}{v:Value}{e:Nat}{b:Array Bool}{a:Act}{w:World}(q:O=ops)(m:ops[i]? = some f)(hd:f.dst=some dst)(j:Region.noSelect ops=true)(l:Region.free md ops b i=true)(n:(Region.ready md ops b).contains i=true)(p:late md ops L i=true)(s:∀ c a (d:Nat) v w,Q (.panic c) (a.put (some d) v) w→Q (.panic c) a w)(r:YieldsIf P ops S f v a)(k:S w)(h:zS P md O Q S L e (b.setIfInBounds i true) (a.put (some dst) v) w):zS P md O Q S L (e+1) b a w:=by
 subst q
 exact wpAnyT_take m j l n p (fun c a w h=>s c a dst v w (by rw [hd] at h;exact h)) r k (by rw [hd];exact h)
theorem wpAnyT_one' {O:Array Oper}{i:Nat}{e:Oper}{d:Nat}{b:Array Bool}{a:Act}{w:World}(k:O=ops)(l:ops[i]? = some e)(f:Region.ready md ops b=[i])(j:Region.wanted e (yielded ops a.tmps)=true)(h:∀ K:Act→World→Prop,(∀ a' w',(i=L∨S w')→zS P md O Q S L d (b.setIfInBounds i true) a' w'→K a' w')→e.wp P a w K Q):zS P md O Q S L (d+1) b a w:=by
 subst k
 exact wpAnyT_one l f j h
theorem qT (i:Nat)(v:Value){O:Array Oper}{dst:Nat}{j:Oper}{e:Nat}{b:Array Bool}{a:Act}{w:World}(m:O=ops)(l:ops[i]? = some j)(hd:j.dst=some dst)(f:(Region.noSelect ops&&(Region.free md ops b i&&((Region.ready md ops b).contains i&&(late md ops L i&&Region.wanted j (yielded ops a.tmps)))))=true)(p:∀ c a (d:Nat) v w,Q (.panic c) (a.put (some d) v) w→Q (.panic c) a w)(n:∀ w,S w→(execOp a.eval j).run P w = .ok (.value v) w)(k:S w)(h:zS P md O Q S L e (b.setIfInBounds i true) (a.put (some dst) v) w):zS P md O Q S L (e+1) b a w:=by
 simp only [Bool.and_eq_true] at f
 exact zV m l hd f.1 f.2.1 f.2.2.1 f.2.2.2.1 p (.inl ⟨f.2.2.2.2,n⟩) k h
theorem qO (i:Nat){O:Array Oper}{f:Oper}{d:Nat}{b:Array Bool}{a:Act}{w:World}(j:O=ops)(k:ops[i]? = some f)(e:((Region.ready md ops b == [i])&&Region.wanted f (yielded ops a.tmps))=true)(h:∀ K:Act→World→Prop,(∀ a' w',(i=L∨S w')→zS P md O Q S L d (b.setIfInBounds i true) a' w'→K a' w')→f.wp P a w K Q):zS P md O Q S L (d+1) b a w:=by
 rw [Bool.and_eq_true,beq_iff_eq] at e
 exact wpAnyT_one' j k e.1 e.2 h
theorem zz {O:Array Oper}{b:Array Bool}{a:Act}{w:World}(f:O=ops)(e:Region.ready md ops b=[])(h:Q .normal a w)(d:Nat):zS P md O Q S L d b a w:=by
 subst f
 exact wpAnyT_done e h d
end
structure Ext (W:World) where
 w:World
 k:zb [] W w
instance extInh (W:World):Nonempty (Ext W):=⟨⟨W,Wd⟩⟩
theorem yg {P:Program}{id:Nat}{Q:Exit→Act→World→Prop}{w:World}{l:List Oper}(W:World)(hm:P.follows .mixedOrders=true)(b:Region.lexB .any l.toArray=true)(d:zb [] W w)(h:wpQuiet P l.toArray (fun w'=>∃ z:Ext W,w'=z.w) (fun a'=>∀ w',zb [] W w'→Q .normal a' w') l a):(Code.region id l.toArray true).wp P Q a w:=
 wp_region_quiet (C:=fun w'=>∃ z:Ext W,w'=z.w) hm b ⟨⟨_,d.drew⟩,rfl⟩ (by
  have e:(fun a':Act=>∀ w',(∃ z:Ext W,w'=z.w)→Q .normal a' w')=fun a'=>∀ w',zb [] W w'→Q .normal a' w':=funext fun a'=>propext ⟨fun h w' k=>h w' ⟨⟨w',k⟩,rfl⟩,fun h w' ⟨z,e⟩=>e ▸ h z.w z.k⟩
  rw [e]
  simpa using h)
theorem zv {p:Addr}(h:W.cell? p=some v):∀ z:Ext W,z.w.cell? p=some v:=fun z=>z.k.cell h Wz
theorem JU {P:Program}{z:Ext W}(h:Calls P f args z.w fun e w'=>e = .returned v∧zb [] z.w w') : Calls P f args z.w fun e w''=>e = .returned v∧∃ z':Ext W,w''=z'.w:=
 h.mono fun _ _ ⟨h1,h2⟩=>⟨h1,⟨_,z.k.trans' h2⟩,rfl⟩
theorem ext_same {P:Program}{z:Ext W}(h:Calls P f args z.w fun e w'=>e = .returned v∧z.w=w') : Calls P f args z.w fun e w''=>e = .returned v∧∃ z':Ext W,w''=z'.w:=
 h.mono fun _ _ ⟨h1,h2⟩=>⟨h1,z,h2.symm⟩
open Go.RowKit
def Kl (up down:Int)(x:Int):Int:=bits .or .u32 (x*up%4294967296) (x/down)
def vZ (k up down:Int):Prop:=(k=2∧up=1073741824∧down=4)∨(k=6∧up=67108864∧down=64)∨(k=7∧up=33554432∧down=128)∨(k=11∧up=2097152∧down=2048)∨(k=13∧up=524288∧down=8192)∨(k=17∧up=32768∧down=131072)∨(k=18∧up=16384∧down=262144)∨(k=19∧up=8192∧down=524288)∨(k=22∧up=1024∧down=4194304)∨(k=25∧up=128∧down=33554432)
theorem rotl_any (w:World)(x:Int)(k:Int)(up a:Int)(h:vZ k up a) : zJ w 253 #[.int .u32 x,.int .i64 (-k)] (.int .u32 (Kl up a x)):=by
 unfold vZ at h
 have n:bits BinOp.and IntKind.u64 (IntKind.u64.wrap (-2)) 31=30:=Wr
 have m:bits BinOp.and IntKind.u64 (IntKind.u64.wrap (-6)) 31=26:=Wr
 have p:bits BinOp.and IntKind.u64 (IntKind.u64.wrap (-7)) 31=25:=Wr
 have l:bits BinOp.and IntKind.u64 (IntKind.u64.wrap (-11)) 31=21:=Wr
 have e:bits BinOp.and IntKind.u64 (IntKind.u64.wrap (-13)) 31=19:=Wr
 have i:bits BinOp.and IntKind.u64 (IntKind.u64.wrap (-17)) 31=15:=Wr
 have f:bits BinOp.and IntKind.u64 (IntKind.u64.wrap (-18)) 31=14:=Wr
 have b:bits BinOp.and IntKind.u64 (IntKind.u64.wrap (-19)) 31=13:=Wr
 have j:bits BinOp.and IntKind.u64 (IntKind.u64.wrap (-22)) 31=10:=Wr
 have d:bits BinOp.and IntKind.u64 (IntKind.u64.wrap (-25)) 31=7:=Wr
 rcases h with ⟨rfl,rfl,rfl⟩ | ⟨rfl,rfl,rfl⟩ | ⟨rfl,rfl,rfl⟩ | ⟨rfl,rfl,rfl⟩ | ⟨rfl,rfl,rfl⟩ | ⟨rfl,rfl,rfl⟩ | ⟨rfl,rfl,rfl⟩ | ⟨rfl,rfl,rfl⟩ | ⟨rfl,rfl,rfl⟩ | ⟨rfl,rfl,rfl⟩
 all_goals
  go_enter func253,ntmps253
  go_wp2_with fail
  go_ret
  exact⟨by simp [Kl],Wd⟩
theorem jc (w:World)(x:Int)(k:Int)(up a:Int)(h:vZ k up a) : zJ w 235 #[.int .u32 x,.int .i64 k] (.int .u32 (Kl up a x)):=by
 have b:=qI (rotl_any w x k up a h)
 unfold vZ at h
 rcases h with ⟨rfl,rfl,rfl⟩ | ⟨rfl,rfl,rfl⟩ | ⟨rfl,rfl,rfl⟩ | ⟨rfl,rfl,rfl⟩ | ⟨rfl,rfl,rfl⟩ | ⟨rfl,rfl,rfl⟩ | ⟨rfl,rfl,rfl⟩ | ⟨rfl,rfl,rfl⟩ | ⟨rfl,rfl,rfl⟩ | ⟨rfl,rfl,rfl⟩
 all_goals
  go_enter func235,ntmps235
  go_wp2_with fail
  refine b.o.mono ?_
  rintro e f ⟨rfl,d⟩
  go_wp2_with fail
  go_ret
  exact⟨rfl,d⟩
theorem vC:xG prog 32 5 1 1 (.int .u8 0):=⟨underlying32,Wr,rfl,Wo⟩
def qs (w w':World)(v:Value)(l:List UInt8):Prop:=zp w' v l∧∀ g,yx v=some g→w.heap.size≤g∧kind w' g=5+2
theorem kQ {w a:World}{n:Nat}{l:List UInt8}(h:a.ownsRow w.heap.size 5 1 v n (l.map bv)):qs w a v l:=by
 have d:l.length=n:=by have:=h.1;simpa using this
 subst d
 exact⟨Slc.of_row h,fun g b=>⟨(h.lt g (yI b)).1,yA h (yI b)⟩⟩
@[go_sem] theorem eqlNilBytes (w:World)(a:Option Addr)(n c:Nat):(binOp .eql 32 (.slice a n c) (.slice none 0 0)).run prog w = .ok (.bool a.isNone) w:=Lib.run_eql_slice_nil w _ _ a n c 0 0 underlying32
theorem bj (v:Value)(l:List UInt8)(w:World)(h:zp w v l)(p:l.length≤lim) : Calls prog 45 #[v] w fun e w'=>∃ v',e = .returned v'∧qs w w' v' l∧zb [] w w':=by
 rcases h.2 with ⟨rfl,j⟩ | h2
 ·have:l=[]:=List.eq_nil_of_length_eq_zero j
  subst this
  go_enter func45,ntmps45
  go_wp2
  go_ret
  exact⟨_,rfl,⟨xX _ _,by simp [yx]⟩,Wd⟩
 ·obtain⟨k,cap,rfl⟩:∃ k cap,v = .slice (some k) l.length cap:=by
   rcases h2 with ⟨j,a,c,rfl,_⟩ | ⟨g,o,c,rfl,_⟩
   ·exact⟨a,c,by rw [j]⟩
   ·exact⟨_,_,rfl⟩
  have m:=(zb.refl [] w).alloc (.cells #[] 5)
  have d:=World.ownsRow_made (base:=w.heap.size) (size:=1) (e:=5) w #[] 0 (XA) Wo rfl
  have f:=h.k0 m
  go_enter func45,ntmps45
  go_wp2_with (at_builtin;refine zG vC d f (qE l) (by simp only [maxLen,lim] at *;omega) (by simp only [lim] at *;omega) Wz rfl _ _ rfl rfl rfl ?_;intro v' q b i _ n)
  go_ret
  exact⟨_,rfl,kQ (by simpa using b),m.trans i (by simp [Value.ownBlock])⟩
theorem grow_any (n:Nat)(w:World)(k:n≤lim) : Calls prog 233 #[.slice none 0 0,.int .i64 n] w fun e w'=>∃ v',e = .returned v'∧w'.ownsRow w.heap.size 5 1 v' 0 []∧zb [] w w':=by
 obtain⟨i,q,p,s,m⟩:=info_parts vC.info
 by_cases t:0<n
 ·have a:=Lib.run_append_nil_zeros w 32 3 32 5 i (.int .u8 0) .i64 .i64 underlying32 underlying3 q p n t Ws (by simp only [lim] at k;omega) (by simp only [lim] at k;rw [m];omega)
  have h:=grownCap_ge w n 0 5
  have b:=grownCap_le_maxLen w n 0 5 (by simp only [lim,maxLen] at *;omega)
  have d:(Builtin.zeroCells (Value.int IntKind.u8 0).cells n++Builtin.zeroCells (Value.int IntKind.u8 0).cells (grownCap w n 0 5-n)).size=grownCap w n 0 5*1:=by
   simp only [Array.size_append,size_zeroCells];simp [Value.cells];omega
  revert a h b d
  generalize grownCap w n 0 5=cap
  generalize (Builtin.zeroCells (Value.int IntKind.u8 0).cells n++Builtin.zeroCells (Value.int IntKind.u8 0).cells (cap-n))=cs
  intro a h b d
  have f:=qI b
  have j:=qI d
  have r:(n:Int)≤140737488351232:=by simp only [lim] at k;omega
  have l:=qI a
  clear b d k q p s m a
  go_enter func233,ntmps233
  go_wp2_with (at_builtin;refine Lib.wpList_append_run _ rfl _ _ _ _ rfl _ _ rfl rfl _ _ l.o ?_)
  go_ret
  refine⟨_,rfl,⟨rfl,.inr ⟨w.heap.size,cap,cs,rfl,XA,heap_alloc_new w.drew _,XB,f.o,j.o,Wz⟩⟩,((zb.refl _ w).drew).alloc _⟩
 ·obtain rfl:n=0:=by omega
  go_enter func233,ntmps233
  go_wp2
  go_ret
  exact⟨_,rfl,World.ownsRow_nil _ _ _ _,Wd⟩
theorem zaM (g o cap:Nat)(a:List Value)(b:List (List UInt8))(w:World)(u:Row w g o a)(n:zM (zp w) a b)(p:b.flatten.length≤lim)(J:a.length≤lim) : Calls prog 187 #[.slice (some ⟨g,o,none⟩) a.length cap] w fun e w'=>∃ v',e = .returned v'∧qs w w' v' b.flatten∧zb [] w w':=by
 have Z:a.length≤140737488351232:=by simpa only [lim] using J
 have E:∀ j,(b.take j).flatten.length≤140737488351232:=fun j=>by have:=vF b j;simp only [lim] at p;omega
 have t:=n.1
 have r:=qI E
 have m:=qI t
 have P:=qI p
 clear J E t p
 go_enter func187,ntmps187
 go_wp2_with fail
 go_loop [3,11] (fun s i=>∃ k:Nat,k≤a.length∧i = .int .i64 k∧s = .int .i64 (b.take k).flatten.length) (fun _ i=>a.length-(intOf i).toNat)
 case atStart=>exact⟨0,XB,rfl,Wz⟩
 case round=>
  obtain⟨k,J,rfl,rfl⟩:=hrel
  by_cases h:k<a.length
  ·have d:k<b.length:=by rw [← m.o];exact h
   have hc:=u.at h
   have G:=n.2 k a[k] b[k] (by simp [h]) (by simp [d])
   have X:=qI G
   obtain⟨a1,c1,hv,-,-⟩:=G.form
   rw [hv] at hc
   have x:=qI (qr b k d)
   have D:=r.o k
   have B:=r.o (k+1)
   have R:(b.take k).flatten.length+b[k].length≤140737488351232:=by rw [x.o,List.length_append] at B;exact B
   clear G hv B
   revert D R x
   generalize H:(b.take k).flatten.length=n1
   generalize F:b[k].length=n2 at hc ⊢
   intro x D R
   have M:=qI H
   have O:=qI F
   clear H F
   go_wp2_with fail
   go_round
   case rel=>
    refine⟨k+1,Ws,by go_num,?_⟩
    rw [x.o,List.length_append,M.o,O.o]
    go_num
   case measure=>simp [intOf];omega
  ·obtain rfl:k=a.length:=by omega
   have C:b.take a.length=b:=by rw [m.o];exact List.take_length
   rw [C]
   have l0:=r.o a.length
   rw [C] at l0
   clear C
   revert l0
   generalize Q:b.flatten.length=N
   intro l0
   have HN:=qI Q
   clear Q
   have I:N≤lim:=by simp only [lim];exact l0
   have U:=grow_any N w I
   have W:=qI U
   clear U I
   go_wp2_with (go_at_call 233;refine W.o.mono ?_;rintro e w1 ⟨v1,rfl,z,K⟩)
   clear W
   go_loopw [6,27] (fun v i wr=>∃ k:Nat,k≤a.length∧i = .int .i64 k∧wr.ownsRow w.heap.size 5 1 v (b.take k).flatten.length ((b.take k).flatten.map bv)∧zb [] w wr) (fun _ i _=>a.length-(intOf i).toNat)
   case atStart=>exact⟨0,XB,rfl,by simpa using z,K⟩
   case round=>
    obtain⟨k,J,rfl,f,q⟩:=hrel
    by_cases h:k<a.length
    ·have d:k<b.length:=by rw [← m.o];exact h
     have hc:=(u.kept q Wz).at h
     have G:=(n.2 k a[k] b[k] (by simp [h]) (by simp [d])).k0 q
     have x:=qI (qr b k d)
     have D:=r.o (k+1)
     rw [x.o,List.length_append] at D
     have B:=qI D
     clear D
     have y:=q.size
     have l:=qI f
     clear f
     go_wp2_with (at_builtin;refine zG vC l.o G (qE _) (by have:=B.o;simp only [maxLen];omega) (XC B.o) y rfl _ _ rfl rfl rfl ?_;intro v' w2 A L _ aa)
     go_roundw
     case rel=>
      refine⟨k+1,Ws,by go_num,?_,q.trans L ?_⟩
      ·rw [x.o,List.length_append,List.map_append];exact A
      ·intro i Y
       exact .inr ((World.ownsRow.lt l.o i (XD Y)).1)
     case measure=>simp [intOf];omega
    ·obtain rfl:k=a.length:=by omega
     have C:b.take a.length=b:=by rw [m.o];exact List.take_length
     rw [C] at f
     have l:=qI f
     clear f C
     go_wp2
     go_ret
     exact⟨_,rfl,kQ l.o,q⟩
theorem concat2 (g cap:Nat)(h v2:Value)(d f:List UInt8)(w:World)(a:Row w g 0 [h,v2])(i:zp w h d)(h2:zp w v2 f)(b:d.length+f.length≤lim) : Calls prog 187 #[.slice (some ⟨g,0,none⟩) 2 cap] w fun e w'=>∃ v',e = .returned v'∧qs w w' v' (d++f)∧zb [] w w':=by
 have:=zaM g 0 cap [h,v2] [d,f] w a ((zM.nil _).cons h2 |>.cons i) (by simpa using b) (by simp [lim])
 simpa using this
theorem concat3 (g cap:Nat)(h v2 v3:Value)(d f b:List UInt8)(w:World)(a:Row w g 0 [h,v2,v3])(j:zp w h d)(h2:zp w v2 f)(h3:zp w v3 b)(i:d.length+f.length+b.length≤lim) : Calls prog 187 #[.slice (some ⟨g,0,none⟩) 3 cap] w fun e w'=>∃ v',e = .returned v'∧qs w w' v' (d++(f++b))∧zb [] w w':=by
 have:=zaM g 0 cap [h,v2,v3] [d,f,b] w a ((zM.nil _).cons h3 |>.cons h2 |>.cons j) (by simp;omega) (by simp [lim])
 simpa using this
theorem Kv (w:World)(xs:List Value)(t:Nat):Row (w.alloc (.cells xs.toArray t)) w.heap.size 0 xs:=by
 refine⟨?_,Wz⟩
 intro j u a
 rw [Nat.zero_add,cell_of_row _ w.heap.size j xs.toArray t (0,0) (heap_alloc_new w _)]
 simpa using a
structure kM (R:World→World→Prop) where
 p:Value→Nat×Nat→World→Prop
 st:∀ v b w w',p v b w→R w w'→p v b w'
def kM.is {R:World→World→Prop}(v:Value):kM R:=⟨fun u _ _=>u=v,fun _ _ _ _ h _=>h⟩
def kM.any {R:World→World→Prop}:kM R:=⟨fun _ _ _=>True,fun _ _ _ _ h _=>h⟩
def kV {R:World→World→Prop}(fs:List (kM R))(i:Nat):kM R:=fs.getD i kM.any
def bJ:List (Option Nat)→Nat→(Nat→Value)→Act→Act
 | [],_,_,a=>a
 | d::ds,k,x,a=>bJ ds (k+1) x (a.put d (x k))
def Zm (a:Act):Option Nat→Value
 | some d=>a.tmps.getD d undef
 | none=>undef
def kT (ops:Array Oper)(k j:Nat):Bool:=((ops[k]?).map (·.after.any fun e=>Region.binds .any e&&e.on == j)).getD false
def YA (ops:Array Oper)(k:Nat):Bool:=((ops[k]?).map (·.after.all fun e=>!Region.binds .any e || decide (e.on<k))).getD false
def Zv:List (Option Nat)→Bool
 | []=>true
 | none::l=>Zv l
 | some d::l=>!l.contains (some d)&&Zv l
def ordB (ops:Array Oper)(L n:Nat):Bool:=
 decide (L<ops.size)&&(List.range ops.size).all (YA ops)&&(List.range L).all (fun j=>(List.range (L+1)).any (fun k=>decide (j<k)&&kT ops k j))&&Zv (ops.toList.map (·.dst)) &&
  (ops.toList.map (·.dst)).all (fun d=>d.all (fun d=>decide (d<n)))&&(List.range ops.size).all (fun k=>decide (k≤L) || kT ops k (k-1))
theorem bG:∀ {l:List (Option Nat)},Zv l=true→∀ (i j:Nat) (d:Nat),l[i]? = some (some d)→l[j]? = some (some d)→i=j
 | [],_,i,_,_,h,_=>by simp at h
 | none::l,h,i,j,d,hi,hj=>by
  cases i with
  | zero=>simp at hi
  | succ i=>
   cases j with
   | zero=>simp at hj
   | succ j=>rw [bG (l:=l) h i j d (by simpa using hi) (by simpa using hj)]
 | some e::l,h,i,j,d,hi,hj=>by
  simp only [Zv,Bool.and_eq_true,Bool.not_eq_true',List.contains_eq_mem,decide_eq_false_iff_not] at h
  cases i with
  | zero=>
   cases j with
   | zero=>rfl
   | succ j=>
    simp only [List.getElem?_cons_zero,Option.some.injEq] at hi
    subst hi
    exact absurd (List.mem_of_getElem? (by simpa using hj)) h.1
  | succ i=>
   cases j with
   | zero=>
    simp only [List.getElem?_cons_zero,Option.some.injEq] at hj
    subst hj
    exact absurd (List.mem_of_getElem? (by simpa using hi)) h.1
   | succ j=>rw [bG (l:=l) h.2 i j d (by simpa using hi) (by simpa using hj)]
theorem Zn (a:Act)(d t:Nat)(v:Value)(hd:d<a.tmps.size):(a.put (some d) v).tmps.getD t undef=if t=d then v else a.tmps.getD t undef:=by
 simp only [Act.put,Array.getD_eq_getD_getElem?,Array.getElem?_setIfInBounds]
 by_cases h:d=t
 ·subst h;simp [hd]
 ·rw [if_neg h,if_neg (Ne.symm h)]
theorem puts_size:∀ (ds:List (Option Nat)) (k:Nat) (x:Nat→Value) (a:Act),(bJ ds k x a).tmps.size=a.tmps.size
 | [],_,_,_=>rfl
 | d::ds,k,x,a=>by
  rw [bJ,puts_size ds]
  cases d <;> simp [Act.put]
theorem JZ:∀ (ds:List (Option Nat)) (k:Nat) (x:Nat→Value) (a:Act),(bJ ds k x a).defers=a.defers
 | [],_,_,_=>rfl
 | d::ds,k,x,a=>by
  rw [bJ,JZ ds]
  cases d <;> simp [Act.put]
theorem zbh:∀ (ds:List (Option Nat)) (k:Nat) (x:Nat→Value) (a:Act) (t:Nat),some t ∉ ds→(∀ d,some d∈ds→d<a.tmps.size)→(bJ ds k x a).tmps.getD t undef=a.tmps.getD t undef
 | [],_,_,_,_,_,_=>rfl
 | d::ds,k,x,a,t,h,hz=>by
  have hs:(a.put d (x k)).tmps.size=a.tmps.size:=by cases d <;> simp [Act.put]
  rw [bJ,zbh ds _ _ _ t (fun g=>h (List.mem_cons_of_mem _ g)) (fun e b=>by rw [hs];exact hz e (List.mem_cons_of_mem _ b))]
  cases d with
  | none=>rfl
  | some d=>
   rw [Zn a d t _ (hz d (List.mem_cons_self ..)),if_neg (fun e=>h (by rw [e];exact List.mem_cons_self ..))]
theorem puts_at:∀ (ds:List (Option Nat)) (k:Nat) (x:Nat→Value) (a:Act) (i d:Nat),Zv ds=true→(∀ d,some d∈ds→d<a.tmps.size)→ds[i]? = some (some d)→(bJ ds k x a).tmps.getD d undef=x (k+i)
 | [],_,_,_,_,_,_,_,h=>by simp at h
 | e::ds,k,x,a,i,d,hn,hz,h=>by
  have hs:(a.put e (x k)).tmps.size=a.tmps.size:=by cases e <;> simp [Act.put]
  have b:∀ d,some d∈ds→d<(a.put e (x k)).tmps.size:=fun d hd=>by rw [hs];exact hz d (List.mem_cons_of_mem _ hd)
  rw [bJ]
  cases i with
  | zero=>
   simp only [List.getElem?_cons_zero,Option.some.injEq] at h
   subst h
   simp only [Zv,Bool.and_eq_true,Bool.not_eq_true',List.contains_eq_mem,decide_eq_false_iff_not] at hn
   rw [zbh ds _ _ _ d hn.1 b,Zn a d d _ (hz d (List.mem_cons_self ..)),if_pos rfl]
   rfl
  | succ i=>
   rw [puts_at ds (k+1) x _ i d (by
    cases e with
    | none=>exact hn
    | some e=>simp only [Zv,Bool.and_eq_true] at hn;exact hn.2) b (by simpa using h)]
   congr 1;omega
theorem act_puts {e:List (Option Nat)}{b:Act}(n:Zv e=true)(k:∀ d,some d∈e→d<a.tmps.size)(l:b.tmps.size=a.tmps.size)(hd:b.defers=a.defers)(q:∀ t,some t ∉ e→b.tmps.getD t undef=a.tmps.getD t undef) : b=bJ e 0 (fun j=>Zm b (e.getD j none)) a:=by
 have key:b.tmps=(bJ e 0 (fun j=>Zm b (e.getD j none)) a).tmps:=by
  apply Array.ext
  ·rw [puts_size,l]
  ·intro t u h2
   have m:b.tmps[t]=b.tmps.getD t undef:=by simp [Array.getD_eq_getD_getElem?,u]
   have s:(bJ e 0 (fun j=>Zm b (e.getD j none)) a).tmps[t]=(bJ e 0 (fun j=>Zm b (e.getD j none)) a).tmps.getD t undef:=by rw [Array.getD_eq_getD_getElem?,Array.getElem?_eq_getElem h2];rfl
   rw [m,s]
   by_cases hm:some t∈e
   ·obtain⟨i,r,v⟩:=List.getElem_of_mem hm
    have h:e[i]? = some (some t):=by rw [List.getElem?_eq_getElem r,v]
    rw [puts_at e 0 _ a i t n k h,Nat.zero_add,List.getD_eq_getElem?_getD,h]
    rfl
   ·rw [zbh e 0 _ a t hm k,q t hm]
 have f:=JZ e 0 (fun j=>Zm b (e.getD j none)) a
 rw [← hd] at f
 cases b
 rename_i x w
 generalize y:bJ e 0 _ a=p at key f ⊢
 cases p
 simp only at key f
 subst key;subst f
 rfl
def Qq (W w':World)(L:Nat)(b:Nat→Nat×Nat):Prop:=(∀ j,j<L→W.heap.size≤(b j).1∧(b j).1≤(b j).2∧(b j).2≤w'.heap.size)∧∀ i j,i<L→j<L→i≠j→(b i).2≤(b j).1∨(b j).2≤(b i).1
section
variable {P : Program} {ops : Array Oper} {R : World → World → Prop}
def Qb (P:Program)(ops:Array Oper)(R:World→World→Prop)(fs:List (kM R))(W:World)(F:(Nat→Value)→Act):List Oper→Nat→Prop
 | [],_=>True
 | o::l, i => (∀ x w, R W w → ∀ b : Nat → Nat×Nat, (∀ j, kT ops i j = true → (kV fs j).p (x j) (b j) w) →
     wpList P ops (fun e a' w'=>e = .normal∧∃ v,a'=(F x).put o.dst v∧(kV fs i).p (match o.dst with | some _=>v | none=>undef) (w.heap.size,w'.heap.size) w'∧R w w') [o] (F x) w)∧Qb P ops R fs W F l (i+1)
theorem stepsF_at {fs:List (kM R)}{W:World}{F:(Nat→Value)→Act}:∀ (l:List Oper) (k i:Nat) (o:Oper),Qb P ops R fs W F l k→l[i]? = some o→∀ x w,R W w→∀ b:Nat→Nat×Nat,(∀ j,kT ops (k+i) j=true→(kV fs j).p (x j) (b j) w) →
  wpList P ops (fun e a' w'=>e = .normal∧∃ v,a'=(F x).put o.dst v∧(kV fs (k+i)).p (match o.dst with | some _=>v | none=>undef) (w.heap.size,w'.heap.size) w'∧R w w') [o] (F x) w
 | [],_,_,_,_,h=>by simp at h
 | o::l,k,0,o',h,ho=>by
  simp only [List.getElem?_cons_zero,Option.some.injEq] at ho
  subst ho
  exact h.1
 | o::l,k,i+1,o',h,ho=>by
  have:=stepsF_at l (k+1) i o' h.2 (by simpa using ho)
  rw [show k+1+i=k+(i+1) by omega] at this
  exact this
theorem wpOp_of_list {Q l:Exit→Act→World→Prop}{K:Act→World→Prop}{i:Nat}{o:Oper}{a:Act}{w:World}(q:ops[i]? = some o)(h:wpList P ops Q [o] a w)(b:∀ a' w',Q .normal a' w'→K a' w')(hp:∀ c a w,Q (.panic c) a w→l (.panic c) a w)(m:LetsOut Q→LetsOut l):wpOp P ops l i K a w:=by
 unfold wpOp
 rw [q]
 simp only
 unfold wpList at h
 split at h
 ·rename_i k
  rw [if_pos k]
  rcases h with h | h
  ·refine .inl ?_
   unfold Oper.wp at *
   generalize (execOp a.eval o).run P w=r at *
   cases r with
   | ok n w'=>
    cases n <;> simp only [Oper.upon] at h ⊢
    case value v=>exact b _ _ h
    case skip=>exact b _ _ h
    case defer d=>exact b _ _ h
    case enter f args=>
     exact Calls.mono h (fun e p j=>by cases e <;> first | exact b _ _ j | exact hp _ _ _ j | exact m j)
    case row r args=>exact Rows.mono h (fun _ _ j=>b _ _ j)
   | halt x w'=>cases x <;> simp only [Oper.upon] at h ⊢ <;> exact hp _ _ _ h
  ·exact .inr ⟨h.1,m h.2⟩
 ·rename_i k
  rw [if_neg k]
  exact b _ _ h
structure Mid (ops:Array Oper)(fs:List (kM R))(W:World)(L:Nat)(b:Act)(listed:Array Bool)(a:Act)(w:World)(bs:Nat→Nat×Nat):Prop where
 size:listed.size=ops.size
 last:∀ k,L≤k→listed.getD k false=false
 closed:∀ k j,listed.getD k false=true→kT ops k j=true→listed.getD j false=true
 tmps:a.tmps.size=b.tmps.size
 defers:a.defers=b.defers
 rest:∀ t,some t ∉ ops.toList.map (·.dst)→a.tmps.getD t undef=b.tmps.getD t undef
 late:∀ k d,L≤k→(ops.toList.map (·.dst))[k]? = some (some d)→a.tmps.getD d undef=b.tmps.getD d undef
 rel:R W w
 facts:∀ j,listed.getD j false=true→(kV fs j).p (Zm a ((ops.toList.map (·.dst)).getD j none)) (bs j) w
 within:∀ j,listed.getD j false=true→W.heap.size≤(bs j).1∧(bs j).1≤(bs j).2∧(bs j).2≤w.heap.size
 apart:∀ i j,listed.getD i false=true→listed.getD j false=true→i≠j→(bs i).2≤(bs j).1∨(bs j).2≤(bs i).1
theorem QO {md:Region.Mode}{a:Array Bool}{i:Nat}:i∈Region.ready md ops a→a.getD i true=false∧∃ o,ops[i]? = some o∧∀ e∈o.after,Region.binds md e=true→a.getD e.on false=true:=fun h=>by
 obtain⟨b,o,h2,h3⟩:=mem_ready.1 h
 exact⟨b,o,h2,h3⟩
theorem jv {a:Array Bool}{i j:Nat}{o:Oper}(f:ops[i]? = some o)(h:∀ e∈o.after,Region.binds .any e=true→a.getD e.on false=true)(b:kT ops i j=true):a.getD j false=true:=by
 unfold kT at b
 rw [f] at b
 simp only [Option.map_some,Option.getD_some,Array.any_eq_true'] at b
 obtain⟨e,k,d⟩:=b
 simp only [Bool.and_eq_true,beq_iff_eq] at d
 rw [← d.2]
 exact h e k d.1
theorem kR {l:Array Bool}{i:Nat}(h:l.getD i true=false):l.getD i false=false∧i<l.size:=by
 by_cases a:i<l.size
 ·simp [Array.getD_eq_getD_getElem?,a] at h ⊢;exact h
 ·simp [Array.getD_eq_getD_getElem?,a] at h
theorem all_of_last {a:Array Bool}{L:Nat}(hc:∀ k j,a.getD k false=true→kT ops k j=true→a.getD j false=true)(f:∀ j,kT ops L j=true→a.getD j false=true)(b:(List.range L).all (fun j=>(List.range (L+1)).any (fun k=>decide (j<k)&&kT ops k j))=true):∀ (m j:Nat),L-j=m→j<L→a.getD j false=true:=by
 intro m
 induction m using Nat.strongRecOn with
 | _ m ih=>
  intro j hm i
  have l:=List.all_eq_true.1 b j (List.mem_range.2 i)
  obtain⟨k,h,h2⟩:=List.any_eq_true.1 l
  simp only [Bool.and_eq_true,decide_eq_true_eq] at h2
  have d:=List.mem_range.1 h
  by_cases e:k=L
  ·subst e;exact f j h2.2
  ·exact hc k j (ih (L-k) Ws k rfl Ws) h2.2
theorem zbx {a:Array Bool}{n:Nat}(r:ops.size=n)(s:a.size=n)(j:∀ k,k<n→YA ops k=true):∀ (m:Nat),m<n→a.getD m false=false→Region.ready .any ops a≠[]:=by
 intro m
 induction m using Nat.strongRecOn with
 | _ m ih=>
  intro hm h
  obtain⟨o,i⟩:∃ o,ops[m]? = some o:=⟨_,Array.getElem?_eq_getElem Ws⟩
  by_cases b:∀ e∈o.after,Region.binds .any e=true→a.getD e.on false=true
  ·intro e
   have:m∈Region.ready .any ops a:=mem_ready.2 ⟨by
    have p:m<a.size:=Ws
    simp [Array.getD_eq_getD_getElem?,p] at h ⊢;exact h,o,i,b⟩
   rw [e] at this
   cases this
  ·simp only [Classical.not_forall] at b
   obtain⟨e,q,f,l⟩:=b
   have d:=j m hm
   unfold YA at d
   rw [i] at d
   simp only [Option.map_some,Option.getD_some,Array.all_eq_true_iff_forall_mem] at d
   have h2:=d e q
   simp only [f,Bool.not_true,Bool.false_or,decide_eq_true_eq] at h2
   exact ih e.on h2 Ws (by simpa using l)
def vh (l:Array Bool):Nat:=l.toList.countP (fun b=>!b)
theorem unlisted_set {l:Array Bool}{i:Nat}(h:l.getD i true=false):vh (l.setIfInBounds i true)+1=vh l:=by
 have e:=(kR h).2
 have hv:l[i]=false:=by simpa [Array.getD_eq_getD_getElem?,e] using h
 unfold vh
 rw [Array.toList_setIfInBounds]
 have a:i<l.toList.length:=by simpa using e
 rw [List.countP_set a]
 have d:l.toList[i]=false:=by simpa using hv
 rw [d]
 have:0<l.toList.countP (fun b=>!b):=List.countP_pos_iff.2 ⟨false,by rw [← d];exact List.getElem_mem a,rfl⟩
 simp only [Bool.not_false,Bool.not_true,if_true,Bool.false_eq_true,if_false]
 omega
theorem unlisted_pos {l:Array Bool}{i:Nat}(a:i<l.size)(h:l.getD i false=false):0<vh l:=by
 have hv:l[i]=false:=by simpa [Array.getD_eq_getD_getElem?,a] using h
 exact List.countP_pos_iff.2 ⟨false,by rw [← hv];exact Array.getElem_mem_toList a,rfl⟩
theorem tail_any {Q:Exit→Act→World→Prop}{L:Nat}(H:∀ k,k<ops.size→YA ops k=true)(x:∀ k,k<ops.size→L<k→kT ops k (k-1)=true):∀ (tl:List Oper) (k:Nat) (fuel:Nat) (listed:Array Bool) (a:Act) (w:World), L≤k→ops.toList.drop k=tl→listed.size=ops.size→(∀ j,j<k→j<ops.size→listed.getD j false=true)→(∀ j,k≤j→listed.getD j false=false)→tl.length≤fuel→wpList P ops Q tl a w→wpAny P .any ops Q fuel listed a w:=by
 intro tl
 induction tl with
 | nil=>
  intro k fuel listed a w _ d y b _ _ h
  have E:ops.size≤k:=by simpa using List.drop_eq_nil_iff.1 d
  refine wpAny_done ?_ h fuel
  rw [List.eq_nil_iff_forall_not_mem]
  intro j D
  have r:=kR (QO D).1
  rw [b j Ws Ws] at r
  cases r.1
 | cons o rest ih=>
  intro k fuel listed a w J d y b n F h
  have E:k<ops.size:=by
   rcases Nat.lt_or_ge k ops.size with m | m
   ·exact m
   ·rw [List.drop_eq_nil_of_le (by simpa using m)] at d;cases d
  have G:ops[k]? = some o:=by
   have m:(ops.toList.drop k)[0]? = some o:=by rw [d];rfl
   rw [List.getElem?_drop,Nat.add_zero,Array.getElem?_toList] at m
   exact m
  have p:ops.toList.drop (k+1)=rest:=by
   rw [← List.drop_drop,d]
   rfl
  obtain⟨f,rfl⟩:∃ f,fuel=f+1:=⟨fuel - 1,by simp only [List.length_cons] at F;omega⟩
  refine⟨fun N=>absurd N (zbx rfl y H k E (n k (XA))),fun i K=>?_⟩
  obtain⟨z,M,q,B⟩:=QO K
  have s:=kR z
  have C:i=k:=by
   rcases Nat.lt_trichotomy i k with m | m | m
   ·rw [b i m Ws] at s;cases s.1
   ·exact m
   ·have h2:=x i Ws Ws
    have h3:=jv q B h2
    rw [n (i-1) Ws] at h3
    cases h3
  subst C
  obtain rfl:o=M:=by rw [G] at q;exact Option.some.inj q
  have l:∀ t u,wpList P ops Q rest t u→wpAny P .any ops Q f (listed.setIfInBounds i true) t u:=fun t u I=>by
   refine ih (i+1) f _ t u Ws p (by rw [Array.size_setIfInBounds];exact y) (fun j D A=>?_) (fun j D=>?_) (by simp only [List.length_cons] at F;omega) I
   ·simp only [Array.getD_eq_getD_getElem?,Array.getElem?_setIfInBounds]
    by_cases e:i=j
    ·rw [if_pos e,if_pos Ws];rfl
    ·rw [if_neg e]
     have:=b j Ws A
     rwa [Array.getD_eq_getD_getElem?] at this
   ·simp only [Array.getD_eq_getD_getElem?,Array.getElem?_setIfInBounds]
    rw [if_neg Ws]
    have:=n j Ws
    rwa [Array.getD_eq_getD_getElem?] at this
  unfold wpOp
  rw [G]
  simp only
  unfold wpList at h
  split at h
  ·rename_i v
   rw [if_pos v]
   rcases h with h | h
   ·exact .inl (Oper.wp_mono l h)
   ·exact .inr h
  ·rename_i v
   rw [if_neg v]
   exact l _ _ h
theorem any_late {n:Nat}{Q:Exit→Act→World→Prop}{a:Act}{w:World}{os:List Oper}(R:World→World→Prop)(W:World)(L:Nat)(fs:List (kM R)){F G:(Nat→Value)→Act}(hn:a.tmps.size=n)(hB:ordB os.toArray L n=true)(hR:R W w.drew)(aj:∀ x y z,R x y→R y z→R x z)(M:∀ x y,R x y→x.heap.size≤y.heap.size)(hF:∀ x,bJ (os.map (·.dst)) 0 x a=F x)(hG:∀ x,(∀ k,L≤k→k<os.length→x k=Zm a ((os.map (·.dst)).getD k none))→F x=G x)(I:Qb P os.toArray R fs W G (os.take L) 0)(K:∀ x w',R W w'→∀ b:Nat→Nat×Nat,(∀ j,j<L→(kV fs j).p (x j) (b j) w')→Qq W w' L b→wpList P os.toArray Q (os.drop L) (F x) w'):wpAny P .any os.toArray Q os.toArray.size (Array.replicate os.toArray.size false) a { w with drawn:=w.drawn+1 }:=by
 subst hn
 have ar:=hB
 unfold ordB at hB
 simp only [Bool.and_eq_true,beq_iff_eq] at hB
 obtain⟨⟨⟨⟨⟨h1,h2⟩,h3⟩,h4⟩,h5⟩,h6⟩:=hB
 have h1:L<os.length:=by simpa using h1
 have au:os.toArray.size=os.length:=Wz
 have ad:∀ k,k<os.toArray.size→YA os.toArray k=true:=fun k r=>List.all_eq_true.1 h2 k (List.mem_range.2 r)
 have ab:∀ k,k<os.toArray.size→L<k→kT os.toArray k (k-1)=true:=fun k r hl=>by
  have:=List.all_eq_true.1 h6 k (List.mem_range.2 r)
  simp only [Bool.or_eq_true,decide_eq_true_eq] at this
  exact this.resolve_left Ws
 have hz:∀ d,some d∈os.map (·.dst)→d<a.tmps.size:=fun d hd=>by
  have:=List.all_eq_true.1 h5 _ hd
  simpa using this
 have U:os.toArray.toList.map (·.dst)=os.map (·.dst):=rfl
 have Z:∀ (q:Nat) (f:Array Bool) (b:Act) (v:World) (X:Nat→Nat×Nat),vh f≤q→Mid os.toArray fs W L a f b v X→wpAny P .any os.toArray Q q f b v:=by
  intro q
  induction q with
  | zero=>
   intro f b v X hu l
   have:=unlisted_pos (i:=L) (by rw [l.size];omega) (l.last L (XA))
   omega
  | succ q ih=>
   intro f b v X hu l
   refine⟨fun h0=>absurd h0 (zbx rfl l.size ad L Ws (l.last L (XA))),fun i hi=>?_⟩
   obtain⟨ag,o,Y,A⟩:=QO hi
   have hb:b=F (fun j=>Zm b ((os.map (·.dst)).getD j none)):=by
    rw [← hF]
    exact act_puts h4 hz l.tmps l.defers l.rest
   have ai:vh (f.setIfInBounds i true)≤q:=XC (unlisted_set ag)
   have af:=(kR ag).2
   by_cases am:i=L
   ·subst am
    have s:∀ j,j<i→f.getD j false=true:=fun j m=>all_of_last l.closed (fun j m=>jv Y A m) h3 _ j rfl m
    have h9:=K _ v l.rel X (fun j m=>l.facts j (s j m)) ⟨fun j m=>l.within j (s j m),fun i j hi m=>l.apart i j (s i hi) (s j m)⟩
    rw [← hb] at h9
    have al:(os.drop i).length≤q+1:=by
     refine Nat.le_trans ?_ hu
     have N:f.toList.drop i=List.replicate (os.length-i) false:=by
      apply List.ext_getElem
      ·rw [List.length_drop,Array.length_toList,l.size,List.length_replicate];simp
      ·intro j ao aq
       rw [List.getElem_drop,List.getElem_replicate]
       have E:=l.last (i+j) Ws
       have D:i+j<f.size:=by rw [List.length_drop,Array.length_toList] at ao;omega
       simpa [Array.getD_eq_getD_getElem?,D] using E
     unfold vh
     conv=>rhs;rw [← List.take_append_drop i f.toList,List.countP_append,N]
     have hc:List.countP (fun b=>!b) (List.replicate (os.length-i) false)=os.length-i:=by rw [List.countP_replicate];rfl
     rw [List.length_drop,hc]
     omega
    exact (tail_any ad ab _ i (q+1) f b v (XA) Wk l.size (fun j m _=>s j m) l.last al h9).2 i hi
   ·have ah:i<L:=by
     rcases Nat.lt_or_ge i L with E | E
     ·exact E
     ·have D:=jv Y A (ab i (by rw [← l.size];exact af) Ws)
      rw [l.last (i-1) Ws] at D
      cases D
    have ae:os[i]? = some o:=by simpa using Y
    have ap:(os.take L)[i]? = some o:=by rw [List.getElem?_take,if_pos ah];exact ae
    have h9:=stepsF_at (os.take L) 0 i o I ap (fun j=>Zm b ((os.map (·.dst)).getD j none)) v l.rel X (fun j m=>l.facts j (jv Y A (by rw [← Nat.zero_add i];exact m)))
    have ak:=hb.trans (hG _ (fun k r _=>by
     show Zm b ((os.map (·.dst)).getD k none)=_
     cases hd:(os.map (·.dst)).getD k none with
     | none=>rfl
     | some d=>exact l.late k d r (by
       rw [U]
       rw [List.getD_eq_getElem?_getD] at hd
       cases E:(os.map (·.dst))[k]? with
       | none=>rw [E] at hd;cases hd
       | some z=>rw [E] at hd;exact congrArg some hd)))
    rw [← ak,Nat.zero_add] at h9
    have B:(os.map (·.dst))[i]? = some o.dst:=by rw [List.getElem?_map,ae];rfl
    refine wpOp_of_list Y h9 (fun a' w' ⟨_,u,e1,e2,e3⟩=>ih _ _ _ (fun j=>if i=j then (v.heap.size,w'.heap.size) else X j) ai ?_) (fun _ _ _ h=>nomatch h.1) (fun⟨_,_,h⟩=>nomatch h.1)
    have C:∀ j,(f.setIfInBounds i true).getD j false=if i=j then true else f.getD j false:=fun j=>by
     simp only [Array.getD_eq_getD_getElem?,Array.getElem?_setIfInBounds]
     by_cases e:i=j
     ·rw [if_pos e,if_pos e,if_pos af];rfl
     ·rw [if_neg e,if_neg e]
    have J:∀ d,o.dst=some d→d<b.tmps.size:=fun d hd=>by rw [l.tmps];exact hz d (by rw [← hd];exact List.mem_of_getElem? B)
    subst e1
    refine⟨by rw [Array.size_setIfInBounds];exact l.size,fun k r=>by rw [C,if_neg Ws];exact l.last k r,?_,?_,?_,?_,?_,aj _ _ _ l.rel e3,?_,?_,?_⟩
    ·intro k j r hw
     rw [C] at r ⊢
     split
     ·rfl
     split at r
     ·rename_i e;subst e;exact jv Y A hw
     ·exact l.closed k j r hw
    ·rw [← l.tmps];cases o.dst <;> simp [Act.put]
    ·rw [← l.defers];cases o.dst <;> simp [Act.put]
    ·intro t ht
     rw [← l.rest t ht]
     cases hd:o.dst with
     | none=>rfl
     | some d=>rw [Zn b d t _ (J d hd),if_neg (fun e=>ht (by rw [e,← hd];exact List.mem_of_getElem? B))]
    ·intro k d r aa
     rw [← l.late k d r aa]
     cases hd:o.dst with
     | none=>rfl
     | some d'=>rw [Zn b d' d _ (J d' hd),if_neg (fun e=>by
       subst e
       have:=bG h4 i k d (by rw [B,hd]) aa
       omega)]
    ·intro j m
     rw [U]
     by_cases e:i=j
     ·subst e
      rw [List.getD_eq_getElem?_getD,B,if_pos rfl]
      show (kV fs i).p (Zm (b.put o.dst u) o.dst) _ w'
      cases hd:o.dst with
      | none=>rw [hd] at e2;exact e2
      | some d=>
       rw [hd] at e2
       show (kV fs i).p ((b.put (some d) u).tmps.getD d undef) _ w'
       rw [Zn b d d _ (J d hd),if_pos rfl]
       exact e2
     ·rw [C,if_neg e] at m
      have D:=(kV fs j).st _ _ _ _ (l.facts j m) e3
      rw [if_neg e]
      rw [U] at D
      cases hd:o.dst with
      | none=>exact D
      | some d=>
       have H:(os.map (·.dst)).getD j none≠some d:=fun O=>by
        have:(os.map (·.dst))[j]? = some (some d):=by
         rw [List.getD_eq_getElem?_getD] at O
         cases E:(os.map (·.dst))[j]? with
         | none=>rw [E] at O;cases O
         | some z=>rw [E] at O;exact congrArg some O
        exact e (bG h4 i j d (by rw [B,hd]) this)
       cases h6:(os.map (·.dst)).getD j none with
       | none=>rw [h6] at D;exact D
       | some c=>
        rw [h6] at D
        show (kV fs j).p ((b.put (some d) u).tmps.getD c undef) _ w'
        rw [Zn b d c _ (J d hd),if_neg (fun O=>H (by rw [h6,O]))]
        exact D
    ·intro j m
     by_cases e:i=j
     ·rw [if_pos e]
      exact⟨M _ _ l.rel,M _ _ e3,XA⟩
     ·rw [if_neg e]
      rw [C,if_neg e] at m
      have:=l.within j m
      have:=M _ _ e3
      omega
    ·intro j k m r H
     rw [C] at m r
     by_cases e:i=j
     ·rw [if_pos e]
      have an:i≠k:=fun h=>H (e.symm.trans h)
      rw [if_neg an] at r ⊢
      have:=l.within k r
      exact .inr this.2.2
     ·rw [if_neg e] at m ⊢
      by_cases e':i=k
      ·rw [if_pos e']
       have:=l.within j m
       exact .inl this.2.2
      ·rw [if_neg e'] at r ⊢
       exact l.apart j k m r H
 refine Z os.toArray.size _ a _ (fun _=>(0,0)) ?_ ?_
 ·unfold vh
  exact Nat.le_trans List.countP_le_length Wz
 ·refine⟨Wz,?_,?_,rfl,rfl,fun _ _=>rfl,fun _ _ _ _=>rfl,hR,?_,?_,?_⟩
  ·intro k _
   simp only [Array.getD_eq_getD_getElem?,Array.getElem?_replicate]
   split <;> rfl
  ·intro k j r
   exfalso
   simp only [Array.getD_eq_getD_getElem?,Array.getElem?_replicate] at r
   split at r <;> simp at r
  ·intro j m
   exfalso
   simp only [Array.getD_eq_getD_getElem?,Array.getElem?_replicate] at m
   split at m <;> simp at m
  ·intro j m
   exfalso
   simp only [Array.getD_eq_getD_getElem?,Array.getElem?_replicate] at m
   split at m <;> simp at m
  ·intro j k m
   exfalso
   simp only [Array.getD_eq_getD_getElem?,Array.getElem?_replicate] at m
   split at m <;> simp at m
theorem YF {id n:Nat}{Q:Exit→Act→World→Prop}{a:Act}{w:World}{os:List Oper}(R:World→World→Prop)(W:World)(L:Nat)(fs:List (kM R)){F G:(Nat→Value)→Act}(hm:P.follows .mixedOrders=true)(l:a.tmps.size=n)(i:ordB os.toArray L n=true)(m:R W w.drew)(h:∀ x y z,R x y→R y z→R x z)(f:∀ x y,R x y→x.heap.size≤y.heap.size)(q:∀ x,bJ (os.map (·.dst)) 0 x a=F x)(r:∀ x,(∀ k,L≤k→k<os.length→x k=Zm a ((os.map (·.dst)).getD k none))→F x=G x)(d:Qb P os.toArray R fs W G (os.take L) 0)(e:∀ x w',R W w'→∀ b:Nat→Nat×Nat,(∀ j,j<L→(kV fs j).p (x j) (b j) w')→Qq W w' L b→wpList P os.toArray Q (os.drop L) (F x) w'):(Code.region id os.toArray true).wp P Q a w:=
 wp_region_any hm (any_late R W L fs l i m h f q r d e)
theorem zao {id n:Nat}{Q:Exit→Act→World→Prop}{a:Act}{w:World}{os:List Oper}(R:World→World→Prop)(W:World)(L:Nat)(fs:List (kM R)){F:(Nat→Value)→Act}(hm:P.follows .mixedOrders=true)(k:a.tmps.size=n)(i:ordB os.toArray L n=true)(l:R W w.drew)(h:∀ x y z,R x y→R y z→R x z)(f:∀ x y,R x y→x.heap.size≤y.heap.size)(m:∀ x,bJ (os.map (·.dst)) 0 x a=F x)(d:Qb P os.toArray R fs W F (os.take L) 0)(e:∀ x w',R W w'→∀ b:Nat→Nat×Nat,(∀ j,j<L→(kV fs j).p (x j) (b j) w')→Qq W w' L b→wpList P os.toArray Q (os.drop L) (F x) w'):(Code.region id os.toArray true).wp P Q a w:=
 YF R W L fs hm k i l h f m (fun _ _=>rfl) d e
theorem bM {id n:Nat}{Q:Exit→Act→World→Prop}{a:Act}{w:World}{os:List Oper}(L:Nat)(fs:List (kM (zb []))){F G:(Nat→Value)→Act}(hm:P.follows .mixedOrders=true)(i:a.tmps.size=n)(f:ordB os.toArray L n=true)(l:∀ x,bJ (os.map (·.dst)) 0 x a=F x)(m:∀ x,(∀ k,L≤k→k<os.length→x k=Zm a ((os.map (·.dst)).getD k none))→F x=G x)(d:Qb P os.toArray (zb []) fs w G (os.take L) 0)(e:∀ x w',zb [] w w'→∀ b:Nat→Nat×Nat,(∀ j,j<L→(kV fs j).p (x j) (b j) w')→Qq w w' L b→wpList P os.toArray Q (os.drop L) (F x) w'):(Code.region id os.toArray true).wp P Q a w:=
 YF (zb []) w L fs hm i f (zb.refl [] w).drew (fun _ _ _ h k=>h.then k) (fun _ _ h=>h.size) l m d e
theorem yz {id n:Nat}{Q:Exit→Act→World→Prop}{a:Act}{w:World}{os:List Oper}(L:Nat)(fs:List (kM (zb []))){F:(Nat→Value)→Act}(hm:P.follows .mixedOrders=true)(i:a.tmps.size=n)(f:ordB os.toArray L n=true)(l:∀ x,bJ (os.map (·.dst)) 0 x a=F x)(d:Qb P os.toArray (zb []) fs w F (os.take L) 0)(e:∀ x w',zb [] w w'→∀ b:Nat→Nat×Nat,(∀ j,j<L→(kV fs j).p (x j) (b j) w')→Qq w w' L b→wpList P os.toArray Q (os.drop L) (F x) w'):(Code.region id os.toArray true).wp P Q a w:=
 zao (zb []) w L fs hm i f (zb.refl [] w).drew (fun _ _ _ h k=>h.then k) (fun _ _ h=>h.size) l d e
end
theorem qm {p:Prop}(h:p:=by (simp only [List.map,bJ,Act.put,List.setIfInBounds_toArray,List.set_cons_zero,List.set_cons_succ];rfl)):p:=h
abbrev fI {R:World→World→Prop}(v:Value):kM R:=kM.is v
abbrev fT {R:World→World→Prop}:kM R:=kM.is (.bool true)
abbrev fF {R:World→World→Prop}:kM R:=kM.is (.bool false)
abbrev fU {R:World→World→Prop}:kM R:=kM.is undef
def kP (cs:List Value)(n m:Nat):kM (zb []):=⟨fun v b w=>∃ g,v = .slice (some ⟨g,0,none⟩) n n∧b.1≤g∧g<b.2∧Slc w m (.slice (some ⟨g,0,none⟩) n n) n cs,fun _ _ _ _ ⟨g,h1,h3,h4,h2⟩ k=>⟨g,h1,h3,h4,h2.k0 k⟩⟩
def boxFact (t:Nat):kM (zb []):=⟨fun v b w=>∃ g,b.1≤g∧g<b.2∧v = .pointer (some ⟨g,0,none⟩)∧w.heap[g]? = some (.cells #[.int .i64 0,.int .i64 0,.string ⟨#[]⟩,.slice none 0 0,.slice none 0 0] t (0,0)),fun _ _ _ _ ⟨g,h0,h3,h1,h2⟩ k=>⟨g,h0,h3,h1,k.heap h2 Wz⟩⟩
section
variable {P : Program} {ops : Array Oper} {Q : Exit → Act → World → Prop} {l n : Nat}
theorem rows_wide {m:Nat}{row:String}{args:Array Value}{w:World}{R:Value→World→Prop}(h:Rows P row args w R):RowsIn (Fence.wide.inRound l) m P row args w R:=
 fun c cs _=>let ⟨v,w',r,s⟩:=h c cs;⟨v,w',r,stepsIn_wide.2 s⟩
theorem op_round {o:Oper}{a:Act}{w:World}{K:Act→World→Prop}(hd:∀ c,o.op≠.defer c)(h:o.wp P a w K Q):o.wpIn (Fence.wide.inRound l) n P a w K Q:=by
 refine⟨fun _ _=>trivial,?_⟩
 rw [Oper.semAt_eq _ _ _ hd]
 unfold Oper.wp at h
 generalize (execOp a.eval o).run P w=r at h
 cases r with
 | ok x w'=>
  cases x <;> first
   | exact h
   | exact⟨fun b=>by simp [Fence.wide,Fence.inRound] at b,CallsIn.inRound l (callsIn_wide.2 (Calls.mono h (fun e d f=>by cases e <;> exact f)))⟩
   | exact⟨fun b=>by simp [Fence.wide,Fence.inRound] at b,rows_wide h⟩
   | exact h.elim
 | halt x w'=>cases x <;> first | exact h | exact h.elim
theorem opAt_round (hd:∀ o,o∈ops→∀ c,o.op≠.defer c)(j:¬ LetsOut Q){i:Nat}{K f:Act→World→Prop}(b:∀ a w,K a w→f a w){a:Act}{w:World}(h:wpOp P ops Q i K a w):wpOpIn (Fence.wide.inRound l) n P ops Q i f a w:=by
 unfold wpOp at h
 unfold wpOpIn
 cases d:ops[i]? with
 | none=>rw [d] at h;exact b _ _ h
 | some o=>
  rw [d] at h
  simp only at h ⊢
  by_cases e:Region.wanted o (yielded ops a.tmps)=true
  ·rw [if_pos e] at h ⊢
   rcases h with h | h
   ·exact op_round (hd o (Array.mem_of_getElem? d)) (Oper.wp_mono b h)
   ·exact absurd h.2 j
  ·rw [if_neg e] at h ⊢
   exact⟨fun _ _=>trivial,b _ _ h⟩
theorem any_round (hd:∀ o,o∈ops→∀ c,o.op≠.defer c)(hQ:¬ LetsOut Q){md:Region.Mode}:∀ (fuel:Nat) (listed:Array Bool) (a:Act) (w:World),wpAny P md ops Q fuel listed a w→wpAnyIn (Fence.wide.inRound l) n P md ops Q fuel listed a w
 | 0,_,_,_,h=>h
 | fuel+1,_,_,_,h=>⟨h.1,fun i hi=>opAt_round hd hQ (fun a w=>any_round hd hQ fuel _ a w) (h.2 i hi)⟩
def noDefer (os:List Oper):Bool:=os.all fun o=>match o.op with | .defer _=>false | _=>true
theorem noDefer_of {os:List Oper}(h:noDefer os=true):∀ o,o∈os→∀ c,o.op≠.defer c:=fun o b c e=>by
 have a:=List.all_eq_true.1 h o b
 rw [e] at a
 cases a
theorem Y2 {id k:Nat}{a:Act}{w:World}{os:List Oper}(L:Nat)(fs:List (kM (zb []))){F:(Nat→Value)→Act}(hm:P.follows .mixedOrders=true)(f:noDefer os=true)(s:¬ LetsOut Q)(m:a.tmps.size=k)(i:ordB os.toArray L k=true)(r:∀ x,bJ (os.map (·.dst)) 0 x a=F x)(d:Qb P os.toArray (zb []) fs w F (os.take L) 0)(e:∀ x w',zb [] w w'→∀ b:Nat→Nat×Nat,(∀ j,j<L→(kV fs j).p (x j) (b j) w')→Qq w w' L b→wpList P os.toArray Q (os.drop L) (F x) w'):(Code.region id os.toArray true).wpIn (Fence.wide.inRound l) n P Q a w:=
 wpIn_region_any hm (any_round (fun o q=>noDefer_of f o (by simpa using q)) s _ _ _ _ (any_late (zb []) w L fs m i (zb.refl [] w).drew (fun _ _ _ h k=>h.then k) (fun _ _ h=>h.size) r (fun _ _=>rfl) d e))
end
open Go.Maps (Keyed)
def kO (P:Program)(w:World)(k b c:Nat)(M:Lit→Option Value):Prop:=
 ∃ D,w.ownsMap P k heldE b c D∧Maps.size D=c∧∀ kl,M kl=look D kl∧(Maps.has D kl=(M kl).isSome)
section
variable {P : Program} {w : World} {k b c : Nat} {M : Lit → Option Value}
theorem kO.at (h:kO P w k b c M):vY P w k b c M:=by
 obtain⟨D,a,-,h3⟩:=h;exact⟨D,a,h3⟩
theorem kO.lt (h:kO P w k b c M):b<w.heap.size:=h.at.lt
theorem kO.kind (h:kO P w k b c M):kind w b=1:=h.at.kind
theorem kO.kept {X:List Nat}{d:World}(h:kO P w k b c M)(j:zb X w d)(e:b ∉ X):kO P d k b c M:=by
 obtain⟨D,⟨i,a,l,h2⟩,f,h3⟩:=h;exact⟨D,⟨i,a,j.heap l e,h2⟩,f,h3⟩
theorem kO.k0 {a:World}(h:kO P w k b c M)(d:zb [] w a):kO P a k b c M:=h.kept d (List.not_mem_nil)
theorem mapIs_made (P:Program)(w:World)(k:Nat):kO P (w.alloc (.map #[] 0)) k w.heap.size 0 (fun _=>none):=
 ⟨.map [],World.ownsMap_made _ _ _ _,rfl,fun a=>⟨by simp [look,DataW.atKey],by simp [Maps.has]⟩⟩
theorem turned_kept {a:World}(h:w.mapTurned a b):zb [b] w a∧a.heap.size=w.heap.size:=by
 refine⟨Wd.grown h.grown (fun k e=>by simp at e;simp [e]),?_⟩;obtain⟨_,_,_,_,_,rfl⟩:=h;simp [Go.ChangeMaps.setBlock]
theorem kO.update {t e:TypeId}(h:kO P w k b c M)(K:Keyed P k)(v:P.underlying t=some (.map k e))(x:c<maxLen){key:Value}{i:Lit}(f:keyOf P k key=some i)(val:Value) : ∃ w',(Instr.mapUpdate t (.map (some b)) key val).run P w = .ok () w'∧kO P w' k b (if (M i).isSome then c else c+1) (fun z=>if z.sameKey i then some val else M z)∧zb [b] w w'∧w'.heap.size=w.heap.size:=by
 obtain⟨D,a,u,h3⟩:=h;obtain⟨w',n,E,C⟩:=a.store K v x f (val:=val) (R:=heldE) (d:=.held val) (ps:=[]) rfl;have j:=Maps.size_put (k:=i) (a.tidy K) (.held val);rw [(h3 i).2,u] at j;obtain⟨y,A⟩:=turned_kept C;refine⟨w',n,⟨_,?_,j,?_⟩,y,A⟩;·obtain⟨G,l,B,F,s,r⟩:=E;refine⟨G,l,B,F,?_,r⟩;rw [r] at j;rw [← j];simp [Maps.size,Go.length_sorted]
 ·intro z;show (if z.sameKey i then some val else M z)=look (D.put i (.held val)) z∧Maps.has (D.put i (.held val)) z=(if z.sameKey i then some val else M z).isSome;by_cases p:z.sameKey i=true;·have q:=WideAt.sameKey_eq p;subst q;rw [if_pos p];refine⟨?_,Maps.has_put_same a.isMap (Zp K f) _⟩;rw [look,Maps.atKey_put_same a.isMap (Zp K f)]
  ·have m:z≠i:=by intro e;subst e;exact p (WideAt.sameKey_self (Zp K f))
   rw [if_neg p];exact⟨by rw [look,Maps.atKey_put_other m];exact (h3 z).1,by rw [Maps.has_put_other m];exact (h3 z).2⟩
end
end Go.Proofs.YtjccecajigmfkaaGreatDoor

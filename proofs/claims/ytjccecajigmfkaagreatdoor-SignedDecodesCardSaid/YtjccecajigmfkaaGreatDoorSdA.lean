/- Parts of one proof, merged: XBase. -/
import Derived.Test.YtjccecajigmfkaaGreatDoorChecked
import Derived.WalkKit
import Derived.WalkSmall
import Derived.Maps.RangeWalk
import Derived.Maps.AppendAt
import Derived.Lib.Hide
set_option linter.all false
set_option maxHeartbeats 12800000
set_option maxRecDepth 10000
namespace Go.Proofs.YtjccecajigmfkaaGreatDoor
open Tryz
variable {Q:Exit→Act→World→Prop}{α β:Type}{R:α→β→Prop}{W:World}{X:List Nat}{a base bytes e:Nat}{f:Nat×Nat}{m:Nat}{news:List Value}{ops:Array Oper}{p q:Prop}{size t:Nat}{v vx:Value}{w':World}{xs:List Value}{ys:List β}{z:Value}
abbrev XJ:=@if_neg
abbrev XK:=@if_pos
abbrev XM:=@List.length_append
abbrev XN:=@List.getElem?_eq_getElem
abbrev XO:=@decide_eq_false
abbrev XP:=@List.length_cons
abbrev XR:=@Bool.and_eq_true
abbrev XS:=@List.mem_singleton
abbrev XT:=@decide_eq_true
abbrev XU:=@Value.slice.injEq
abbrev XW:=@List.length_drop
abbrev XX:=@List.getElem_mem
abbrev XY:=@List.mem_cons
abbrev XZ:=@List.take_succ_eq_append_getElem
abbrev Xa:=@decide_eq_true_eq
abbrev Xb:=@List.length_map
abbrev Xc:=@List.map_append
abbrev Xd:=@Nat.zero_add
abbrev Xe:=@List.length_take
abbrev Xf:=@List.map_cons
abbrev Xg:=@Array.getD_eq_getD_getElem?
abbrev Xh:=@List.eq_nil_of_length_eq_zero
abbrev Xi:=@List.not_mem_nil
abbrev Xj:=@List.mem_cons_of_mem
abbrev Xk:=@List.all_eq_true
abbrev Xl:=@List.take_of_length_le
abbrev Xm:=@List.mem_map
abbrev Xn:=@List.append_nil
abbrev Xo:=@List.length_nil
abbrev Xp:=@List.mem_cons_self
abbrev Xq:=@List.getD_eq_getElem?_getD
abbrev Xr:=@Nat.lt_or_ge
abbrev Xs:=@List.getElem?_map
abbrev Xt:=@Option.some.injEq
abbrev Xu:=@List.flatten_cons
abbrev Xv:=@List.append_assoc
abbrev Xw:=@List.take_length
abbrev Xx:=@List.getElem?_append_right
abbrev Xy:=@Array.getElem?_eq_none
abbrev Xz:=@List.getElem?_append_left
abbrev X0:=@List.drop_eq_getElem_cons
abbrev X2:=@List.size_toArray
abbrev X3:=@List.map_nil
abbrev X5:=@List.flatten_append
abbrev X6:=@List.getElem?_eq_some_iff
abbrev X7:=@Nat.le_trans
abbrev X8:=@List.nil_append
abbrev X9:=@List.getElem?_take
abbrev uA:=@List.length_tail
abbrev uB:=@List.getElem?_toArray
abbrev uC:=@or_false
abbrev uD:=@List.drop_drop
abbrev uE:=@List.tail_cons
abbrev uF:=@List.sum_cons
abbrev uG:=@List.take_append_drop
abbrev uH:=@List.head?_cons
abbrev uI:=@List.getElem_of_mem
abbrev uJ:=@List.getElem_map
abbrev uK:=@List.getElem?_cons_succ
abbrev uL:=@List.map_map
abbrev uM:=@Bool.false_eq_true
abbrev uN:=@Array.getElem?_setIfInBounds
abbrev uO:=@List.mem_append
abbrev uP:=@Array.getElem?_toList
abbrev uQ:=@List.getElem?_eq_none
abbrev uR:=@UInt8.ofNat_toNat
abbrev uS:=@Nat.add_assoc
abbrev uT:=@Nat.lt_of_lt_of_le
abbrev uU:=@List.cons_append
abbrev uV:=@List.drop_length
abbrev uW:=@Bool.or_eq_true
abbrev uX:=@List.flatten_nil
abbrev uY:=@Nat.mul_le_mul_right
abbrev uZ:=@List.ext_getElem
abbrev ub:=@Bool.and_true
abbrev ud:=@Option.map_eq_some_iff
abbrev ue:=@Array.length_toList
abbrev ug:=@Nat.mul_le_mul_left
abbrev uh:=@Array.getElem?_eq_getElem
abbrev ui:=@UInt8.toNat_ofNat'
abbrev uj:=@List.mem_of_getElem?
abbrev uk:=@UInt8.toNat_lt
abbrev ul:=@decide_eq_false_iff_not
abbrev um:=@List.flatMap_cons
abbrev un:=@List.map_congr_left
abbrev uo:=@Nat.lt_succ_self
abbrev uq:=@List.getElem?_drop
abbrev ur:=@List.mem_range
abbrev ut:=@List.pairwise_iff_getElem
abbrev uu:=@List.mem_append_left
abbrev uv:=@Option.map_some
abbrev uw:=@Array.getElem?_replicate
abbrev ux:=@Int.toNat_natCast
abbrev uy:=@of_decide_eq_true
abbrev uz:=@List.nodup_append
abbrev VA:=@List.all_cons
abbrev VB:=@Option.getD_some
abbrev VC:=@List.nodup_nil
abbrev VD:=@Nat.eq_zero_or_pos
abbrev VE:=@List.mem_append_right
abbrev VF:=@Array.getElem?_modify
abbrev VG:=@List.cons.injEq
abbrev VH:=@List.all_append
abbrev VI:=@List.set_append_right
abbrev VJ:=@List.range_succ
abbrev VK:=@List.setIfInBounds_toArray
abbrev VL:=@List.ext_getElem?
abbrev VM:=@List.isEmpty_iff
abbrev VN:=@Nat.sub_self
theorem XA:a≤a:=Nat.le_refl a
theorem XB:0≤a:=Nat.zero_le a
theorem XC (h:p)(k:p→q:=by intro h;omega):q:=k h
theorem XD {a:α}{o:Option α}(h:a∈o.toList):o=some a:=Option.mem_toList.1 h
theorem XE (e:α):∃ x,RowKit.Hid (x=e):=⟨e,Lib.hid rfl⟩
theorem XF (e:α):∃ x,x=e:=⟨e,rfl⟩
theorem XH {r:Prop}(h:p)(g:r)(k:p→r→q:=by intro h g;omega):q:=k h g
theorem _root_.Go.Wz (h:p:=by simp):p:=h
theorem _root_.Go.Ws (h:p:=by omega):p:=h
theorem _root_.Go.Wk (h:p:=by rfl):p:=h
theorem _root_.Go.Wo (h:p:=by decide):p:=h
theorem _root_.Go.Wr (h:p:=by kernel_rfl):p:=h
theorem qI {p:Prop}(h:p):RowKit.Hid p:=Lib.hid h
theorem _root_.Go.RowKit.Hid.o (h:RowKit.Hid p):p:=h.out
theorem zA (a:Act)(n:Nat)(v:Value):a.put (some n) v={ a with tmps:=a.tmps.setIfInBounds n v }:=rfl
theorem zN (a:Act)(v:Value):a.put none v=a:=rfl
theorem zB (l:List α)(i:Nat)(a:α):l.toArray.setIfInBounds i a=(l.set i a).toArray:=VK ..
theorem zC (x a:α)(l:List α):(x::l).set 0 a=a::l:=rfl
theorem zD (x a:α)(l:List α)(n:Nat):(x::l).set (n+1) a=x::l.set n a:=rfl
theorem XI:(∀ (a:Act) (n:Nat) (v:Value),a.put (some n) v={ a with tmps:=a.tmps.setIfInBounds n v })∧(∀ (a:Act) (v:Value),a.put none v=a)∧(∀ {α:Type}(l:List α) (i:Nat) (a:α),l.toArray.setIfInBounds i a=(l.set i a).toArray)∧(∀ {α:Type}(x a:α) (l:List α),(x::l).set 0 a=a::l)∧(∀ {α:Type}(x a:α) (l:List α) (n:Nat),(x::l).set (n+1) a=x::l.set n a):=⟨@zA,@zN,@zB,@zC,@zD⟩
open Go.RowKit
def lim:Nat:=140737488351232
def kind (w:World)(k:Nat):Nat:=
 match w.heap[k]? with
 | some (.cells _ e _)=>e+2
 | some (.map _ _)=>1
 | _=>0
theorem zQ {w:World}{k:Nat}{c:Array Value}(h:w.heap[k]? = some (.cells c e f)):kind w k=e+2:=by simp [kind,h]
theorem kind_map {w:World}{k:Nat}{c:Array MapEntry}(h:w.heap[k]? = some (.map c e)):kind w k=1:=by simp [kind,h]
theorem xP {w:World}{b x y:Nat}(f:kind w a=x)(d:kind w b=y)(h:x≠y):a≠b:=by
 intro e;subst e;exact h (f.symm.trans d)
theorem kind_lt {w:World}{k:Nat}(h:kind w k≠0):k<w.heap.size:=by
 rcases Xr k w.heap.size with g | g
 ·exact g
 ·exact absurd (by simp [kind,Xy g]) h
theorem za {w:World}{b o:Nat}{cs:Array Value}(h:w.heap[b]? = some (.cells cs t f))(hv:cs[o]? = some v):w.cell? ⟨b,o,none⟩=some v:=by simp [World.cell?,h,hv]
theorem zh {w:World}{b o:Nat}{cs:Array Value}(h:w.heap[b]? = some (.cells cs t (0,0))):w.frozen? ⟨b,o,none⟩=false:=by simp [World.frozen?,h]
structure zb (X:List Nat)(w w':World):Prop where
 os:w'.os=w.os
 tape:w'.tape=w.tape
 output:w'.output=w.output
 size:w.heap.size≤w'.heap.size
 block:∀ k,k<w.heap.size→k ∉ X→w'.heap[k]? = w.heap[k]?
theorem zb.refl (X:List Nat)(w:World):zb X w w:=⟨rfl,rfl,rfl,XA,fun _ _ _=>rfl⟩
theorem _root_.Go.Wd {w:World}:zb X w w:=zb.refl _ _
theorem zb.mono {Y:List Nat}{w:World}(h:zb X w w')(a:∀ k,k∈X→k∈Y):zb Y w w':=
 ⟨h.os,h.tape,h.output,h.size,fun k b d=>h.block k b (fun e=>d (a k e))⟩
theorem zb.trans {X Y:List Nat}{a b c:World}(h:zb X a b)(k:zb Y b c)(j:∀ i,i∈Y→i∈X∨a.heap.size≤i):zb X a c:=
 ⟨k.os.trans h.os,k.tape.trans h.tape,k.output.trans h.output,X7 h.size k.size,fun i d f=>
  (k.block i (uT d h.size) (fun e=>by rcases j i e with g | g;exact f g;omega)).trans (h.block i d f)⟩
theorem zb.trans' {a b c:World}(h:zb X a b)(k:zb X b c):zb X a c:=h.trans k (fun _ e=>.inl e)
theorem zb.then {a b c:World}(h:zb X a b)(k:zb [] b c):zb X a c:=h.trans k (fun _ e=>by simp at e)
theorem zb.drew {X:List Nat}{a w:World}(h:zb X a w):zb X a w.drew:=⟨h.os,h.tape,h.output,h.size,h.block⟩
theorem zb.drewN {X:List Nat}{a w:World}(h:zb X a w)(n:Nat):zb X a (w.drewN n):=⟨h.os,h.tape,h.output,h.size,h.block⟩
theorem zb.alloc {X:List Nat}{a w:World}(h:zb X a w)(o:Obj):zb X a (w.alloc o):=
 h.then ⟨rfl,rfl,rfl,Wz,fun k b _=>Below.heap_alloc _ _ _ b⟩
theorem zb.setCell {X:List Nat}{a w:World}(h:zb X a w){p:Addr}(hp:p.block∈X∨a.heap.size≤p.block)(u:Value):zb X a (w.setCell p u):=
 h.trans (Y:=[p.block]) ⟨rfl,rfl,rfl,by simp [World.setCell],fun k d b=>Below.heap_setCell _ _ _ _ (by simpa using b)⟩ (fun i e=>by simp at e;subst e;exact hp)
theorem zb.grown {a w:World}{row:Option Nat}(h:zb X a w)(b:w.grownBy w' row)(d:∀ k,row=some k→k∈X∨a.heap.size≤k):zb X a w':=
 h.trans (Y:=row.toList) ⟨b.os,b.tape,b.output,b.size,fun k f j=>b.block k f (by intro e;apply j;rw [← e];simp)⟩ (fun i e=>by simp at e;exact d i e)
theorem zb.of_below {w:World}(h:Below w.heap.size w w'):zb [] w w':=⟨h.os,h.tape,h.output,h.size,fun k a _=>h.block k a⟩
theorem zb.below {w:World}{B:Nat}(h:zb X w w')(b:B≤w.heap.size)(a:∀ k,k∈X→B≤k):Below B w w':=
 ⟨h.os,h.tape,h.output,h.size,fun k d=>h.block k Ws (fun e=>by have:=a k e;omega)⟩
theorem zb.cell {X:List Nat}{w w':World}(h:zb X w w'){p:Addr}{u:Value}(hc:w.cell? p=some u)(hp:p.block ∉ X):w'.cell? p=some u:=
 (World.cell?_of_block (h.block p.block (World.block_lt_of_cell? w p hc) hp)).trans hc
theorem VO {X:List Nat}{w w':World}{a b c d e f:Addr}{i j k l m n:Value}(h:zb X w w')(A:w.cell? a=some i)(B:w.cell? b=some j)(C:w.cell? c=some k)(D:w.cell? d=some l)(E:w.cell? e=some m)(F:w.cell? f=some n)(p:a.block ∉ X:=by simp)(q:b.block ∉ X:=by simp)(r:c.block ∉ X:=by simp)(s:d.block ∉ X:=by simp)(t:e.block ∉ X:=by simp)(u:f.block ∉ X:=by simp):w'.cell? a=some i∧w'.cell? b=some j∧w'.cell? c=some k∧w'.cell? d=some l∧w'.cell? e=some m∧w'.cell? f=some n:=⟨h.cell A p,h.cell B q,h.cell C r,h.cell D s,h.cell E t,h.cell F u⟩
theorem VP {X:List Nat}{w w':World}{a b c d e:Addr}{i j k l m:Value}(h:zb X w w')(A:w.cell? a=some i)(B:w.cell? b=some j)(C:w.cell? c=some k)(D:w.cell? d=some l)(E:w.cell? e=some m)(p:a.block ∉ X:=by simp)(q:b.block ∉ X:=by simp)(r:c.block ∉ X:=by simp)(s:d.block ∉ X:=by simp)(t:e.block ∉ X:=by simp):w'.cell? a=some i∧w'.cell? b=some j∧w'.cell? c=some k∧w'.cell? d=some l∧w'.cell? e=some m:=⟨h.cell A p,h.cell B q,h.cell C r,h.cell D s,h.cell E t⟩
theorem VQ {X:List Nat}{w w':World}{a b c d:Addr}{i j k l:Value}(h:zb X w w')(A:w.cell? a=some i)(B:w.cell? b=some j)(C:w.cell? c=some k)(D:w.cell? d=some l)(p:a.block ∉ X:=by simp)(q:b.block ∉ X:=by simp)(r:c.block ∉ X:=by simp)(s:d.block ∉ X:=by simp):w'.cell? a=some i∧w'.cell? b=some j∧w'.cell? c=some k∧w'.cell? d=some l:=⟨h.cell A p,h.cell B q,h.cell C r,h.cell D s⟩
theorem VR {X:List Nat}{w w':World}{a b c:Addr}{i j k:Value}(h:zb X w w')(A:w.cell? a=some i)(B:w.cell? b=some j)(C:w.cell? c=some k)(p:a.block ∉ X:=by simp)(q:b.block ∉ X:=by simp)(r:c.block ∉ X:=by simp):w'.cell? a=some i∧w'.cell? b=some j∧w'.cell? c=some k:=⟨h.cell A p,h.cell B q,h.cell C r⟩
theorem zb.kind {X:List Nat}{w w':World}(h:zb X w w'){k:Nat}(a:k<w.heap.size)(hp:k ∉ X):kind w' k=kind w k:=by simp [Go.Proofs.YtjccecajigmfkaaGreatDoor.kind,h.block k a hp]
theorem zb.heap {X:List Nat}{w w':World}(h:zb X w w'){k:Nat}{o:Obj}(a:w.heap[k]? = some o)(hp:k ∉ X):w'.heap[k]? = some o:=
 (h.block k (lt_of_block a) hp).trans a
theorem zaV {i:Int}(e:-9223372036854775808≤i)(a:i≤9223372036854775807):(Lit.int .i64 i).wf=true:=by
 have d:IntKind.i64.min = -9223372036854775808:=Wo
 have b:IntKind.i64.max=9223372036854775807:=Wo
 show (decide (IntKind.i64.min≤i)&&decide (i≤IntKind.i64.max))=true
 rw [d,b,XT e,XT a]
 rfl
def bv (b:UInt8):Value:=.int .u8 b.toNat
theorem qr (l:List UInt8):∀ u∈l.map bv,u.oneCell'=true:=by
 intro u a
 obtain⟨b,_,rfl⟩:=Xm.1 a
 rfl
structure Row (w:World)(g o:Nat)(xs:List Value):Prop where
 cells:∀ j u,xs[j]? = some u→w.cell? ⟨g,o+j,none⟩=some u
 lt:g<w.heap.size
theorem Row.kept {w:World}{g o:Nat}(h:Row w g o xs)(k:zb X w w')(a:g ∉ X):Row w' g o xs:=
 ⟨fun j u e=>k.cell (h.cells j u e) a,uT h.lt k.size⟩
theorem Row.at {w:World}{g o:Nat}(h:Row w g o xs){j:Nat}(a:j<xs.length):w.cell? ⟨g,o+j,none⟩=some xs[j]:=
 h.cells j _ (by simp [a])
theorem Row.adds {w:World}{g o:Nat}(h:Row w g o xs):∀ j u,xs[j]? = some u→w.cell? ((⟨g,o,none⟩:Addr).add j)=some u:=by
 intro j u a
 have:=h.cells j u a
 unfold Addr.add
 split
 ·rename_i b;subst b;simpa using this
 ·exact this
theorem Row.drop {w:World}{g o:Nat}{xs:List Value}(h:Row w g o xs)(k:Nat):Row w g (o+k) (xs.drop k):=by
 refine⟨?_,h.lt⟩
 intro j u a
 rw [uq] at a
 rw [uS]
 exact h.cells (k+j) u a
theorem Row.take {w:World}{g o:Nat}{xs:List Value}(h:Row w g o xs)(k:Nat):Row w g o (xs.take k):=by
 refine⟨?_,h.lt⟩
 intro j u a
 rw [X9] at a
 split at a
 ·exact h.cells j u a
 ·cases a
def yt:Value→Option Nat
 | .slice (some a) (_+1) _=>some a.block
 | _=>none
theorem yL {g:Nat}(h:yt v=some g):v.ownBlock=some g:=by
 unfold yt at h
 split at h
 ·simpa [Value.ownBlock] using h
 ·cases h
theorem vu {a:Option Addr}{n c g:Nat}(h:yt (.slice a n c)=some g):0<n∧(Value.slice a n c).ownBlock=some g:=by
 refine⟨?_,yL h⟩
 cases n with
 | zero=>simp [yt] at h
 | succ n=>omega
theorem QD {a:Addr}{n c:Nat}(h:0<n):yt (.slice (some a) n c)=some a.block:=by
 cases n with
 | zero=>omega
 | succ n=>rfl
def Slc (w:World)(size:Nat)(v:Value)(n:Nat)(xs:List Value):Prop:=
 xs.length=n*size∧((v = .slice none 0 0∧n=0)∨(n=0∧∃ a cap,v = .slice (some a) 0 cap∧cap≤maxLen)∨∃ g o cap,v = .slice (some ⟨g,o,none⟩) n cap∧n≤cap∧cap≤maxLen∧Row w g o xs)
theorem Slc.kept {X:List Nat}{w w':World}{size:Nat}{v:Value}{n:Nat}{xs:List Value}(h:Slc w size v n xs)(k:zb X w w')(b:∀ g,yt v=some g→g ∉ X):Slc w' size v n xs:=by
 refine⟨h.1,?_⟩
 rcases h.2 with h | h | ⟨g,o,cap,rfl,a,h2,h3⟩
 ·exact .inl h
 ·exact .inr (.inl h)
 ·cases n with
  | zero=>exact .inr (.inl ⟨rfl,_,_,rfl,h2⟩)
  | succ n=>exact .inr (.inr ⟨g,o,cap,rfl,a,h2,h3.kept k (b g rfl)⟩)
theorem Slc.k0 {w:World}{n:Nat}(h:Slc w size v n xs)(k:zb [] w w'):Slc w' size v n xs:=h.kept k Wz
theorem Slc.lt {w:World}{size:Nat}{v:Value}{n:Nat}{xs:List Value}(h:Slc w size v n xs){g:Nat}(b:yt v=some g):g<w.heap.size:=by
 rcases h.2 with ⟨rfl,_⟩ | ⟨rfl,a,cap,rfl,_⟩ | ⟨e,o,cap,rfl,d,h2,h3⟩
 ·simp [yt] at b
 ·simp [yt] at b
 ·have:=(vu b).2
  simp [Value.ownBlock] at this
  subst this
  exact h3.lt
theorem Slc.drew {w:World}{size:Nat}{v:Value}{n:Nat}{xs:List Value}(h:Slc w size v n xs):Slc w.drew size v n xs:=h.k0 Wd.drew
theorem xt (w:World)(size:Nat):Slc w size (.slice none 0 0) 0 []:=⟨Wz,.inl ⟨rfl,rfl⟩⟩
theorem Slc.of_row {w:World}{n:Nat}(h:w.ownsRow base e size v n xs):Slc w size v n xs:=by
 refine⟨h.1,?_⟩
 rcases h.2 with h2 | ⟨g,cap,b,hv,i,d,hc,hm,k,f⟩
 ·exact .inl h2
 ·subst hv
  refine .inr (.inr ⟨g,0,cap,rfl,hc,hm,⟨?_,lt_of_block d⟩⟩)
  intro j u a
  rw [cell_of_row w g (0+j) b e (0,0) d]
  rw [← f,X9] at a
  split at a
  ·simpa using a
  ·cases a
theorem yw {w:World}{n:Nat}(h:w.ownsRow base e size v n xs){g:Nat}(a:v.ownBlock=some g):kind w g=e+2:=by
 rcases h.2 with ⟨rfl,_⟩ | ⟨f,cap,b,rfl,_,d,_⟩
 ·simp [Value.ownBlock] at a
 ·simp [Value.ownBlock] at a
  subst a
  exact zQ d
theorem zk {w:World}{n:Nat}(h:w.ownsRow base e size v n xs)(k:zb X w w')(d:∀ g,v.ownBlock=some g→g ∉ X):w'.ownsRow base e size v n xs:=by
 refine⟨h.1,?_⟩
 rcases h.2 with h2 | ⟨g,cap,a,hv,b,f,r⟩
 ·exact .inl h2
 ·exact .inr ⟨g,cap,a,hv,b,k.heap f (d g (by rw [hv];rfl)),r⟩
theorem qA {w:World}{a:Nat}{n:Nat}(h:w.ownsRow base e size v n xs)(f:∀ g,v.ownBlock=some g→a≤g):w.ownsRow a e size v n xs:=by
 refine⟨h.1,?_⟩
 rcases h.2 with h2 | ⟨g,cap,b,hv,d,i,r⟩
 ·exact .inl h2
 ·exact .inr ⟨g,cap,b,hv,f g (by rw [hv];rfl),i,r⟩
abbrev zm (w:World)(v:Value)(l:List UInt8):Prop:=Slc w 1 v l.length (l.map bv)
def zL {α β:Type}(R:α→β→Prop)(xs:List α)(ys:List β):Prop:=xs.length=ys.length∧∀ (j:Nat) (x:α) (y:β),xs[j]? = some x→ys[j]? = some y→R x y
theorem zL.nil (R:α→β→Prop):zL R [] []:=⟨rfl,Wz⟩
theorem zL.cons {x:α}{y:β}{xs:List α}(h:R x y)(t:zL R xs ys):zL R (x::xs) (y::ys):=by
 refine⟨by simp [t.1],?_⟩
 intro j a b e d
 cases j with
 | zero=>simp at e d;subst e;subst d;exact h
 | succ j=>simp at e d;exact t.2 j a b e d
theorem zL.mono {S:α→β→Prop}{xs:List α}(h:zL R xs ys)(d:∀ x y,x∈xs→R x y→S x y):zL S xs ys:=
 ⟨h.1,fun j x y a b=>d x y (uj a) (h.2 j x y a b)⟩
theorem zL.app {xs i:List α}{f:List β}(h:zL R xs ys)(l:zL R i f):zL R (xs++i) (ys++f):=by
 refine⟨by simp [h.1,l.1],?_⟩
 intro j a b e d
 rw [List.getElem?_append] at e d
 rw [h.1] at e
 split at e
 ·rename_i k;rw [XK k] at d;exact h.2 j a b e d
 ·rename_i k;rw [XJ k] at d;exact l.2 _ a b e d
theorem zL.set {α β:Type}{R:α→β→Prop}{xs:List α}{ys:List β}(h:zL R xs ys)(i:Nat){x:α}{y:β}(k:R x y):zL R (xs.set i x) (ys.set i y):=by
 refine⟨by simp [h.1],?_⟩
 intro j a b f d
 rw [List.getElem?_set] at f d
 split at f
 ·rename_i e
  rw [XK e] at d
  split at f
  ·split at d
   ·cases f;cases d;exact k
   ·cases d
  ·cases f
 ·rename_i e
  rw [XJ e] at d
  exact h.2 j a b f d
theorem qv (a:List (List α))(j:Nat)(h:j<a.length):(a.take (j+1)).flatten=(a.take j).flatten++a[j]:=by
 rw [XZ h,X5,Xu,uX,Xn]
theorem vU (a:List (List α))(j:Nat):(a.take j).flatten.length≤a.flatten.length:=by
 conv=>rhs;rw [← uG j a]
 rw [X5,XM]
 omega
theorem Slc.form {w:World}{n:Nat}(h:Slc w size v n xs):∃ a c,v = .slice a n c∧n≤c∧c≤maxLen:=by
 rcases h.2 with ⟨rfl,rfl⟩ | ⟨rfl,a,cap,rfl,h2⟩ | ⟨g,o,cap,rfl,b,h2,_⟩
 ·exact⟨_,_,rfl,XA,Wo⟩
 ·exact⟨_,_,rfl,XB,h2⟩
 ·exact⟨_,_,rfl,b,h2⟩
structure qq (P:Program)(t e size bytes:Nat)(z:Value):Prop where
 und:P.underlying t=some (.slice e)
 info:(P.info? e).map (fun i=>(i.zero,i.size,i.bytes))=some (some z,size,bytes)
 zs:z.cells.size=size
 pos:0<size
theorem Zo (g o k:Nat):(⟨g,o,none⟩:Addr).add k=⟨g,o+k,none⟩:=by
 unfold Addr.add
 split
 ·rename_i h;subst h;rfl
 ·rfl
theorem Slc.cut {P:Program}(T:qq P t e size bytes z){w:World}{n:Nat}(h:Slc w size v n xs)(i k:Nat)(j:i≤k)(A:k≤n) : ∃ v',(∀ W,(Instr.slice t v (some (.int .i64 i)) (some (.int .i64 k)) none).run P W = .ok v' W)∧(k=n→∀ W,(Instr.slice t v (some (.int .i64 i)) none none).run P W = .ok v' W)∧(i=0→∀ W,(Instr.slice t v none (some (.int .i64 k)) none).run P W = .ok v' W)∧Slc w size v' (k-i) ((xs.drop (i*size)).take ((k-i)*size))∧(∀ g,yt v'=some g→yt v=some g):=by
 obtain⟨s,a,D,p,C⟩:=info_parts T.info
 rcases h.2 with ⟨rfl,rfl⟩ | ⟨rfl,f,cap,rfl,hm⟩ | ⟨g,o,cap,rfl,hc,hm,q⟩
 ·obtain rfl:k=0:=by omega
  obtain rfl:i=0:=Ws
  refine⟨.slice none 0 0,fun W=>?_,fun _ W=>?_,fun _ W=>?_,by simp [Slc],by simp [yt]⟩
  all_goals simp [Instr.slice,Instr.sliceBounds,Instr.sliceBound,asIntOf,run_underlying T.und,sizeOf,typeInfo,a]
 ·obtain rfl:k=0:=by omega
  obtain rfl:i=0:=Ws
  have y:f.add 0=f:=by simp [Addr.add]
  refine⟨.slice (some f) 0 cap,fun W=>?_,fun _ W=>?_,fun _ W=>?_,⟨Wz,.inr (.inl ⟨rfl,f,cap,rfl,hm⟩)⟩,by simp [yt]⟩
  all_goals simp [Instr.slice,Instr.sliceBounds,Instr.sliceBound,asIntOf,run_underlying T.und,sizeOf,typeInfo,a,y]
 ·have b:k≤cap:=by omega
  have u:i≤cap:=Ws
  refine⟨.slice (if cap=i then some ⟨g,o,none⟩ else some ⟨g,o+i*size,none⟩) (k-i) (cap-i),fun W=>?_,fun e W=>?_,fun e W=>?_,⟨?_,.inr (.inr ?_)⟩,?_⟩
  ·simp [Instr.slice,Instr.sliceBounds,Instr.sliceBound,asIntOf,run_underlying T.und,sizeOf,typeInfo,a,p,b,j,Zo]
  ·subst e
   simp [Instr.slice,Instr.sliceBounds,Instr.sliceBound,asIntOf,run_underlying T.und,sizeOf,typeInfo,a,p,b,j,Zo]
  ·subst e
   simp [Instr.slice,Instr.sliceBounds,Instr.sliceBound,asIntOf,run_underlying T.und,sizeOf,typeInfo,a,p,b,j,Zo]
  ·rw [Xe,XW,h.1,← Nat.sub_mul]
   have:=uY size (Nat.sub_le_sub_right A i)
   omega
  ·by_cases e:cap=i
   ·rw [XK e]
    have x:(k-i)*size=0:=by rw [show k-i=0 by omega];simp
    rw [x,List.take_zero]
    exact⟨g,o,cap-i,rfl,Ws,Ws,⟨Wz,q.lt⟩⟩
   ·rw [XJ e]
    exact⟨g,o+i*size,cap-i,rfl,Ws,Ws,(q.drop _).take _⟩
  ·intro B m
   obtain⟨r,d⟩:=vu m
   have l:B=g:=by split at d <;> simpa [Value.ownBlock,eq_comm] using d
   subst l
   exact QD Ws
theorem zm.mid {P:Program}(T:qq P t e 1 bytes z){w:World}{l:List UInt8}(h:zm w v l)(i k:Nat)(d:i≤k)(j:k≤l.length) : ∃ a c,(∀ W,(Instr.slice t v (some (.int .i64 i)) (some (.int .i64 k)) none).run P W = .ok (.slice a (k-i) c) W)∧zm w (.slice a (k-i) c) ((l.drop i).take (k-i))∧(∀ g,yt (Value.slice a (k-i) c)=some g→yt v=some g):=by
 obtain⟨n,h3,-,-,b,m⟩:=h.cut T i k d j
 obtain⟨a,c,rfl,-,-⟩:=b.form
 have f:((l.drop i).take (k-i)).length=k-i:=by rw [Xe,XW];omega
 refine⟨a,c,h3,?_,m⟩
 unfold zm
 rw [f,List.map_take,List.map_drop]
 simpa using b
theorem bA {P:Program}(T:qq P t e size bytes z)(w:World)(l base:Nat)(v:Value)(n:Nat)(xs:List Value)(d:w.ownsRow base e size v n xs)(vx:Value)(m:Nat)(news:List Value)(a:Slc w size vx m news)(A:∀ u∈news,u.oneCell'=true)(j:n+m≤maxLen)(f:(n+m)*bytes≤140737488355328)(h:base≤w.heap.size) : ∃ v' w',(Builtin.append_ #[t,t] l #[v,vx]).run P w = .ok v' w'∧w'.ownsRow base e size v' (n+m) (xs++news)∧zb v.ownBlock.toList w w'∧(v' = .slice none 0 0↔v = .slice none 0 0∧m=0)∧(v'.ownBlock=v.ownBlock∨v'.ownBlock=some w.heap.size):=by
 obtain⟨i,r,C,D,B⟩:=info_parts T.info
 rcases a.2 with ⟨rfl,rfl⟩ | ⟨rfl,E,cap,rfl,hm⟩ | ⟨g,o,cap,rfl,hc,hm,F⟩
 ·have b:news=[]:=Xh (by simpa using a.1)
  subst b
  refine⟨v,w,run_append_owned_none w base t l e i size T.und r v n xs d,by simpa using d,Wd,Wz,.inl rfl⟩
 ·have b:news=[]:=Xh (by simpa using a.1)
  subst b
  obtain⟨v',w',q,x,s,p,y⟩:=run_append_own_at (P:=P) w base t l e i z size bytes T.und r C D B T.zs T.pos v n xs d E 0 cap [] a.1 Wz A j f h
  exact⟨v',w',q,x,Wd.grown s (fun k e=>.inl (by simp [e])),p,y⟩
 ·obtain⟨v',w',q,x,s,p,y⟩:=run_append_own_at (P:=P) w base t l e i z size bytes T.und r C D B T.zs T.pos v n xs d ⟨g,o,none⟩ m cap news a.1 F.adds A j f h
  exact⟨v',w',q,x,Wd.grown s (fun k e=>.inl (by simp [e])),p,y⟩
theorem zz {P:Program}(T:qq P t e size bytes z) {w:World}{n:Nat}(hown:w.ownsRow base e size v n xs)
(hsrc:Slc w size vx m news) (h1:∀ u∈news,u.oneCell'=true) (h63:n+m≤maxLen) (hbytes:(n+m)*bytes≤140737488355328) (hbase:base≤w.heap.size)
{rest:List Oper}{o:Oper}{a:Act}(hgd:o.guard=none) (s x:Operand)
  (ho:o.op = .call { callee:=.builtin .append,args:=#[s,x],argTypes:=#[t,t] }) (hs:a.eval s=v) (hx:a.eval x=vx)
  (h:∀ v' w',w'.ownsRow base e size v' (n+m) (xs++news)→zb v.ownBlock.toList w w'→(v' = .slice none 0 0↔v = .slice none 0 0∧m=0)→(v'.ownBlock=v.ownBlock∨v'.ownBlock=some w.heap.size)→wpList P ops Q rest (a.put o.dst v') w') :
  wpList P ops Q (o::rest) a w:=by
 refine wpList_plain hgd fun K hK=>?_
 obtain⟨v',w',hr,h2,h3,h4,h5⟩:=bA T w o.type base v n xs hown vx m news hsrc h1 h63 hbytes hbase
 unfold Oper.wp execOp
 simp only [ho,resolve,invoke,builtin,Sem.run_bind,Sem.run_pure,Result.andThen_ok,List.map_toArray,Xf,X3,hs,hx,hr]
 exact hK _ _ (h v' w' h2 h3 h4 h5)
theorem zbG {P:Program}(T:qq P t e size bytes z) {w:World}{n:Nat}(hown:w.ownsRow base e size v n xs)
(hsrc:Slc w size vx m news) (h1:∀ u∈news,u.oneCell'=true) (hm:0<m) (h63:n+m≤maxLen) (hbytes:(n+m)*bytes≤140737488355328) (hbase:base≤w.heap.size) (ty:Nat) :
  ∃ g cap w',(Builtin.append_ #[t,t] ty #[v,vx]).run P w = .ok (.slice (some ⟨g,0,none⟩) (n+m) cap) w'∧w'.ownsRow base e size (.slice (some ⟨g,0,none⟩) (n+m) cap) (n+m) (xs++news)∧zb v.ownBlock.toList w w'∧(v.ownBlock=some g∨g=w.heap.size):=by
 obtain⟨v',w',hr,h2,h3,h4,h5⟩:=bA T w ty base v n xs hown vx m news hsrc h1 h63 hbytes hbase
 rcases h2.2 with ⟨e1,e2⟩ | ⟨g,cap,cur,e1,_⟩
 ·omega
 ·subst e1
  refine⟨g,cap,w',hr,h2,h3,?_⟩
  rcases h5 with h5 | h5
  ·exact .inl h5.symm
  ·exact .inr (by simpa [Value.ownBlock] using h5)
theorem xK {P:Program}(T:qq P t e size bytes z) {w:World}{n:Nat}(hown:w.ownsRow base e size v n xs)
(hsrc:Slc w size vx m news) (h1:∀ u∈news,u.oneCell'=true) (hm:0<m) (h63:n+m≤maxLen) (hbytes:(n+m)*bytes≤140737488355328) (hbase:base≤w.heap.size)
{o:Oper}{a:Act}{K:Act→World→Prop}{E:Prop}(hgd:o.guard=none) (s x:Operand)
  (ho:o.op = .call { callee:=.builtin .append,args:=#[s,x],argTypes:=#[t,t] }) (hs:a.eval s=v) (hx:a.eval x=vx)
  (h:∀ g cap w',w'.ownsRow base e size (.slice (some ⟨g,0,none⟩) (n+m) cap) (n+m) (xs++news)→zb v.ownBlock.toList w w'→(v.ownBlock=some g∨g=w.heap.size)→K (a.put o.dst (.slice (some ⟨g,0,none⟩) (n+m) cap)) w') :
  if Region.wanted o (yielded ops a.tmps)=true then Oper.wp P o a w K Q else E:=by
 have hw:Region.wanted o (yielded ops a.tmps)=true:=by simp [Region.wanted,hgd]
 rw [XK hw]
 obtain⟨g,cap,w',hr,h2,h3,h4⟩:=zbG T hown hsrc h1 hm h63 hbytes hbase o.type
 unfold Oper.wp execOp
 simp only [ho,resolve,invoke,builtin,Sem.run_bind,Sem.run_pure,Result.andThen_ok,List.map_toArray,Xf,X3,hs,hx,hr]
 exact h g cap w' h2 h3 h4
theorem bR (w:World)(x:Value)(t g:Nat)(a:w.heap.size=g):Slc (w.alloc (.cells #[x] t)) 1 (.slice (some ⟨g,0,none⟩) 1 1) 1 [x]:=by
 subst a
 refine⟨rfl,.inr (.inr ⟨w.heap.size,0,1,rfl,XA,Wo,?_,Wz⟩)⟩
 intro j u b
 rw [Xd,cell_of_row _ w.heap.size j #[x] t (0,0) (heap_alloc_new w _)]
 simpa using b
theorem yE (w:World)(xs:List Value)(size n t g:Nat)(b:w.heap.size=g)(a:xs.length=n*size)(hm:n≤maxLen):Slc (w.alloc (.cells xs.toArray t)) size (.slice (some ⟨g,0,none⟩) n n) n xs:=by
 subst b
 refine⟨a,.inr (.inr ⟨w.heap.size,0,n,rfl,XA,hm,?_,Wz⟩)⟩
 intro j u d
 rw [Xd,cell_of_row _ w.heap.size j xs.toArray t (0,0) (heap_alloc_new w _)]
 simpa using d
open Go.Maps (Keyed)
def heldE (v:Value):Option (DataW Value×List MemPlace):=some (.held v,[])
def look (D:DataW Value)(kl:Lit):Option Value:=match D.atKey kl .nil with | .held v=>some v | _=>none
def bl (P:Program)(w:World)(k b n:Nat)(M:Lit→Option Value):Prop:=
 ∃ D,w.ownsMap P k heldE b n D∧∀ kl,M kl=look D kl∧(Maps.has D kl=(M kl).isSome)
theorem Zt {P:Program}{k:TypeId}(K:Keyed P k){key:Value}{a:Lit}(h:keyOf P k key=some a):WideAt.IsKeyLit a:=K.key h
section
variable {P : Program} {w : World} {k b n : Nat} {M : Lit → Option Value}
theorem bl.kind (h:bl P w k b n M):kind w b=1:=by
 obtain⟨D,⟨e,a,d,_⟩,_⟩:=h;exact kind_map d
theorem bl.lt (h:bl P w k b n M):b<w.heap.size:=kind_lt (by rw [h.kind];decide)
theorem bl.kept {X:List Nat}{w':World}(h:bl P w k b n M)(i:zb X w w')(e:b ∉ X):bl P w' k b n M:=by
 obtain⟨D,⟨f,a,d,h2⟩,h3⟩:=h;exact⟨D,⟨f,a,i.heap d e,h2⟩,h3⟩
theorem mapAt_made (P:Program)(w:World)(k:Nat):bl P (w.alloc (.map #[] 0)) k w.heap.size 0 (fun _=>none):=
 ⟨.map [],World.ownsMap_made _ _ _ _,fun a=>⟨by simp [look,DataW.atKey],by simp [Maps.has]⟩⟩
theorem bl.lookup {t e:TypeId}(h:bl P w k b n M)(K:Keyed P k)(x:P.underlying t=some (.map k e)){z:Value}(B:(zeroValue e).run P w = .ok z w){key:Value}{d:Lit}(j:keyOf P k key=some d) : (Instr.lookup t (.map (some b)) key true).run P w = .ok (.tuple #[(M d).getD z,.bool (M d).isSome]) w∧(Instr.lookup t (.map (some b)) key false).run P w = .ok ((M d).getD z) w:=by
 obtain⟨D,⟨E,m,A,F,G,rfl⟩,h3⟩:=h;obtain⟨q,l⟩:=h3 d;have f:∀ c,(Instr.lookup t (.map (some b)) key c).run P w = .ok (if c then .tuple #[(M d).getD z,.bool (M d).isSome] else (M d).getD z) w:=by
  intro c;rcases Maps.fit_look c K x B A F j with ⟨a,_,i⟩ | ⟨u,y,_,_,a,p,i,_⟩
  ·have s:=Maps.has_false_of_atKey i;rw [l] at s;cases r:M d with
   | none=>simpa [r] using a
   | some v=>simp [r] at s
  ·have C:y=(DataW.held u.val,[]):=by simpa [heldE,eq_comm] using p
   have hv:M d=some u.val:=by rw [q,look,i];simp [C]
   simpa [hv] using a
 exact⟨by simpa using f true,by simpa using f false⟩
theorem bl.update {t e:TypeId}(h:bl P w k b n M)(K:Keyed P k)(r:P.underlying t=some (.map k e))(u:n<maxLen){key:Value}{i:Lit}(a:keyOf P k key=some i)(val:Value) : ∃ w',(Instr.mapUpdate t (.map (some b)) key val).run P w = .ok () w'∧bl P w' k b (n+1) (fun z=>if z.sameKey i then some val else M z)∧zb [b] w w'∧w'.heap.size=w.heap.size:=by
 obtain⟨D,f,h3⟩:=h;obtain⟨w',j,s,q⟩:=f.store K r u a (val:=val) (R:=heldE) (d:=.held val) (ps:=[]) rfl;refine⟨w',j,⟨_,s,?_⟩,?_,?_⟩
 ·intro z;show (if z.sameKey i then some val else M z)=look (D.put i (.held val)) z∧Maps.has (D.put i (.held val)) z=(if z.sameKey i then some val else M z).isSome;by_cases m:z.sameKey i=true;·have p:=WideAt.sameKey_eq m;subst p;rw [XK m];refine⟨?_,Maps.has_put_same f.isMap (Zt K a) _⟩;rw [look,Maps.atKey_put_same f.isMap (Zt K a)]
  ·have l:z≠i:=by intro e;subst e;exact m (WideAt.sameKey_self (Zt K a))
   rw [XJ m];exact⟨by rw [look,Maps.atKey_put_other l];exact (h3 z).1,by rw [Maps.has_put_other l];exact (h3 z).2⟩
 ·exact Wd.grown q.grown (fun k e=>by simp at e;simp [e])
 ·obtain⟨_,_,_,_,_,rfl⟩:=q;simp [Go.ChangeMaps.setBlock]
end
theorem zi (h:p:=by (go_wp2;exact⟨rfl,Wd⟩)):p:=h
theorem yZ {P:Program}{c:Code}{a:Act}{w:World}(h:W=w)(k:c.wp P Q a W):c.wp P Q a w:=by subst h;exact k
theorem _root_.Go.Calls.mh {P:Program}{f:Nat}{A:Array Value}{w:World}{X Y:Ending→World→Prop}{Q:Ending→World→Prop}(h:Calls P f A w fun e w'=>X e w'∧Y e w')(k:∀ e w',X e w'→Hid (Y e w')→Q e w'):Calls P f A w Q:=h.mono fun e w' z=>k e w' z.1 (Lib.hid z.2)
abbrev xz (W:World)(f:Nat)(A:Array Value)(r:Value):Prop:=∀ w2,zb [] W w2→Calls prog f A w2 fun e w'=>e = .returned r∧zb [] w2 w'
abbrev zG (w:World)(f:Nat)(A:Array Value)(r:Value):Prop:=Calls prog f A w fun e w'=>e = .returned r∧zb [] w w'
abbrev jA (R:Exit→Act→World→Prop):Prop:=∀ c a (d:Nat) v w,R (.panic c) (a.put (some d) v) w→R (.panic c) a w
theorem zg (h:p:=by (go_simp;try with_reducible rfl)):p:=h
theorem yz {w:World}{g:Nat}{a b c d e f:Value}{z:Nat×Nat}(h:w.heap[g]? = some (.cells #[a,b,c,d,e,f] t z)):w.cell? ⟨g,0,none⟩=some a∧w.cell? ⟨g,1,none⟩=some b∧w.cell? ⟨g,2,none⟩=some c∧w.cell? ⟨g,3,none⟩=some d∧w.cell? ⟨g,4,none⟩=some e∧w.cell? ⟨g,5,none⟩=some f:=⟨za h rfl,za h rfl,za h rfl,za h rfl,za h rfl,za h rfl⟩
theorem kA1 {w:World}{a:Obj}(h:W=w.alloc a):zb [] w W:=by rw [h];exact (zb.refl _ w).alloc _
theorem kA2 {w:World}{a b:Obj}(h:W=(w.alloc a).alloc b):zb [] w W:=by rw [h];exact ((zb.refl _ w).alloc _).alloc _
theorem kA3 {w:World}{a b c:Obj}(h:W=((w.alloc a).alloc b).alloc c):zb [] w W:=by rw [h];exact (((zb.refl _ w).alloc _).alloc _).alloc _
end Go.Proofs.YtjccecajigmfkaaGreatDoor

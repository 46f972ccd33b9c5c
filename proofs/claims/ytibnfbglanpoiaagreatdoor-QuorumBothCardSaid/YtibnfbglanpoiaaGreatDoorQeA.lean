/- Parts of one proof, merged: XBase. -/
import Derived.Test.YtibnfbglanpoiaaGreatDoorChecked
import Derived.WalkKit
import Derived.WalkSmall
import Derived.Maps.RangeWalk
import Derived.Maps.AppendAt
import Derived.Lib.Hide
set_option linter.all false
set_option maxHeartbeats 12800000
set_option maxRecDepth 10000
namespace Go.Proofs.YtibnfbglanpoiaaGreatDoor
theorem _root_.Go.Wz {p:Prop}(h:p:=by simp):p:=h
theorem _root_.Go.Ws {p:Prop}(h:p:=by omega):p:=h
theorem _root_.Go.Wk {p:Prop}(h:p:=by rfl):p:=h
theorem _root_.Go.Wo {p:Prop}(h:p:=by decide):p:=h
theorem _root_.Go.Wr {p:Prop}(h:p:=by kernel_rfl):p:=h
theorem qI {p:Prop}(h:p):RowKit.Hid p:=Lib.hid h
theorem _root_.Go.RowKit.Hid.o {p:Prop}(h:RowKit.Hid p):p:=h.out
theorem zA (a:Act) (n:Nat) (v:Value):a.put (some n) v={ a with tmps:=a.tmps.setIfInBounds n v }:=rfl
theorem zN (a:Act) (v:Value):a.put none v=a:=rfl
theorem zB {α:Type}(l:List α) (i:Nat) (a:α):l.toArray.setIfInBounds i a=(l.set i a).toArray:=List.setIfInBounds_toArray ..
theorem zC {α:Type}(x a:α) (l:List α):(x::l).set 0 a=a::l:=rfl
theorem zD {α:Type}(x a:α) (l:List α) (n:Nat):(x::l).set (n+1) a=x::l.set n a:=rfl
open Go.RowKit
def lim:Nat:=140737488351232
def kind (w:World) (k:Nat):Nat:=
 match w.heap[k]? with
 | some (.cells _ e _)=>e+2
 | some (.map _ _)=>1
 | _=>0
theorem zM {w:World}{k:Nat}{c:Array Value}{e:Nat}{f:Nat×Nat}(h:w.heap[k]? = some (.cells c e f)):kind w k=e+2:=by simp [kind,h]
theorem kind_map {w:World}{k:Nat}{c:Array MapEntry}{e:Nat}(h:w.heap[k]? = some (.map c e)):kind w k=1:=by simp [kind,h]
theorem xt {w:World}{a b x y:Nat}(ha:kind w a=x) (hb:kind w b=y) (h:x≠y):a≠b:=by
 intro e;subst e;exact h (ha.symm.trans hb)
theorem kind_lt {w:World}{k:Nat}(h:kind w k≠0):k<w.heap.size:=by
 rcases Nat.lt_or_ge k w.heap.size with g | g
 ·exact g
 ·exact absurd (by simp [kind,Array.getElem?_eq_none g]) h
theorem za {w:World}{b o:Nat}{cs:Array Value}{t:Nat}{f:Nat×Nat}{v:Value}(h:w.heap[b]? = some (.cells cs t f)) (hv:cs[o]? = some v):w.cell? ⟨b,o,none⟩=some v:=by simp [World.cell?,h,hv]
theorem zh {w:World}{b o:Nat}{cs:Array Value}{t:Nat}(h:w.heap[b]? = some (.cells cs t (0,0))):w.frozen? ⟨b,o,none⟩=false:=by simp [World.frozen?,h]
structure zb (X:List Nat) (w w':World):Prop where
 os:w'.os=w.os
 tape:w'.tape=w.tape
 output:w'.output=w.output
 size:w.heap.size≤w'.heap.size
 block:∀ k,k<w.heap.size→k ∉ X→w'.heap[k]? = w.heap[k]?
theorem zb.refl (X:List Nat) (w:World):zb X w w:=⟨rfl,rfl,rfl,Nat.le_refl _,fun _ _ _=>rfl⟩
theorem _root_.Go.Wd {X:List Nat}{w:World}:zb X w w:=zb.refl _ _
theorem zb.mono {X Y:List Nat}{w w':World}(h:zb X w w') (hs:∀ k,k∈X→k∈Y):zb Y w w':=
 ⟨h.os,h.tape,h.output,h.size,fun k hk hx=>h.block k hk (fun e=>hx (hs k e))⟩
theorem zb.trans {X Y:List Nat}{a b c:World}(h:zb X a b) (k:zb Y b c) (hs:∀ i,i∈Y→i∈X∨a.heap.size≤i):zb X a c:=
 ⟨k.os.trans h.os,k.tape.trans h.tape,k.output.trans h.output,Nat.le_trans h.size k.size,fun i hi hx=>
  (k.block i (Nat.lt_of_lt_of_le hi h.size) (fun e=>by rcases hs i e with g | g;exact hx g;omega)).trans (h.block i hi hx)⟩
theorem zb.trans' {X:List Nat}{a b c:World}(h:zb X a b) (k:zb X b c):zb X a c:=h.trans k (fun _ e=>.inl e)
theorem zb.then {X:List Nat}{a b c:World}(h:zb X a b) (k:zb [] b c):zb X a c:=h.trans k (fun _ e=>by simp at e)
theorem zb.drew {X:List Nat}{a w:World}(h:zb X a w):zb X a w.drew:=⟨h.os,h.tape,h.output,h.size,h.block⟩
theorem zb.drewN {X:List Nat}{a w:World}(h:zb X a w) (n:Nat):zb X a (w.drewN n):=⟨h.os,h.tape,h.output,h.size,h.block⟩
theorem zb.alloc {X:List Nat}{a w:World}(h:zb X a w) (o:Obj):zb X a (w.alloc o):=
 h.then ⟨rfl,rfl,rfl,Wz,fun k hk _=>Below.heap_alloc _ _ _ hk⟩
theorem zb.setCell {X:List Nat}{a w:World}(h:zb X a w) {p:Addr}(hp:p.block∈X∨a.heap.size≤p.block) (u:Value):zb X a (w.setCell p u):=
 h.trans (Y:=[p.block]) ⟨rfl,rfl,rfl,by simp [World.setCell],fun k hk hx=>Below.heap_setCell _ _ _ _ (by simpa using hx)⟩ (fun i e=>by simp at e;subst e;exact hp)
theorem zb.grown {X:List Nat}{a w w':World}{row:Option Nat}(h:zb X a w) (hg:w.grownBy w' row) (hr:∀ k,row=some k→k∈X∨a.heap.size≤k):zb X a w':=
 h.trans (Y:=row.toList) ⟨hg.os,hg.tape,hg.output,hg.size,fun k hk hx=>hg.block k hk (by intro e;apply hx;rw [← e];simp)⟩ (fun i e=>by simp at e;exact hr i e)
theorem zb.of_below {w w':World}(h:Below w.heap.size w w'):zb [] w w':=⟨h.os,h.tape,h.output,h.size,fun k hk _=>h.block k hk⟩
theorem zb.below {X:List Nat}{w w':World}{B:Nat}(h:zb X w w') (hB:B≤w.heap.size) (hX:∀ k,k∈X→B≤k):Below B w w':=
 ⟨h.os,h.tape,h.output,h.size,fun k hk=>h.block k Ws (fun e=>by have:=hX k e;omega)⟩
theorem zb.cell {X:List Nat}{w w':World}(h:zb X w w') {p:Addr}{u:Value}(hc:w.cell? p=some u) (hp:p.block ∉ X):w'.cell? p=some u:=
 (World.cell?_of_block (h.block p.block (World.block_lt_of_cell? w p hc) hp)).trans hc
theorem zb.kind {X:List Nat}{w w':World}(h:zb X w w') {k:Nat}(hl:k<w.heap.size) (hp:k ∉ X):kind w' k=kind w k:=by simp [Go.Proofs.YtibnfbglanpoiaaGreatDoor.kind,h.block k hl hp]
theorem zb.heap {X:List Nat}{w w':World}(h:zb X w w') {k:Nat}{o:Obj}(hk:w.heap[k]? = some o) (hp:k ∉ X):w'.heap[k]? = some o:=
 (h.block k (lt_of_block hk) hp).trans hk
theorem Kd {i:Int}(h0:-9223372036854775808≤i) (h1:i≤9223372036854775807):(Lit.int .i64 i).wf=true:=by
 have e0:IntKind.i64.min = -9223372036854775808:=Wo
 have e1:IntKind.i64.max=9223372036854775807:=Wo
 show (decide (IntKind.i64.min≤i)&&decide (i≤IntKind.i64.max))=true
 rw [e0,e1,decide_eq_true h0,decide_eq_true h1]
 rfl
def bv (b:UInt8):Value:=.int .u8 b.toNat
theorem yL (l:List UInt8):∀ u∈l.map bv,u.oneCell'=true:=by
 intro u hu
 obtain⟨b,_,rfl⟩:=List.mem_map.1 hu
 rfl
structure Row (w:World) (g o:Nat) (xs:List Value):Prop where
 cells:∀ j u,xs[j]? = some u→w.cell? ⟨g,o+j,none⟩=some u
 lt:g<w.heap.size
theorem Row.kept {X:List Nat}{w w':World}{g o:Nat}{xs:List Value}(h:Row w g o xs) (k:zb X w w') (hg:g ∉ X):Row w' g o xs:=
 ⟨fun j u e=>k.cell (h.cells j u e) hg,Nat.lt_of_lt_of_le h.lt k.size⟩
theorem Row.at {w:World}{g o:Nat}{xs:List Value}(h:Row w g o xs) {j:Nat}(hj:j<xs.length):w.cell? ⟨g,o+j,none⟩=some xs[j]:=
 h.cells j _ (by simp [hj])
theorem Row.adds {w:World}{g o:Nat}{xs:List Value}(h:Row w g o xs):∀ j u,xs[j]? = some u→w.cell? ((⟨g,o,none⟩:Addr).add j)=some u:=by
 intro j u hu
 have:=h.cells j u hu
 unfold Addr.add
 split
 ·rename_i h0;subst h0;simpa using this
 ·exact this
theorem Row.drop {w:World}{g o:Nat}{xs:List Value}(h:Row w g o xs) (k:Nat):Row w g (o+k) (xs.drop k):=by
 refine⟨?_,h.lt⟩
 intro j u hu
 rw [List.getElem?_drop] at hu
 rw [Nat.add_assoc]
 exact h.cells (k+j) u hu
theorem Row.take {w:World}{g o:Nat}{xs:List Value}(h:Row w g o xs) (k:Nat):Row w g o (xs.take k):=by
 refine⟨?_,h.lt⟩
 intro j u hu
 rw [List.getElem?_take] at hu
 split at hu
 ·exact h.cells j u hu
 ·cases hu
def zW:Value→Option Nat
 | .slice (some a) (_+1) _=>some a.block
 | _=>none
theorem z6 {v:Value}{g:Nat}(h:zW v=some g):v.ownBlock=some g:=by
 unfold zW at h
 split at h
 ·simpa [Value.ownBlock] using h
 ·cases h
theorem jo {a:Option Addr}{n c g:Nat}(h:zW (.slice a n c)=some g):0<n∧(Value.slice a n c).ownBlock=some g:=by
 refine⟨?_,z6 h⟩
 cases n with
 | zero=>simp [zW] at h
 | succ n=>omega
theorem ji {a:Addr}{n c:Nat}(h:0<n):zW (.slice (some a) n c)=some a.block:=by
 cases n with
 | zero=>omega
 | succ n=>rfl
def Slc (w:World) (size:Nat) (v:Value) (n:Nat) (xs:List Value):Prop:=
 xs.length=n*size∧((v = .slice none 0 0∧n=0)∨(n=0∧∃ a cap,v = .slice (some a) 0 cap∧cap≤maxLen)∨∃ g o cap,v = .slice (some ⟨g,o,none⟩) n cap∧n≤cap∧cap≤maxLen∧Row w g o xs)
theorem Slc.kept {X:List Nat}{w w':World}{size:Nat}{v:Value}{n:Nat}{xs:List Value}(h:Slc w size v n xs) (k:zb X w w') (hg:∀ g,zW v=some g→g ∉ X):Slc w' size v n xs:=by
 refine⟨h.1,?_⟩
 rcases h.2 with h | h | ⟨g,o,cap,rfl,h1,h2,h3⟩
 ·exact .inl h
 ·exact .inr (.inl h)
 ·cases n with
  | zero=>exact .inr (.inl ⟨rfl,_,_,rfl,h2⟩)
  | succ n=>exact .inr (.inr ⟨g,o,cap,rfl,h1,h2,h3.kept k (hg g rfl)⟩)
theorem Slc.kept0 {w w':World}{size:Nat}{v:Value}{n:Nat}{xs:List Value}(h:Slc w size v n xs) (k:zb [] w w'):Slc w' size v n xs:=h.kept k Wz
theorem Slc.lt {w:World}{size:Nat}{v:Value}{n:Nat}{xs:List Value}(h:Slc w size v n xs) {g:Nat}(hg:zW v=some g):g<w.heap.size:=by
 rcases h.2 with ⟨rfl,_⟩ | ⟨rfl,a,cap,rfl,_⟩ | ⟨g',o,cap,rfl,h1,h2,h3⟩
 ·simp [zW] at hg
 ·simp [zW] at hg
 ·have:=(jo hg).2
  simp [Value.ownBlock] at this
  subst this
  exact h3.lt
theorem Slc.drew {w:World}{size:Nat}{v:Value}{n:Nat}{xs:List Value}(h:Slc w size v n xs):Slc w.drew size v n xs:=h.kept0 Wd.drew
theorem yV (w:World) (size:Nat):Slc w size (.slice none 0 0) 0 []:=⟨Wz,.inl ⟨rfl,rfl⟩⟩
theorem Slc.of_row {w:World}{base e size:Nat}{v:Value}{n:Nat}{xs:List Value}(h:w.ownsRow base e size v n xs):Slc w size v n xs:=by
 refine⟨h.1,?_⟩
 rcases h.2 with h2 | ⟨g,cap,cur,hv,hg,hh,hc,hm,hs,ht⟩
 ·exact .inl h2
 ·subst hv
  refine .inr (.inr ⟨g,0,cap,rfl,hc,hm,⟨?_,lt_of_block hh⟩⟩)
  intro j u hu
  rw [cell_of_row w g (0+j) cur e (0,0) hh]
  rw [← ht,List.getElem?_take] at hu
  split at hu
  ·simpa using hu
  ·cases hu
theorem yp {w:World}{base e size:Nat}{v:Value}{n:Nat}{xs:List Value}(h:w.ownsRow base e size v n xs) {g:Nat}(hg:v.ownBlock=some g):kind w g=e+2:=by
 rcases h.2 with ⟨rfl,_⟩ | ⟨g',cap,cur,rfl,_,hh,_⟩
 ·simp [Value.ownBlock] at hg
 ·simp [Value.ownBlock] at hg
  subst hg
  exact zM hh
theorem zo {X:List Nat}{w w':World}{base e size:Nat}{v:Value}{n:Nat}{xs:List Value}(h:w.ownsRow base e size v n xs) (k:zb X w w') (hg:∀ g,v.ownBlock=some g→g ∉ X):w'.ownsRow base e size v n xs:=by
 refine⟨h.1,?_⟩
 rcases h.2 with h2 | ⟨g,cap,cur,hv,hb,hh,r⟩
 ·exact .inl h2
 ·exact .inr ⟨g,cap,cur,hv,hb,k.heap hh (hg g (by rw [hv];rfl)),r⟩
theorem qD {w:World}{base base' e size:Nat}{v:Value}{n:Nat}{xs:List Value}(h:w.ownsRow base e size v n xs) (hb:∀ g,v.ownBlock=some g→base'≤g):w.ownsRow base' e size v n xs:=by
 refine⟨h.1,?_⟩
 rcases h.2 with h2 | ⟨g,cap,cur,hv,hb',hh,r⟩
 ·exact .inl h2
 ·exact .inr ⟨g,cap,cur,hv,hb g (by rw [hv];rfl),hh,r⟩
abbrev zp (w:World) (v:Value) (l:List UInt8):Prop:=Slc w 1 v l.length (l.map bv)
def zH {α β:Type}(R:α→β→Prop) (xs:List α) (ys:List β):Prop:=xs.length=ys.length∧∀ (j:Nat) (x:α) (y:β),xs[j]? = some x→ys[j]? = some y→R x y
theorem zH.nil {α β:Type}(R:α→β→Prop):zH R [] []:=⟨rfl,Wz⟩
theorem zH.cons {α β:Type}{R:α→β→Prop}{x:α}{y:β}{xs:List α}{ys:List β}(h:R x y) (t:zH R xs ys):zH R (x::xs) (y::ys):=by
 refine⟨by simp [t.1],?_⟩
 intro j a b ha hb
 cases j with
 | zero=>simp at ha hb;subst ha;subst hb;exact h
 | succ j=>simp at ha hb;exact t.2 j a b ha hb
theorem zH.mono {α β:Type}{R S:α→β→Prop}{xs:List α}{ys:List β}(h:zH R xs ys) (hs:∀ x y,x∈xs→R x y→S x y):zH S xs ys:=
 ⟨h.1,fun j x y hx hy=>hs x y (List.mem_of_getElem? hx) (h.2 j x y hx hy)⟩
theorem zH.app {α β:Type}{R:α→β→Prop}{xs xs':List α}{ys ys':List β}(h:zH R xs ys) (h':zH R xs' ys'):zH R (xs++xs') (ys++ys'):=by
 refine⟨by simp [h.1,h'.1],?_⟩
 intro j a b ha hb
 rw [List.getElem?_append] at ha hb
 rw [h.1] at ha
 split at ha
 ·rename_i hj;rw [if_pos hj] at hb;exact h.2 j a b ha hb
 ·rename_i hj;rw [if_neg hj] at hb;exact h'.2 _ a b ha hb
theorem zH.set {α β:Type}{R:α→β→Prop}{xs:List α}{ys:List β}(h:zH R xs ys) (i:Nat) {x:α}{y:β}(hr:R x y):zH R (xs.set i x) (ys.set i y):=by
 refine⟨by simp [h.1],?_⟩
 intro j a b ha hb
 rw [List.getElem?_set] at ha hb
 split at ha
 ·rename_i hij
  rw [if_pos hij] at hb
  split at ha
  ·split at hb
   ·cases ha;cases hb;exact hr
   ·cases hb
  ·cases ha
 ·rename_i hij
  rw [if_neg hij] at hb
  exact h.2 j a b ha hb
theorem ql {α:Type}(ls:List (List α)) (j:Nat) (h:j<ls.length):(ls.take (j+1)).flatten=(ls.take j).flatten++ls[j]:=by
 rw [List.take_succ_eq_append_getElem h,List.flatten_append,List.flatten_cons,List.flatten_nil,List.append_nil]
theorem jJ {α:Type}(ls:List (List α)) (j:Nat):(ls.take j).flatten.length≤ls.flatten.length:=by
 conv=>rhs;rw [← List.take_append_drop j ls]
 rw [List.flatten_append,List.length_append]
 omega
theorem Slc.form {w:World}{size:Nat}{v:Value}{n:Nat}{xs:List Value}(h:Slc w size v n xs):∃ a c,v = .slice a n c∧n≤c∧c≤maxLen:=by
 rcases h.2 with ⟨rfl,rfl⟩ | ⟨rfl,a,cap,rfl,h2⟩ | ⟨g,o,cap,rfl,h1,h2,_⟩
 ·exact⟨_,_,rfl,Nat.le_refl _,Wo⟩
 ·exact⟨_,_,rfl,Nat.zero_le _,h2⟩
 ·exact⟨_,_,rfl,h1,h2⟩
structure yU (P:Program) (t e size bytes:Nat) (z:Value):Prop where
 und:P.underlying t=some (.slice e)
 info:(P.info? e).map (fun i=>(i.zero,i.size,i.bytes))=some (some z,size,bytes)
 zs:z.cells.size=size
 pos:0<size
theorem bw (g o k:Nat):(⟨g,o,none⟩:Addr).add k=⟨g,o+k,none⟩:=by
 unfold Addr.add
 split
 ·rename_i h;subst h;rfl
 ·rfl
theorem Slc.cut {P:Program}{t e size bytes:Nat}{z:Value}(T:yU P t e size bytes z) {w:World}{v:Value}{n:Nat}{xs:List Value}(h:Slc w size v n xs) (i k:Nat) (hi:i≤k) (hk:k≤n) :
  ∃ v',(∀ W,(Instr.slice t v (some (.int .i64 i)) (some (.int .i64 k)) none).run P W = .ok v' W)∧(k=n→∀ W,(Instr.slice t v (some (.int .i64 i)) none none).run P W = .ok v' W) ∧
   (i=0→∀ W,(Instr.slice t v none (some (.int .i64 k)) none).run P W = .ok v' W)∧Slc w size v' (k-i) ((xs.drop (i*size)).take ((k-i)*size))∧(∀ g,zW v'=some g→zW v=some g):=by
 obtain⟨inf,hinf,hz,hs,hb⟩:=info_parts T.info
 rcases h.2 with ⟨rfl,rfl⟩ | ⟨rfl,ad,cap,rfl,hm⟩ | ⟨g,o,cap,rfl,hc,hm,hr⟩
 ·obtain rfl:k=0:=by omega
  obtain rfl:i=0:=Ws
  refine⟨.slice none 0 0,fun W=>?_,fun _ W=>?_,fun _ W=>?_,by simp [Slc],by simp [zW]⟩
  all_goals simp [Instr.slice,Instr.sliceBounds,Instr.sliceBound,asIntOf,run_underlying T.und,sizeOf,typeInfo,hinf]
 ·obtain rfl:k=0:=by omega
  obtain rfl:i=0:=Ws
  have e0:ad.add 0=ad:=by simp [Addr.add]
  refine⟨.slice (some ad) 0 cap,fun W=>?_,fun _ W=>?_,fun _ W=>?_,⟨Wz,.inr (.inl ⟨rfl,ad,cap,rfl,hm⟩)⟩,by simp [zW]⟩
  all_goals simp [Instr.slice,Instr.sliceBounds,Instr.sliceBound,asIntOf,run_underlying T.und,sizeOf,typeInfo,hinf,e0]
 ·have hk':k≤cap:=by omega
  have hi':i≤cap:=Ws
  refine⟨.slice (if cap=i then some ⟨g,o,none⟩ else some ⟨g,o+i*size,none⟩) (k-i) (cap-i),fun W=>?_,fun e W=>?_,fun e W=>?_,⟨?_,.inr (.inr ?_)⟩,?_⟩
  ·simp [Instr.slice,Instr.sliceBounds,Instr.sliceBound,asIntOf,run_underlying T.und,sizeOf,typeInfo,hinf,hs,hk',hi,bw]
  ·subst e
   simp [Instr.slice,Instr.sliceBounds,Instr.sliceBound,asIntOf,run_underlying T.und,sizeOf,typeInfo,hinf,hs,hk',hi,bw]
  ·subst e
   simp [Instr.slice,Instr.sliceBounds,Instr.sliceBound,asIntOf,run_underlying T.und,sizeOf,typeInfo,hinf,hs,hk',hi,bw]
  ·rw [List.length_take,List.length_drop,h.1,← Nat.sub_mul]
   have:=Nat.mul_le_mul_right size (Nat.sub_le_sub_right hk i)
   omega
  ·by_cases e:cap=i
   ·rw [if_pos e]
    have e2:(k-i)*size=0:=by rw [show k-i=0 by omega];simp
    rw [e2,List.take_zero]
    exact⟨g,o,cap-i,rfl,Ws,Ws,⟨Wz,hr.lt⟩⟩
   ·rw [if_neg e]
    exact⟨g,o+i*size,cap-i,rfl,Ws,Ws,(hr.drop _).take _⟩
  ·intro g' hg'
   obtain⟨hpos,hob⟩:=jo hg'
   have hgg:g'=g:=by split at hob <;> simpa [Value.ownBlock,eq_comm] using hob
   subst hgg
   exact ji Ws
theorem zp.upto {P:Program}{t e bytes:Nat}{z:Value}(T:yU P t e 1 bytes z) {w:World}{v:Value}{l:List UInt8}(h:zp w v l) (k:Nat) (hk:k≤l.length) :
  ∃ a c,(∀ W,(Instr.slice t v none (some (.int .i64 k)) none).run P W = .ok (.slice a k c) W)∧zp w (.slice a k c) (l.take k)∧(∀ g,zW (Value.slice a k c)=some g→zW v=some g):=by
 obtain⟨v',-,-,h3,h4,h5⟩:=h.cut T 0 k (Nat.zero_le _) hk
 obtain⟨a,c,rfl,-,-⟩:=h4.form
 have e1:(l.take k).length=k:=by rw [List.length_take];omega
 refine⟨a,c,h3 rfl,?_,h5⟩
 unfold zp
 rw [e1,List.map_take]
 simpa using h4
theorem zp.from {P:Program}{t e bytes:Nat}{z:Value}(T:yU P t e 1 bytes z) {w:World}{v:Value}{l:List UInt8}(h:zp w v l) (k:Nat) (hk:k≤l.length) :
  ∃ a c,(∀ W,(Instr.slice t v (some (.int .i64 k)) none none).run P W = .ok (.slice a (l.length-k) c) W)∧zp w (.slice a (l.length-k) c) (l.drop k)∧(∀ g,zW (Value.slice a (l.length-k) c)=some g→zW v=some g):=by
 obtain⟨v',-,h3,-,h4,h5⟩:=h.cut T k l.length hk (Nat.le_refl _)
 obtain⟨a,c,rfl,-,-⟩:=h4.form
 have e1:(l.drop k).length=l.length-k:=by rw [List.length_drop]
 refine⟨a,c,h3 rfl,?_,h5⟩
 unfold zp
 rw [e1,List.map_drop]
 have e2:List.take ((l.length-k)*1) (List.drop (k*1) (l.map bv))=List.drop k (l.map bv):=by
  rw [Nat.mul_one,Nat.mul_one]
  exact List.take_of_length_le (by rw [List.length_drop,List.length_map];omega)
 rw [e2] at h4
 exact h4
theorem zp.mid {P:Program}{t e bytes:Nat}{z:Value}(T:yU P t e 1 bytes z) {w:World}{v:Value}{l:List UInt8}(h:zp w v l) (i k:Nat) (hi:i≤k) (hk:k≤l.length) :
  ∃ a c,(∀ W,(Instr.slice t v (some (.int .i64 i)) (some (.int .i64 k)) none).run P W = .ok (.slice a (k-i) c) W)∧zp w (.slice a (k-i) c) ((l.drop i).take (k-i))∧(∀ g,zW (Value.slice a (k-i) c)=some g→zW v=some g):=by
 obtain⟨v',h3,-,-,h4,h5⟩:=h.cut T i k hi hk
 obtain⟨a,c,rfl,-,-⟩:=h4.form
 have e1:((l.drop i).take (k-i)).length=k-i:=by rw [List.length_take,List.length_drop];omega
 refine⟨a,c,h3,?_,h5⟩
 unfold zp
 rw [e1,List.map_take,List.map_drop]
 simpa using h4
theorem ve {P:Program}{t e size bytes:Nat}{z:Value}(T:yU P t e size bytes z) (w:World) (ty base:Nat) (v:Value) (n:Nat) (xs:List Value) (hown:w.ownsRow base e size v n xs)
  (vx:Value) (m:Nat) (news:List Value) (hsrc:Slc w size vx m news) (h1:∀ u∈news,u.oneCell'=true) (h63:n+m≤maxLen) (hbytes:(n+m)*bytes≤140737488355328) (hbase:base≤w.heap.size) :
  ∃ v' w',(Builtin.append_ #[t,t] ty #[v,vx]).run P w = .ok v' w'∧w'.ownsRow base e size v' (n+m) (xs++news)∧zb v.ownBlock.toList w w' ∧
   (v' = .slice none 0 0↔v = .slice none 0 0∧m=0)∧(v'.ownBlock=v.ownBlock∨v'.ownBlock=some w.heap.size):=by
 obtain⟨i,hi,hz,hs,hb⟩:=info_parts T.info
 rcases hsrc.2 with ⟨rfl,rfl⟩ | ⟨rfl,ad,cap,rfl,hm⟩ | ⟨g,o,cap,rfl,hc,hm,hr⟩
 ·have hnews:news=[]:=List.eq_nil_of_length_eq_zero (by simpa using hsrc.1)
  subst hnews
  refine⟨v,w,run_append_owned_none w base t ty e i size T.und hi v n xs hown,by simpa using hown,Wd,Wz,.inl rfl⟩
 ·have hnews:news=[]:=List.eq_nil_of_length_eq_zero (by simpa using hsrc.1)
  subst hnews
  obtain⟨v',w',r1,r2,r3,r4,r5⟩:=run_append_own_at (P:=P) w base t ty e i z size bytes T.und hi hz hs hb T.zs T.pos v n xs hown ad 0 cap [] hsrc.1 Wz h1 h63 hbytes hbase
  exact⟨v',w',r1,r2,Wd.grown r3 (fun k e=>.inl (by simp [e])),r4,r5⟩
 ·obtain⟨v',w',r1,r2,r3,r4,r5⟩:=run_append_own_at (P:=P) w base t ty e i z size bytes T.und hi hz hs hb T.zs T.pos v n xs hown ⟨g,o,none⟩ m cap news hsrc.1 hr.adds h1 h63 hbytes hbase
  exact⟨v',w',r1,r2,Wd.grown r3 (fun k e=>.inl (by simp [e])),r4,r5⟩
theorem zk {P:Program}{t e size bytes:Nat}{z:Value}(T:yU P t e size bytes z) {w:World}{base:Nat}{v:Value}{n:Nat}{xs:List Value}(hown:w.ownsRow base e size v n xs)
  {vx:Value}{m:Nat}{news:List Value}(hsrc:Slc w size vx m news) (h1:∀ u∈news,u.oneCell'=true) (h63:n+m≤maxLen) (hbytes:(n+m)*bytes≤140737488355328) (hbase:base≤w.heap.size)
  {ops:Array Oper}{rest:List Oper}{o:Oper}{a:Act}{Q:Exit→Act→World→Prop}(hgd:o.guard=none) (s x:Operand)
  (ho:o.op = .call { callee:=.builtin .append,args:=#[s,x],argTypes:=#[t,t] }) (hs:a.eval s=v) (hx:a.eval x=vx)
  (h:∀ v' w',w'.ownsRow base e size v' (n+m) (xs++news)→zb v.ownBlock.toList w w'→(v' = .slice none 0 0↔v = .slice none 0 0∧m=0)→(v'.ownBlock=v.ownBlock∨v'.ownBlock=some w.heap.size)→wpList P ops Q rest (a.put o.dst v') w') :
  wpList P ops Q (o::rest) a w:=by
 refine wpList_plain hgd fun K hK=>?_
 obtain⟨v',w',hr,h2,h3,h4,h5⟩:=ve T w o.type base v n xs hown vx m news hsrc h1 h63 hbytes hbase
 unfold Oper.wp execOp
 simp only [ho,resolve,invoke,builtin,Sem.run_bind,Sem.run_pure,Result.andThen_ok,List.map_toArray,List.map_cons,List.map_nil,hs,hx,hr]
 exact hK _ _ (h v' w' h2 h3 h4 h5)
theorem Kr {P:Program}{t e size bytes:Nat}{z:Value}(T:yU P t e size bytes z) {w:World}{base:Nat}{v:Value}{n:Nat}{xs:List Value}(hown:w.ownsRow base e size v n xs)
  {vx:Value}{m:Nat}{news:List Value}(hsrc:Slc w size vx m news) (h1:∀ u∈news,u.oneCell'=true) (hm:0<m) (h63:n+m≤maxLen) (hbytes:(n+m)*bytes≤140737488355328) (hbase:base≤w.heap.size) (ty:Nat) :
  ∃ g cap w',(Builtin.append_ #[t,t] ty #[v,vx]).run P w = .ok (.slice (some ⟨g,0,none⟩) (n+m) cap) w'∧w'.ownsRow base e size (.slice (some ⟨g,0,none⟩) (n+m) cap) (n+m) (xs++news)∧zb v.ownBlock.toList w w'∧(v.ownBlock=some g∨g=w.heap.size):=by
 obtain⟨v',w',hr,h2,h3,h4,h5⟩:=ve T w ty base v n xs hown vx m news hsrc h1 h63 hbytes hbase
 rcases h2.2 with ⟨e1,e2⟩ | ⟨g,cap,cur,e1,_⟩
 ·omega
 ·subst e1
  refine⟨g,cap,w',hr,h2,h3,?_⟩
  rcases h5 with h5 | h5
  ·exact .inl h5.symm
  ·exact .inr (by simpa [Value.ownBlock] using h5)
theorem yR {P:Program}{t e size bytes:Nat}{z:Value}(T:yU P t e size bytes z) {w:World}{base:Nat}{v:Value}{n:Nat}{xs:List Value}(hown:w.ownsRow base e size v n xs)
  {vx:Value}{m:Nat}{news:List Value}(hsrc:Slc w size vx m news) (h1:∀ u∈news,u.oneCell'=true) (hm:0<m) (h63:n+m≤maxLen) (hbytes:(n+m)*bytes≤140737488355328) (hbase:base≤w.heap.size)
  {ops:Array Oper}{o:Oper}{a:Act}{K:Act→World→Prop}{Q:Exit→Act→World→Prop}{E:Prop}(hgd:o.guard=none) (s x:Operand)
  (ho:o.op = .call { callee:=.builtin .append,args:=#[s,x],argTypes:=#[t,t] }) (hs:a.eval s=v) (hx:a.eval x=vx)
  (h:∀ g cap w',w'.ownsRow base e size (.slice (some ⟨g,0,none⟩) (n+m) cap) (n+m) (xs++news)→zb v.ownBlock.toList w w'→(v.ownBlock=some g∨g=w.heap.size)→K (a.put o.dst (.slice (some ⟨g,0,none⟩) (n+m) cap)) w') :
  if Region.wanted o (yielded ops a.tmps)=true then Oper.wp P o a w K Q else E:=by
 have hw:Region.wanted o (yielded ops a.tmps)=true:=by simp [Region.wanted,hgd]
 rw [if_pos hw]
 obtain⟨g,cap,w',hr,h2,h3,h4⟩:=Kr T hown hsrc h1 hm h63 hbytes hbase o.type
 unfold Oper.wp execOp
 simp only [ho,resolve,invoke,builtin,Sem.run_bind,Sem.run_pure,Result.andThen_ok,List.map_toArray,List.map_cons,List.map_nil,hs,hx,hr]
 exact h g cap w' h2 h3 h4
theorem jK (w:World) (x:Value) (t g:Nat) (hg:w.heap.size=g):Slc (w.alloc (.cells #[x] t)) 1 (.slice (some ⟨g,0,none⟩) 1 1) 1 [x]:=by
 subst hg
 refine⟨rfl,.inr (.inr ⟨w.heap.size,0,1,rfl,Nat.le_refl _,Wo,?_,Wz⟩)⟩
 intro j u hu
 rw [Nat.zero_add,cell_of_row _ w.heap.size j #[x] t (0,0) (heap_alloc_new w _)]
 simpa using hu
theorem zT (w:World) (xs:List Value) (size n t g:Nat) (hg:w.heap.size=g) (hl:xs.length=n*size) (hm:n≤maxLen):Slc (w.alloc (.cells xs.toArray t)) size (.slice (some ⟨g,0,none⟩) n n) n xs:=by
 subst hg
 refine⟨hl,.inr (.inr ⟨w.heap.size,0,n,rfl,Nat.le_refl _,hm,?_,Wz⟩)⟩
 intro j u hu
 rw [Nat.zero_add,cell_of_row _ w.heap.size j xs.toArray t (0,0) (heap_alloc_new w _)]
 simpa using hu
open Go.Maps (Keyed)
def heldE (v:Value):Option (DataW Value×List MemPlace):=some (.held v,[])
def look (D:DataW Value) (kl:Lit):Option Value:=match D.atKey kl .nil with | .held v=>some v | _=>none
def jZ (P:Program) (w:World) (k b n:Nat) (M:Lit→Option Value):Prop:=
 ∃ D,w.ownsMap P k heldE b n D∧∀ kl,M kl=look D kl∧(Maps.has D kl=(M kl).isSome)
theorem bo {P:Program}{k:TypeId}(K:Keyed P k) {key:Value}{kl:Lit}(h:keyOf P k key=some kl):WideAt.IsKeyLit kl:=K.key h
section
variable {P : Program} {w : World} {k b n : Nat} {M : Lit → Option Value}
theorem jZ.kind (h:jZ P w k b n M):kind w b=1:=by
 obtain⟨D,⟨es,clock,hb,_⟩,_⟩:=h
 exact kind_map hb
theorem jZ.lt (h:jZ P w k b n M):b<w.heap.size:=kind_lt (by rw [h.kind];decide)
theorem jZ.kept {X:List Nat}{w':World}(h:jZ P w k b n M) (hk:zb X w w') (hb:b ∉ X):jZ P w' k b n M:=by
 obtain⟨D,⟨es,clock,h1,h2⟩,h3⟩:=h
 exact⟨D,⟨es,clock,hk.heap h1 hb,h2⟩,h3⟩
theorem mapAt_made (P:Program) (w:World) (k:Nat):jZ P (w.alloc (.map #[] 0)) k w.heap.size 0 (fun _=>none):=
 ⟨.map [],World.ownsMap_made _ _ _ _,fun kl=>⟨by simp [look,DataW.atKey],by simp [Maps.has]⟩⟩
theorem jZ.lookup {t e:TypeId}(h:jZ P w k b n M) (K:Keyed P k) (ht:P.underlying t=some (.map k e)) {z:Value}(hz:(zeroValue e).run P w = .ok z w)
  {key:Value}{kl:Lit}(hkey:keyOf P k key=some kl) :
  (Instr.lookup t (.map (some b)) key true).run P w = .ok (.tuple #[(M kl).getD z,.bool (M kl).isSome]) w∧(Instr.lookup t (.map (some b)) key false).run P w = .ok ((M kl).getD z) w:=by
 obtain⟨D,⟨es,clock,hb,F,hs,rfl⟩,h3⟩:=h
 obtain⟨h3a,h3b⟩:=h3 kl
 have key1:∀ c,(Instr.lookup t (.map (some b)) key c).run P w = .ok (if c then .tuple #[(M kl).getD z,.bool (M kl).isSome] else (M kl).getD z) w:=by
  intro c
  rcases Maps.fit_look c K ht hz hb F hkey with ⟨hrun,_,hat⟩ | ⟨e0,y,_,_,hrun,hRv,hat,_⟩
  ·have h0:=Maps.has_false_of_atKey hat
   rw [h3b] at h0
   cases hM:M kl with
   | none=>simpa [hM] using hrun
   | some v=>simp [hM] at h0
  ·have hy:y=(DataW.held e0.val,[]):=by simpa [heldE,eq_comm] using hRv
   have hv:M kl=some e0.val:=by rw [h3a,look,hat];simp [hy]
   simpa [hv] using hrun
 exact⟨by simpa using key1 true,by simpa using key1 false⟩
theorem jZ.update {t e:TypeId}(h:jZ P w k b n M) (K:Keyed P k) (ht:P.underlying t=some (.map k e)) (hn:n<maxLen) {key:Value}{kl:Lit}(hkey:keyOf P k key=some kl) (val:Value) :
  ∃ w',(Instr.mapUpdate t (.map (some b)) key val).run P w = .ok () w'∧jZ P w' k b (n+1) (fun z=>if z.sameKey kl then some val else M z)∧zb [b] w w'∧w'.heap.size=w.heap.size:=by
 obtain⟨D,hown,h3⟩:=h
 obtain⟨w',hrun,r1,r2⟩:=hown.store K ht hn hkey (val:=val) (R:=heldE) (d:=.held val) (ps:=[]) rfl
 refine⟨w',hrun,⟨_,r1,?_⟩,?_,?_⟩
 ·intro z
  show (if z.sameKey kl then some val else M z)=look (D.put kl (.held val)) z∧Maps.has (D.put kl (.held val)) z=(if z.sameKey kl then some val else M z).isSome
  by_cases hz:z.sameKey kl=true
  ·have hz':=WideAt.sameKey_eq hz
   subst hz'
   rw [if_pos hz]
   refine⟨?_,Maps.has_put_same hown.isMap (bo K hkey) _⟩
   rw [look,Maps.atKey_put_same hown.isMap (bo K hkey)]
  ·have hne:z≠kl:=by
    intro e
    subst e
    exact hz (WideAt.sameKey_self (bo K hkey))
   rw [if_neg hz]
   exact⟨by rw [look,Maps.atKey_put_other hne];exact (h3 z).1,by rw [Maps.has_put_other hne];exact (h3 z).2⟩
 ·exact Wd.grown r2.grown (fun k e=>by simp at e;simp [e])
 ·obtain⟨_,_,_,_,_,rfl⟩:=r2
  simp [Go.ChangeMaps.setBlock]
end
theorem ze {p:Prop}(h:p:=by (go_wp2_with fail;exact⟨rfl,Wd⟩)):p:=h
theorem yq {P:Program}{c:Code}{Q:Exit→Act→World→Prop}{a:Act}{W w:World}(h:W=w) (k:c.wp P Q a W):c.wp P Q a w:=by subst h;exact k
theorem _root_.Go.Calls.mh {P:Program}{f:Nat}{A:Array Value}{w:World}{X Y:Ending→World→Prop}{Q:Ending→World→Prop}(h:Calls P f A w fun e w'=>X e w'∧Y e w') (k:∀ e w',X e w'→Hid (Y e w')→Q e w'):Calls P f A w Q:=h.mono fun e w' z=>k e w' z.1 (Lib.hid z.2)
abbrev CK (W:World) (f:Nat) (A:Array Value) (r:Value):Prop:=∀ w2,zb [] W w2→Calls Tryz.prog f A w2 fun e w'=>e = .returned r∧zb [] w2 w'
abbrev CL (w:World) (f:Nat) (A:Array Value) (r:Value):Prop:=Calls Tryz.prog f A w fun e w'=>e = .returned r∧zb [] w w'
abbrev jC (R:Exit→Act→World→Prop):Prop:=∀ c a (d:Nat) v w,R (.panic c) (a.put (some d) v) w→R (.panic c) a w
theorem zi {p:Prop}(h:p:=by (go_simp;try with_reducible rfl)):p:=h
theorem xT {w:World}{g t:Nat}{a b c d e f:Value}{z:Nat×Nat}(h:w.heap[g]? = some (.cells #[a,b,c,d,e,f] t z)):w.cell? ⟨g,0,none⟩=some a∧w.cell? ⟨g,1,none⟩=some b∧w.cell? ⟨g,2,none⟩=some c∧w.cell? ⟨g,3,none⟩=some d∧w.cell? ⟨g,4,none⟩=some e∧w.cell? ⟨g,5,none⟩=some f:=⟨za h rfl,za h rfl,za h rfl,za h rfl,za h rfl,za h rfl⟩
theorem kA1 {w W:World}{a:Obj}(h:W=w.alloc a):zb [] w W:=by rw [h];exact (zb.refl _ w).alloc _
theorem kA2 {w W:World}{a b:Obj}(h:W=(w.alloc a).alloc b):zb [] w W:=by rw [h];exact ((zb.refl _ w).alloc _).alloc _
theorem kA3 {w W:World}{a b c:Obj}(h:W=((w.alloc a).alloc b).alloc c):zb [] w W:=by rw [h];exact (((zb.refl _ w).alloc _).alloc _).alloc _
end Go.Proofs.YtibnfbglanpoiaaGreatDoor

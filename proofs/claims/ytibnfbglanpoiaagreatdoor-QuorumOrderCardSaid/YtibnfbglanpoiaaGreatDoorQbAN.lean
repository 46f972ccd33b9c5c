/- Parts of one proof, merged: XAV XJT XGU XED XTb XHb. -/
import Derived.Test.YtibnfbglanpoiaaGreatDoorQbB
import Derived.Deep.Slices
import Derived.OpenShut
import Derived.SizedLaws
import Derived.Test.YtibnfbglanpoiaaGreatDoorQbR
import Derived.Test.YtibnfbglanpoiaaGreatDoorQbO
import Derived.Test.YtibnfbglanpoiaaGreatDoorQbAA
import Derived.Test.YtibnfbglanpoiaaGreatDoorQbY
import Derived.Test.YtibnfbglanpoiaaGreatDoorQbM
import Derived.Test.YtibnfbglanpoiaaGreatDoorQbJ
import Derived.Test.YtibnfbglanpoiaaGreatDoorRows
import Derived.LaidMore
import Derived.Stop.LaidErr
import Derived.MakeChecks
import Derived.Lib.LaidTab
import Derived.Lib.LaidU8T
import Derived.PinnedBridge
import Derived.Handed
set_option linter.all false
set_option maxHeartbeats 12800000
set_option maxRecDepth 10000
set_option linter.unusedVariables false
set_option linter.unusedSimpArgs false
set_option linter.unnecessarySimpa false
namespace Go.Proofs.YtibnfbglanpoiaaGreatDoor
open Go.Proofs.Tryz
open Go.RowKit
theorem ZS:Tryz.prog.cellsOf 3=1:=by kernel_rfl
theorem jU:Tryz.prog.cellsOf 9=1:=by kernel_rfl
theorem cellsVals:Tryz.prog.cellsOf 22=1:=by kernel_rfl
theorem cellsPairs:Tryz.prog.cellsOf 23=1:=by kernel_rfl
theorem Qx:Tryz.prog.cellsOf 25=5:=by kernel_rfl
theorem JC:Tryz.prog.cellsOf 132=6:=by kernel_rfl
section
variable {H : Type} {enc : TypeId × Value → H} {w : World} {held : Bool}
theorem bu {P:Program}{e:TypeId}:∀ {l:List (DataW H)}{d:DataW H}{k:Nat},d ∈ l→k ∈ d.weights P e→k ∈ DataW.weightsAll P e l
 | [],_,_,h,_=>by cases h
 | a :: l,d,k,h,hk=>by
  rw [DataW.weightsAll,List.mem_append]
  rcases List.mem_cons.1 h with rfl | h
  ·exact .inl hk
  ·exact .inr (bu h hk)
theorem xD {P:Program}{t:TypeId}{fs:Array Field}{xs:List (DataW H × List MemPlace)}(h:P.underlying t=some (.struct fs)) {j:Nat}{tt:TypeId}{y:DataW H × List MemPlace}{k:Nat}(ht:(fs.toList.map (·.type))[j]? = some tt) (hy:xs[j]? = some y) (hk:k ∈ y.1.weights P tt):k ∈ (DataW.agg (xs.map (·.1)):DataW H).weights P t:=by
 rw [DataW.weights,h]
 exact DataW.weights_mem_each (j:=j) ht (by rw [List.getElem?_map,hy];rfl) k hk
theorem jP {P:Program}{t e size:Nat}(ht:P.underlying t=some (.slice e)) (hc:P.cellsOf e=size) (hpos:0 < size) {fuel:Nat}{v:Value}{x:DataW H × List MemPlace}{B:Nat}
  (h:DataW.trod enc P w 0 (fun _=>true) held fuel t [v]=some x) (hw:∀ k,k ∈ x.1.weights P t→k≤B) (hb:0 < P.bytesOf e) :
  ∃ n xs,Slc w size v n xs∧n≤B∧(n=0∨∃ m,fuel=m + 1∧∀ i,i < n→∃ y,DataW.trod enc P w 0 (fun _=>true) held m e ((xs.drop (i * size)).take size)=some y∧∀ k,k ∈ y.1.weights P e→k≤B):=by
 rcases DataW.trod_slice ht h with ⟨hcs,_⟩ | ⟨a,len,cap,elems,rest,m,hfuel,hcs,hxe,_,hl,hm,hel,hx,_⟩
 ·obtain rfl:v = .slice none 0 0:=by simpa using hcs
  exact⟨0,[],yV _ _,Nat.zero_le _,.inl rfl⟩
 ·obtain rfl:v = .slice (some a) len cap:=by simpa using hcs
  rw [hc] at hx
  by_cases h0:len=0
  ·subst h0
   exact⟨0,[],⟨by simp,.inr (.inl ⟨rfl,a,cap,rfl,hm⟩)⟩,Nat.zero_le _,.inl rfl⟩
  ·rw [hxe] at hw
   have hwe:(DataW.slice (elems.map (·.1)) (rest.map (·.1)):DataW H).weights P t=((elems.map (·.1)).length + (rest.map (·.1)).length) * P.bytesOf e :: (DataW.weightsAll P e (elems.map (·.1)) ++ DataW.weightsAll P e (rest.map (·.1))):=by
    rw [DataW.weights,ht]
   simp only at hw
   rw [hwe] at hw
   have hlenB:len≤B:=by
    have h1:=hw _ (List.mem_cons_self ..)
    rw [List.length_map,List.length_map,hel] at h1
    have h2:(len + rest.length) * 1≤(len + rest.length) * P.bytesOf e:=Nat.mul_le_mul_left _ hb
    omega
   have hx':∀ i,i < len→∃ cs',w.cells? 0 (a.add (i * size)) size=some cs'∧∃ y,DataW.trod enc P w 0 (fun _=>true) held m e cs'=some y∧∀ k,k ∈ y.1.weights P e→k≤B:=by
    intro i hi
    have h1:=hx i hi
    rw [List.getElem?_eq_getElem (by omega)] at h1
    obtain⟨cs',h2,h3⟩:=Option.bind_eq_some_iff.1 h1
    exact⟨cs',h2,_,h3,fun k hk=>hw k (List.mem_cons_of_mem _ (List.mem_append_left _ (bu (List.mem_map_of_mem (List.getElem_mem (by omega))) hk)))⟩
   have hcell:∀ j,j < len * size→∃ u,w.cell? (a.add j)=some u:=by
    intro j hj
    have hi:j / size < len:=Nat.div_lt_of_lt_mul (by rw [Nat.mul_comm];exact hj)
    obtain⟨cs',h1,_⟩:=hx' _ hi
    obtain⟨_,h2,h3⟩:=World.cells?_some h1
    have hr:=Nat.mod_lt j hpos
    have h4:=h3 _ hr
    rw [Deep.add_add,show j / size * size + j % size=j by rw [Nat.mul_comm];exact Nat.div_add_mod j size] at h4
    rw [h4]
    exact⟨cs'[j % size],by simp [h2,hr]⟩
   have hpos2:0 < len * size:=Nat.mul_pos (by omega) hpos
   obtain⟨u0,hu0⟩:=hcell 0 hpos2
   obtain⟨g,o,spot⟩:=a
   have hspot:spot=none:=by simpa [Addr.add] using World.cell?_spot hu0
   subst hspot
   have hlt:g < w.heap.size:=by
    rcases Nat.lt_or_ge g w.heap.size with h | h
    ·exact h
    ·exfalso
     simp [World.cell?,Addr.add,Array.getElem?_eq_none h] at hu0
   refine⟨len,(List.range (len * size)).map fun j=>(w.cell? ⟨g,o + j,none⟩).getD (.bool false),⟨by simp,.inr (.inr ⟨g,o,cap,rfl,hl,hm,⟨?_,hlt⟩⟩)⟩,hlenB,.inr ⟨m,hfuel,?_⟩⟩
   ·intro j u hu
    rw [List.getElem?_map] at hu
    by_cases hj:j < len * size
    ·obtain⟨u',hu'⟩:=hcell j hj
     rw [j0] at hu'
     simp [hj,hu'] at hu
     rw [hu',hu]
    ·simp [hj] at hu
   ·intro i hi
    obtain⟨cs',h1,h2⟩:=hx' i (by omega)
    obtain⟨_,h3,h4⟩:=World.cells?_some h1
    have hle:i * size + size≤len * size:=by
     have:=Nat.mul_le_mul_right size (show i + 1≤len by omega)
     rw [Nat.add_mul,Nat.one_mul] at this
     exact this
    have e1:(((List.range (len * size)).map fun j=>(w.cell? ⟨g,o + j,none⟩).getD (.bool false)).drop (i * size)).take size=cs':=by
     apply List.ext_getElem?
     intro r
     by_cases hr:r < size
     ·have h5:=h4 r hr
      rw [Deep.add_add,j0] at h5
      rw [List.getElem?_take,if_pos hr,List.getElem?_drop,List.getElem?_map,List.getElem?_range (by omega)]
      simp only [Option.map_some]
      rw [h5]
      simp [h3,hr]
     ·rw [List.getElem?_eq_none (by rw [List.length_take];omega),List.getElem?_eq_none (by omega)]
    rw [e1]
    exact h2
def bJ:Value→UInt8
 | .int _ k=>UInt8.ofNat k.toNat
 | _=>0
theorem byteOfV_wf {k:Int}(h:(Lit.int .u8 k).wf=true):bv (bJ (.int .u8 k)) = .int .u8 k:=by
 have h1:=bounds_u8 h
 unfold bv bJ
 congr 1
 simp only [UInt8.toNat_ofNat']
 omega
theorem JG {xs:List Value}{i:Nat}(hi:i < xs.length):(xs.drop (i * 1)).take 1=[xs[i]]:=by
 rw [Nat.mul_one,List.drop_eq_getElem_cons hi]
 rfl
theorem Q4 {α:Type}{l:List α}(h:l.length=5):∃ a b c d e,l=[a,b,c,d,e]:=by
 match l,h with
 | [a,b,c,d,e],_=>exact⟨a,b,c,d,e,rfl⟩
theorem list_sixV {α:Type}{l:List α}(h:l.length=6):∃ a b c d e f,l=[a,b,c,d,e,f]:=by
 match l,h with
 | [a,b,c,d,e,f],_=>exact⟨a,b,c,d,e,f,rfl⟩
theorem zaB {B:Nat}:∀ (n:Nat) (v:V n),qo B n v→qo B (n + 1) (up n v)
 | 0,v,_=>nomatch v
 | n + 1,(v:VS (V n)),⟨⟨h1,h2,h3⟩,h4,h5⟩=>by
  refine⟨⟨h1,?_,?_⟩,?_,?_⟩
  ·show (v.l.map _).length≤B;rw [List.length_map];exact h2
  ·show (v.m.map _).length≤B;rw [List.length_map];exact h3
  ·intro p hp
   obtain⟨q,hq,rfl⟩:=List.mem_map.1 hp
   exact h4 q hq
  ·intro x hx
   have hx':x ∈ (VS.map (up n) v).kids:=hx
   rw [VS.kids_map] at hx'
   obtain⟨y,hy,rfl⟩:=List.mem_map.1 hx'
   exact zaB n y (h5 y hy)
theorem jR.up {n B:Nat}{S:Nat→Prop}{cs:List Value}{v:V n}(h:jR n B S w cs v):jR (n + 1) B S w cs (Go.Proofs.YtibnfbglanpoiaaGreatDoor.up n v):=⟨h.1.up,zaB n v h.2⟩
def qd (size:Nat) (xs:List Value) (n:Nat):List (List Value):=(List.range n).map fun i=>(xs.drop (i * size)).take size
theorem bt {size:Nat}:∀ (n:Nat) (xs:List Value),xs.length=n * size→(qd size xs n).flatten=xs
 | 0,xs,h=>by
  rw [Nat.zero_mul] at h
  rw [List.eq_nil_of_length_eq_zero h]
  rfl
 | n + 1,xs,h=>by
  have h':(xs.drop size).length=n * size:=by rw [List.length_drop,h,Nat.add_mul,Nat.one_mul];omega
  have ih:=bt n (xs.drop size) h'
  unfold qd at ih ⊢
  rw [List.range_succ_eq_map,List.map_cons,List.flatten_cons,Nat.zero_mul,List.drop_zero,List.map_map]
  have e:((fun i=>(xs.drop (i * size)).take size) ∘ Nat.succ)=fun i=>((xs.drop size).drop (i * size)).take size:=by
   funext i
   simp only [Function.comp,List.drop_drop]
   rw [show Nat.succ i * size=size + i * size by rw [Nat.succ_mul];omega]
  rw [e,ih]
  exact List.take_append_drop size xs
def pairF (c:List Value):ByteArray × List Value:=(match c.head? with | some (.string s)=>s | _=>⟨#[]⟩,c.tail)
theorem trod_value {B:Nat}:∀ (fuel:Nat) {cs:List Value}{x:DataW H × List MemPlace},DataW.trod enc Tryz.prog w 0 (fun _=>true) held fuel 25 cs=some x→(∀ k,k ∈ x.1.weights Tryz.prog 25→k≤B)→∃ v:V fuel,jR fuel B (fun g=>g < w.heap.size) w cs v:=by
 intro fuel
 induction fuel using Nat.strongRecOn with
 | ind fuel IH=>
  intro cs x h hw
  obtain⟨xs,n,hfu,hxe,hl,hlen,hf⟩:=DataW.trod_struct underlying25 h
  subst hfu
  rw [Qx] at hl
  obtain⟨c0,c1,c2,c3,c4,rfl⟩:=Q4 hl
  obtain⟨y0,y1,y2,y3,y4,rfl⟩:=Q4 hlen
  have h0:DataW.trod enc Tryz.prog w 0 (fun _=>true) held n 3 (([c0,c1,c2,c3,c4].drop 0).take (Tryz.prog.cellsOf 3))=some y0:=hf 0 _ rfl
  have h1:DataW.trod enc Tryz.prog w 0 (fun _=>true) held n 3 (([c0,c1,c2,c3,c4].drop 1).take (Tryz.prog.cellsOf 3))=some y1:=hf 1 _ rfl
  have h2:DataW.trod enc Tryz.prog w 0 (fun _=>true) held n 9 (([c0,c1,c2,c3,c4].drop 2).take (Tryz.prog.cellsOf 9))=some y2:=hf 2 _ rfl
  have h3:DataW.trod enc Tryz.prog w 0 (fun _=>true) held n 22 (([c0,c1,c2,c3,c4].drop 3).take (Tryz.prog.cellsOf 22))=some y3:=hf 3 _ rfl
  have h4:DataW.trod enc Tryz.prog w 0 (fun _=>true) held n 23 (([c0,c1,c2,c3,c4].drop 4).take (Tryz.prog.cellsOf 23))=some y4:=hf 4 _ rfl
  rw [ZS] at h0 h1
  rw [jU] at h2
  rw [cellsVals] at h3
  rw [cellsPairs] at h4
  have hwf:∀ (j:Nat) (tt:TypeId) (y:DataW H × List MemPlace),([3,3,9,22,23]:List TypeId)[j]? = some tt→[y0,y1,y2,y3,y4][j]? = some y→∀ k,k ∈ y.1.weights Tryz.prog tt→k≤B:=by
   intro j tt y ht hy k hk
   refine hw k ?_
   rw [hxe]
   exact xD underlying25 ht hy hk
  obtain⟨i,e0,_,w0⟩:=DataW.trod_int underlying3 (x:=y0) h0
  obtain⟨j,e1,_,w1⟩:=DataW.trod_int underlying3 (x:=y1) h1
  obtain⟨s,e2,f2,-⟩:=DataW.trod_string underlying9 (x:=y2) h2
  have w2:s.size≤B:=by
   have h9:=hwf 2 _ y2 rfl rfl s.data.toList.length (by rw [f2];show _ ∈ DataW.weights Tryz.prog 9 (.lit (.string s.data.toList));simp [DataW.weights])
   simpa using h9
  have hL:=jP (v:=c3) (x:=y3) underlying22 Qx (by decide) h3 (hwf 3 _ y3 rfl rfl) (by rw [show Tryz.prog.bytesOf 25=80 by kernel_rfl];decide)
  have hM:=jP (v:=c4) (x:=y4) underlying23 JC (by decide) h4 (hwf 4 _ y4 rfl rfl) (by rw [show Tryz.prog.bytesOf 132=96 by kernel_rfl];decide)
  simp only [List.drop_zero,List.drop_succ_cons,List.take_succ_cons,List.take_zero,List.cons.injEq,and_true] at e0 e1 e2
  subst e0 e1 e2
  obtain⟨nl,xl,sl,ml,hl⟩:=hL
  obtain⟨nm,xm,sm,mm,hm⟩:=hM
  have gl:∃ zl:List (V n),zG (jR n B (fun g=>g < w.heap.size) w) (qd 5 xl nl) zl:=by
   refine zG.pick (R:=fun (c:List Value) (k:Nat)=>∃ z:V n,jR n B (fun g=>g < w.heap.size) w c z) _ (List.range nl) ⟨by simp [qd],?_⟩ (fun _ _ _ r=>r)
   intro q c k hc hk
   have hq:q < nl:=by
    have:=(List.getElem?_eq_some_iff.1 hk).1
    simpa using this
   unfold qd at hc
   rw [List.getElem?_map,List.getElem?_range hq] at hc
   simp only [Option.map_some,Option.some.injEq] at hc
   subst hc
   rcases hl with h0 | ⟨m,hm,hl⟩
   ·omega
   obtain⟨y,hy,hwy⟩:=hl q hq
   obtain⟨z,hz⟩:=IH m (by omega) hy hwy
   subst hm
   exact⟨_,hz.up⟩
  have gm:∃ zm:List (ByteArray × V n),zG (fun c (z:ByteArray × V n)=>(c = .string z.1 :: c.tail∧jR n B (fun g=>g < w.heap.size) w c.tail z.2)∧z.1.size≤B) (qd 6 xm nm) zm:=by
   refine zG.pick (R:=fun (c:List Value) (k:Nat)=>∃ z:ByteArray × V n,(c = .string z.1 :: c.tail∧jR n B (fun g=>g < w.heap.size) w c.tail z.2)∧z.1.size≤B) _ (List.range nm) ⟨by simp [qd],?_⟩ (fun _ _ _ r=>r)
   intro q c k hc hk
   have hq:q < nm:=by
    have:=(List.getElem?_eq_some_iff.1 hk).1
    simpa using this
   unfold qd at hc
   rw [List.getElem?_map,List.getElem?_range hq] at hc
   simp only [Option.map_some,Option.some.injEq] at hc
   subst hc
   rcases hm with h0 | ⟨m,hm',hm⟩
   ·omega
   obtain⟨y,hy,hwy⟩:=hm q hq
   obtain⟨ys,n2,hf2,hye,hl2,hlen2,hg2⟩:=DataW.trod_struct underlying132 hy
   rw [JC] at hl2
   revert hl2 hg2
   generalize (xm.drop (q * 6)).take 6=c6
   intro hl2 hg2
   obtain⟨d0,d1,d2,d3,d4,d5,rfl⟩:=list_sixV hl2
   obtain⟨z0,z1,rfl⟩:∃ z0 z1,ys=[z0,z1]:=by
    match ys,hlen2 with
    | [a,b],_=>exact⟨a,b,rfl⟩
   have k0:DataW.trod enc Tryz.prog w 0 (fun _=>true) held n2 9 (([d0,d1,d2,d3,d4,d5].drop 0).take (Tryz.prog.cellsOf 9))=some z0:=hg2 0 _ rfl
   have k1:DataW.trod enc Tryz.prog w 0 (fun _=>true) held n2 25 (([d0,d1,d2,d3,d4,d5].drop 1).take (Tryz.prog.cellsOf 25))=some z1:=hg2 1 _ rfl
   rw [jU] at k0
   rw [Qx] at k1
   have hwp:∀ (j:Nat) (tt:TypeId) (y':DataW H × List MemPlace),([9,25]:List TypeId)[j]? = some tt→[z0,z1][j]? = some y'→∀ k,k ∈ y'.1.weights Tryz.prog tt→k≤B:=by
    intro j tt y' ht hy' k hk
    refine hwy k ?_
    rw [hye]
    exact xD underlying132 ht hy' hk
   obtain⟨s2,q0,f2',-⟩:=DataW.trod_string underlying9 (x:=z0) k0
   simp only [List.drop_zero,List.take_succ_cons,List.take_zero,List.cons.injEq,and_true] at q0
   subst q0
   have q2:s2.size≤B:=by
    have h9:=hwp 0 _ z0 rfl rfl s2.data.toList.length (by rw [f2'];show _ ∈ DataW.weights Tryz.prog 9 (.lit (.string s2.data.toList));simp [DataW.weights])
    simpa using h9
   have k1':DataW.trod enc Tryz.prog w 0 (fun _=>true) held n2 25 [d1,d2,d3,d4,d5]=some z1:=k1
   obtain⟨z,hz⟩:=IH n2 (by omega) k1' (hwp 1 _ z1 rfl rfl)
   subst hf2
   subst hm'
   exact⟨(s2,Go.Proofs.YtibnfbglanpoiaaGreatDoor.up _ (Go.Proofs.YtibnfbglanpoiaaGreatDoor.up _ z)),⟨rfl,hz.up.up⟩,q2⟩
  obtain⟨zl,al⟩:=gl
  obtain⟨zm,am⟩:=gm
  have el:zl.length=nl:=by rw [← al.1];simp [qd]
  have em:zm.length=nm:=by rw [← am.1];simp [qd]
  have getl:∀ x,x ∈ zl→qo B n x:=fun x hx=>by
   obtain⟨j,hj,rfl⟩:=List.getElem_of_mem hx
   exact (al.2 j _ _ (List.getElem?_eq_getElem (by rw [al.1];exact hj)) (List.getElem?_eq_getElem hj)).2
  have getm:∀ p,p ∈ zm→qo B n p.2∧p.1.size≤B:=fun x hx=>by
   obtain⟨j,hj,rfl⟩:=List.getElem_of_mem hx
   have:=am.2 j _ _ (List.getElem?_eq_getElem (by rw [am.1];exact hj)) (List.getElem?_eq_getElem hj)
   exact⟨this.1.2.2,this.2⟩
  have hfix:∀ c,c ∈ qd 6 xm nm→yG (pairF c)=c:=fun c hc=>by
   obtain⟨j,hj,rfl⟩:=List.getElem_of_mem hc
   have h5:=(am.2 j _ _ (List.getElem?_eq_getElem hj) (List.getElem?_eq_getElem (by rw [← am.1];exact hj))).1.1
   rw [h5]
   rfl
  have hcm:zV ((qd 6 xm nm).map pairF)=xm:=by
   rw [qj,List.map_map]
   have e:(qd 6 xm nm).map (yG ∘ pairF)=qd 6 xm nm:=by
    conv=>rhs;rw [← List.map_id (qd 6 xm nm)]
    exact List.map_congr_left fun c hc=>hfix c hc
   rw [e]
   exact bt nm xm sm.1
  have hcl:(qd 5 xl nl).flatten=xl:=bt nl xl sl.1
  refine⟨(⟨i,j,s,zl,zm⟩:VS (V n)),⟨c3,c4,qd 5 xl nl,(qd 6 xm nm).map pairF,{
   cells:=rfl
   slcl:=by rw [el,hcl];exact sl
   alll:=al.mono fun _ _ _ r=>r.1
   slcm:=by rw [em,hcm];exact sm
   allm:=?_
   inl:=fun g hg=>sl.lt hg
   inm:=fun g hg=>sm.lt hg
   wfk:=w0
   wfn:=w1 }⟩,⟨w2,by rw [el];exact ml,by rw [em];exact mm⟩,fun p hp=>(getm p hp).2,fun x hx=>?_⟩
  ·refine⟨by rw [List.length_map];exact am.1,?_⟩
   intro q c z hc hz
   rw [List.getElem?_map,Option.map_eq_some_iff] at hc
   obtain⟨c',hc',rfl⟩:=hc
   have h5:=(am.2 q c' z hc' hz).1
   refine⟨?_,h5.2.1⟩
   rw [h5.1]
   rfl
  ·rcases List.mem_append.1 hx with hx | hx
   ·exact getl x hx
   ·obtain⟨p,hp,rfl⟩:=List.mem_map.1 hx
    exact (getm p hp).1
end
def strOfV:Value→ByteArray
 | .string s=>s
 | _=>⟨#[]⟩
section
variable {H : Type} {enc : TypeId × Value → H} {w : World} {held : Bool}
theorem zav {fuel:Nat}{v:Value}{x:DataW H × List MemPlace}(h:DataW.trod enc Tryz.prog w 0 (fun _=>true) held fuel 29 [v]=some x) {B:Nat}(hw:∀ k,k ∈ x.1.weights Tryz.prog 29→k≤B):∃ l:List ByteArray,yy w v l∧l.length≤B∧∀ s,s ∈ l→s.size≤B:=by
 obtain⟨n,xs,h1,h2,h3⟩:=jP underlying29 jU (by decide) h hw (by rw [show Tryz.prog.bytesOf 9=16 by kernel_rfl];decide)
 have hlen:xs.length=n:=by simpa using h1.1
 have hx:∀ i (hi:i < xs.length),∃ s:ByteArray,xs[i] = .string s∧s.size≤B:=by
  intro i hi
  rcases h3 with h0 | ⟨m,_,h3⟩
  ·omega
  obtain⟨y,hy,hwy⟩:=h3 i (by omega)
  rw [JG hi] at hy
  obtain⟨s,hs,fs,-⟩:=DataW.trod_string underlying9 hy
  have hs':xs[i] = .string s:=by simpa using hs
  have h9:=hwy s.data.toList.length (by rw [fs];show _ ∈ DataW.weights Tryz.prog 9 (.lit (.string s.data.toList));simp [DataW.weights])
  exact⟨s,hs',by simpa using h9⟩
 have e:(xs.map strOfV).map Value.string=xs:=by
  apply List.ext_getElem (by simp)
  intro i hi hi'
  obtain⟨s,hs,-⟩:=hx i hi'
  simp only [List.getElem_map]
  rw [hs]
  rfl
 refine⟨xs.map strOfV,?_,by simpa [hlen] using h2,fun s hs=>?_⟩
 ·unfold yy
  rw [e,List.length_map,hlen]
  exact h1
 ·obtain⟨u,hu,rfl⟩:=List.mem_map.1 hs
  obtain⟨i,hi,rfl⟩:=List.getElem_of_mem hu
  obtain⟨s,hs2,hb⟩:=hx i hi
  rw [hs2]
  exact hb
theorem k9 {α:Type}{l:List α}(h:l.length=2):∃ a b,l=[a,b]:=by
 rcases l with _ | ⟨a,_ | ⟨b,_ | ⟨c,l⟩⟩⟩ <;> simp at h
 exact⟨a,b,rfl⟩
theorem trod_role {fuel:Nat}{cs:List Value}{x:DataW H × List MemPlace}(h:DataW.trod enc Tryz.prog w 0 (fun _=>true) held fuel 31 cs=some x) {B:Nat}(hw:∀ k,k ∈ x.1.weights Tryz.prog 31→k≤B):∃ (r:qf) (a:Option Addr) (c:Nat),cs=[.slice a r.keys.length c,.int .i64 r.thr]∧yy w (.slice a r.keys.length c) r.keys∧r.keys.length≤B∧∀ s,s ∈ r.keys→s.size≤B:=by
 obtain⟨xs,n,hfu,hxe,hl,hlen,hf⟩:=DataW.trod_struct underlying31 h
 rw [show Tryz.prog.cellsOf 31=2 by kernel_rfl] at hl
 obtain⟨c0,c1,rfl⟩:=k9 hl
 obtain⟨y0,y1,rfl⟩:=k9 hlen
 have h0:DataW.trod enc Tryz.prog w 0 (fun _=>true) held n 29 (([c0,c1].drop 0).take (Tryz.prog.cellsOf 29))=some y0:=hf 0 _ rfl
 have h1:DataW.trod enc Tryz.prog w 0 (fun _=>true) held n 3 (([c0,c1].drop 1).take (Tryz.prog.cellsOf 3))=some y1:=hf 1 _ rfl
 rw [show Tryz.prog.cellsOf 29=1 by kernel_rfl] at h0
 rw [ZS] at h1
 obtain⟨l,ht,hb,hs⟩:=zav (v:=c0) (x:=y0) h0 (fun k hk=>hw k (by rw [hxe];exact xD (j:=0) (y:=y0) underlying31 rfl rfl hk))
 obtain⟨i,e1,_,w1⟩:=DataW.trod_int underlying3 (x:=y1) h1
 simp at e1
 subst e1
 obtain⟨a,c,rfl,-,-⟩:=ht.form
 exact⟨⟨l,i⟩,a,c,rfl,ht,hb,hs⟩
end
section
variable {H : Type} {enc : TypeId × Value → H} {w : World} {held : Bool}
theorem trod_key {fuel:Nat}{cs:List Value}{x:DataW H × List MemPlace}(h:DataW.trod enc Tryz.prog w 0 (fun _=>true) held fuel 47 cs=some x):∃ k:zQ,cs=ky k∧(ka k.bits∧k.root.length=32):=by
 obtain⟨xs,n,hfu,hxe,hl,hlen,hf⟩:=DataW.trod_struct underlying47 h
 rw [show Tryz.prog.cellsOf 47=34 by kernel_rfl] at hl
 rcases cs with _ | ⟨c0,_ | ⟨c1,l⟩⟩
 ·cases hl
 ·cases hl
 have hll:l.length=32:=by simpa using hl
 rcases xs with _ | ⟨y0,_ | ⟨y1,_ | ⟨y2,ys⟩⟩⟩
 ·cases hlen
 ·cases hlen
 ·cases hlen
 have h0:DataW.trod enc Tryz.prog w 0 (fun _=>true) held n 3 (((c0 :: c1 :: l).drop 0).take (Tryz.prog.cellsOf 3))=some y0:=hf 0 _ rfl
 have h1:DataW.trod enc Tryz.prog w 0 (fun _=>true) held n 3 (((c0 :: c1 :: l).drop 1).take (Tryz.prog.cellsOf 3))=some y1:=hf 1 _ rfl
 have h2:DataW.trod enc Tryz.prog w 0 (fun _=>true) held n 45 (((c0 :: c1 :: l).drop 2).take (Tryz.prog.cellsOf 45))=some y2:=hf 2 _ rfl
 rw [ZS] at h0 h1
 rw [show Tryz.prog.cellsOf 45=32 by kernel_rfl,show (c0 :: c1 :: l).drop 2=l from rfl,List.take_of_length_le (by omega)] at h2
 obtain⟨b,e0,_,w0⟩:=DataW.trod_int underlying3 (x:=y0) h0
 obtain⟨g,e1,_,w1⟩:=DataW.trod_int underlying3 (x:=y1) h1
 obtain rfl:c0 = .int .i64 b:=by simpa using e0
 obtain rfl:c1 = .int .i64 g:=by simpa using e1
 obtain⟨zs,m,_,_,_,hzs,hi⟩:=DataW.trod_array underlying45 h2
 rw [show Tryz.prog.cellsOf 5=1 by kernel_rfl] at hi
 have e:(l.map bJ).map bv=l:=by
  apply List.ext_getElem (by simp)
  intro i q1 q2
  have q3:=hi i (by omega)
  rw [JG q2,List.getElem?_eq_getElem (by omega)] at q3
  obtain⟨z,e2,_,w2⟩:=DataW.trod_int underlying5 q3
  have e3:l[i] = .int .u8 z:=by simpa using e2
  simp only [List.getElem_map]
  rw [e3]
  exact byteOfV_wf w2
 refine⟨⟨b,g,l.map bJ⟩,?_,?_,?_⟩
 ·show _=Value.int .i64 b :: .int .i64 g :: (l.map bJ).map bv
  rw [e]
 ·unfold Lit.wf at w0
  simp only [Bool.and_eq_true,decide_eq_true_eq] at w0
  exact⟨w0.1,w0.2⟩
 ·show (l.map bJ).length=32
  rw [List.length_map,hll]
end
theorem ZQ {α:Type}{size:Nat}{cell:α→List Value}{Q:α→Prop}:∀ (n:Nat) (xs:List Value),xs.length=n * size→(∀ i,i < n→∃ a,(xs.drop (i * size)).take size=cell a∧Q a)→∃ l:List α,l.length=n∧l.flatMap cell=xs∧∀ a,a ∈ l→Q a
 | 0,xs,hl,_=>⟨[],rfl,by rw [Nat.zero_mul] at hl;rw [List.eq_nil_of_length_eq_zero hl];rfl,fun _ h=>(nomatch h)⟩
 | n + 1,xs,hl,h=>by
  obtain⟨a,h1,h2⟩:=h 0 (by omega)
  rw [Nat.zero_mul,List.drop_zero] at h1
  obtain⟨l,h3,h4,h5⟩:=ZQ (size:=size) (cell:=cell) (Q:=Q) n (xs.drop size) (by rw [List.length_drop,hl,Nat.add_mul];omega) (fun i hi=>by
   obtain⟨b,h6,h7⟩:=h (i + 1) (by omega)
   refine⟨b,?_,h7⟩
   rw [List.drop_drop,← h6]
   congr 2
   rw [Nat.add_mul]
   omega)
  refine⟨a :: l,by simp [h3],?_,fun b hb=>?_⟩
  ·rw [List.flatMap_cons,h4,← h1,List.take_append_drop]
  ·rcases List.mem_cons.1 hb with rfl | hb
   ·exact h2
   ·exact h5 b hb
section
variable {H : Type} {enc : TypeId × Value → H} {w : World} {held : Bool}
theorem trod_sigrow {fuel:Nat}{cs:List Value}{x:DataW H × List MemPlace}(h:DataW.trod enc Tryz.prog w 0 (fun _=>true) held fuel 40 cs=some x) {B:Nat}(hw:∀ k,k ∈ x.1.weights Tryz.prog 40→k≤B):∃ r:yl,cs=r.enc∧(r.id.size≤B∧r.sig.size≤B):=by
 obtain⟨xs,n,hfu,hxe,hl,hlen,hf⟩:=DataW.trod_struct underlying40 h
 rw [show Tryz.prog.cellsOf 40=2 by kernel_rfl] at hl
 obtain⟨c0,c1,rfl⟩:=k9 hl
 obtain⟨y0,y1,rfl⟩:=k9 hlen
 have h0:DataW.trod enc Tryz.prog w 0 (fun _=>true) held n 9 (([c0,c1].drop 0).take (Tryz.prog.cellsOf 9))=some y0:=hf 0 _ rfl
 have h1:DataW.trod enc Tryz.prog w 0 (fun _=>true) held n 9 (([c0,c1].drop 1).take (Tryz.prog.cellsOf 9))=some y1:=hf 1 _ rfl
 rw [jU] at h0 h1
 obtain⟨s,e0,f0,-⟩:=DataW.trod_string underlying9 h0
 obtain⟨t,e1,f1,-⟩:=DataW.trod_string underlying9 h1
 obtain rfl:c0 = .string s:=by simpa using e0
 obtain rfl:c1 = .string t:=by simpa using e1
 have q0:=hw s.data.toList.length (by rw [hxe];exact xD (j:=0) (y:=y0) underlying40 rfl rfl (by rw [f0];show _ ∈ DataW.weights Tryz.prog 9 (.lit (.string s.data.toList));simp [DataW.weights]))
 have q1:=hw t.data.toList.length (by rw [hxe];exact xD (j:=1) (y:=y1) underlying40 rfl rfl (by rw [f1];show _ ∈ DataW.weights Tryz.prog 9 (.lit (.string t.data.toList));simp [DataW.weights]))
 exact⟨⟨s,t⟩,rfl,by simpa using q0,by simpa using q1⟩
theorem trod_sigs {fuel:Nat}{v:Value}{x:DataW H × List MemPlace}(h:DataW.trod enc Tryz.prog w 0 (fun _=>true) held fuel 26 [v]=some x) {B:Nat}(hw:∀ k,k ∈ x.1.weights Tryz.prog 26→k≤B):∃ l:List yl,qu w v l∧l.length≤B∧∀ r,r ∈ l→r.id.size≤B∧r.sig.size≤B:=by
 obtain⟨n,xs,h1,h2,h3⟩:=jP underlying26 (show Tryz.prog.cellsOf 40=2 by kernel_rfl) (by decide) h hw (by rw [show Tryz.prog.bytesOf 40=32 by kernel_rfl];decide)
 obtain⟨l,hl,hx,hq⟩:=ZQ (cell:=yl.enc) (Q:=fun r=>r.id.size≤B∧r.sig.size≤B) n xs h1.1 (fun i hi=>by
  rcases h3 with h0 | ⟨m,_,h3⟩
  ·omega
  obtain⟨y,hy,hwy⟩:=h3 i hi
  exact trod_sigrow hy hwy)
 refine⟨l,?_,by omega,hq⟩
 unfold qu vZ
 rw [hl,hx]
 exact h1
theorem trod_keyrow {fuel:Nat}{cs:List Value}{x:DataW H × List MemPlace}(h:DataW.trod enc Tryz.prog w 0 (fun _=>true) held fuel 49 cs=some x):∃ r:yK,cs=r.enc∧r.fine:=by
 obtain⟨xs,n,hfu,hxe,hl,hlen,hf⟩:=DataW.trod_struct underlying49 h
 rw [show Tryz.prog.cellsOf 49=35 by kernel_rfl] at hl
 rcases cs with _ | ⟨c0,l⟩
 ·cases hl
 have hll:l.length=34:=by simpa using hl
 obtain⟨y0,y1,rfl⟩:=k9 hlen
 have h0:DataW.trod enc Tryz.prog w 0 (fun _=>true) held n 9 (((c0 :: l).drop 0).take (Tryz.prog.cellsOf 9))=some y0:=hf 0 _ rfl
 have h1:DataW.trod enc Tryz.prog w 0 (fun _=>true) held n 47 (((c0 :: l).drop 1).take (Tryz.prog.cellsOf 47))=some y1:=hf 1 _ rfl
 rw [jU] at h0
 rw [show Tryz.prog.cellsOf 47=34 by kernel_rfl,show (c0 :: l).drop 1=l from rfl,List.take_of_length_le (by omega)] at h1
 obtain⟨s,e0,-,-⟩:=DataW.trod_string underlying9 h0
 obtain rfl:c0 = .string s:=by simpa using e0
 obtain⟨k,rfl,hk⟩:=trod_key h1
 exact⟨⟨s,k⟩,rfl,hk.2,hk.1⟩
theorem trod_keys {fuel:Nat}{v:Value}{x:DataW H × List MemPlace}(h:DataW.trod enc Tryz.prog w 0 (fun _=>true) held fuel 32 [v]=some x) {B:Nat}(hw:∀ k,k ∈ x.1.weights Tryz.prog 32→k≤B):∃ l:List yK,Slc w 35 v l.length (xN l)∧l.length≤B∧∀ r,r ∈ l→r.fine:=by
 obtain⟨n,xs,h1,h2,h3⟩:=jP underlying32 (show Tryz.prog.cellsOf 49=35 by kernel_rfl) (by decide) h hw (by rw [show Tryz.prog.bytesOf 49=64 by kernel_rfl];decide)
 obtain⟨l,hl,hx,hq⟩:=ZQ (cell:=yK.enc) (Q:=yK.fine) n xs h1.1 (fun i hi=>by
  rcases h3 with h0 | ⟨m,_,h3⟩
  ·omega
  obtain⟨y,hy,hwy⟩:=h3 i hi
  exact trod_keyrow hy)
 refine⟨l,?_,by omega,hq⟩
 unfold xN
 rw [hl,hx]
 exact h1
theorem six_cells {α:Type}{l:List α}(h:l.length=6):∃ a b c d e f,l=[a,b,c,d,e,f]:=by
 rcases l with _ | ⟨a,_ | ⟨b,_ | ⟨c,_ | ⟨d,_ | ⟨e,_ | ⟨f,_ | ⟨g,l⟩⟩⟩⟩⟩⟩⟩ <;> simp at h
 exact⟨a,b,c,d,e,f,rfl⟩
theorem trod_env {fuel:Nat}{cs:List Value}{x:DataW H × List MemPlace}(h:DataW.trod enc Tryz.prog w 0 (fun _=>true) held fuel 28 cs=some x) {B:Nat}(hB:B≤BB) (hw:∀ k,k ∈ x.1.weights Tryz.prog 28→k≤B) :
  ∃ (n:Nat) (v:V n) (vcs:List Value) (a:Option Addr) (c:Nat) (l:List yl),cs=bA vcs a l.length c∧jR n BB (fun g=>g < w.heap.size) w vcs v∧qu w (.slice a l.length c) l∧(∀ r,r ∈ l→r.id.size≤B∧r.sig.size≤B)∧l.length≤B:=by
 obtain⟨xs,n,hfu,hxe,hl,hlen,hf⟩:=DataW.trod_struct underlying28 h
 rw [show Tryz.prog.cellsOf 28=6 by kernel_rfl] at hl
 obtain⟨c0,c1,c2,c3,c4,c5,rfl⟩:=six_cells hl
 obtain⟨y0,y1,rfl⟩:=k9 hlen
 have h0:DataW.trod enc Tryz.prog w 0 (fun _=>true) held n 25 (([c0,c1,c2,c3,c4,c5].drop 0).take (Tryz.prog.cellsOf 25))=some y0:=hf 0 _ rfl
 have h1:DataW.trod enc Tryz.prog w 0 (fun _=>true) held n 26 (([c0,c1,c2,c3,c4,c5].drop 5).take (Tryz.prog.cellsOf 26))=some y1:=hf 1 _ rfl
 rw [show Tryz.prog.cellsOf 25=5 by kernel_rfl] at h0
 rw [show Tryz.prog.cellsOf 26=1 by kernel_rfl] at h1
 obtain⟨v,hv⟩:=trod_value n h0 (B:=BB) (fun k hk=>Nat.le_trans (hw k (by rw [hxe];exact xD (j:=0) (y:=y0) underlying28 rfl rfl hk)) hB)
 obtain⟨l,hs,hn,hz⟩:=trod_sigs (v:=c5) h1 (fun k hk=>hw k (by rw [hxe];exact xD (j:=1) (y:=y1) underlying28 rfl rfl hk))
 obtain⟨a,c,rfl,-,-⟩:=hs.form
 exact⟨n,v,_,a,c,l,rfl,hv,hs,hz,hn⟩
end
def kP : List (String × DataW Unit) := [("math/bits.deBruijn32tab", Rows.laid_math_bits_deBruijn32tab), ("math/bits.deBruijn64tab", Rows.laid_math_bits_deBruijn64tab), ("internal/strconv.uint64pow10", Rows.laid_internal_strconv_uint64pow10), ("unicode/utf8.acceptRanges", Rows.laid_unicode_utf8_acceptRanges), ("pursuivant/sha.constants", Rows.laid_pursuivant_sha_constants), ("unicode/utf8.first", Rows.laid_unicode_utf8_first)]
theorem gPow : Tryz.prog.globalNamed "internal/strconv.uint64pow10" = some 4 := by kernel_rfl
theorem gKs : Tryz.prog.globalNamed "pursuivant/sha.constants" = some 0 := by kernel_rfl
theorem first_eq:Rows.laid_unicode_utf8_first=Lib.firstData:=Pinned.utf8First_eq
theorem accept_eq:Rows.laid_unicode_utf8_acceptRanges=Lib.acceptData:=by kernel_rfl
theorem pow_eq:(Rows.laid_internal_strconv_uint64pow10:DataW Unit)=Lib.tabData .u64 Lib.pow10Tab:=by kernel_rfl
theorem ks_eq:(Rows.laid_pursuivant_sha_constants:DataW Unit)=Lib.tabData .u32 KS:=by kernel_rfl
theorem zau {W:World}(hL:laidMetH Tryz.prog kP W):xW W:=by
 rw [MakeChecks.laidMetH_plain _ _ _ (by kernel_rfl)] at hL
 have r1 : ("unicode/utf8.first", Lib.firstData) ∈ kP := by rw [← first_eq]; simp [kP]
 have r2 : ("unicode/utf8.acceptRanges", Lib.acceptData) ∈ kP := by rw [← accept_eq]; simp [kP]
 refine⟨utf8Tabs_of_readsT (U8Types.of260 { Tryz.shDecode with }) ⟨by kernel_rfl,by kernel_rfl,by kernel_rfl,by kernel_rfl,by kernel_rfl,by kernel_rfl,by kernel_rfl⟩ (Lib.laidMet.reads hL r1) (Lib.laidMet.reads hL r2),?_⟩
 have h3:=hL.tail.tail
 rw [show (Rows.laid_internal_strconv_uint64pow10:DataW Unit)=Lib.tabData .u64 Lib.pow10Tab from pow_eq] at h3
 exact Lib.tabIs_of_head gPow (by kernel_rfl) underlying272 underlying226 (by kernel_rfl) (by kernel_rfl) h3
theorem JV {W : World} (hL : laidMetH Tryz.prog kP W) : Lib.TabIs Tryz.prog W "pursuivant/sha.constants" .u32 KS := by
 rw [MakeChecks.laidMetH_plain _ _ _ (by kernel_rfl)] at hL
 have h3:=hL.tail.tail.tail.tail
 rw [show (Rows.laid_pursuivant_sha_constants:DataW Unit)=Lib.tabData .u32 KS from ks_eq] at h3
 exact Lib.tabIs_of_head gKs (by kernel_rfl) underlying169 underlying134 (by kernel_rfl) (by kernel_rfl) h3
theorem ks_of_laid {W:World}(hL:laidMetH Tryz.prog kP W):xb W:=by
 have h:=JV hL
 unfold Lib.TabIs World.var? at h
 rw [gKs] at h
 simp only [Option.bind_some] at h
 split at h
 ·rename_i cs t f hb
  have hc:=Option.some.inj h
  subst hc
  intro j v hv
  rw [Nat.zero_add]
  refine za hb ?_
  rw [List.getElem?_toArray]
  have e:zK KS 0=KS.map (fun z=>Value.int .u32 z):=by unfold zK;rw [List.replicate_zero,List.append_nil];rfl
  rw [e] at hv
  exact hv
 ·cases h
section
variable {H : Type} {enc : TypeId × Value → H}
theorem KD {a:Assume}{C:Checked}{os:Os}{f:FuncId}{fn:Func}{s:ChangeSpec}{conds:List PathCond}{apart fresh handsOn again:Bool}{X:World→Array Value→Prop}
  (hX:∀ (w w':World) (args:Array Value),w.heap=w'.heap→X w args→X w' args)
  (own:ownKnob C.prog.godebug=none) (started:os.Started) (noInit:C.prog.inits.idxOf? f=none) (hfn:C.prog.funcs[f]? = some fn)
  (witness:∃ (w:World) (tape:Tape) (i:Input),w.os=os∧(w.forCall tape i).Shaped C.prog∧i.vars=[]∧Input.okWide C.prog (w.forCall tape i) .any w.heap.size f i ∧
   ((s.pre enc C.prog fn conds apart (w.forCall tape i).memory i.args∧X (w.forCall tape i).memory i.args)∧sizedMet enc C.prog fn (OpenSpec.ofChange s) apart (w.forCall tape i).memory i.args)∧a.holds C.prog (lone (Frame.enter C.prog f i.args .normal) [] (w.forCall tape i)))
  (contract:∀ (W:World) (base:Nat) (args:Array Value) (ds gs:List (DataW H)) (before:List MemPlace),
   (∀ (j:Nat) t v,fn.params[j]? = some t→args[j]? = some v→Value.okWide C.prog W .any base t v) →
   DataW.Whole enc C.prog fn.params.toList s.vars apart W args.toList ds gs before →
   (DataW.weightsEach C.prog (fn.params.toList ++ s.plain.varTypes C.prog) (ds ++ gs)).all (· ≤ reachBytes)=true→X W args →
   W.ShapedOpen C.prog →
   Calls C.prog f args W fun e W'=>∃ v,e = .returned v∧s.post enc C.prog fn apart fresh handsOn again W args v W') :
  ReturnsInHanded a C os f .any (fun w args=>(s.pre enc C.prog fn conds apart w args∧X w args)∧sizedMet enc C.prog fn (OpenSpec.ofChange s) apart w args) (s.post enc C.prog fn apart fresh handsOn again):=by
 refine returnsInHanded_of_calls own started noInit witness ?_
 intro w tape i _ hsh _ hok hpre _
 obtain⟨_,_,_,fn',hfn',_,_,_,_,hval⟩:=hok
 obtain rfl:fn'=fn:=Option.some.inj (hfn'.symm.trans hfn)
 obtain⟨⟨⟨ds,gs,before,hw,-⟩,hx⟩,hz⟩:=hpre
 refine (contract (w.forCall tape i) w.heap.size i.args ds gs before hval (DataW.Whole.of_heap (by rfl) hw) (hz.weights hw) (hX _ _ _ (by rfl) hx) hsh).mono fun e W' h9=>?_
 obtain⟨v,rfl,hp⟩:=h9
 exact ChangeSpec.post_blind hp
end
end Go.Proofs.YtibnfbglanpoiaaGreatDoor

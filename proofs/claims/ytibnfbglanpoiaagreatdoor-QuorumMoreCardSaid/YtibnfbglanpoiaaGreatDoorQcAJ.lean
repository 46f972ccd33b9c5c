/- Parts of one proof, merged: XSo XRA. -/
import Derived.Test.YtibnfbglanpoiaaGreatDoorQcAI
import Derived.Deep.DeepCutAuto
import Derived.Deep.CutBlock
import Derived.Test.YtibnfbglanpoiaaGreatDoorQcM
set_option linter.all false
set_option maxHeartbeats 12800000
set_option maxRecDepth 10000
set_option linter.unusedVariables false
set_option linter.unusedSimpArgs false
set_option linter.unnecessarySimpa false
namespace Go.Proofs.YtibnfbglanpoiaaGreatDoor
open Go.Proofs.Tryz
open Go.RowKit
def bl (n : Nat) : Prop := ∀ (v : V n) {S : Nat → Prop} {w : World} {cs : List Value}, Rep n S w cs v → yk n v → zo n v = true →
    Calls Tryz.prog 49 #[.agg cs.toArray] w fun e w'=>(∃ cs':List Value,e = .returned (.agg cs'.toArray)∧kP n w.heap.size w' cs' (zz n v))∧zb [] w w'
theorem refSort_step {n:Nat}(IH0:bl n) (v:VS (V n)) {S:Nat→Prop}{w:World}{cs:List Value}(h:Rep (n + 1) S w cs v) (hs:yk (n + 1) v) (hr0:zo (n + 1) v=true) :
  Calls Tryz.prog 49 #[.agg cs.toArray] w fun e w'=>(∃ cs':List Value,e = .returned (.agg cs'.toArray)∧kP (n + 1) w.heap.size w' cs' (zz (n + 1) v))∧zb [] w w':=by
  have Jn:=qI hs
  have Jh:=qI hr0
  obtain⟨vl,vm,lcs,mcs,h⟩:=h
  obtain⟨a,c,b,e,rfl,rfl,rfl⟩:=h.forms
  have H:=qI h
  have IH:=@qI (bl n) (by exact @IH0)
  clear IH0
  have hlv:v.l.length≤20000:=by have:=hs.few;omega
  have hmv:v.m.length≤20000:=by have:=hs.few;omega
  obtain⟨W0,Gs⟩:∃ W0,Hid (W0=((w.alloc (.cells #[.int .i64 v.kind,.int .i64 v.num,.string v.s,.slice a v.l.length c,.slice b v.m.length e] 25)).alloc (.cells #[.int .i64 0,.int .i64 0,.string ⟨#[]⟩,.slice none 0 0,.slice none 0 0] 25)).alloc (.cells #[.int .i64 v.kind,.int .i64 v.num,.string v.s,.slice none 0 0,.slice none 0 0] 25)):=⟨_,qI rfl⟩
  have Gt:Hid (W0.heap.size=w.heap.size + 3):=qI (by rw [Gs.o];simp)
  have Jv:Hid (zb [] w W0):=qI (by rw [Gs.o];exact (((zb.refl [] w).alloc _).alloc _).alloc _)
  have Jw:Hid (W0.heap[w.heap.size]? = some (.cells (jP v.kind v.num v.s (.slice a v.l.length c) (.slice b v.m.length e)) 25 (0,0))):=qI (by
   rw [Gs.o];exact (((zb.refl [] _).alloc _).alloc _).heap (zd rfl) (by simp))
  have Jo:Hid (W0.heap[w.heap.size + 1]? = some (.cells #[.int .i64 0,.int .i64 0,.string ⟨#[]⟩,.slice none 0 0,.slice none 0 0] 25 (0,0))):=qI (by
   rw [Gs.o];exact ((zb.refl [] _).alloc _).heap (zd (by simp)) (by simp))
  have Jx:Hid (W0.heap[w.heap.size + 1 + 1]? = some (.cells (jP v.kind v.num v.s (.slice none 0 0) (.slice none 0 0)) 25 (0,0))):=qI (by
   rw [Gs.o];exact zd (by simp))
  obtain⟨c0,c1,c2,c3,c4⟩:=yQ w v.kind v.num v.s (.slice a v.l.length c) (.slice b v.m.length e) 25
  clear h hs hr0
  go_enter func49,ntmps49
  go_wp2_with fail
  rw [← Gs.o]
  clear c0 c1 c2 c3 c4
  go_loopw [4] (fun i wr=>∃ (k:Nat) (vl:Value) (lcs':List (List Value)),i = .int .i64 k∧k≤v.l.length∧InsL W0 (w.heap.size + 1 + 1) v k wr vl lcs') (fun i _=>v.l.length - (intOf i).toNat)
  case atStart=>
   exact⟨0,.slice none 0 0,[],rfl,Nat.zero_le _,{
    blk:=Jx.o
    row:=World.ownsRow_nil _ _ _ _
    all:=zI.nil _
    kept:=zb.refl _ _ }⟩
  case round=>
   obtain⟨k,vk,lk,rfl,hk,hc⟩:=hrel
   have HC:=qI hc
   have Gu:Hid (zb [] w wr):=qI (Jv.o.trans hc.kept (by intro i hi;simp at hi;subst hi;exact .inr (by omega)))
   have hba:=HC.o.kept.heap Jw.o (by simp;omega)
   have b3:=za (o:=3) (v:=.slice a v.l.length c) hba rfl
   clear hc
   by_cases hlt:k < v.l.length
   ·have hltI:(k:Int) < v.l.length:=by omega
    obtain⟨g,o,cap,kd,nm,st,a1,b1,he,q0,q1,q2,q3,q4,hr⟩:=H.o.at_l Gu.o k hlt
    have hgw:∀ x,a=some x→x.block < w.heap.size:=fun x hx=>H.o.slcl.lt (by rw [hx];exact jW (by omega))
    simp only [Value.slice.injEq] at he
    obtain⟨rfl,-,rfl⟩:=he
    obtain⟨ak,ck,rfl,-,-⟩:=(Slc.of_row HC.o.row).form
    obtain⟨p1,i1,d1,p2,i2,d2,rfl,rfl⟩:=hr.sl
    have HR:=qI hr
    have Jc:=qI (Jn.o.kid (kE (List.getElem_mem hlt)))
    have Jd:=qI (qz Jh.o (kE (List.getElem_mem hlt)))
    have hb3:=HC.o.blk
    have f3:=za (o:=3) (v:=.slice ak k ck) hb3 rfl
    have hlt3:=HC.o.row.lt
    have hb3l:w.heap.size + 1 + 1 < wr.heap.size:=lt_of_block HC.o.blk
    have Jy:=qI hlt3
    have Gv:Hid (g ∉ (Value.slice ak k ck).ownBlock.toList):=qI (fun hx=>by have h1:=(hlt3 _ (Option.mem_toList.1 hx)).1;have h2:=hgw _ rfl;have h3:=Gt.o;simp only at h2;omega)
    have Jz:Hid (w.heap.size ∉ (Value.slice ak k ck).ownBlock.toList):=qI (fun hx=>by have h1:=(hlt3 _ (Option.mem_toList.1 hx)).1;have h3:=Gt.o;omega)
    have Jp:Hid (w.heap.size + 1 + 1 ∉ (Value.slice ak k ck).ownBlock.toList):=qI (fun hx=>by have h1:=(hlt3 _ (Option.mem_toList.1 hx)).1;have h3:=Gt.o;omega)
    clear hr hb3 hlt3 hgw hba
    go_wp2_with fail
    refine zr (n:=12) (fun w':World=>zb (Value.slice ak k ck).ownBlock.toList wr w') 11 (by kernel_rfl) (by kernel_rfl) ?_
    change zM _ _ _ _ _ _ _ _ _ wr.drew
    have hSS:(fun w':World=>zb (Value.slice ak k ck).ownBlock.toList wr w') wr.drew:=(zb.refl _ wr).drew
    have Gw:Hid (zb [] wr wr.drew):=qI (zb.refl [] wr).drew
    revert hSS Gw
    generalize wr.drew=W2
    intro hSS Gw
    refine zG ?_
    intro O R hO hR
    have hQp:∀ c a (d:Nat) v w,R (.panic c) (a.put (some d) v) w→R (.panic c) a w:=by subst hR;exact fun _ _ _ _ _ h=>h
    refine qT 0 ?_ hO rfl rfl (by kernel_rfl) hQp (fun w hSw=>?_) hSS ?_
    rotate_left
    ·go_simp;try with_reducible rfl
    try simp only [zA,zN,zB,zC,zD]
    refine qT 1 ?_ hO rfl rfl (by kernel_rfl) hQp (fun w hSw=>?_) hSS ?_
    rotate_left
    ·have s:=hSw.cell f3 Jp.o;go_simp;try with_reducible rfl
    try simp only [zA,zN,zB,zC,zD]
    refine qT 2 ?_ hO rfl rfl (by kernel_rfl) hQp (fun w hSw=>?_) hSS ?_
    rotate_left
    ·go_simp;try with_reducible rfl
    try simp only [zA,zN,zB,zC,zD]
    refine qT 3 ?_ hO rfl rfl (by kernel_rfl) hQp (fun w hSw=>?_) hSS ?_
    rotate_left
    ·have s:=hSw.cell b3 Jz.o;go_simp;try with_reducible rfl
    try simp only [zA,zN,zB,zC,zD]
    refine qT 4 ?_ hO rfl rfl (by kernel_rfl) hQp (fun w hSw=>?_) hSS ?_
    rotate_left
    ·go_simp;try with_reducible rfl
    try simp only [zA,zN,zB,zC,zD]
    refine qT 5 ?_ hO rfl rfl (by kernel_rfl) hQp (fun w hSw=>?_) hSS ?_
    rotate_left
    ·go_simp;try with_reducible rfl
    try simp only [zA,zN,zB,zC,zD]
    refine qT 6 ?_ hO rfl rfl (by kernel_rfl) hQp (fun w hSw=>?_) hSS ?_
    rotate_left
    ·have s0:=hSw.cell q0 Gv.o;have s1:=hSw.cell q1 Gv.o;have s2:=hSw.cell q2 Gv.o;have s3:=hSw.cell q3 Gv.o;have s4:=hSw.cell q4 Gv.o;go_simp;try with_reducible rfl
    try simp only [zA,zN,zB,zC,zD]
    refine qO 7 hO rfl (by kernel_rfl) (fun K hK=>?_)
    go_simp
    refine Calls.mono (IH.o v.l[k] (HR.o.kept0 Gw.o) Jc.o Jd.o) ?_
    rintro e w3 ⟨⟨cs',rfl,hown⟩,hk3⟩
    have hrep:=hown.rep
    obtain⟨k3,m3,s3,l3,r3,rfl⟩:=hrep.five
    obtain⟨p3,i3,d3,p4,i4,d4,rfl,rfl⟩:=hrep.sl
    have Gl:=qI hrep
    have Gx:=qI (Gw.o.trans' hk3)
    have hS3:(fun w':World=>zb (Value.slice ak k ck).ownBlock.toList wr w') w3:=hSS.then hk3
    have hsz3:=hk3.size
    clear hown hrep hk3
    refine hK _ _ (.inr hS3) ?_
    clear hK K
    try simp only [zA,zN,zB,zC,zD]
    clear hSS
    have hSS:=hS3
    clear hS3
    refine qO 8 hO rfl (by kernel_rfl) (fun K hK=>?_)
    go_simp
    have Gk:=qI ((zb.refl [] w3).alloc (.cells #[.int .i64 k3,.int .i64 m3,.string s3,.slice p3 i3 d3,.slice p4 i4 d4] 25))
    have Gm:=qI (zV w3 [.int .i64 k3,.int .i64 m3,.string s3,.slice p3 i3 d3,.slice p4 i4 d4] 5 1 25 w3.heap.size rfl rfl (by decide))
    have hS4:(fun w':World=>zb (Value.slice ak k ck).ownBlock.toList wr w') (w3.alloc (.cells #[.int .i64 k3,.int .i64 m3,.string s3,.slice p3 i3 d3,.slice p4 i4 d4] 25)):=hSS.then Gk.o
    have Gn:Hid ((w3.alloc (.cells #[.int .i64 k3,.int .i64 m3,.string s3,.slice p3 i3 d3,.slice p4 i4 d4] 25)).heap.size=w3.heap.size + 1):=qI (by simp)
    refine hK _ _ (.inr hS4) ?_
    clear hK K
    try simp only [zA,zN,zB,zC,zD]
    clear hSS
    have hSS:=hS4
    clear hS4
    revert hSS Gk Gm Gn
    generalize w3.alloc (.cells #[.int .i64 k3,.int .i64 m3,.string s3,.slice p3 i3 d3,.slice p4 i4 d4] 25)=w4
    intro Gk Gm Gn hSS
    have Gy:=qI (zk HC.o.row (Gx.o.trans' Gk.o) (by simp))
    have Gi:=qI hsz3
    clear hsz3
    refine qO 9 hO rfl (by kernel_rfl) (fun K hK=>?_)
    refine ka tyVals Gy.o Gm.o Gl.o.one (by simp only [maxLen];omega) (by omega) (by have h1:=(Gx.o.trans' Gk.o).size;have h2:=HC.o.kept.size;omega) (.tmp 23) (.tmp 30) rfl rfl rfl ?_
    intro b5 d5 w5 hown5 hk5 hg5
    have hS5:(fun w':World=>zb (Value.slice ak k ck).ownBlock.toList wr w') w5:=hSS.trans' hk5
    refine hK _ _ (.inr hS5) ?_
    clear hK K
    try simp only [zA,zN,zB,zC,zD]
    clear hSS
    have hSS:=hS5
    clear hS5
    have Gc:=qI hown5
    have Jq:=qI hk5
    have Ma:=qI hg5
    clear hown5 hk5 hg5
    refine qO 10 hO rfl (by kernel_rfl) (fun K hK=>?_)
    go_simp
    refine hK _ _ (.inr hSS) ?_
    clear hK K
    try simp only [zA,zN,zB,zC,zD]
    have Gg:Hid (w5.heap[w.heap.size + 1 + 1]? = some (.cells (jP v.kind v.num v.s (.slice ak k ck) (.slice none 0 0)) 25 (0,0))):=qI (hSS.heap HC.o.blk Jp.o)
    have hc5:=za (o:=3) Gg.o rfl
    have hf5:=zh (o:=3) Gg.o
    refine qO 11 hO rfl (by kernel_rfl) (fun K hK=>?_)
    go_simp
    refine hK _ _ (.inl rfl) ?_
    clear hK K
    try simp only [zA,zN,zB,zC,zD]
    refine zE hO (by kernel_rfl) ?_ _
    subst hR
    try clear hQp hO O
    clear hc5 hf5 hSS q0 q1 q2 q3 q4 f3 b3
    go_wp2_with fail
    case roundEnd=>
     have hz:=Gt.o
     have hz3:=Gi.o
     have hz4:=Gn.o
     have hlo:=Jy.o
     have KX:zb ((w.heap.size + 1 + 1) :: (Value.slice ak k ck).ownBlock.toList) w4 (w5.setCell ⟨w.heap.size + 1 + 1,3,none⟩ (.slice b5 (k + 1) d5)):=(Jq.o.mono (Y:=(w.heap.size + 1 + 1) :: (Value.slice ak k ck).ownBlock.toList) (fun i hi=>List.mem_cons_of_mem _ hi)).setCell (p:=⟨w.heap.size + 1 + 1,3,none⟩) (.inl (List.mem_cons_self ..)) _
     have hz5:∀ g,(Value.slice b5 (k + 1) d5).ownBlock=some g→(Value.slice ak k ck).ownBlock=some g∨g=w4.heap.size:=fun g hg=>by
      rcases Ma.o with h | h
      ·exact .inl (by rw [← h];exact hg)
      ·exact .inr (by rw [hg] at h;exact Option.some.inj h)
     refine⟨⟨k + 1,_,lk ++ [[.int .i64 k3,.int .i64 m3,.string s3,.slice p3 i3 d3,.slice p4 i4 d4]],by go_num,by omega,{
      blk:=ze Gg.o rfl
      row:=?_
      all:=?_
      kept:=?_ }⟩,by simp [intOf];omega⟩
     ·rw [List.flatten_append]
      simp only [List.flatten_cons,List.flatten_nil,List.append_nil]
      exact zk Gc.o ((zb.refl [w.heap.size + 1 + 1] w5).setCell (.inl (by simp)) _) (by
       intro g hg hx
       simp at hx
       have:=(Gc.o.lt g hg).1
       omega)
     ·rw [List.take_succ_eq_append_getElem hlt,List.map_append]
      refine zI.snoc (HC.o.all.mono fun c y _ r=>r.move ((Gx.o.trans' Gk.o).mono (Y:=(w.heap.size + 1 + 1) :: (Value.slice ak k ck).ownBlock.toList) (by simp) |>.trans' KX) ?_) ((Gl.o).move ((Gk.o.mono (Y:=(w.heap.size + 1 + 1) :: (Value.slice ak k ck).ownBlock.toList) (by simp)).trans' KX) ?_)
      ·intro g hg ⟨h1,h2⟩
       refine⟨?_,h1,?_⟩
       ·intro hx
        rcases List.mem_cons.1 hx with rfl | hx
        ·omega
        ·exact h2 (Option.mem_toList.1 hx)
       ·intro h3
        rcases hz5 g h3 with h4 | h4
        ·exact h2 h4
        ·have:=(Gx.o.trans' Gk.o).size;omega
      ·intro g hg h1
       have hz0:=HC.o.kept.size
       have hz2:=Gw.o.size
       refine⟨?_,by omega,?_⟩
       ·intro hx
        rcases List.mem_cons.1 hx with rfl | hx
        ·omega
        ·have:=(hlo g (Option.mem_toList.1 hx)).2;omega
       ·intro h3
        rcases hz5 g h3 with h4 | h4
        ·have:=(hlo g h4).2;omega
        ·omega
     ·exact ((HC.o.kept.then (Gx.o.trans' Gk.o)).trans Jq.o (fun i hi=>.inr (hlo i (Option.mem_toList.1 hi)).1)).setCell (.inl (by simp)) _
   ·obtain rfl:k=v.l.length:=by omega
    obtain⟨WL,rfl⟩:∃ x,x=wr:=⟨_,rfl⟩
    have Gp:=qI HC.o
    have Gz:=qI Gu.o
    have Ja:Hid (w.heap.size + 3≤WL.heap.size):=qI (by have h1:=HC.o.kept.size;have h2:=Gt.o;omega)
    have Jr:=qI hba
    obtain⟨vL,rfl⟩:∃ x,x=vk:=⟨_,rfl⟩
    obtain⟨lL,rfl⟩:∃ x,x=lk:=⟨_,rfl⟩
    clear hba
    go_wp2_with fail
    clear b3 HC Gu
    go_loopw [5] (fun i wr=>∃ (k:Nat) (vm:Value) (mc:List (ByteArray × List Value)) (ms:List (ByteArray × V n)),i = .int .i64 k∧k≤v.m.length∧InsM WL (w.heap.size + 1 + 1) v vL k wr vm mc ms) (fun i _=>v.m.length - (intOf i).toNat)
    case atStart=>
     exact⟨0,.slice none 0 0,[],[],rfl,Nat.zero_le _,{
      blk:=Gp.o.blk
      row:=World.ownsRow_nil _ _ _ _
      all:=zI.nil _
      kept:=zb.refl _ _
      ord:=List.Pairwise.nil
      perm:=by simp
      lim:=rfl }⟩
    case round=>
     obtain⟨k,vk,mk,ms,rfl,hk,hc⟩:=hrel
     have HC:=qI hc
     have Gu:Hid (zb [] w wr):=qI (Gz.o.trans hc.kept (by intro i hi;simp at hi;subst hi;exact .inr (by omega)))
     have b4:=za (o:=4) (v:=.slice b v.m.length e) (HC.o.kept.heap Jr.o (by simp;omega)) rfl
     clear hc
     by_cases hlt:k < v.m.length
     ·have hltI:(k:Int) < v.m.length:=by omega
      obtain⟨g,o,cap,kd,nm,st,a1,b1,he,q0,q1,q2,q3,q4,q5,hr⟩:=H.o.at_m Gu.o k hlt
      simp only [Value.slice.injEq] at he
      obtain⟨rfl,-,rfl⟩:=he
      obtain⟨ak,ck,rfl,-,-⟩:=(Slc.of_row HC.o.row).form
      obtain⟨p1,i1,d1,p2,i2,d2,rfl,rfl⟩:=hr.sl
      have HR:=qI hr
      have Jc:=qI (Jn.o.kid (kD (List.getElem_mem hlt)))
      have Jd:=qI (qz Jh.o (kD (List.getElem_mem hlt)))
      have f4:=za (o:=4) (v:=.slice ak ms.length ck) HC.o.blk rfl
      generalize hkey:v.m[k].1=key at q0
      have Ji:=qI hkey
      have hmsI:(ms.length:Int)≤20000:=by have:=HC.o.lim;omega
      clear hr hkey
      obtain⟨wo,rfl⟩:∃ x,x=wr:=⟨_,rfl⟩
      go_upto_block 4 with fail
      go_cut [6] from 43 to 62 (fun q wq=>∃ j:Nat,q = .int .i64 j∧j≤ms.length∧Hid (∀ (t:Nat) (ht:t < ms.length),j≤t→ltB key ms[t].1=true)∧Hid (j=0∨∃ h:j - 1 < ms.length,ltB key (ms[j - 1]'h).1=false)∧zb [] wo wq)
      case first=>
       go_wp2_with fail
       go_loopw [6] (fun i wq=>∃ j:Nat,i = .int .i64 j∧j≤ms.length∧(∀ (t:Nat) (ht:t < ms.length),j≤t→ltB key ms[t].1=true)∧zb [] wo wq) (fun i _=>(intOf i).toNat)
       case atStart=>exact⟨ms.length,rfl,Nat.le_refl _,fun t ht h=>absurd ht (by omega),zb.refl _ _⟩
       case round=>
        obtain⟨j,rfl,hj,hge,hkq⟩:=hrel
        have Je:=qI hge
        have Gj:=qI hkq
        clear hge hkq
        have hjI:(j:Int)≤ms.length:=by omega
        have hcase:j=0∨(0 < j∧∃ h:j - 1 < ms.length,ltB key (ms[j - 1]'h).1=false)∨(0 < j∧∃ h:j - 1 < ms.length,ltB key (ms[j - 1]'h).1=true):=by
         by_cases hz:j=0
         ·exact .inl hz
         ·cases hb:ltB key (ms[j - 1]'(by omega)).1 with
          | false=>exact .inr (.inl ⟨by omega,by omega,hb⟩)
          | true=>exact .inr (.inr ⟨by omega,by omega,hb⟩)
        rcases hcase with hz | ⟨hp,hx,hb⟩ | ⟨hp,hx,hb⟩
        rotate_left 2
        ·have HB:Hid (∀ (t:Nat) (ht:t < ms.length),t=j - 1→ltB key ms[t].1=true):=qI (fun t ht e=>by subst e;exact hb)
         have HP:=qI hp
         have hz1:decide (0 < j)=true:=decide_eq_true hp
         have hj1:j - 1 < ms.length:=hx
         have hl2:mk.length=ms.length:=HC.o.all.1
         obtain⟨gm,om,capm,hvm,x0⟩:=slc_six ((Slc.of_row HC.o.row).kept0 Gj.o) (j:=j - 1) (by intro cc hcc;obtain⟨pq,hpq,rfl⟩:=List.mem_map.1 hcc;obtain⟨y,-,hy⟩:=HC.o.all.mem_left hpq;simp [yJ,hy.2.len]) (by omega)
         rw [(HC.o.all.2 (j - 1) _ _ (List.getElem?_eq_getElem (by omega)) (List.getElem?_eq_getElem hx)).1] at x0
         simp only [Value.slice.injEq] at hvm
         obtain⟨hak,-,-⟩:=hvm
         generalize hmk:(ms[j - 1]).1=mkey at x0 hb
         obtain⟨hb1,hb2⟩:=gtr_yes hb
         have y0:=zx (Gj.o.cell q0 (by simp))
         have y1:=zx (Gj.o.cell f4 (by simp))
         rw [hak] at y1
         have y2:=zx (Gj.o.cell b4 (by simp))
         have y3:=zx x0
         have hj1I:(j:Int) - 1 < ms.length:=by omega
         have hj0I:(1:Int)≤j:=by omega
         have Js:=qI hak
         clear hx hmk x0 hl2 hak hp hb
         go_wp2_with fail
         refine yo wr (by kernel_rfl) (by kernel_rfl) (zb.refl _ _) ?_
         repeat go_big_quiet_step (fail)
         refine wpQuiet_nil ?_
         intro wq hkq
         have Gf:=qI (Gj.o.then hkq)
         clear hkq hz1 y0 y1 y2 y3 hj1I hj0I hb1 hb2 hj1
         go_wp2_with fail
         case roundEnd=>
          have hp:=HP.o
          exact⟨⟨j - 1,by rw [Int.ofNat_sub hp];rfl,by omega,fun t ht h=>by
           by_cases e:t=j - 1
           ·exact HB.o t ht e
           ·exact Je.o t ht (by omega),Gf.o⟩,by simp [intOf];omega⟩
        case' inl=>
          have Jf:Hid (j=0∨∃ h:j - 1 < ms.length,ltB key (ms[j - 1]'h).1=false):=qI (.inl hz)
          have hz1:decide (0 < j)=false:=decide_eq_false (by omega)
          clear hz
          go_wp2_with fail
          refine yo wr (by kernel_rfl) (by kernel_rfl) (zb.refl _ _) ?_
          repeat go_big_quiet_step (fail)
          refine wpQuiet_nil ?_
          intro wq hkq
          have Gf:=qI (Gj.o.then hkq)
          clear hkq hz1
          go_wp2_with fail
        case' inr.inl=>
          have Jf:Hid (j=0∨∃ h:j - 1 < ms.length,ltB key (ms[j - 1]'h).1=false):=qI (.inr ⟨hx,hb⟩)
          have hz1:decide (0 < j)=true:=decide_eq_true hp
          have hj1:j - 1 < ms.length:=hx
          have hl2:mk.length=ms.length:=HC.o.all.1
          obtain⟨gm,om,capm,hvm,x0⟩:=slc_six ((Slc.of_row HC.o.row).kept0 Gj.o) (j:=j - 1) (by intro cc hcc;obtain⟨pq,hpq,rfl⟩:=List.mem_map.1 hcc;obtain⟨y,-,hy⟩:=HC.o.all.mem_left hpq;simp [yJ,hy.2.len]) (by omega)
          rw [(HC.o.all.2 (j - 1) _ _ (List.getElem?_eq_getElem (by omega)) (List.getElem?_eq_getElem hx)).1] at x0
          simp only [Value.slice.injEq] at hvm
          obtain⟨hak,-,-⟩:=hvm
          generalize hmk:(ms[j - 1]).1=mkey at x0 hb
          have hb1:=gtr_no hb
          have y0:=zx (Gj.o.cell q0 (by simp))
          have y1:=zx (Gj.o.cell f4 (by simp))
          rw [hak] at y1
          have y2:=zx (Gj.o.cell b4 (by simp))
          have y3:=zx x0
          have hj1I:(j:Int) - 1 < ms.length:=by omega
          have hj0I:(1:Int)≤j:=by omega
          have Js:=qI hak
          clear hx hmk x0 hl2 hak hp hb
          go_wp2_with fail
          refine yo wr (by kernel_rfl) (by kernel_rfl) (zb.refl _ _) ?_
          repeat go_big_quiet_step (fail)
          refine wpQuiet_nil ?_
          intro wq hkq
          have Gf:=qI (Gj.o.then hkq)
          clear hkq hz1 y0 y1 y2 y3 hj1I hj0I hb1 hj1 Js
          go_wp2_with fail
        all_goals
         go_meet
         exact⟨j,rfl,hj,Je,Jf,Gf.o⟩
      case rest=>
       obtain⟨j,rfl,hj,Je,Jf,hka⟩:=hcut
       obtain⟨wq,rfl⟩:∃ x,x=wc:=⟨_,rfl⟩
       have Gf:=qI hka
       have hjI:(j:Int)≤ms.length:=by omega
       clear hka
       go_upto_region 12 with fail
       go_cut [7] from 63 to 76 (fun q wd=>∃ (pb:Nat) (k3 m3:Int) (s3:ByteArray) (p3:Option Addr) (i3 d3:Nat) (p4:Option Addr) (i4 d4:Nat),q = .pointer (some ⟨pb,0,none⟩)∧Hid (wd.heap[pb]? = some (.cells #[.string key,.int .i64 k3,.int .i64 m3,.string s3,.slice p3 i3 d3,.slice p4 i4 d4] 132 (0,0)))∧Hid (zb [] wo wd)∧Hid (Rep n (fun g=>wo.heap.size≤g∧g≠pb) wd [.int .i64 k3,.int .i64 m3,.string s3,.slice p3 i3 d3,.slice p4 i4 d4] (zz n v.m[k].2)))
       case first=>
        go_wp2_with fail
        have hba:=(HC.o.kept.heap Jr.o (by simp;omega))
        have r0:=Gf.o.cell q0 (by simp)
        have r1:=Gf.o.cell q1 (by simp)
        have r2:=Gf.o.cell q2 (by simp)
        have r3:=Gf.o.cell q3 (by simp)
        have r4:=Gf.o.cell q4 (by simp)
        have r5:=Gf.o.cell q5 (by simp)
        have rb:=Gf.o.cell b4 (by simp)
        clear hba
        refine zr (n:=16) (fun w':World=>zb [] wq w') 15 (by kernel_rfl) (by kernel_rfl) ?_
        change zM _ _ _ _ _ _ _ _ _ wq.drew
        have hSS:(fun w':World=>zb [] wq w') wq.drew:=(zb.refl [] wq).drew
        revert hSS
        generalize wq.drew=W2
        intro hSS
        refine zG ?_
        intro O R hO hR
        have hQp:∀ c a (d:Nat) v w,R (.panic c) (a.put (some d) v) w→R (.panic c) a w:=by subst hR;exact fun _ _ _ _ _ h=>h
        refine qT 0 ?_ hO rfl rfl (by kernel_rfl) hQp (fun w hSw=>?_) hSS ?_
        rotate_left
        ·go_simp;try with_reducible rfl
        try simp only [zA,zN,zB,zC,zD]
        refine qT 1 ?_ hO rfl rfl (by kernel_rfl) hQp (fun w hSw=>?_) hSS ?_
        rotate_left
        ·have s:=hSw.cell rb (by simp);go_simp;try with_reducible rfl
        try simp only [zA,zN,zB,zC,zD]
        refine qT 2 ?_ hO rfl rfl (by kernel_rfl) hQp (fun w hSw=>?_) hSS ?_
        rotate_left
        ·go_simp;try with_reducible rfl
        try simp only [zA,zN,zB,zC,zD]
        refine qT 3 ?_ hO rfl rfl (by kernel_rfl) hQp (fun w hSw=>?_) hSS ?_
        rotate_left
        ·go_simp;try with_reducible rfl
        try simp only [zA,zN,zB,zC,zD]
        refine qT 4 ?_ hO rfl rfl (by kernel_rfl) hQp (fun w hSw=>?_) hSS ?_
        rotate_left
        ·go_simp;try with_reducible rfl
        try simp only [zA,zN,zB,zC,zD]
        refine qT 5 ?_ hO rfl rfl (by kernel_rfl) hQp (fun w hSw=>?_) hSS ?_
        rotate_left
        ·have s:=hSw.cell r0 (by simp);go_simp;try with_reducible rfl
        try simp only [zA,zN,zB,zC,zD]
        refine qT 6 ?_ hO rfl rfl (by kernel_rfl) hQp (fun w hSw=>?_) hSS ?_
        rotate_left
        ·go_simp;try with_reducible rfl
        try simp only [zA,zN,zB,zC,zD]
        refine qT 7 ?_ hO rfl rfl (by kernel_rfl) hQp (fun w hSw=>?_) hSS ?_
        rotate_left
        ·have s:=hSw.cell rb (by simp);go_simp;try with_reducible rfl
        try simp only [zA,zN,zB,zC,zD]
        refine qT 8 ?_ hO rfl rfl (by kernel_rfl) hQp (fun w hSw=>?_) hSS ?_
        rotate_left
        ·go_simp;try with_reducible rfl
        try simp only [zA,zN,zB,zC,zD]
        refine qT 9 ?_ hO rfl rfl (by kernel_rfl) hQp (fun w hSw=>?_) hSS ?_
        rotate_left
        ·go_simp;try with_reducible rfl
        try simp only [zA,zN,zB,zC,zD]
        refine qT 10 ?_ hO rfl rfl (by kernel_rfl) hQp (fun w hSw=>?_) hSS ?_
        rotate_left
        ·go_simp;try with_reducible rfl
        try simp only [zA,zN,zB,zC,zD]
        refine qT 11 ?_ hO rfl rfl (by kernel_rfl) hQp (fun w hSw=>?_) hSS ?_
        rotate_left
        ·have s1:=hSw.cell r1 (by simp);have s2:=hSw.cell r2 (by simp);have s3:=hSw.cell r3 (by simp);have s4:=hSw.cell r4 (by simp);have s5:=hSw.cell r5 (by simp);go_simp;try with_reducible rfl
        try simp only [zA,zN,zB,zC,zD]
        clear r0 r1 r2 r3 r4 r5 rb
        refine bP (i:=12) (j:=14) hO rfl rfl (by kernel_rfl) (by kernel_rfl) (by kernel_rfl) (fun K hK=>?_) (fun K hK=>?_)
        case' refine_1=>
         go_simp
         refine Calls.mono (IH.o v.m[k].2 (HR.o.kept0 (Gf.o.then hSS)) Jc.o Jd.o) ?_
         rintro e w3 ⟨⟨cs',rfl,hown⟩,hk3⟩
         have hrep:=hown.rep
         obtain⟨k3,m3,s3,l3,r3,rfl⟩:=hrep.five
         obtain⟨p3,i3,d3,p4,i4,d4,rfl,rfl⟩:=hrep.sl
         have hS3:(fun w':World=>zb [] wq w') w3:=hSS.then hk3
         refine hK _ _ (.inr hS3) ?_
         clear hK K
         try simp only [zA,zN,zB,zC,zD]
         have Jt:=qI hSS.size
         clear hSS
         have hSS:=hS3
         refine qT 13 ?_ hO rfl rfl (by kernel_rfl) hQp (fun w hSw=>?_) hSS ?_
         rotate_left
         ·go_simp;try with_reducible rfl
         try simp only [zA,zN,zB,zC,zD]
         refine qO 14 hO rfl (by kernel_rfl) (fun K hK=>?_)
         go_simp
         have hS4:(fun w':World=>zb [] wq w') (w3.alloc (.cells #[.string ⟨#[]⟩,.int .i64 0,.int .i64 0,.string ⟨#[]⟩,.slice none 0 0,.slice none 0 0] 132)):=hS3.alloc _
         refine hK _ _ (.inr hS4) ?_
         clear hK K
         try simp only [zA,zN,zB,zC,zD]
         have Gd:Hid ((w3.alloc (.cells #[.string ⟨#[]⟩,.int .i64 0,.int .i64 0,.string ⟨#[]⟩,.slice none 0 0,.slice none 0 0] 132)).heap[w3.heap.size]? = some (.cells #[.string ⟨#[]⟩,.int .i64 0,.int .i64 0,.string ⟨#[]⟩,.slice none 0 0,.slice none 0 0] 132 (0,0))):=qI (zd rfl)
         have Ge:Hid (Rep n (fun g=>wq.heap.size≤g∧g≠w3.heap.size) (w3.alloc (.cells #[.string ⟨#[]⟩,.int .i64 0,.int .i64 0,.string ⟨#[]⟩,.slice none 0 0,.slice none 0 0] 132)) [.int .i64 k3,.int .i64 m3,.string s3,.slice p3 i3 d3,.slice p4 i4 d4] (zz n v.m[k].2)):=qI (hrep.move ((zb.refl [] w3).alloc _) (fun g hg h1=>⟨by simp,by have:=Jt.o;omega,by omega⟩))
         have Gq:Hid (wq.heap.size≤w3.heap.size):=qI hS3.size
         clear hSS hown hrep hk3 hS3 Jt
         have hSS:=hS4
         clear hS4
         revert Gd Ge Gq hSS
         generalize w3.heap.size=pb
         generalize w3.alloc (.cells #[.string ⟨#[]⟩,.int .i64 0,.int .i64 0,.string ⟨#[]⟩,.slice none 0 0,.slice none 0 0] 132)=w4
         intro Gd Ge Gq hSS
         clear w3
        case' refine_2=>
         go_simp
         have hS4:(fun w':World=>zb [] wq w') (W2.alloc (.cells #[.string ⟨#[]⟩,.int .i64 0,.int .i64 0,.string ⟨#[]⟩,.slice none 0 0,.slice none 0 0] 132)):=hSS.alloc _
         refine hK _ _ (.inr hS4) ?_
         clear hK K
         try simp only [zA,zN,zB,zC,zD]
         have Jg:Hid ((W2.alloc (.cells #[.string ⟨#[]⟩,.int .i64 0,.int .i64 0,.string ⟨#[]⟩,.slice none 0 0,.slice none 0 0] 132)).heap[W2.heap.size]? = some (.cells #[.string ⟨#[]⟩,.int .i64 0,.int .i64 0,.string ⟨#[]⟩,.slice none 0 0,.slice none 0 0] 132 (0,0))):=qI (zd rfl)
         have Gi:Hid ((W2.alloc (.cells #[.string ⟨#[]⟩,.int .i64 0,.int .i64 0,.string ⟨#[]⟩,.slice none 0 0,.slice none 0 0] 132)).heap.size=W2.heap.size + 1):=qI (by simp)
         have Gq:Hid (wq.heap.size≤W2.heap.size):=qI hSS.size
         clear hSS
         have hSS:=hS4
         clear hS4
         revert Jg Gi Gq hSS
         generalize W2.heap.size=pb
         generalize W2.alloc (.cells #[.string ⟨#[]⟩,.int .i64 0,.int .i64 0,.string ⟨#[]⟩,.slice none 0 0,.slice none 0 0] 132)=W3
         intro Jg Gi Gq hSS
         refine qO 12 hO rfl (by kernel_rfl) (fun K hK=>?_)
         go_simp
         refine Calls.mono (IH.o v.m[k].2 (HR.o.kept0 (Gf.o.then hSS)) Jc.o Jd.o) ?_
         rintro e w4 ⟨⟨cs',rfl,hown⟩,hk3⟩
         have hrep:=hown.rep
         obtain⟨k3,m3,s3,l3,r3,rfl⟩:=hrep.five
         obtain⟨p3,i3,d3,p4,i4,d4,rfl,rfl⟩:=hrep.sl
         have Gd:=qI (hk3.heap Jg.o (by simp))
         have Ge:Hid (Rep n (fun g=>wq.heap.size≤g∧g≠pb) w4 [.int .i64 k3,.int .i64 m3,.string s3,.slice p3 i3 d3,.slice p4 i4 d4] (zz n v.m[k].2)):=qI (hrep.mono (fun g hg h1=>by have:=Gi.o;have:=Gq.o;omega))
         have hS4:(fun w':World=>zb [] wq w') w4:=hSS.then hk3
         refine hK _ _ (.inr hS4) ?_
         clear hK K
         try simp only [zA,zN,zB,zC,zD]
         clear hSS hown hrep hk3 Jg Gi
         have hSS:=hS4
         clear hS4 W3
         refine qT 13 ?_ hO rfl rfl (by kernel_rfl) hQp (fun w hSw=>?_) hSS ?_
         rotate_left
         ·go_simp;try with_reducible rfl
         try simp only [zA,zN,zB,zC,zD]
        all_goals
         clear W2
         have hc0:=za (o:=0) (v:=.string ⟨#[]⟩) Gd.o rfl
         have hc1:=za (o:=1) (v:=.int .i64 0) Gd.o rfl
         have hc2:=za (o:=2) (v:=.int .i64 0) Gd.o rfl
         have hc3:=za (o:=3) (v:=.string ⟨#[]⟩) Gd.o rfl
         have hc4:=za (o:=4) (v:=.slice none 0 0) Gd.o rfl
         have hc5:=za (o:=5) (v:=.slice none 0 0) Gd.o rfl
         have hf0:=zh (o:=0) Gd.o
         have hf1:=zh (o:=1) Gd.o
         have hf2:=zh (o:=2) Gd.o
         have hf3:=zh (o:=3) Gd.o
         have hf4:=zh (o:=4) Gd.o
         have hf5:=zh (o:=5) Gd.o
         refine qO 15 hO rfl (by kernel_rfl) (fun K hK=>?_)
         go_simp
         refine hK _ _ (.inl rfl) ?_
         clear hK K
         try simp only [zA,zN,zB,zC,zD]
         refine zE hO (by kernel_rfl) ?_ _
         subst hR
         try clear hQp hO O
         clear hc0 hc1 hc2 hc3 hc4 hc5 hf0 hf1 hf2 hf3 hf4 hf5
         have KC:zb [pb] w4 ((((((w4.setCell ⟨pb,0,none⟩ (.string key)).setCell ⟨pb,1,none⟩ (.int .i64 k3)).setCell ⟨pb,2,none⟩ (.int .i64 m3)).setCell ⟨pb,3,none⟩ (.string s3)).setCell ⟨pb,4,none⟩ (.slice p3 i3 d3)).setCell ⟨pb,5,none⟩ (.slice p4 i4 d4)):=((((((zb.refl _ _).setCell (p:=⟨pb,0,none⟩) (.inl (by simp)) _).setCell (p:=⟨pb,1,none⟩) (.inl (by simp)) _).setCell (p:=⟨pb,2,none⟩) (.inl (by simp)) _).setCell (p:=⟨pb,3,none⟩) (.inl (by simp)) _).setCell (p:=⟨pb,4,none⟩) (.inl (by simp)) _).setCell (p:=⟨pb,5,none⟩) (.inl (by simp)) _
         have Gg:=qI (ze (v:=.slice p4 i4 d4) (i:=5) (ze (v:=.slice p3 i3 d3) (i:=4) (ze (v:=.string s3) (i:=3) (ze (v:=.int .i64 m3) (i:=2) (ze (v:=.int .i64 k3) (i:=1) (ze (v:=.string key) (i:=0) Gd.o rfl) rfl) rfl) rfl) rfl) rfl)
         revert KC Gg
         generalize (((((w4.setCell ⟨pb,0,none⟩ (.string key)).setCell ⟨pb,1,none⟩ (.int .i64 k3)).setCell ⟨pb,2,none⟩ (.int .i64 m3)).setCell ⟨pb,3,none⟩ (.string s3)).setCell ⟨pb,4,none⟩ (.slice p3 i3 d3)).setCell ⟨pb,5,none⟩ (.slice p4 i4 d4)=WC
         intro KC Gg
         have Gr:Hid (zb [] wo WC):=qI (Gf.o.trans (zb.trans (X:=[]) hSS KC (fun i hi=>by simp at hi;subst hi;exact .inr Gq.o)) (by simp))
         have Mb:Hid (wo.heap.size≤wq.heap.size):=qI Gf.o.size
         have Gh:Hid (Rep n (fun g=>wo.heap.size≤g∧g≠pb) WC [.int .i64 k3,.int .i64 m3,.string s3,.slice p3 i3 d3,.slice p4 i4 d4] (zz n v.m[k].2)):=qI (Ge.o.move KC (fun g hg h1=>⟨by simp;exact h1.2,by have:=Mb.o;omega,h1.2⟩))
         clear Gd Ge KC hSS w4
         go_wp2_with fail
         go_meet
         exact⟨pb,k3,m3,s3,p3,i3,d3,p4,i4,d4,rfl,Gg,Gr,Gh⟩
       case rest=>
        obtain⟨pb,k3,m3,s3,p3,i3,d3,p4,i4,d4,rfl,Gg,Gr,Gh⟩:=hcut
        obtain⟨WC,rfl⟩:∃ x,x=wc:=⟨_,rfl⟩
        have x0:=za (o:=0) (v:=.string key) Gg.o rfl
        have x1:=za (o:=1) (v:=.int .i64 k3) Gg.o rfl
        have x2:=za (o:=2) (v:=.int .i64 m3) Gg.o rfl
        have x3:=za (o:=3) (v:=.string s3) Gg.o rfl
        have x4:=za (o:=4) (v:=.slice p3 i3 d3) Gg.o rfl
        have x5:=za (o:=5) (v:=.slice p4 i4 d4) Gg.o rfl
        have xf:=Gr.o.cell f4 (by simp)
        have H5M:∀ p,p ∈ mk→p.2.length=5:=fun p hp=>by obtain⟨y,-,hy⟩:=HC.o.all.mem_left hp;exact hy.2.len
        obtain⟨a1,c1,hr1,hs1⟩:=slc_head jh ((Slc.of_row HC.o.row).kept0 Gr.o) j hj
        obtain⟨a2,c2,hr2,hs2⟩:=slc_tail jh ((Slc.of_row HC.o.row).kept0 Gr.o) j hj
        rw [Qa _ _ H5M] at hs1
        rw [Qb _ _ H5M] at hs2
        have Jj:=qI hs1
        have Mc:=qI hs2
        have Jk:Hid (∀ u ∈ zX (mk.take j),u.oneCell'=true):=qI (KI (HC.o.all.take j) (fun c y r=>r.one))
        have Md:Hid (∀ u ∈ zX (mk.drop j),u.oneCell'=true):=qI (KI (HC.o.all.drop j) (fun c y r=>r.one))
        have hjm:(j:Int)≤ms.length:=hjI
        clear hs1 hs2 H5M
        go_wp2_with fail
        refine zr (n:=16) (fun w':World=>zb [] WC w') 15 (by kernel_rfl) (by kernel_rfl) ?_
        change zM _ _ _ _ _ _ _ _ _ WC.drew
        have hSS:(fun w':World=>zb [] WC w') WC.drew:=(zb.refl [] WC).drew
        revert hSS
        generalize WC.drew=W5
        intro hSS
        refine zG ?_
        intro O R hO hR
        have hQp:∀ c a (d:Nat) v w,R (.panic c) (a.put (some d) v) w→R (.panic c) a w:=by subst hR;exact fun _ _ _ _ _ h=>h
        refine qT 1 ?_ hO rfl rfl (by kernel_rfl) hQp (fun w hSw=>?_) hSS ?_
        rotate_left
        ·go_simp;try with_reducible rfl
        try simp only [zA,zN,zB,zC,zD]
        refine qT 2 ?_ hO rfl rfl (by kernel_rfl) hQp (fun w hSw=>?_) hSS ?_
        rotate_left
        ·have s:=hSw.cell xf (by simp);go_simp;try with_reducible rfl
        try simp only [zA,zN,zB,zC,zD]
        refine qT 3 ?_ hO rfl rfl (by kernel_rfl) hQp (fun w hSw=>?_) hSS ?_
        rotate_left
        ·go_simp;try with_reducible rfl
        try simp only [zA,zN,zB,zC,zD]
        refine qT 4 ?_ hO rfl rfl (by kernel_rfl) hQp (fun w hSw=>?_) hSS ?_
        rotate_left
        ·go_simp;try with_reducible rfl
        try simp only [zA,zN,zB,zC,zD]
        refine qT 6 ?_ hO rfl rfl (by kernel_rfl) hQp (fun w hSw=>?_) hSS ?_
        rotate_left
        ·have s0:=hSw.cell x0 (by simp);have s1:=hSw.cell x1 (by simp);have s2:=hSw.cell x2 (by simp);have s3:=hSw.cell x3 (by simp);have s4:=hSw.cell x4 (by simp);have s5:=hSw.cell x5 (by simp);go_simp;try with_reducible rfl
        try simp only [zA,zN,zB,zC,zD]
        refine qT 9 ?_ hO rfl rfl (by kernel_rfl) hQp (fun w hSw=>?_) hSS ?_
        rotate_left
        ·go_simp;try with_reducible rfl
        try simp only [zA,zN,zB,zC,zD]
        refine qT 10 ?_ hO rfl rfl (by kernel_rfl) hQp (fun w hSw=>?_) hSS ?_
        rotate_left
        ·have s:=hSw.cell xf (by simp);go_simp;try with_reducible rfl
        try simp only [zA,zN,zB,zC,zD]
        refine qT 11 ?_ hO rfl rfl (by kernel_rfl) hQp (fun w hSw=>?_) hSS ?_
        rotate_left
        ·go_simp;try with_reducible rfl
        try simp only [zA,zN,zB,zC,zD]
        refine qT 12 ?_ hO rfl rfl (by kernel_rfl) hQp (fun w hSw=>?_) hSS ?_
        rotate_left
        ·go_simp;try with_reducible rfl
        try simp only [zA,zN,zB,zC,zD]
        clear x0 x1 x2 x3 x4 x5 xf hr1 hr2
        refine bP (i:=0) (j:=7) hO rfl rfl (by kernel_rfl) (by kernel_rfl) (by kernel_rfl) (fun K hK=>?_) (fun K hK=>?_)
        case' refine_2=>
         go_simp
         have kA:(fun w':World=>zb [] WC w') (W5.alloc (.cells #[.string key,.int .i64 k3,.int .i64 m3,.string s3,.slice p3 i3 d3,.slice p4 i4 d4] 132)):=hSS.alloc _
         have hone:=zV W5 [.string key,.int .i64 k3,.int .i64 m3,.string s3,.slice p3 i3 d3,.slice p4 i4 d4] 6 1 132 W5.heap.size rfl rfl (by decide)
         refine hK _ _ (.inr kA) ?_
         clear hK K
         try simp only [zA,zN,zB,zC,zD]
         have Jb:=qI hSS.size
         clear hSS
         have hSS:=kA
         refine qO 0 hO rfl (by kernel_rfl) (fun K hK=>?_)
         go_simp
         have kB:(fun w':World=>zb [] WC w') ((W5.alloc (.cells #[.string key,.int .i64 k3,.int .i64 m3,.string s3,.slice p3 i3 d3,.slice p4 i4 d4] 132)).alloc (.cells #[] 132)):=kA.alloc _
         have hown1:=jT (t:=132) (size:=6) (base:=WC.heap.size) (W5.alloc (.cells #[.string key,.int .i64 k3,.int .i64 m3,.string s3,.slice p3 i3 d3,.slice p4 i4 d4] 132)) rfl kA.size
         have hone2:=hone.kept0 ((zb.refl [] (W5.alloc (.cells #[.string key,.int .i64 k3,.int .i64 m3,.string s3,.slice p3 i3 d3,.slice p4 i4 d4] 132))).alloc (.cells #[] 132))
         rw [show (W5.alloc (.cells #[.string key,.int .i64 k3,.int .i64 m3,.string s3,.slice p3 i3 d3,.slice p4 i4 d4] 132)).heap.size=W5.heap.size + 1 by simp] at hown1
         refine hK _ _ (.inr kB) ?_
         clear hK K
         try simp only [zA,zN,zB,zC,zD]
         clear hSS
         have hSS:=kB
         refine qO 5 hO rfl (by kernel_rfl) (fun K hK=>?_)
         refine bh jh hown1 (Jj.o.kept0 kB) Jk.o (by simp only [maxLen];omega) (by omega) kB.size (.tmp 77) (.tmp 81) rfl rfl rfl ?_
         intro b1 d1 w2 hown2 hk2 hg2
         have hS2:(fun w':World=>zb [] WC w') w2:=zb.trans (X:=[]) kB hk2 (fun i hi=>.inr (by have:=Jb.o;simp [Value.ownBlock] at hi;omega))
         have Gb:=qI (hone2.kept hk2 (by intro g hg hx;simp [Value.ownBlock] at hx;simp [yq] at hg;omega))
         have Ga:=qI hown2
         refine hK _ _ (.inr hS2) ?_
         clear hK K
         try simp only [zA,zN,zB,zC,zD]
         clear hSS kA hown1 kB hone hone2 hk2 hg2 hown2 Jb
         have hSS:=hS2
         clear hS2
         revert Gb
         generalize W5.heap.size=G
         intro Gb
        case' refine_1=>
         go_simp
         have kA:(fun w':World=>zb [] WC w') (W5.alloc (.cells #[] 132)):=hSS.alloc _
         have hown0:=jT (t:=132) (size:=6) (base:=WC.heap.size) W5 rfl hSS.size
         refine hK _ _ (.inr kA) ?_
         clear hK K
         try simp only [zA,zN,zB,zC,zD]
         refine bP (i:=5) (j:=7) hO rfl rfl (by kernel_rfl) (by kernel_rfl) (by kernel_rfl) (fun K hK=>?_) (fun K hK=>?_)
         case' refine_2=>
          go_simp
          have kB:(fun w':World=>zb [] WC w') ((W5.alloc (.cells #[] 132)).alloc (.cells #[.string key,.int .i64 k3,.int .i64 m3,.string s3,.slice p3 i3 d3,.slice p4 i4 d4] 132)):=kA.alloc _
          have hone:=zV (W5.alloc (.cells #[] 132)) [.string key,.int .i64 k3,.int .i64 m3,.string s3,.slice p3 i3 d3,.slice p4 i4 d4] 6 1 132 (W5.heap.size + 1) (by simp) rfl (by decide)
          have hown1:=zk hown0 ((zb.refl [] (W5.alloc (.cells #[] 132))).alloc (.cells #[.string key,.int .i64 k3,.int .i64 m3,.string s3,.slice p3 i3 d3,.slice p4 i4 d4] 132)) (by simp)
          refine hK _ _ (.inr kB) ?_
          clear hK K
          try simp only [zA,zN,zB,zC,zD]
          have Jb:=qI hSS.size
          clear hSS
          have hSS:=kB
          refine qO 5 hO rfl (by kernel_rfl) (fun K hK=>?_)
          refine bh jh hown1 (Jj.o.kept0 kB) Jk.o (by simp only [maxLen];omega) (by omega) kB.size (.tmp 77) (.tmp 81) rfl rfl rfl ?_
          intro b1 d1 w2 hown2 hk2 hg2
          have hS2:(fun w':World=>zb [] WC w') w2:=zb.trans (X:=[]) kB hk2 (fun i hi=>.inr (by have:=Jb.o;simp [Value.ownBlock] at hi;omega))
          have Gb:=qI (hone.kept hk2 (by intro g hg hx;simp [Value.ownBlock] at hx;simp [yq] at hg;omega))
          have Ga:=qI hown2
          refine hK _ _ (.inr hS2) ?_
          clear hK K
          try simp only [zA,zN,zB,zC,zD]
          clear hSS kA hown0 hown1 kB hone hk2 hg2 hown2 Jb
          have hSS:=hS2
          clear hS2
          revert Gb
          generalize W5.heap.size + 1=G
          intro Gb
         case' refine_1=>
          refine bh jh hown0 (Jj.o.kept0 kA) Jk.o (by simp only [maxLen];omega) (by omega) kA.size (.tmp 77) (.tmp 81) rfl rfl rfl ?_
          intro b1 d1 w1 hown1 hk1 hg1
          have hS1:(fun w':World=>zb [] WC w') w1:=zb.trans (X:=[]) kA hk1 (fun i hi=>.inr (by have:=hSS.size;simp [Value.ownBlock] at hi;omega))
          refine hK _ _ (.inr hS1) ?_
          clear hK K
          try simp only [zA,zN,zB,zC,zD]
          clear hown0 hk1 hg1 kA hSS
          have hSS:=hS1
          clear hS1
          refine qO 7 hO rfl (by kernel_rfl) (fun K hK=>?_)
          go_simp
          have hS2:(fun w':World=>zb [] WC w') (w1.alloc (.cells #[.string key,.int .i64 k3,.int .i64 m3,.string s3,.slice p3 i3 d3,.slice p4 i4 d4] 132)):=hSS.alloc _
          have Gb:=qI (zV w1 [.string key,.int .i64 k3,.int .i64 m3,.string s3,.slice p3 i3 d3,.slice p4 i4 d4] 6 1 132 w1.heap.size rfl rfl (by decide))
          have Ga:=qI (zk hown1 ((zb.refl [] w1).alloc (.cells #[.string key,.int .i64 k3,.int .i64 m3,.string s3,.slice p3 i3 d3,.slice p4 i4 d4] 132)) (by simp))
          refine hK _ _ (.inr hS2) ?_
          clear hK K
          try simp only [zA,zN,zB,zC,zD]
          clear hSS hown1
          have hSS:=hS2
          clear hS2
          revert Gb Ga hSS
          generalize w1.heap.size=G
          generalize w1.alloc (.cells #[.string key,.int .i64 k3,.int .i64 m3,.string s3,.slice p3 i3 d3,.slice p4 i4 d4] 132)=w2
          intro Gb Ga hSS
          clear w1
        all_goals
         refine qO 8 hO rfl (by kernel_rfl) (fun K hK=>?_)
         refine ka jh Ga.o Gb.o (by intro u hu;rcases List.mem_cons.1 hu with rfl | hu <;> first | rfl | exact Gh.o.one u hu) (by simp only [maxLen];omega) (by omega) hSS.size (.tmp 82) (.tmp 84) rfl rfl rfl ?_
         intro bx dx w3 hown3 hk3 hg3
         have hlt2:=Ga.o.lt
         have hS3:(fun w':World=>zb [] WC w') w3:=zb.trans (X:=[]) hSS hk3 (fun i hi=>.inr (hlt2 i (Option.mem_toList.1 hi)).1)
         refine hK _ _ (.inr hS3) ?_
         clear hK K
         try simp only [zA,zN,zB,zC,zD]
         clear hSS hlt2
         have hSS:=hS3
         clear hS3
         refine qO 13 hO rfl (by kernel_rfl) (fun K hK=>?_)
         refine ka jh hown3 (Mc.o.kept0 hSS) Md.o (by simp only [maxLen];omega) (by omega) hSS.size (.tmp 85) (.tmp 89) rfl rfl rfl ?_
         intro b5 d5 w5 hown5 hk5 hg5
         have hlt3:=hown3.lt
         have hS5:(fun w':World=>zb [] WC w') w5:=zb.trans (X:=[]) hSS hk5 (fun i hi=>.inr (hlt3 i (Option.mem_toList.1 hi)).1)
         refine hK _ _ (.inr hS5) ?_
         clear hK K
         try simp only [zA,zN,zB,zC,zD]
         clear hSS hlt3
         have hSS:=hS5
         clear hS5
         refine qO 14 hO rfl (by kernel_rfl) (fun K hK=>?_)
         go_simp
         refine hK _ _ (.inr hSS) ?_
         clear hK K
         try simp only [zA,zN,zB,zC,zD]
         have Gc:=qI hown5
         have Jl:Hid (zb [] wo w5):=qI (Gr.o.then hSS)
         have Ju:Hid (zb [] WC w5):=qI hSS
         have Jm:Hid (w5.heap[w.heap.size + 1 + 1]? = some (.cells (jP v.kind v.num v.s vL (.slice ak ms.length ck)) 25 (0,0))):=qI (Jl.o.heap HC.o.blk (by simp))
         have hc6:=za (o:=4) Jm.o rfl
         have hf6:=zh (o:=4) Jm.o
         refine qO 15 hO rfl (by kernel_rfl) (fun K hK=>?_)
         go_simp
         refine hK _ _ (.inl rfl) ?_
         clear hK K
         try simp only [zA,zN,zB,zC,zD]
         refine zE hO (by kernel_rfl) ?_ _
         subst hR
         try clear hQp hO O
         clear hc6 hf6 hSS hown3 hown5 hk3 hk5 hg3 hg5
         go_wp2_with fail
         case roundEnd=>
          have hz:=Ja.o
          have hzw:=Gr.o.size
          have hlw:=HC.o.kept.size
          have hzf:=Ju.o.size
          have hlo:=HC.o.row.lt
          have hnew:=Gc.o.lt
          have e1:(ms.take j ++ (key,zz n v.m[k].2) :: ms.drop j).length=j + 1 + (ms.length - j):=by simp;omega
          have KX:zb [w.heap.size + 1 + 1] w5 (w5.setCell ⟨w.heap.size + 1 + 1,4,none⟩ (.slice b5 (j + 1 + (ms.length - j)) d5)):=kept_cell _ _ _ _
          refine⟨⟨k + 1,_,mk.take j ++ (key,[.int .i64 k3,.int .i64 m3,.string s3,.slice p3 i3 d3,.slice p4 i4 d4]) :: mk.drop j,ms.take j ++ (key,zz n v.m[k].2) :: ms.drop j,by go_num,by omega,{
           blk:=ze Jm.o rfl
           row:=?_
           all:=?_
           kept:=?_
           ord:=put_sorted HC.o.ord hj (fun t ht h=>Je.o t ht h) Jf.o
           perm:=?_
           lim:=by rw [e1];have:=HC.o.lim;omega }⟩,by simp [intOf];omega⟩
          ·rw [e1]
           have h4:=qj (zk Gc.o KX (fun g hg hx=>by have:=(hnew g hg).1;simp at hx;omega)) (base':=WL.heap.size) (fun g hg=>by have:=(hnew g hg).1;omega)
           have e2:zX (mk.take j ++ (key,[.int .i64 k3,.int .i64 m3,.string s3,.slice p3 i3 d3,.slice p4 i4 d4]) :: mk.drop j)=zX (mk.take j) ++ [.string key,.int .i64 k3,.int .i64 m3,.string s3,.slice p3 i3 d3,.slice p4 i4 d4] ++ zX (mk.drop j):=by simp [zX,yJ]
           rw [e2]
           exact h4
          ·have hold:∀ (c:ByteArray × List Value) (y:ByteArray × V n),jY (Rep n (fun g=>WL.heap.size≤g∧(Value.slice ak ms.length ck).ownBlock≠some g) wo) c y→jY (Rep n (fun g=>WL.heap.size≤g∧(Value.slice b5 (j + 1 + (ms.length - j)) d5).ownBlock≠some g) (w5.setCell ⟨w.heap.size + 1 + 1,4,none⟩ (.slice b5 (j + 1 + (ms.length - j)) d5))) c y:=fun c y r=>
            ⟨r.1,r.2.move ((Jl.o.mono (by simp)).trans' KX) (fun g hg ⟨h1,h2⟩=>⟨by simp;omega,h1,fun h3=>by have:=(hnew g h3).1;omega⟩)⟩
           refine ((HC.o.all.take j).mono fun c y _ r=>hold c y r).app (zI.cons ⟨rfl,?_⟩ ((HC.o.all.drop j).mono fun c y _ r=>hold c y r))
           exact Gh.o.move ((Ju.o.mono (by simp)).trans' KX) (fun g hg ⟨h1,h2⟩=>⟨by simp;omega,by omega,fun h3=>by have:=(hnew g h3).1;omega⟩)
          ·exact (HC.o.kept.then Jl.o).trans' KX
          ·rw [List.take_succ_eq_append_getElem hlt,List.map_append]
           refine (put_perm ms _ j).trans ?_
           have e3:qt (zz n) v.m[k]=(key,zz n v.m[k].2):=by unfold qt;rw [Ji.o]
           rw [List.map_singleton,e3]
           exact HC.o.perm.append (List.Perm.refl _)
     ·obtain rfl:k=v.m.length:=by omega
      have hms:ms=(v.m.map (qt (zz n))).mergeSort leK:=by
       have hp:=HC.o.perm
       rw [List.take_length] at hp
       have hk:((v.m.map (qt (zz n))).map (fun p=>p.1)).Nodup:=by
        rw [List.map_map]
        exact nodup_right Jh.o
       exact kQ (hp.trans (jq v).symm) HC.o.ord (List.pairwise_mergeSort qY vI _) ((hp.map _).nodup_iff.2 hk)
      have Me:=qI hms
      have Mf:=qI HC.o.lim
      have hbc:=HC.o.blk
      have d0:=za (o:=0) (v:=.int .i64 v.kind) hbc rfl
      have d1:=za (o:=1) (v:=.int .i64 v.num) hbc rfl
      have d2:=za (o:=2) (v:=.string v.s) hbc rfl
      have d3:=za (o:=3) (v:=vL) hbc rfl
      have d4:=za (o:=4) (v:=vk) hbc rfl
      have hbr:=HC.o.kept.heap (Gp.o.kept.heap Jo.o (by simp)) (by simp)
      obtain⟨aL,cL,rfl,-,-⟩:=(Slc.of_row Gp.o.row).form
      obtain⟨aM,cM,rfl,-,-⟩:=(Slc.of_row HC.o.row).form
      have r0:=za (o:=0) (v:=.int .i64 0) hbr rfl
      have r1:=za (o:=1) (v:=.int .i64 0) hbr rfl
      have r2:=za (o:=2) (v:=.string ⟨#[]⟩) hbr rfl
      have r3:=za (o:=3) (v:=.slice none 0 0) hbr rfl
      have r4:=za (o:=4) (v:=.slice none 0 0) hbr rfl
      have s0:=zh (o:=0) hbr
      have s1:=zh (o:=1) hbr
      have s2:=zh (o:=2) hbr
      have s3:=zh (o:=3) hbr
      have s4:=zh (o:=4) hbr
      clear hbc hbr hms
      go_wp2_with fail
      have KF:zb [w.heap.size + 1] wr (((((wr.setCell ⟨w.heap.size + 1,0,none⟩ (.int .i64 v.kind)).setCell ⟨w.heap.size + 1,1,none⟩ (.int .i64 v.num)).setCell ⟨w.heap.size + 1,2,none⟩ (.string v.s)).setCell ⟨w.heap.size + 1,3,none⟩ (.slice aL v.l.length cL)).setCell ⟨w.heap.size + 1,4,none⟩ (.slice aM ms.length cM)):=
       (((((zb.refl _ _).setCell (p:=⟨w.heap.size + 1,0,none⟩) (.inl (by simp)) _).setCell (p:=⟨w.heap.size + 1,1,none⟩) (.inl (by simp)) _).setCell (p:=⟨w.heap.size + 1,2,none⟩) (.inl (by simp)) _).setCell (p:=⟨w.heap.size + 1,3,none⟩) (.inl (by simp)) _).setCell (p:=⟨w.heap.size + 1,4,none⟩) (.inl (by simp)) _
      have hbf:=ze (v:=.slice aM ms.length cM) (i:=4) (ze (v:=.slice aL v.l.length cL) (i:=3) (ze (v:=.string v.s) (i:=2) (ze (v:=.int .i64 v.num) (i:=1) (ze (v:=.int .i64 v.kind) (i:=0) (HC.o.kept.heap (Gp.o.kept.heap Jo.o (by simp)) (by simp)) rfl) rfl) rfl) rfl) rfl
      have x0:=za (o:=0) (v:=.int .i64 v.kind) hbf rfl
      have x1:=za (o:=1) (v:=.int .i64 v.num) hbf rfl
      have x2:=za (o:=2) (v:=.string v.s) hbf rfl
      have x3:=za (o:=3) (v:=.slice aL v.l.length cL) hbf rfl
      have x4:=za (o:=4) (v:=.slice aM ms.length cM) hbf rfl
      clear hbf d0 d1 d2 d3 d4 r0 r1 r2 r3 r4 s0 s1 s2 s3 s4
      revert KF x0 x1 x2 x3 x4
      generalize ((((wr.setCell ⟨w.heap.size + 1,0,none⟩ (.int .i64 v.kind)).setCell ⟨w.heap.size + 1,1,none⟩ (.int .i64 v.num)).setCell ⟨w.heap.size + 1,2,none⟩ (.string v.s)).setCell ⟨w.heap.size + 1,3,none⟩ (.slice aL v.l.length cL)).setCell ⟨w.heap.size + 1,4,none⟩ (.slice aM ms.length cM)=WF
      intro KF x0 x1 x2 x3 x4
      have hzl:=Ja.o
      have hz0:=Gt.o
      have hLlt:=Gp.o.row.lt
      have hMlt:=HC.o.row.lt
      have hkl:=HC.o.kept.size
      have KLM:zb [w.heap.size + 1,w.heap.size + 1 + 1] WL WF:=(HC.o.kept.mono (by simp)).trans' (KF.mono (by simp))
      refine bodyPost_ret (v:=.agg #[.int .i64 v.kind,.int .i64 v.num,.string v.s,.slice aL v.l.length cL,.slice aM ms.length cM]) (by simp [results,results49,go_sem,x0,x1,x2,x3,x4]) rfl ⟨⟨[.int .i64 v.kind,.int .i64 v.num,.string v.s,.slice aL v.l.length cL,.slice aM ms.length cM],rfl,?_⟩,?_⟩
      ·rw [bD,← Me.o]
       refine⟨_,_,lL,mk,rfl,?_,?_,?_,?_,H.o.wfk,H.o.wfn⟩
       ·simp only [List.length_map]
        exact qj (zk Gp.o.row KLM (fun g hg hx=>by have:=hLlt g hg;simp at hx;omega)) (fun g hg=>by have:=hLlt g hg;omega)
       ·have h1:=Gp.o.all
        rw [List.take_length] at h1
        exact h1.mono fun _ _ _ r=>r.move KLM (fun g hg ⟨h2,h3⟩=>⟨by simp;omega,by omega,h3,fun h4=>by have:=(hMlt g h4).1;omega⟩)
       ·exact qj (zk HC.o.row KF (fun g hg hx=>by have:=hMlt g hg;simp at hx;omega)) (fun g hg=>by have:=hMlt g hg;omega)
       ·exact HC.o.all.mono fun _ _ _ r=>⟨r.1,r.2.move KF (fun g hg ⟨h2,h3⟩=>⟨by simp;omega,by omega,fun h4=>by have:=(hLlt g h4).2;omega,h3⟩)⟩
      ·exact Gz.o.trans KLM (fun i hi=>by simp at hi;omega)
theorem Y8:∀ (n:Nat),bl n
 | 0=>fun v=>nomatch v
 | n + 1=>fun v _ _ _ h hs hr=>refSort_step (Y8 n) v h hs hr
theorem one_digit (k:Nat) (hk:k < 10):(⟨#[48,49,50,51,52,53,54,55,56,57]⟩:ByteArray).extract k (k + 1)=⟨#[UInt8.ofNat (48 + k)]⟩:=by
 have:k=0∨k=1∨k=2∨k=3∨k=4∨k=5∨k=6∨k=7∨k=8∨k=9:=by omega
 rcases this with rfl | rfl | rfl | rfl | rfl | rfl | rfl | rfl | rfl | rfl <;> rfl
theorem ZJ (u:Nat) (h:u≤9223372036854775808):(Lib.decDigits u).length≤21:=by
 by_cases h0:u=0
 ·subst h0
  rw [Lib.decDigits]
  simp
 ·have:=Lib.itoa_length_le (-(u:Int)) (by omega) (by omega)
  rw [Lib.itoa_neg u (by omega)] at this
  simp at this
  omega
theorem JW (u:Nat):u≤9223372036854775808→∀ w:World,Calls Tryz.prog 122 #[.int .i64 (-(u:Int))] w fun e w'=>e = .returned (.string ⟨(Lib.decDigits u).toArray⟩)∧w=w':=by
 induction u using Nat.strongRecOn with
 | ind u ih=>
  intro hu w
  have hq:(-(u:Int)).tdiv 10 = -((u / 10:Nat):Int):=by rw [Int.neg_tdiv];rfl
  have hr:(-(u:Int)).tmod 10 = -((u % 10:Nat):Int):=by rw [Int.neg_tmod];rfl
  have hs:=qI (one_digit (u % 10) (Nat.mod_lt _ (by decide)))
  have hl:=ZJ u hu
  have hm:u % 10 < 10:=Nat.mod_lt _ (by decide)
  by_cases h10:10≤u
  ·have hi:=qI (ih (u / 10) (by omega) (by omega))
   have hl2:=ZJ (u / 10) (by omega)
   have hd:Hid ((⟨(Lib.decDigits u).toArray⟩:ByteArray)=⟨(Lib.decDigits (u / 10)).toArray⟩ ++ ⟨#[UInt8.ofNat (48 + u % 10)]⟩):=qI (by
    rw [Lib.decDigits,dif_neg (by omega)]
    apply ByteArray.ext
    simp)
   have hsz:¬ 9223372036854775807 < (⟨(Lib.decDigits (u / 10)).toArray⟩:ByteArray).size + 1:=by simp [ByteArray.size];omega
   revert hd hi hsz
   generalize (⟨(Lib.decDigits (u / 10)).toArray⟩:ByteArray)=t
   intro hi hd hsz
   clear ih hl hl2
   go_enter func122,ntmps122
   go_wp2_with (go_at_call 122;refine (hi.o _).mono ?_;rintro e w' ⟨rfl,rfl⟩)
   go_ret
   exact⟨by rw [hd.o,← hs.o];rfl,rfl⟩
  ·have hd:Hid ((⟨(Lib.decDigits u).toArray⟩:ByteArray)=⟨#[UInt8.ofNat (48 + u % 10)]⟩):=qI (by
    rw [Lib.decDigits,dif_pos (by omega),Nat.mod_eq_of_lt (by omega)])
   have hn:¬ (-(u:Int))≤-10:=by omega
   clear ih hl
   go_enter func122,ntmps122
   go_wp2_with fail
   go_ret
   exact⟨by rw [hd.o,← hs.o];exact congrArg (fun b=>Ending.returned (Value.string b)) (by apply ByteArray.ext;simp),rfl⟩
theorem JL (n:Int) (h0:-9223372036854775808≤n) (h1:n≤9223372036854775807) (w:World):Calls Tryz.prog 89 #[.int .i64 n] w fun e w'=>e = .returned (.string ⟨(Lib.itoa n).toArray⟩)∧w=w':=by
 by_cases hn:n < 0
 ·obtain⟨u,rfl⟩:∃ u:Nat,n = -(u:Int):=⟨n.natAbs,by omega⟩
  have hb:=qI (JW u (by omega) w)
  have hd:Hid ((⟨(Lib.itoa (-(u:Int))).toArray⟩:ByteArray)=⟨#[45]⟩ ++ ⟨(Lib.decDigits u).toArray⟩):=qI (by
   rw [Lib.itoa_neg u (by omega)]
   apply ByteArray.ext
   simp)
  have hl:=ZJ u (by omega)
  have hsz:¬ 9223372036854775807 < 1 + (⟨(Lib.decDigits u).toArray⟩:ByteArray).size:=by simp [ByteArray.size];omega
  rw [hd.o]
  clear hl
  revert hb hsz
  generalize (⟨(Lib.decDigits u).toArray⟩:ByteArray)=t
  intro hb hsz
  clear hd
  go_enter func89,ntmps89
  go_wp2_with (go_at_call 122;refine hb.o.mono ?_;rintro e w' ⟨rfl,rfl⟩)
  go_ret
  exact⟨rfl,rfl⟩
 ·obtain⟨u,rfl⟩:=Int.eq_ofNat_of_zero_le (show 0≤n by omega)
  have hb:=qI (JW u (by omega) w)
  rw [Lib.itoa_nonneg]
  generalize (⟨(Lib.decDigits u).toArray⟩:ByteArray)=t at hb ⊢
  have hw:IntKind.i64.wrap (-(u:Int)) = -(u:Int):=by rw [IntKind.wrap_i64];omega
  go_enter func89,ntmps89
  go_wp2_with (go_at_call 122;refine hb.o.mono ?_;rintro e w' ⟨rfl,rfl⟩)
  go_ret
  exact⟨rfl,rfl⟩
theorem JN (n:Int) (h0:-9223372036854775808≤n) (h1:n≤9223372036854775807) (w:World):Calls Tryz.prog 89 #[.int .i64 n] w fun e w'=>e = .returned (.string (yc (Lib.itoa n)))∧w=w':=JL n h0 h1 w
end Go.Proofs.YtibnfbglanpoiaaGreatDoor

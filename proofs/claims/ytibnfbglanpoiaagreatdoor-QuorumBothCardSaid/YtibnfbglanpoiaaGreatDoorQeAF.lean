/- Parts of one proof, merged: XSo. -/
import Derived.Test.YtibnfbglanpoiaaGreatDoorQeI
set_option linter.all false
set_option maxHeartbeats 12800000
set_option maxRecDepth 10000
namespace Go.Proofs.YtibnfbglanpoiaaGreatDoor
open Go.Proofs.Tryz
open Go.RowKit
def bJ (n : Nat) : Prop := ∀ (v : V n) {S : Nat → Prop} {w : World} {cs : List Value}, Rep n S w cs v → yA n v → zr n v = true →
    Calls Tryz.prog 49 #[.agg cs.toArray] w fun e w'=>(∃ cs':List Value,e = .returned (.agg cs'.toArray)∧jd n w.heap.size w' cs' (zy n v))∧zb [] w w'
theorem refSort_step {n:Nat}(IH0:bJ n) (v:VS (V n)) {S:Nat→Prop}{w:World}{cs:List Value}(h:Rep (n+1) S w cs v) (hs:yA (n+1) v) (hr0:zr (n+1) v=true) :
  Calls Tryz.prog 49 #[.agg cs.toArray] w fun e w'=>(∃ cs':List Value,e = .returned (.agg cs'.toArray)∧jd (n+1) w.heap.size w' cs' (zy (n+1) v))∧zb [] w w':=by
  have Jn:=qI hs
  have Jh:=qI hr0
  obtain⟨vl,vm,lcs,mcs,h⟩:=h
  obtain⟨a,c,b,e,rfl,rfl,rfl⟩:=h.forms
  have H:=qI h
  have IH:=@qI (bJ n) (by exact @IH0)
  clear IH0
  have hlv:v.l.length≤20000:=by have:=hs.few;omega
  have hmv:v.m.length≤20000:=by have:=hs.few;omega
  obtain⟨W0,Gs⟩:∃ W0,Hid (W0=((w.alloc (.cells #[.int .i64 v.kind,.int .i64 v.num,.string v.s,.slice a v.l.length c,.slice b v.m.length e] 25)).alloc (.cells #[.int .i64 0,.int .i64 0,.string ⟨#[]⟩,.slice none 0 0,.slice none 0 0] 25)).alloc (.cells #[.int .i64 v.kind,.int .i64 v.num,.string v.s,.slice none 0 0,.slice none 0 0] 25)):=⟨_,qI rfl⟩
  have Gt:Hid (W0.heap.size=w.heap.size+3):=qI (by rw [Gs.o];simp)
  have Jv:Hid (zb [] w W0):=qI (kA3 Gs.o)
  have Jw:Hid (W0.heap[w.heap.size]? = some (.cells (vH v.kind v.num v.s (.slice a v.l.length c) (.slice b v.m.length e)) 25 (0,0))):=qI (by
   rw [Gs.o];exact (((zb.refl [] _).alloc _).alloc _).heap (zd rfl) Wz)
  have Jo:Hid (W0.heap[w.heap.size+1]? = some (.cells #[.int .i64 0,.int .i64 0,.string ⟨#[]⟩,.slice none 0 0,.slice none 0 0] 25 (0,0))):=qI (by
   rw [Gs.o];exact ((zb.refl [] _).alloc _).heap (zd Wz) Wz)
  have Jx:Hid (W0.heap[w.heap.size+1+1]? = some (.cells (vH v.kind v.num v.s (.slice none 0 0) (.slice none 0 0)) 25 (0,0))):=qI (by
   rw [Gs.o];exact zd Wz)
  obtain⟨c0,c1,c2,c3,c4⟩:=xr w v.kind v.num v.s (.slice a v.l.length c) (.slice b v.m.length e) 25
  clear h hs hr0
  go_enter func49,ntmps49
  go_wp2_with fail
  rw [← Gs.o]
  clear c0 c1 c2 c3 c4
  go_loopw [4] (fun i wr=>∃ (k:Nat) (vl:Value) (lcs':List (List Value)),i = .int .i64 k∧k≤v.l.length∧InsL W0 (w.heap.size+1+1) v k wr vl lcs') (fun i _=>v.l.length-(intOf i).toNat)
  case atStart=>
   exact⟨0,.slice none 0 0,[],rfl,Nat.zero_le _,{
    blk:=Jx.o
    row:=World.ownsRow_nil _ _ _ _
    all:=zH.nil _
    kept:=Wd }⟩
  case round=>
   obtain⟨k,vk,lk,rfl,hk,hc⟩:=hrel
   have HC:=qI hc
   have Gu:Hid (zb [] w wr):=qI (Jv.o.trans hc.kept (by intro i hi;simp at hi;subst hi;exact .inr Ws))
   have hba:=HC.o.kept.heap Jw.o (by simp;omega)
   have b3:=za (o:=3) (v:=.slice a v.l.length c) hba rfl
   clear hc
   by_cases hlt:k<v.l.length
   ·have hltI:(k:Int)<v.l.length:=by omega
    obtain⟨g,o,cap,kd,nm,st,a1,b1,he,q0,q1,q2,q3,q4,hr⟩:=H.o.at_l Gu.o k hlt
    have hgw:∀ x,a=some x→x.block<w.heap.size:=fun x hx=>H.o.slcl.lt (by rw [hx];exact ji Ws)
    simp only [Value.slice.injEq] at he
    obtain⟨rfl,-,rfl⟩:=he
    obtain⟨ak,ck,rfl,-,-⟩:=(Slc.of_row HC.o.row).form
    obtain⟨p1,i1,d1,p2,i2,d2,rfl,rfl⟩:=hr.sl
    have HR:=qI hr
    have Jc:=qI (Jn.o.kid (kZ (List.getElem_mem hlt)))
    have Jd:=qI (qR Jh.o (kZ (List.getElem_mem hlt)))
    have hb3:=HC.o.blk
    have f3:=za (o:=3) (v:=.slice ak k ck) hb3 rfl
    have hlt3:=HC.o.row.lt
    have hb3l:w.heap.size+1+1<wr.heap.size:=lt_of_block HC.o.blk
    have Jy:=qI hlt3
    have Gv:Hid (g ∉ (Value.slice ak k ck).ownBlock.toList):=qI (fun hx=>by have h1:=(hlt3 _ (Option.mem_toList.1 hx)).1;have h2:=hgw _ rfl;have h3:=Gt.o;simp only at h2;omega)
    have Jz:Hid (w.heap.size ∉ (Value.slice ak k ck).ownBlock.toList):=qI (fun hx=>by have h1:=(hlt3 _ (Option.mem_toList.1 hx)).1;have h3:=Gt.o;omega)
    have Jp:Hid (w.heap.size+1+1 ∉ (Value.slice ak k ck).ownBlock.toList):=qI (fun hx=>by have h1:=(hlt3 _ (Option.mem_toList.1 hx)).1;have h3:=Gt.o;omega)
    clear hr hb3 hlt3 hgw hba
    go_wp2_with fail
    refine zv (n:=12) (fun w':World=>zb (Value.slice ak k ck).ownBlock.toList wr w') 11 Wr Wr ?_
    change zX _ _ _ _ _ _ _ _ _ wr.drew
    have hSS:(fun w':World=>zb (Value.slice ak k ck).ownBlock.toList wr w') wr.drew:=(zb.refl _ wr).drew
    have Gw:Hid (zb [] wr wr.drew):=qI (zb.refl [] wr).drew
    revert hSS Gw
    generalize wr.drew=W2
    intro hSS Gw
    refine zL ?_
    intro O R hO hR
    have hQp:jC R:=by subst hR;exact fun _ _ _ _ _ h=>h
    refine qT 0 ?_ hO rfl rfl Wr hQp (fun w hSw=>?_) hSS ?_
    rotate_left
    ·exact zi
    try simp only [zA,zN,zB,zC,zD]
    refine qT 1 ?_ hO rfl rfl Wr hQp (fun w hSw=>?_) hSS ?_
    rotate_left
    ·have s:=hSw.cell f3 Jp.o;exact zi
    try simp only [zA,zN,zB,zC,zD]
    refine qT 2 ?_ hO rfl rfl Wr hQp (fun w hSw=>?_) hSS ?_
    rotate_left
    ·exact zi
    try simp only [zA,zN,zB,zC,zD]
    refine qT 3 ?_ hO rfl rfl Wr hQp (fun w hSw=>?_) hSS ?_
    rotate_left
    ·have s:=hSw.cell b3 Jz.o;exact zi
    try simp only [zA,zN,zB,zC,zD]
    refine qT 4 ?_ hO rfl rfl Wr hQp (fun w hSw=>?_) hSS ?_
    rotate_left
    ·exact zi
    try simp only [zA,zN,zB,zC,zD]
    refine qT 5 ?_ hO rfl rfl Wr hQp (fun w hSw=>?_) hSS ?_
    rotate_left
    ·exact zi
    try simp only [zA,zN,zB,zC,zD]
    refine qT 6 ?_ hO rfl rfl Wr hQp (fun w hSw=>?_) hSS ?_
    rotate_left
    ·have s0:=hSw.cell q0 Gv.o;have s1:=hSw.cell q1 Gv.o;have s2:=hSw.cell q2 Gv.o;have s3:=hSw.cell q3 Gv.o;have s4:=hSw.cell q4 Gv.o;exact zi
    try simp only [zA,zN,zB,zC,zD]
    refine qO 7 hO rfl Wr (fun K hK=>?_)
    go_simp
    refine Calls.mono (IH.o v.l[k] (HR.o.kept0 Gw.o) Jc.o Jd.o) ?_
    rintro e w3 ⟨⟨cs',rfl,hown⟩,hk3⟩
    have hrep:=hown.rep
    obtain⟨k3,m3,s3,l3,r3,rfl⟩:=hrep.five
    obtain⟨p3,i3,d3,p4,i4,d4,rfl,rfl⟩:=hrep.sl
    have Gl:=qI hrep
    have Gx:=qI (Gw.o.trans' hk3)
    have hS3:(fun w':World=>zb (Value.slice ak k ck).ownBlock.toList wr w') w3:=hSS.then hk3
    have hsz3:=hk3.size
    clear hown hrep hk3
    refine hK _ _ (.inr hS3) ?_
    clear hK K
    try simp only [zA,zN,zB,zC,zD]
    clear hSS
    have hSS:=hS3
    clear hS3
    refine qO 8 hO rfl Wr (fun K hK=>?_)
    go_simp
    have Gk:=qI ((zb.refl [] w3).alloc (.cells #[.int .i64 k3,.int .i64 m3,.string s3,.slice p3 i3 d3,.slice p4 i4 d4] 25))
    have Gm:=qI (zT w3 [.int .i64 k3,.int .i64 m3,.string s3,.slice p3 i3 d3,.slice p4 i4 d4] 5 1 25 w3.heap.size rfl rfl Wo)
    have hS4:(fun w':World=>zb (Value.slice ak k ck).ownBlock.toList wr w') (w3.alloc (.cells #[.int .i64 k3,.int .i64 m3,.string s3,.slice p3 i3 d3,.slice p4 i4 d4] 25)):=hSS.then Gk.o
    have Gn:Hid ((w3.alloc (.cells #[.int .i64 k3,.int .i64 m3,.string s3,.slice p3 i3 d3,.slice p4 i4 d4] 25)).heap.size=w3.heap.size+1):=qI Wz
    refine hK _ _ (.inr hS4) ?_
    clear hK K
    try simp only [zA,zN,zB,zC,zD]
    clear hSS
    have hSS:=hS4
    clear hS4
    revert hSS Gk Gm Gn
    generalize w3.alloc (.cells #[.int .i64 k3,.int .i64 m3,.string s3,.slice p3 i3 d3,.slice p4 i4 d4] 25)=w4
    intro Gk Gm Gn hSS
    have Gy:=qI (zo HC.o.row (Gx.o.trans' Gk.o) Wz)
    have Gi:=qI hsz3
    clear hsz3
    refine qO 9 hO rfl Wr (fun K hK=>?_)
    refine kE tyVals Gy.o Gm.o Gl.o.one (by simp only [maxLen];omega) Ws (by have h1:=(Gx.o.trans' Gk.o).size;have h2:=HC.o.kept.size;omega) (.tmp 23) (.tmp 30) rfl rfl rfl ?_
    intro b5 d5 w5 hown5 hk5 hg5
    have hS5:(fun w':World=>zb (Value.slice ak k ck).ownBlock.toList wr w') w5:=hSS.trans' hk5
    refine hK _ _ (.inr hS5) ?_
    clear hK K
    try simp only [zA,zN,zB,zC,zD]
    clear hSS
    have hSS:=hS5
    clear hS5
    have Gc:=qI hown5
    have Jq:=qI hk5
    have Ma:=qI hg5
    clear hown5 hk5 hg5
    refine qO 10 hO rfl Wr (fun K hK=>?_)
    go_simp
    refine hK _ _ (.inr hSS) ?_
    clear hK K
    try simp only [zA,zN,zB,zC,zD]
    have Gg:Hid (w5.heap[w.heap.size+1+1]? = some (.cells (vH v.kind v.num v.s (.slice ak k ck) (.slice none 0 0)) 25 (0,0))):=qI (hSS.heap HC.o.blk Jp.o)
    have hc5:=za (o:=3) Gg.o rfl
    have hf5:=zh (o:=3) Gg.o
    refine qO 11 hO rfl Wr (fun K hK=>?_)
    go_simp
    refine hK _ _ (.inl rfl) ?_
    clear hK K
    try simp only [zA,zN,zB,zC,zD]
    refine zF hO Wr ?_ _
    subst hR
    try clear hQp hO O
    clear hc5 hf5 hSS q0 q1 q2 q3 q4 f3 b3
    go_wp2_with fail
    case roundEnd=>
     have hz:=Gt.o
     have hz3:=Gi.o
     have hz4:=Gn.o
     have hlo:=Jy.o
     have KX:zb ((w.heap.size+1+1)::(Value.slice ak k ck).ownBlock.toList) w4 (w5.setCell ⟨w.heap.size+1+1,3,none⟩ (.slice b5 (k+1) d5)):=(Jq.o.mono (Y:=(w.heap.size+1+1)::(Value.slice ak k ck).ownBlock.toList) (fun i hi=>List.mem_cons_of_mem _ hi)).setCell (p:=⟨w.heap.size+1+1,3,none⟩) (.inl (List.mem_cons_self ..)) _
     have hz5:∀ g,(Value.slice b5 (k+1) d5).ownBlock=some g→(Value.slice ak k ck).ownBlock=some g∨g=w4.heap.size:=fun g hg=>by
      rcases Ma.o with h | h
      ·exact .inl (by rw [← h];exact hg)
      ·exact .inr (by rw [hg] at h;exact Option.some.inj h)
     refine⟨⟨k+1,_,lk++[[.int .i64 k3,.int .i64 m3,.string s3,.slice p3 i3 d3,.slice p4 i4 d4]],by go_num,Ws,{
      blk:=zg Gg.o rfl
      row:=?_
      all:=?_
      kept:=?_ }⟩,by simp [intOf];omega⟩
     ·rw [List.flatten_append]
      simp only [List.flatten_cons,List.flatten_nil,List.append_nil]
      exact zo Gc.o ((zb.refl [w.heap.size+1+1] w5).setCell (.inl Wz) _) (by
       intro g hg hx
       simp at hx
       have:=(Gc.o.lt g hg).1
       omega)
     ·rw [List.take_succ_eq_append_getElem hlt,List.map_append]
      refine zH.snoc (HC.o.all.mono fun c y _ r=>r.move ((Gx.o.trans' Gk.o).mono (Y:=(w.heap.size+1+1)::(Value.slice ak k ck).ownBlock.toList) Wz |>.trans' KX) ?_) ((Gl.o).move ((Gk.o.mono (Y:=(w.heap.size+1+1)::(Value.slice ak k ck).ownBlock.toList) Wz).trans' KX) ?_)
      ·intro g hg ⟨h1,h2⟩
       refine⟨?_,h1,?_⟩
       ·intro hx
        rcases List.mem_cons.1 hx with rfl | hx
        ·omega
        ·exact h2 (Option.mem_toList.1 hx)
       ·intro h3
        rcases hz5 g h3 with h4 | h4
        ·exact h2 h4
        ·have:=(Gx.o.trans' Gk.o).size;omega
      ·intro g hg h1
       have hz0:=HC.o.kept.size
       have hz2:=Gw.o.size
       refine⟨?_,Ws,?_⟩
       ·intro hx
        rcases List.mem_cons.1 hx with rfl | hx
        ·omega
        ·have:=(hlo g (Option.mem_toList.1 hx)).2;omega
       ·intro h3
        rcases hz5 g h3 with h4 | h4
        ·have:=(hlo g h4).2;omega
        ·omega
     ·exact ((HC.o.kept.then (Gx.o.trans' Gk.o)).trans Jq.o (fun i hi=>.inr (hlo i (Option.mem_toList.1 hi)).1)).setCell (.inl Wz) _
   ·obtain rfl:k=v.l.length:=by omega
    obtain⟨WL,rfl⟩:∃ x,x=wr:=⟨_,rfl⟩
    have Gp:=qI HC.o
    have Gz:=qI Gu.o
    have Ja:Hid (w.heap.size+3≤WL.heap.size):=qI (by have h1:=HC.o.kept.size;have h2:=Gt.o;omega)
    have Jr:=qI hba
    obtain⟨vL,rfl⟩:∃ x,x=vk:=⟨_,rfl⟩
    obtain⟨lL,rfl⟩:∃ x,x=lk:=⟨_,rfl⟩
    clear hba
    go_wp2_with fail
    clear b3 HC Gu
    go_loopw [5] (fun i wr=>∃ (k:Nat) (vm:Value) (mc:List (ByteArray×List Value)) (ms:List (ByteArray×V n)),i = .int .i64 k∧k≤v.m.length∧InsM WL (w.heap.size+1+1) v vL k wr vm mc ms) (fun i _=>v.m.length-(intOf i).toNat)
    case atStart=>
     exact⟨0,.slice none 0 0,[],[],rfl,Nat.zero_le _,{
      blk:=Gp.o.blk
      row:=World.ownsRow_nil _ _ _ _
      all:=zH.nil _
      kept:=Wd
      ord:=List.Pairwise.nil
      perm:=Wz
      lim:=rfl }⟩
    case round=>
     obtain⟨k,vk,mk,ms,rfl,hk,hc⟩:=hrel
     have HC:=qI hc
     have Gu:Hid (zb [] w wr):=qI (Gz.o.trans hc.kept (by intro i hi;simp at hi;subst hi;exact .inr Ws))
     have b4:=za (o:=4) (v:=.slice b v.m.length e) (HC.o.kept.heap Jr.o (by simp;omega)) rfl
     clear hc
     by_cases hlt:k<v.m.length
     ·have hltI:(k:Int)<v.m.length:=by omega
      obtain⟨g,o,cap,kd,nm,st,a1,b1,he,q0,q1,q2,q3,q4,q5,hr⟩:=H.o.at_m Gu.o k hlt
      simp only [Value.slice.injEq] at he
      obtain⟨rfl,-,rfl⟩:=he
      obtain⟨ak,ck,rfl,-,-⟩:=(Slc.of_row HC.o.row).form
      obtain⟨p1,i1,d1,p2,i2,d2,rfl,rfl⟩:=hr.sl
      have HR:=qI hr
      have Jc:=qI (Jn.o.kid (k9 (List.getElem_mem hlt)))
      have Jd:=qI (qR Jh.o (k9 (List.getElem_mem hlt)))
      have f4:=za (o:=4) (v:=.slice ak ms.length ck) HC.o.blk rfl
      generalize hkey:v.m[k].1=key at q0
      have Ji:=qI hkey
      have hmsI:(ms.length:Int)≤20000:=by have:=HC.o.lim;omega
      clear hr hkey
      obtain⟨wo,rfl⟩:∃ x,x=wr:=⟨_,rfl⟩
      go_upto_block 4 with fail
      go_cut [6] from 43 to 62 (fun q wq=>∃ j:Nat,q = .int .i64 j∧j≤ms.length∧Hid (∀ (t:Nat) (ht:t<ms.length),j≤t→ltB key ms[t].1=true)∧Hid (j=0∨∃ h:j-1<ms.length,ltB key (ms[j-1]'h).1=false)∧zb [] wo wq)
      case first=>
       go_wp2_with fail
       go_loopw [6] (fun i wq=>∃ j:Nat,i = .int .i64 j∧j≤ms.length∧(∀ (t:Nat) (ht:t<ms.length),j≤t→ltB key ms[t].1=true)∧zb [] wo wq) (fun i _=>(intOf i).toNat)
       case atStart=>exact⟨ms.length,rfl,Nat.le_refl _,fun t ht h=>absurd ht Ws,Wd⟩
       case round=>
        obtain⟨j,rfl,hj,hge,hkq⟩:=hrel
        have Je:=qI hge
        have Gj:=qI hkq
        clear hge hkq
        have hjI:(j:Int)≤ms.length:=Ws
        have hcase:j=0∨(0<j∧∃ h:j-1<ms.length,ltB key (ms[j-1]'h).1=false)∨(0<j∧∃ h:j-1<ms.length,ltB key (ms[j-1]'h).1=true):=by
         by_cases hz:j=0
         ·exact .inl hz
         ·cases hb:ltB key (ms[j-1]'(Ws)).1 with
          | false=>exact .inr (.inl ⟨Ws,Ws,hb⟩)
          | true=>exact .inr (.inr ⟨Ws,Ws,hb⟩)
        rcases hcase with hz | ⟨hp,hx,hb⟩ | ⟨hp,hx,hb⟩
        rotate_left 2
        ·have HB:Hid (∀ (t:Nat) (ht:t<ms.length),t=j-1→ltB key ms[t].1=true):=qI (fun t ht e=>by subst e;exact hb)
         have HP:=qI hp
         have hz1:decide (0<j)=true:=decide_eq_true hp
         have hj1:j-1<ms.length:=hx
         have hl2:mk.length=ms.length:=HC.o.all.1
         obtain⟨gm,om,capm,hvm,x0⟩:=slc_six ((Slc.of_row HC.o.row).kept0 Gj.o) (j:=j - 1) (by intro cc hcc;obtain⟨pq,hpq,rfl⟩:=List.mem_map.1 hcc;obtain⟨y,-,hy⟩:=HC.o.all.mem_left hpq;simp [xg,hy.2.len]) Ws
         rw [(HC.o.all.2 (j-1) _ _ (List.getElem?_eq_getElem Ws) (List.getElem?_eq_getElem hx)).1] at x0
         simp only [Value.slice.injEq] at hvm
         obtain⟨hak,-,-⟩:=hvm
         generalize hmk:(ms[j-1]).1=mkey at x0 hb
         obtain⟨hb1,hb2⟩:=gtr_yes hb
         have y0:=zz (Gj.o.cell q0 Wz)
         have y1:=zz (Gj.o.cell f4 Wz)
         rw [hak] at y1
         have y2:=zz (Gj.o.cell b4 Wz)
         have y3:=zz x0
         have hj1I:(j:Int)-1<ms.length:=Ws
         have hj0I:(1:Int)≤j:=Ws
         have Js:=qI hak
         clear hx hmk x0 hl2 hak hp hb
         go_wp2_with fail
         refine yn wr Wr Wr Wd ?_
         repeat go_big_quiet_step (fail)
         refine wpQuiet_nil ?_
         intro wq hkq
         have Gf:=qI (Gj.o.then hkq)
         clear hkq hz1 y0 y1 y2 y3 hj1I hj0I hb1 hb2 hj1
         go_wp2_with fail
         case roundEnd=>
          have hp:=HP.o
          exact⟨⟨j-1,by rw [Int.ofNat_sub hp];rfl,Ws,fun t ht h=>by
           by_cases e:t=j-1
           ·exact HB.o t ht e
           ·exact Je.o t ht Ws,Gf.o⟩,by simp [intOf];omega⟩
        case' inl=>
          have Jf:Hid (j=0∨∃ h:j-1<ms.length,ltB key (ms[j-1]'h).1=false):=qI (.inl hz)
          have hz1:decide (0<j)=false:=decide_eq_false Ws
          clear hz
          go_wp2_with fail
          refine yn wr Wr Wr Wd ?_
          repeat go_big_quiet_step (fail)
          refine wpQuiet_nil ?_
          intro wq hkq
          have Gf:=qI (Gj.o.then hkq)
          clear hkq hz1
          go_wp2_with fail
        case' inr.inl=>
          have Jf:Hid (j=0∨∃ h:j-1<ms.length,ltB key (ms[j-1]'h).1=false):=qI (.inr ⟨hx,hb⟩)
          have hz1:decide (0<j)=true:=decide_eq_true hp
          have hj1:j-1<ms.length:=hx
          have hl2:mk.length=ms.length:=HC.o.all.1
          obtain⟨gm,om,capm,hvm,x0⟩:=slc_six ((Slc.of_row HC.o.row).kept0 Gj.o) (j:=j - 1) (by intro cc hcc;obtain⟨pq,hpq,rfl⟩:=List.mem_map.1 hcc;obtain⟨y,-,hy⟩:=HC.o.all.mem_left hpq;simp [xg,hy.2.len]) Ws
          rw [(HC.o.all.2 (j-1) _ _ (List.getElem?_eq_getElem Ws) (List.getElem?_eq_getElem hx)).1] at x0
          simp only [Value.slice.injEq] at hvm
          obtain⟨hak,-,-⟩:=hvm
          generalize hmk:(ms[j-1]).1=mkey at x0 hb
          have hb1:=gtr_no hb
          have y0:=zz (Gj.o.cell q0 Wz)
          have y1:=zz (Gj.o.cell f4 Wz)
          rw [hak] at y1
          have y2:=zz (Gj.o.cell b4 Wz)
          have y3:=zz x0
          have hj1I:(j:Int)-1<ms.length:=Ws
          have hj0I:(1:Int)≤j:=Ws
          have Js:=qI hak
          clear hx hmk x0 hl2 hak hp hb
          go_wp2_with fail
          refine yn wr Wr Wr Wd ?_
          repeat go_big_quiet_step (fail)
          refine wpQuiet_nil ?_
          intro wq hkq
          have Gf:=qI (Gj.o.then hkq)
          clear hkq hz1 y0 y1 y2 y3 hj1I hj0I hb1 hj1 Js
          go_wp2_with fail
        all_goals
         go_meet
         exact⟨j,rfl,hj,Je,Jf,Gf.o⟩
      case rest=>
       obtain⟨j,rfl,hj,Je,Jf,hka⟩:=hcut
       obtain⟨wq,rfl⟩:∃ x,x=wc:=⟨_,rfl⟩
       have Gf:=qI hka
       have hjI:(j:Int)≤ms.length:=Ws
       clear hka
       go_upto_region 12 with fail
       go_cut [7] from 63 to 76 (fun q wd=>∃ (pb:Nat) (k3 m3:Int) (s3:ByteArray) (p3:Option Addr) (i3 d3:Nat) (p4:Option Addr) (i4 d4:Nat),q = .pointer (some ⟨pb,0,none⟩)∧Hid (wd.heap[pb]? = some (.cells #[.string key,.int .i64 k3,.int .i64 m3,.string s3,.slice p3 i3 d3,.slice p4 i4 d4] 132 (0,0)))∧Hid (zb [] wo wd)∧Hid (Rep n (fun g=>wo.heap.size≤g∧g≠pb) wd [.int .i64 k3,.int .i64 m3,.string s3,.slice p3 i3 d3,.slice p4 i4 d4] (zy n v.m[k].2)))
       case first=>
        go_wp2_with fail
        have hba:=(HC.o.kept.heap Jr.o (by simp;omega))
        have r0:=Gf.o.cell q0 Wz
        have r1:=Gf.o.cell q1 Wz
        have r2:=Gf.o.cell q2 Wz
        have r3:=Gf.o.cell q3 Wz
        have r4:=Gf.o.cell q4 Wz
        have r5:=Gf.o.cell q5 Wz
        have rb:=Gf.o.cell b4 Wz
        clear hba
        refine zv (n:=16) (fun w':World=>zb [] wq w') 15 Wr Wr ?_
        change zX _ _ _ _ _ _ _ _ _ wq.drew
        have hSS:(fun w':World=>zb [] wq w') wq.drew:=(zb.refl [] wq).drew
        revert hSS
        generalize wq.drew=W2
        intro hSS
        refine zL ?_
        intro O R hO hR
        have hQp:jC R:=by subst hR;exact fun _ _ _ _ _ h=>h
        refine qT 0 ?_ hO rfl rfl Wr hQp (fun w hSw=>?_) hSS ?_
        rotate_left
        ·exact zi
        try simp only [zA,zN,zB,zC,zD]
        refine qT 1 ?_ hO rfl rfl Wr hQp (fun w hSw=>?_) hSS ?_
        rotate_left
        ·have s:=hSw.cell rb Wz;exact zi
        try simp only [zA,zN,zB,zC,zD]
        refine qT 2 ?_ hO rfl rfl Wr hQp (fun w hSw=>?_) hSS ?_
        rotate_left
        ·exact zi
        try simp only [zA,zN,zB,zC,zD]
        refine qT 3 ?_ hO rfl rfl Wr hQp (fun w hSw=>?_) hSS ?_
        rotate_left
        ·exact zi
        try simp only [zA,zN,zB,zC,zD]
        refine qT 4 ?_ hO rfl rfl Wr hQp (fun w hSw=>?_) hSS ?_
        rotate_left
        ·exact zi
        try simp only [zA,zN,zB,zC,zD]
        refine qT 5 ?_ hO rfl rfl Wr hQp (fun w hSw=>?_) hSS ?_
        rotate_left
        ·have s:=hSw.cell r0 Wz;exact zi
        try simp only [zA,zN,zB,zC,zD]
        refine qT 6 ?_ hO rfl rfl Wr hQp (fun w hSw=>?_) hSS ?_
        rotate_left
        ·exact zi
        try simp only [zA,zN,zB,zC,zD]
        refine qT 7 ?_ hO rfl rfl Wr hQp (fun w hSw=>?_) hSS ?_
        rotate_left
        ·have s:=hSw.cell rb Wz;exact zi
        try simp only [zA,zN,zB,zC,zD]
        refine qT 8 ?_ hO rfl rfl Wr hQp (fun w hSw=>?_) hSS ?_
        rotate_left
        ·exact zi
        try simp only [zA,zN,zB,zC,zD]
        refine qT 9 ?_ hO rfl rfl Wr hQp (fun w hSw=>?_) hSS ?_
        rotate_left
        ·exact zi
        try simp only [zA,zN,zB,zC,zD]
        refine qT 10 ?_ hO rfl rfl Wr hQp (fun w hSw=>?_) hSS ?_
        rotate_left
        ·exact zi
        try simp only [zA,zN,zB,zC,zD]
        refine qT 11 ?_ hO rfl rfl Wr hQp (fun w hSw=>?_) hSS ?_
        rotate_left
        ·have s1:=hSw.cell r1 Wz;have s2:=hSw.cell r2 Wz;have s3:=hSw.cell r3 Wz;have s4:=hSw.cell r4 Wz;have s5:=hSw.cell r5 Wz;exact zi
        try simp only [zA,zN,zB,zC,zD]
        clear r0 r1 r2 r3 r4 r5 rb
        refine Zu (i:=12) (j:=14) hO rfl rfl Wr Wr Wr (fun K hK=>?_) (fun K hK=>?_)
        case' refine_1=>
         go_simp
         refine Calls.mono (IH.o v.m[k].2 (HR.o.kept0 (Gf.o.then hSS)) Jc.o Jd.o) ?_
         rintro e w3 ⟨⟨cs',rfl,hown⟩,hk3⟩
         have hrep:=hown.rep
         obtain⟨k3,m3,s3,l3,r3,rfl⟩:=hrep.five
         obtain⟨p3,i3,d3,p4,i4,d4,rfl,rfl⟩:=hrep.sl
         have hS3:(fun w':World=>zb [] wq w') w3:=hSS.then hk3
         refine hK _ _ (.inr hS3) ?_
         clear hK K
         try simp only [zA,zN,zB,zC,zD]
         have Jt:=qI hSS.size
         clear hSS
         have hSS:=hS3
         refine qT 13 ?_ hO rfl rfl Wr hQp (fun w hSw=>?_) hSS ?_
         rotate_left
         ·exact zi
         try simp only [zA,zN,zB,zC,zD]
         refine qO 14 hO rfl Wr (fun K hK=>?_)
         go_simp
         have hS4:(fun w':World=>zb [] wq w') (w3.alloc (.cells #[.string ⟨#[]⟩,.int .i64 0,.int .i64 0,.string ⟨#[]⟩,.slice none 0 0,.slice none 0 0] 132)):=hS3.alloc _
         refine hK _ _ (.inr hS4) ?_
         clear hK K
         try simp only [zA,zN,zB,zC,zD]
         have Gd:Hid ((w3.alloc (.cells #[.string ⟨#[]⟩,.int .i64 0,.int .i64 0,.string ⟨#[]⟩,.slice none 0 0,.slice none 0 0] 132)).heap[w3.heap.size]? = some (.cells #[.string ⟨#[]⟩,.int .i64 0,.int .i64 0,.string ⟨#[]⟩,.slice none 0 0,.slice none 0 0] 132 (0,0))):=qI (zd rfl)
         have Ge:Hid (Rep n (fun g=>wq.heap.size≤g∧g≠w3.heap.size) (w3.alloc (.cells #[.string ⟨#[]⟩,.int .i64 0,.int .i64 0,.string ⟨#[]⟩,.slice none 0 0,.slice none 0 0] 132)) [.int .i64 k3,.int .i64 m3,.string s3,.slice p3 i3 d3,.slice p4 i4 d4] (zy n v.m[k].2)):=qI (hrep.move ((zb.refl [] w3).alloc _) (fun g hg h1=>⟨Wz,by have:=Jt.o;omega,Ws⟩))
         have Gq:Hid (wq.heap.size≤w3.heap.size):=qI hS3.size
         clear hSS hown hrep hk3 hS3 Jt
         have hSS:=hS4
         clear hS4
         revert Gd Ge Gq hSS
         generalize w3.heap.size=pb
         generalize w3.alloc (.cells #[.string ⟨#[]⟩,.int .i64 0,.int .i64 0,.string ⟨#[]⟩,.slice none 0 0,.slice none 0 0] 132)=w4
         intro Gd Ge Gq hSS
         clear w3
        case' refine_2=>
         go_simp
         have hS4:(fun w':World=>zb [] wq w') (W2.alloc (.cells #[.string ⟨#[]⟩,.int .i64 0,.int .i64 0,.string ⟨#[]⟩,.slice none 0 0,.slice none 0 0] 132)):=hSS.alloc _
         refine hK _ _ (.inr hS4) ?_
         clear hK K
         try simp only [zA,zN,zB,zC,zD]
         have Jg:Hid ((W2.alloc (.cells #[.string ⟨#[]⟩,.int .i64 0,.int .i64 0,.string ⟨#[]⟩,.slice none 0 0,.slice none 0 0] 132)).heap[W2.heap.size]? = some (.cells #[.string ⟨#[]⟩,.int .i64 0,.int .i64 0,.string ⟨#[]⟩,.slice none 0 0,.slice none 0 0] 132 (0,0))):=qI (zd rfl)
         have Gi:Hid ((W2.alloc (.cells #[.string ⟨#[]⟩,.int .i64 0,.int .i64 0,.string ⟨#[]⟩,.slice none 0 0,.slice none 0 0] 132)).heap.size=W2.heap.size+1):=qI Wz
         have Gq:Hid (wq.heap.size≤W2.heap.size):=qI hSS.size
         clear hSS
         have hSS:=hS4
         clear hS4
         revert Jg Gi Gq hSS
         generalize W2.heap.size=pb
         generalize W2.alloc (.cells #[.string ⟨#[]⟩,.int .i64 0,.int .i64 0,.string ⟨#[]⟩,.slice none 0 0,.slice none 0 0] 132)=W3
         intro Jg Gi Gq hSS
         refine qO 12 hO rfl Wr (fun K hK=>?_)
         go_simp
         refine Calls.mono (IH.o v.m[k].2 (HR.o.kept0 (Gf.o.then hSS)) Jc.o Jd.o) ?_
         rintro e w4 ⟨⟨cs',rfl,hown⟩,hk3⟩
         have hrep:=hown.rep
         obtain⟨k3,m3,s3,l3,r3,rfl⟩:=hrep.five
         obtain⟨p3,i3,d3,p4,i4,d4,rfl,rfl⟩:=hrep.sl
         have Gd:=qI (hk3.heap Jg.o Wz)
         have Ge:Hid (Rep n (fun g=>wq.heap.size≤g∧g≠pb) w4 [.int .i64 k3,.int .i64 m3,.string s3,.slice p3 i3 d3,.slice p4 i4 d4] (zy n v.m[k].2)):=qI (hrep.mono (fun g hg h1=>by have:=Gi.o;have:=Gq.o;omega))
         have hS4:(fun w':World=>zb [] wq w') w4:=hSS.then hk3
         refine hK _ _ (.inr hS4) ?_
         clear hK K
         try simp only [zA,zN,zB,zC,zD]
         clear hSS hown hrep hk3 Jg Gi
         have hSS:=hS4
         clear hS4 W3
         refine qT 13 ?_ hO rfl rfl Wr hQp (fun w hSw=>?_) hSS ?_
         rotate_left
         ·exact zi
         try simp only [zA,zN,zB,zC,zD]
        all_goals
         clear W2
         have hc0:=za (o:=0) (v:=.string ⟨#[]⟩) Gd.o rfl
         have hc1:=za (o:=1) (v:=.int .i64 0) Gd.o rfl
         have hc2:=za (o:=2) (v:=.int .i64 0) Gd.o rfl
         have hc3:=za (o:=3) (v:=.string ⟨#[]⟩) Gd.o rfl
         have hc4:=za (o:=4) (v:=.slice none 0 0) Gd.o rfl
         have hc5:=za (o:=5) (v:=.slice none 0 0) Gd.o rfl
         have hf0:=zh (o:=0) Gd.o
         have hf1:=zh (o:=1) Gd.o
         have hf2:=zh (o:=2) Gd.o
         have hf3:=zh (o:=3) Gd.o
         have hf4:=zh (o:=4) Gd.o
         have hf5:=zh (o:=5) Gd.o
         refine qO 15 hO rfl Wr (fun K hK=>?_)
         go_simp
         refine hK _ _ (.inl rfl) ?_
         clear hK K
         try simp only [zA,zN,zB,zC,zD]
         refine zF hO Wr ?_ _
         subst hR
         try clear hQp hO O
         clear hc0 hc1 hc2 hc3 hc4 hc5 hf0 hf1 hf2 hf3 hf4 hf5
         have KC:zb [pb] w4 ((((((w4.setCell ⟨pb,0,none⟩ (.string key)).setCell ⟨pb,1,none⟩ (.int .i64 k3)).setCell ⟨pb,2,none⟩ (.int .i64 m3)).setCell ⟨pb,3,none⟩ (.string s3)).setCell ⟨pb,4,none⟩ (.slice p3 i3 d3)).setCell ⟨pb,5,none⟩ (.slice p4 i4 d4)):=(((((Wd.setCell (p:=⟨pb,0,none⟩) (.inl Wz) _).setCell (p:=⟨pb,1,none⟩) (.inl Wz) _).setCell (p:=⟨pb,2,none⟩) (.inl Wz) _).setCell (p:=⟨pb,3,none⟩) (.inl Wz) _).setCell (p:=⟨pb,4,none⟩) (.inl Wz) _).setCell (p:=⟨pb,5,none⟩) (.inl Wz) _
         have Gg:=qI (zg (v:=.slice p4 i4 d4) (i:=5) (zg (v:=.slice p3 i3 d3) (i:=4) (zg (v:=.string s3) (i:=3) (zg (v:=.int .i64 m3) (i:=2) (zg (v:=.int .i64 k3) (i:=1) (zg (v:=.string key) (i:=0) Gd.o rfl) rfl) rfl) rfl) rfl) rfl)
         revert KC Gg
         generalize (((((w4.setCell ⟨pb,0,none⟩ (.string key)).setCell ⟨pb,1,none⟩ (.int .i64 k3)).setCell ⟨pb,2,none⟩ (.int .i64 m3)).setCell ⟨pb,3,none⟩ (.string s3)).setCell ⟨pb,4,none⟩ (.slice p3 i3 d3)).setCell ⟨pb,5,none⟩ (.slice p4 i4 d4)=WC
         intro KC Gg
         have Gr:Hid (zb [] wo WC):=qI (Gf.o.trans (zb.trans (X:=[]) hSS KC (fun i hi=>by simp at hi;subst hi;exact .inr Gq.o)) Wz)
         have Mb:Hid (wo.heap.size≤wq.heap.size):=qI Gf.o.size
         have Gh:Hid (Rep n (fun g=>wo.heap.size≤g∧g≠pb) WC [.int .i64 k3,.int .i64 m3,.string s3,.slice p3 i3 d3,.slice p4 i4 d4] (zy n v.m[k].2)):=qI (Ge.o.move KC (fun g hg h1=>⟨by simp;exact h1.2,by have:=Mb.o;omega,h1.2⟩))
         clear Gd Ge KC hSS w4
         go_wp2_with fail
         go_meet
         exact⟨pb,k3,m3,s3,p3,i3,d3,p4,i4,d4,rfl,Gg,Gr,Gh⟩
       case rest=>
        obtain⟨pb,k3,m3,s3,p3,i3,d3,p4,i4,d4,rfl,Gg,Gr,Gh⟩:=hcut
        obtain⟨WC,rfl⟩:∃ x,x=wc:=⟨_,rfl⟩
        have x0:=za (o:=0) (v:=.string key) Gg.o rfl
        have x1:=za (o:=1) (v:=.int .i64 k3) Gg.o rfl
        have x2:=za (o:=2) (v:=.int .i64 m3) Gg.o rfl
        have x3:=za (o:=3) (v:=.string s3) Gg.o rfl
        have x4:=za (o:=4) (v:=.slice p3 i3 d3) Gg.o rfl
        have x5:=za (o:=5) (v:=.slice p4 i4 d4) Gg.o rfl
        have xf:=Gr.o.cell f4 Wz
        have H5M:∀ p,p∈mk→p.2.length=5:=fun p hp=>by obtain⟨y,-,hy⟩:=HC.o.all.mem_left hp;exact hy.2.len
        obtain⟨a1,c1,hr1,hs1⟩:=slc_head jF ((Slc.of_row HC.o.row).kept0 Gr.o) j hj
        obtain⟨a2,c2,hr2,hs2⟩:=slc_tail jF ((Slc.of_row HC.o.row).kept0 Gr.o) j hj
        rw [QO _ _ H5M] at hs1
        rw [QV _ _ H5M] at hs2
        have Jj:=qI hs1
        have Mc:=qI hs2
        have Jk:Hid (∀ u∈yk (mk.take j),u.oneCell'=true):=qI (K7 (HC.o.all.take j) (fun c y r=>r.one))
        have Md:Hid (∀ u∈yk (mk.drop j),u.oneCell'=true):=qI (K7 (HC.o.all.drop j) (fun c y r=>r.one))
        have hjm:(j:Int)≤ms.length:=hjI
        clear hs1 hs2 H5M
        go_wp2_with fail
        refine zv (n:=16) (fun w':World=>zb [] WC w') 15 Wr Wr ?_
        change zX _ _ _ _ _ _ _ _ _ WC.drew
        have hSS:(fun w':World=>zb [] WC w') WC.drew:=(zb.refl [] WC).drew
        revert hSS
        generalize WC.drew=W5
        intro hSS
        refine zL ?_
        intro O R hO hR
        have hQp:jC R:=by subst hR;exact fun _ _ _ _ _ h=>h
        refine qT 1 ?_ hO rfl rfl Wr hQp (fun w hSw=>?_) hSS ?_
        rotate_left
        ·exact zi
        try simp only [zA,zN,zB,zC,zD]
        refine qT 2 ?_ hO rfl rfl Wr hQp (fun w hSw=>?_) hSS ?_
        rotate_left
        ·have s:=hSw.cell xf Wz;exact zi
        try simp only [zA,zN,zB,zC,zD]
        refine qT 3 ?_ hO rfl rfl Wr hQp (fun w hSw=>?_) hSS ?_
        rotate_left
        ·exact zi
        try simp only [zA,zN,zB,zC,zD]
        refine qT 4 ?_ hO rfl rfl Wr hQp (fun w hSw=>?_) hSS ?_
        rotate_left
        ·exact zi
        try simp only [zA,zN,zB,zC,zD]
        refine qT 6 ?_ hO rfl rfl Wr hQp (fun w hSw=>?_) hSS ?_
        rotate_left
        ·have s0:=hSw.cell x0 Wz;have s1:=hSw.cell x1 Wz;have s2:=hSw.cell x2 Wz;have s3:=hSw.cell x3 Wz;have s4:=hSw.cell x4 Wz;have s5:=hSw.cell x5 Wz;exact zi
        try simp only [zA,zN,zB,zC,zD]
        refine qT 9 ?_ hO rfl rfl Wr hQp (fun w hSw=>?_) hSS ?_
        rotate_left
        ·exact zi
        try simp only [zA,zN,zB,zC,zD]
        refine qT 10 ?_ hO rfl rfl Wr hQp (fun w hSw=>?_) hSS ?_
        rotate_left
        ·have s:=hSw.cell xf Wz;exact zi
        try simp only [zA,zN,zB,zC,zD]
        refine qT 11 ?_ hO rfl rfl Wr hQp (fun w hSw=>?_) hSS ?_
        rotate_left
        ·exact zi
        try simp only [zA,zN,zB,zC,zD]
        refine qT 12 ?_ hO rfl rfl Wr hQp (fun w hSw=>?_) hSS ?_
        rotate_left
        ·exact zi
        try simp only [zA,zN,zB,zC,zD]
        clear x0 x1 x2 x3 x4 x5 xf hr1 hr2
        refine Zu (i:=0) (j:=7) hO rfl rfl Wr Wr Wr (fun K hK=>?_) (fun K hK=>?_)
        case' refine_2=>
         go_simp
         have kA:(fun w':World=>zb [] WC w') (W5.alloc (.cells #[.string key,.int .i64 k3,.int .i64 m3,.string s3,.slice p3 i3 d3,.slice p4 i4 d4] 132)):=hSS.alloc _
         have hone:=zT W5 [.string key,.int .i64 k3,.int .i64 m3,.string s3,.slice p3 i3 d3,.slice p4 i4 d4] 6 1 132 W5.heap.size rfl rfl Wo
         refine hK _ _ (.inr kA) ?_
         clear hK K
         try simp only [zA,zN,zB,zC,zD]
         have Jb:=qI hSS.size
         clear hSS
         have hSS:=kA
         refine qO 0 hO rfl Wr (fun K hK=>?_)
         go_simp
         have kB:(fun w':World=>zb [] WC w') ((W5.alloc (.cells #[.string key,.int .i64 k3,.int .i64 m3,.string s3,.slice p3 i3 d3,.slice p4 i4 d4] 132)).alloc (.cells #[] 132)):=kA.alloc _
         have hown1:=vO (t:=132) (size:=6) (base:=WC.heap.size) (W5.alloc (.cells #[.string key,.int .i64 k3,.int .i64 m3,.string s3,.slice p3 i3 d3,.slice p4 i4 d4] 132)) rfl kA.size
         have hone2:=hone.kept0 ((zb.refl [] (W5.alloc (.cells #[.string key,.int .i64 k3,.int .i64 m3,.string s3,.slice p3 i3 d3,.slice p4 i4 d4] 132))).alloc (.cells #[] 132))
         rw [show (W5.alloc (.cells #[.string key,.int .i64 k3,.int .i64 m3,.string s3,.slice p3 i3 d3,.slice p4 i4 d4] 132)).heap.size=W5.heap.size+1 by simp] at hown1
         refine hK _ _ (.inr kB) ?_
         clear hK K
         try simp only [zA,zN,zB,zC,zD]
         clear hSS
         have hSS:=kB
         refine qO 5 hO rfl Wr (fun K hK=>?_)
         refine bT jF hown1 (Jj.o.kept0 kB) Jk.o (by simp only [maxLen];omega) Ws kB.size (.tmp 77) (.tmp 81) rfl rfl rfl ?_
         intro b1 d1 w2 hown2 hk2 hg2
         have hS2:(fun w':World=>zb [] WC w') w2:=zb.trans (X:=[]) kB hk2 (fun i hi=>.inr (by have:=Jb.o;simp [Value.ownBlock] at hi;omega))
         have Gb:=qI (hone2.kept hk2 (by intro g hg hx;simp [Value.ownBlock] at hx;simp [zW] at hg;omega))
         have Ga:=qI hown2
         refine hK _ _ (.inr hS2) ?_
         clear hK K
         try simp only [zA,zN,zB,zC,zD]
         clear hSS kA hown1 kB hone hone2 hk2 hg2 hown2 Jb
         have hSS:=hS2
         clear hS2
         revert Gb
         generalize W5.heap.size=G
         intro Gb
        case' refine_1=>
         go_simp
         have kA:(fun w':World=>zb [] WC w') (W5.alloc (.cells #[] 132)):=hSS.alloc _
         have hown0:=vO (t:=132) (size:=6) (base:=WC.heap.size) W5 rfl hSS.size
         refine hK _ _ (.inr kA) ?_
         clear hK K
         try simp only [zA,zN,zB,zC,zD]
         refine Zu (i:=5) (j:=7) hO rfl rfl Wr Wr Wr (fun K hK=>?_) (fun K hK=>?_)
         case' refine_2=>
          go_simp
          have kB:(fun w':World=>zb [] WC w') ((W5.alloc (.cells #[] 132)).alloc (.cells #[.string key,.int .i64 k3,.int .i64 m3,.string s3,.slice p3 i3 d3,.slice p4 i4 d4] 132)):=kA.alloc _
          have hone:=zT (W5.alloc (.cells #[] 132)) [.string key,.int .i64 k3,.int .i64 m3,.string s3,.slice p3 i3 d3,.slice p4 i4 d4] 6 1 132 (W5.heap.size+1) Wz rfl Wo
          have hown1:=zo hown0 ((zb.refl [] (W5.alloc (.cells #[] 132))).alloc (.cells #[.string key,.int .i64 k3,.int .i64 m3,.string s3,.slice p3 i3 d3,.slice p4 i4 d4] 132)) Wz
          refine hK _ _ (.inr kB) ?_
          clear hK K
          try simp only [zA,zN,zB,zC,zD]
          have Jb:=qI hSS.size
          clear hSS
          have hSS:=kB
          refine qO 5 hO rfl Wr (fun K hK=>?_)
          refine bT jF hown1 (Jj.o.kept0 kB) Jk.o (by simp only [maxLen];omega) Ws kB.size (.tmp 77) (.tmp 81) rfl rfl rfl ?_
          intro b1 d1 w2 hown2 hk2 hg2
          have hS2:(fun w':World=>zb [] WC w') w2:=zb.trans (X:=[]) kB hk2 (fun i hi=>.inr (by have:=Jb.o;simp [Value.ownBlock] at hi;omega))
          have Gb:=qI (hone.kept hk2 (by intro g hg hx;simp [Value.ownBlock] at hx;simp [zW] at hg;omega))
          have Ga:=qI hown2
          refine hK _ _ (.inr hS2) ?_
          clear hK K
          try simp only [zA,zN,zB,zC,zD]
          clear hSS kA hown0 hown1 kB hone hk2 hg2 hown2 Jb
          have hSS:=hS2
          clear hS2
          revert Gb
          generalize W5.heap.size+1=G
          intro Gb
         case' refine_1=>
          refine bT jF hown0 (Jj.o.kept0 kA) Jk.o (by simp only [maxLen];omega) Ws kA.size (.tmp 77) (.tmp 81) rfl rfl rfl ?_
          intro b1 d1 w1 hown1 hk1 hg1
          have hS1:(fun w':World=>zb [] WC w') w1:=zb.trans (X:=[]) kA hk1 (fun i hi=>.inr (by have:=hSS.size;simp [Value.ownBlock] at hi;omega))
          refine hK _ _ (.inr hS1) ?_
          clear hK K
          try simp only [zA,zN,zB,zC,zD]
          clear hown0 hk1 hg1 kA hSS
          have hSS:=hS1
          clear hS1
          refine qO 7 hO rfl Wr (fun K hK=>?_)
          go_simp
          have hS2:(fun w':World=>zb [] WC w') (w1.alloc (.cells #[.string key,.int .i64 k3,.int .i64 m3,.string s3,.slice p3 i3 d3,.slice p4 i4 d4] 132)):=hSS.alloc _
          have Gb:=qI (zT w1 [.string key,.int .i64 k3,.int .i64 m3,.string s3,.slice p3 i3 d3,.slice p4 i4 d4] 6 1 132 w1.heap.size rfl rfl Wo)
          have Ga:=qI (zo hown1 ((zb.refl [] w1).alloc (.cells #[.string key,.int .i64 k3,.int .i64 m3,.string s3,.slice p3 i3 d3,.slice p4 i4 d4] 132)) Wz)
          refine hK _ _ (.inr hS2) ?_
          clear hK K
          try simp only [zA,zN,zB,zC,zD]
          clear hSS hown1
          have hSS:=hS2
          clear hS2
          revert Gb Ga hSS
          generalize w1.heap.size=G
          generalize w1.alloc (.cells #[.string key,.int .i64 k3,.int .i64 m3,.string s3,.slice p3 i3 d3,.slice p4 i4 d4] 132)=w2
          intro Gb Ga hSS
          clear w1
        all_goals
         refine qO 8 hO rfl Wr (fun K hK=>?_)
         refine kE jF Ga.o Gb.o (by intro u hu;rcases List.mem_cons.1 hu with rfl | hu <;> first | rfl | exact Gh.o.one u hu) (by simp only [maxLen];omega) Ws hSS.size (.tmp 82) (.tmp 84) rfl rfl rfl ?_
         intro bx dx w3 hown3 hk3 hg3
         have hlt2:=Ga.o.lt
         have hS3:(fun w':World=>zb [] WC w') w3:=zb.trans (X:=[]) hSS hk3 (fun i hi=>.inr (hlt2 i (Option.mem_toList.1 hi)).1)
         refine hK _ _ (.inr hS3) ?_
         clear hK K
         try simp only [zA,zN,zB,zC,zD]
         clear hSS hlt2
         have hSS:=hS3
         clear hS3
         refine qO 13 hO rfl Wr (fun K hK=>?_)
         refine kE jF hown3 (Mc.o.kept0 hSS) Md.o (by simp only [maxLen];omega) Ws hSS.size (.tmp 85) (.tmp 89) rfl rfl rfl ?_
         intro b5 d5 w5 hown5 hk5 hg5
         have hlt3:=hown3.lt
         have hS5:(fun w':World=>zb [] WC w') w5:=zb.trans (X:=[]) hSS hk5 (fun i hi=>.inr (hlt3 i (Option.mem_toList.1 hi)).1)
         refine hK _ _ (.inr hS5) ?_
         clear hK K
         try simp only [zA,zN,zB,zC,zD]
         clear hSS hlt3
         have hSS:=hS5
         clear hS5
         refine qO 14 hO rfl Wr (fun K hK=>?_)
         go_simp
         refine hK _ _ (.inr hSS) ?_
         clear hK K
         try simp only [zA,zN,zB,zC,zD]
         have Gc:=qI hown5
         have Jl:Hid (zb [] wo w5):=qI (Gr.o.then hSS)
         have Ju:Hid (zb [] WC w5):=qI hSS
         have Jm:Hid (w5.heap[w.heap.size+1+1]? = some (.cells (vH v.kind v.num v.s vL (.slice ak ms.length ck)) 25 (0,0))):=qI (Jl.o.heap HC.o.blk Wz)
         have hc6:=za (o:=4) Jm.o rfl
         have hf6:=zh (o:=4) Jm.o
         refine qO 15 hO rfl Wr (fun K hK=>?_)
         go_simp
         refine hK _ _ (.inl rfl) ?_
         clear hK K
         try simp only [zA,zN,zB,zC,zD]
         refine zF hO Wr ?_ _
         subst hR
         try clear hQp hO O
         clear hc6 hf6 hSS hown3 hown5 hk3 hk5 hg3 hg5
         go_wp2_with fail
         case roundEnd=>
          have hz:=Ja.o
          have hzw:=Gr.o.size
          have hlw:=HC.o.kept.size
          have hzf:=Ju.o.size
          have hlo:=HC.o.row.lt
          have hnew:=Gc.o.lt
          have e1:(ms.take j++(key,zy n v.m[k].2)::ms.drop j).length=j+1+(ms.length-j):=by simp;omega
          have KX:zb [w.heap.size+1+1] w5 (w5.setCell ⟨w.heap.size+1+1,4,none⟩ (.slice b5 (j+1+(ms.length-j)) d5)):=kept_cell _ _ _ _
          refine⟨⟨k+1,_,mk.take j++(key,[.int .i64 k3,.int .i64 m3,.string s3,.slice p3 i3 d3,.slice p4 i4 d4])::mk.drop j,ms.take j++(key,zy n v.m[k].2)::ms.drop j,by go_num,Ws,{
           blk:=zg Jm.o rfl
           row:=?_
           all:=?_
           kept:=?_
           ord:=put_sorted HC.o.ord hj (fun t ht h=>Je.o t ht h) Jf.o
           perm:=?_
           lim:=by rw [e1];have:=HC.o.lim;omega }⟩,by simp [intOf];omega⟩
          ·rw [e1]
           have h4:=qD (zo Gc.o KX (fun g hg hx=>by have:=(hnew g hg).1;simp at hx;omega)) (base':=WL.heap.size) (fun g hg=>by have:=(hnew g hg).1;omega)
           have e2:yk (mk.take j++(key,[.int .i64 k3,.int .i64 m3,.string s3,.slice p3 i3 d3,.slice p4 i4 d4])::mk.drop j)=yk (mk.take j)++[.string key,.int .i64 k3,.int .i64 m3,.string s3,.slice p3 i3 d3,.slice p4 i4 d4]++yk (mk.drop j):=by simp [yk,xg]
           rw [e2]
           exact h4
          ·have hold:∀ (c:ByteArray×List Value) (y:ByteArray×V n),vS (Rep n (fun g=>WL.heap.size≤g∧(Value.slice ak ms.length ck).ownBlock≠some g) wo) c y→vS (Rep n (fun g=>WL.heap.size≤g∧(Value.slice b5 (j+1+(ms.length-j)) d5).ownBlock≠some g) (w5.setCell ⟨w.heap.size+1+1,4,none⟩ (.slice b5 (j+1+(ms.length-j)) d5))) c y:=fun c y r=>
            ⟨r.1,r.2.move ((Jl.o.mono Wz).trans' KX) (fun g hg ⟨h1,h2⟩=>⟨by simp;omega,h1,fun h3=>by have:=(hnew g h3).1;omega⟩)⟩
           refine ((HC.o.all.take j).mono fun c y _ r=>hold c y r).app (zH.cons ⟨rfl,?_⟩ ((HC.o.all.drop j).mono fun c y _ r=>hold c y r))
           exact Gh.o.move ((Ju.o.mono Wz).trans' KX) (fun g hg ⟨h1,h2⟩=>⟨by simp;omega,Ws,fun h3=>by have:=(hnew g h3).1;omega⟩)
          ·exact (HC.o.kept.then Jl.o).trans' KX
          ·rw [List.take_succ_eq_append_getElem hlt,List.map_append]
           refine (put_perm ms _ j).trans ?_
           have e3:qK (zy n) v.m[k]=(key,zy n v.m[k].2):=by unfold qK;rw [Ji.o]
           rw [List.map_singleton,e3]
           exact HC.o.perm.append (List.Perm.refl _)
     ·obtain rfl:k=v.m.length:=by omega
      have hms:ms=(v.m.map (qK (zy n))).mergeSort leK:=by
       have hp:=HC.o.perm
       rw [List.take_length] at hp
       have hk:((v.m.map (qK (zy n))).map (fun p=>p.1)).Nodup:=by
        rw [List.map_map]
        exact nodup_right Jh.o
       exact jj (hp.trans (jO v).symm) HC.o.ord (List.pairwise_mergeSort kF bg _) ((hp.map _).nodup_iff.2 hk)
      have Me:=qI hms
      have Mf:=qI HC.o.lim
      have hbc:=HC.o.blk
      have d0:=za (o:=0) (v:=.int .i64 v.kind) hbc rfl
      have d1:=za (o:=1) (v:=.int .i64 v.num) hbc rfl
      have d2:=za (o:=2) (v:=.string v.s) hbc rfl
      have d3:=za (o:=3) (v:=vL) hbc rfl
      have d4:=za (o:=4) (v:=vk) hbc rfl
      have hbr:=HC.o.kept.heap (Gp.o.kept.heap Jo.o Wz) Wz
      obtain⟨aL,cL,rfl,-,-⟩:=(Slc.of_row Gp.o.row).form
      obtain⟨aM,cM,rfl,-,-⟩:=(Slc.of_row HC.o.row).form
      have r0:=za (o:=0) (v:=.int .i64 0) hbr rfl
      have r1:=za (o:=1) (v:=.int .i64 0) hbr rfl
      have r2:=za (o:=2) (v:=.string ⟨#[]⟩) hbr rfl
      have r3:=za (o:=3) (v:=.slice none 0 0) hbr rfl
      have r4:=za (o:=4) (v:=.slice none 0 0) hbr rfl
      have s0:=zh (o:=0) hbr
      have s1:=zh (o:=1) hbr
      have s2:=zh (o:=2) hbr
      have s3:=zh (o:=3) hbr
      have s4:=zh (o:=4) hbr
      clear hbc hbr hms
      go_wp2_with fail
      have KF:zb [w.heap.size+1] wr (((((wr.setCell ⟨w.heap.size+1,0,none⟩ (.int .i64 v.kind)).setCell ⟨w.heap.size+1,1,none⟩ (.int .i64 v.num)).setCell ⟨w.heap.size+1,2,none⟩ (.string v.s)).setCell ⟨w.heap.size+1,3,none⟩ (.slice aL v.l.length cL)).setCell ⟨w.heap.size+1,4,none⟩ (.slice aM ms.length cM)):=
       ((((Wd.setCell (p:=⟨w.heap.size+1,0,none⟩) (.inl Wz) _).setCell (p:=⟨w.heap.size+1,1,none⟩) (.inl Wz) _).setCell (p:=⟨w.heap.size+1,2,none⟩) (.inl Wz) _).setCell (p:=⟨w.heap.size+1,3,none⟩) (.inl Wz) _).setCell (p:=⟨w.heap.size+1,4,none⟩) (.inl Wz) _
      have hbf:=zg (v:=.slice aM ms.length cM) (i:=4) (zg (v:=.slice aL v.l.length cL) (i:=3) (zg (v:=.string v.s) (i:=2) (zg (v:=.int .i64 v.num) (i:=1) (zg (v:=.int .i64 v.kind) (i:=0) (HC.o.kept.heap (Gp.o.kept.heap Jo.o Wz) Wz) rfl) rfl) rfl) rfl) rfl
      have x0:=za (o:=0) (v:=.int .i64 v.kind) hbf rfl
      have x1:=za (o:=1) (v:=.int .i64 v.num) hbf rfl
      have x2:=za (o:=2) (v:=.string v.s) hbf rfl
      have x3:=za (o:=3) (v:=.slice aL v.l.length cL) hbf rfl
      have x4:=za (o:=4) (v:=.slice aM ms.length cM) hbf rfl
      clear hbf d0 d1 d2 d3 d4 r0 r1 r2 r3 r4 s0 s1 s2 s3 s4
      revert KF x0 x1 x2 x3 x4
      generalize ((((wr.setCell ⟨w.heap.size+1,0,none⟩ (.int .i64 v.kind)).setCell ⟨w.heap.size+1,1,none⟩ (.int .i64 v.num)).setCell ⟨w.heap.size+1,2,none⟩ (.string v.s)).setCell ⟨w.heap.size+1,3,none⟩ (.slice aL v.l.length cL)).setCell ⟨w.heap.size+1,4,none⟩ (.slice aM ms.length cM)=WF
      intro KF x0 x1 x2 x3 x4
      have hzl:=Ja.o
      have hz0:=Gt.o
      have hLlt:=Gp.o.row.lt
      have hMlt:=HC.o.row.lt
      have hkl:=HC.o.kept.size
      have KLM:zb [w.heap.size+1,w.heap.size+1+1] WL WF:=(HC.o.kept.mono Wz).trans' (KF.mono Wz)
      refine bodyPost_ret (v:=.agg #[.int .i64 v.kind,.int .i64 v.num,.string v.s,.slice aL v.l.length cL,.slice aM ms.length cM]) (by simp [results,results49,go_sem,x0,x1,x2,x3,x4]) rfl ⟨⟨[.int .i64 v.kind,.int .i64 v.num,.string v.s,.slice aL v.l.length cL,.slice aM ms.length cM],rfl,?_⟩,?_⟩
      ·rw [ZN,← Me.o]
       refine⟨_,_,lL,mk,rfl,?_,?_,?_,?_,H.o.wfk,H.o.wfn⟩
       ·simp only [List.length_map]
        exact qD (zo Gp.o.row KLM (fun g hg hx=>by have:=hLlt g hg;simp at hx;omega)) (fun g hg=>by have:=hLlt g hg;omega)
       ·have h1:=Gp.o.all
        rw [List.take_length] at h1
        exact h1.mono fun _ _ _ r=>r.move KLM (fun g hg ⟨h2,h3⟩=>⟨by simp;omega,Ws,h3,fun h4=>by have:=(hMlt g h4).1;omega⟩)
       ·exact qD (zo HC.o.row KF (fun g hg hx=>by have:=hMlt g hg;simp at hx;omega)) (fun g hg=>by have:=hMlt g hg;omega)
       ·exact HC.o.all.mono fun _ _ _ r=>⟨r.1,r.2.move KF (fun g hg ⟨h2,h3⟩=>⟨by simp;omega,Ws,fun h4=>by have:=(hLlt g h4).2;omega,h3⟩)⟩
      ·exact Gz.o.trans KLM (fun i hi=>by simp at hi;omega)
theorem ZG:∀ (n:Nat),bJ n
 | 0=>fun v=>nomatch v
 | n+1=>fun v _ _ _ h hs hr=>refSort_step (ZG n) v h hs hr
end Go.Proofs.YtibnfbglanpoiaaGreatDoor

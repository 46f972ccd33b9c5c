/- Parts of one proof, merged: XSo. -/
import Derived.Test.YtjccecajigmfkaaGreatDoorSgI
set_option linter.all false
set_option maxHeartbeats 12800000
set_option maxRecDepth 10000
namespace Go.Proofs.YtjccecajigmfkaaGreatDoor
open Go.Proofs.Tryz
open Go.RowKit
def ZT (n : Nat) : Prop := ∀ (v : V n) {S : Nat → Prop} {w : World} {cs : List Value}, Rep n S w cs v → zP n v → zo n v = true →
    Calls prog 69 #[.agg cs.toArray] w fun e w'=>(∃ cs':List Value,e = .returned (.agg cs'.toArray)∧xU n w.heap.size w' cs' (zI n v))∧zb [] w w'
theorem refSort_step {n:Nat}(bd:ZT n)(v:VS (V n)){S:Nat→Prop}{w:World}{cs:List Value}(h:Rep (n+1) S w cs v)(hs:zP (n+1) v)(aY:zo (n+1) v=true) : Calls prog 69 #[.agg cs.toArray] w fun e w'=>(∃ cs':List Value,e = .returned (.agg cs'.toArray)∧xU (n+1) w.heap.size w' cs' (zI (n+1) v))∧zb [] w w':=by
  have Jn:=qI hs;have Jh:=qI aY;obtain⟨vl,vm,lcs,mcs,h⟩:=h;obtain⟨a,c,b,e,rfl,rfl,rfl⟩:=h.forms;have H:=qI h;have IH:=@qI (ZT n) (by exact @bd);clear bd;have c7:v.l.length≤20000:=XC hs.few;have c6:v.m.length≤20000:=XC hs.few;obtain⟨W0,Gs⟩:=XE (((w.alloc (.cells #[.int .i64 v.kind,.int .i64 v.num,.string v.s,.slice a v.l.length c,.slice b v.m.length e] 25)).alloc (.cells #[.int .i64 0,.int .i64 0,.string ⟨#[]⟩,.slice none 0 0,.slice none 0 0] 25)).alloc (.cells #[.int .i64 v.kind,.int .i64 v.num,.string v.s,.slice none 0 0,.slice none 0 0] 25));have Gt:Hid (W0.heap.size=w.heap.size+3):=qI (by rw [Gs.o];simp);have Jv:Hid (zb [] w W0):=qI (kA3 Gs.o);have Jw:Hid (W0.heap[w.heap.size]? = some (.cells (kh v.kind v.num v.s (.slice a v.l.length c) (.slice b v.m.length e)) 25 (0,0))):=qI (by
   rw [Gs.o];exact (((zb.refl [] _).alloc _).alloc _).heap (ze rfl) Wz)
  have Jo:Hid (W0.heap[w.heap.size+1]? = some (.cells #[.int .i64 0,.int .i64 0,.string ⟨#[]⟩,.slice none 0 0,.slice none 0 0] 25 (0,0))):=qI (by
   rw [Gs.o];exact ((zb.refl [] _).alloc _).heap (ze Wz) Wz)
  have Jx:Hid (W0.heap[w.heap.size+1+1]? = some (.cells (kh v.kind v.num v.s (.slice none 0 0) (.slice none 0 0)) 25 (0,0))):=qI (by
   rw [Gs.o];exact ze Wz)
  obtain⟨c0,c1,c2,c3,c4⟩:=xr w v.kind v.num v.s (.slice a v.l.length c) (.slice b v.m.length e) 25;clear h hs aY;go_enter func69,ntmps69;go_wp2_with fail;rw [← Gs.o];clear c0 c1 c2 c3 c4;go_loopw [4] (fun i wr=>∃ (k:Nat) (vl:Value) (lcs':List (List Value)),i = .int .i64 k∧k≤v.l.length∧InsL W0 (w.heap.size+1+1) v k wr vl lcs') (fun i _=>v.l.length-(intOf i).toNat);case atStart=>
   exact⟨0,.slice none 0 0,[],rfl,XB,{
    blk:=Jx.o
    row:=World.ownsRow_nil _ _ _ _
    all:=zM.nil _
    kept:=Wd }⟩
  case round=>
   obtain⟨k,vk,lk,rfl,hk,hc⟩:=hrel;have C:=qI hc;have Gu:Hid (zb [] w wr):=qI (Jv.o.trans hc.kept (by intro i hi;simp at hi;subst hi;exact .inr Ws));have aw:=C.o.kept.heap Jw.o (by simp;omega);have b3:=za (o:=3) (v:=.slice a v.l.length c) aw rfl;clear hc;by_cases al:k<v.l.length
   ·have ba:(k:Int)<v.l.length:=by omega
    obtain⟨g,o,cap,kd,nm,st,a1,b1,he,q0,q1,q2,q3,q4,hr⟩:=H.o.at_l Gu.o k al;have aU:∀ x,a=some x→x.block<w.heap.size:=fun x N=>H.o.slcl.lt (by rw [N];exact ZK Ws)
    simp only [Value.slice.injEq] at he;obtain⟨rfl,-,rfl⟩:=he;obtain⟨ak,ck,rfl,-,-⟩:=(Slc.of_row C.o.row).form;obtain⟨p1,i1,d1,p2,i2,d2,rfl,rfl⟩:=hr.sl;have HR:=qI hr;have Jc:=qI (Jn.o.kid (je (List.getElem_mem al)));have Jd:=qI (jg Jh.o (je (List.getElem_mem al)));have bb:=C.o.blk;have f3:=za (o:=3) (v:=.slice ak k ck) bb rfl;have ab:=C.o.row.lt;have cp:w.heap.size+1+1<wr.heap.size:=lt_of_block C.o.blk;have Jy:=qI ab;have Gv:Hid (g ∉ (Value.slice ak k ck).ownBlock.toList):=qI (fun N=>by have h1:=(ab _ (XD N)).1;have h2:=aU _ rfl;have h3:=Gt.o;simp only at h2;omega);have Jz:Hid (w.heap.size ∉ (Value.slice ak k ck).ownBlock.toList):=qI (fun N=>by have h1:=(ab _ (XD N)).1;have h3:=Gt.o;omega);have Jp:Hid (w.heap.size+1+1 ∉ (Value.slice ak k ck).ownBlock.toList):=qI (fun N=>by have h1:=(ab _ (XD N)).1;have h3:=Gt.o;omega);clear hr bb ab aU aw;go_wp2_with fail;refine zt (n:=12) (fun w':World=>zb (Value.slice ak k ck).ownBlock.toList wr w') 11 Wr Wr ?_;change zS _ _ _ _ _ _ _ _ _ wr.drew;have d:(fun w':World=>zb (Value.slice ak k ck).ownBlock.toList wr w') wr.drew:=(zb.refl _ wr).drew;have Gw:Hid (zb [] wr wr.drew):=qI (zb.refl [] wr).drew;revert d Gw;generalize wr.drew=W2;intro d Gw;refine zF ?_;intro O R B hR;have z:kI R:=by subst hR;exact fun _ _ _ _ _ h=>h
    refine qT 0 ?_ B rfl rfl Wr z (fun w f=>?_) d ?_;rotate_left;·exact zg
    try simp only [XI]
    refine qT 1 ?_ B rfl rfl Wr z (fun w f=>?_) d ?_;rotate_left;·have s:=f.cell f3 Jp.o;exact zg
    try simp only [XI]
    refine qT 2 ?_ B rfl rfl Wr z (fun w f=>?_) d ?_;rotate_left;·exact zg
    try simp only [XI]
    refine qT 3 ?_ B rfl rfl Wr z (fun w f=>?_) d ?_;rotate_left;·have s:=f.cell b3 Jz.o;exact zg
    try simp only [XI]
    refine qT 4 ?_ B rfl rfl Wr z (fun w f=>?_) d ?_;rotate_left;·exact zg
    try simp only [XI]
    refine qT 5 ?_ B rfl rfl Wr z (fun w f=>?_) d ?_;rotate_left;·exact zg
    try simp only [XI]
    refine qT 6 ?_ B rfl rfl Wr z (fun w f=>?_) d ?_;rotate_left;·have s0:=f.cell q0 Gv.o;have s1:=f.cell q1 Gv.o;have s2:=f.cell q2 Gv.o;have E:=f.cell q3 Gv.o;have s4:=f.cell q4 Gv.o;exact zg
    try simp only [XI]
    refine qO 7 B rfl Wr (fun K A=>?_);go_simp;refine Calls.mono (IH.o v.l[k] (HR.o.k0 Gw.o) Jc.o Jd.o) ?_;rintro e w3 ⟨⟨cs',rfl,ad⟩,Z⟩;have D:=ad.rep;obtain⟨P,m3,E,l3,r3,rfl⟩:=D.five;obtain⟨p3,L,I,Q,M,J,rfl,rfl⟩:=D.sl;have Gl:=qI D;have Gx:=qI (Gw.o.trans' Z);have aa:(fun w':World=>zb (Value.slice ak k ck).ownBlock.toList wr w') w3:=d.then Z;have aB:=Z.size;clear ad D Z;refine A _ _ (.inr aa) ?_;clear A K;try simp only [XI]
    clear d;have d:=aa;clear aa;refine qO 8 B rfl Wr (fun K A=>?_);go_simp;have Gk:=qI ((zb.refl [] w3).alloc (.cells #[.int .i64 P,.int .i64 m3,.string E,.slice p3 L I,.slice Q M J] 25));have Gm:=qI (yv w3 [.int .i64 P,.int .i64 m3,.string E,.slice p3 L I,.slice Q M J] 5 1 25 w3.heap.size rfl rfl Wo);have U:(fun w':World=>zb (Value.slice ak k ck).ownBlock.toList wr w') (w3.alloc (.cells #[.int .i64 P,.int .i64 m3,.string E,.slice p3 L I,.slice Q M J] 25)):=d.then Gk.o;have Gn:Hid ((w3.alloc (.cells #[.int .i64 P,.int .i64 m3,.string E,.slice p3 L I,.slice Q M J] 25)).heap.size=w3.heap.size+1):=qI Wz;refine A _ _ (.inr U) ?_;clear A K;try simp only [XI]
    clear d;have d:=U;clear U;revert d Gk Gm Gn;generalize w3.alloc (.cells #[.int .i64 P,.int .i64 m3,.string E,.slice p3 L I,.slice Q M J] 25)=w4;intro Gk Gm Gn d;have Gy:=qI (zk C.o.row (Gx.o.trans' Gk.o) Wz);have Gi:=qI aB;clear aB;refine qO 9 B rfl Wr (fun K A=>?_);refine xa QQ Gy.o Gm.o Gl.o.one (by simp only [maxLen];omega) Ws (by have h1:=(Gx.o.trans' Gk.o).size;have h2:=C.o.kept.size;omega) (.tmp 23) (.tmp 30) rfl rfl rfl ?_;intro b5 d5 w5 ae au a7;have an:(fun w':World=>zb (Value.slice ak k ck).ownBlock.toList wr w') w5:=d.trans' au;refine A _ _ (.inr an) ?_;clear A K;try simp only [XI]
    clear d;have d:=an;clear an;have Gc:=qI ae;have Jq:=qI au;have Ma:=qI a7;clear ae au a7;refine qO 10 B rfl Wr (fun K A=>?_);go_simp;refine A _ _ (.inr d) ?_;clear A K;try simp only [XI]
    have Gg:Hid (w5.heap[w.heap.size+1+1]? = some (.cells (kh v.kind v.num v.s (.slice ak k ck) (.slice none 0 0)) 25 (0,0))):=qI (d.heap C.o.blk Jp.o);have aS:=za (o:=3) Gg.o rfl;have aG:=zh (o:=3) Gg.o;refine qO 11 B rfl Wr (fun K A=>?_);go_simp;refine A _ _ (.inl rfl) ?_;clear A K;try simp only [XI]
    refine zz B Wr ?_ _;subst hR;try clear z B O
    clear aS aG d q0 q1 q2 q3 q4 f3 b3;go_wp2;case roundEnd=>
     have hz:=Gt.o;have cz:=Gi.o;have cx:=Gn.o;have a8:=Jy.o;have KX:zb ((w.heap.size+1+1)::(Value.slice ak k ck).ownBlock.toList) w4 (w5.setCell ⟨w.heap.size+1+1,3,none⟩ (.slice b5 (k+1) d5)):=(Jq.o.mono (Y:=(w.heap.size+1+1)::(Value.slice ak k ck).ownBlock.toList) (fun i hi=>List.mem_cons_of_mem _ hi)).setCell (p:=⟨w.heap.size+1+1,3,none⟩) (.inl (List.mem_cons_self ..)) _;have aX:∀ g,(Value.slice b5 (k+1) d5).ownBlock=some g→(Value.slice ak k ck).ownBlock=some g∨g=w4.heap.size:=fun g W=>by
      rcases Ma.o with h | h;·exact .inl (by rw [← h];exact W)
      ·exact .inr (by rw [W] at h;exact Option.some.inj h)
     refine⟨⟨k+1,_,lk++[[.int .i64 P,.int .i64 m3,.string E,.slice p3 L I,.slice Q M J]],by go_num,Ws,{
      blk:=zd Gg.o rfl
      row:=?_
      all:=?_
      kept:=?_ }⟩,by simp [intOf];omega⟩
     ·rw [List.flatten_append];simp only [List.flatten_cons,List.flatten_nil,List.append_nil];exact zk Gc.o ((zb.refl [w.heap.size+1+1] w5).setCell (.inl Wz) _) (by
       intro g W N;simp at N;have:=(Gc.o.lt g W).1;omega)
     ·rw [List.take_succ_eq_append_getElem al,List.map_append];refine zM.snoc (C.o.all.mono fun c y _ r=>r.move ((Gx.o.trans' Gk.o).mono (Y:=(w.heap.size+1+1)::(Value.slice ak k ck).ownBlock.toList) Wz |>.trans' KX) ?_) ((Gl.o).move ((Gk.o.mono (Y:=(w.heap.size+1+1)::(Value.slice ak k ck).ownBlock.toList) Wz).trans' KX) ?_)
      ·intro g W ⟨h1,h2⟩;refine⟨?_,h1,?_⟩
       ·intro N;rcases List.mem_cons.1 N with rfl | N;·omega
        ·exact h2 (XD N)
       ·intro h3;rcases aX g h3 with h4 | h4;·exact h2 h4
        ·have:=(Gx.o.trans' Gk.o).size;omega
      ·intro g W h1;have b0:=C.o.kept.size;have cv:=Gw.o.size;refine⟨?_,Ws,?_⟩
       ·intro N;rcases List.mem_cons.1 N with rfl | N;·omega
        ·have:=(a8 g (XD N)).2;omega
       ·intro h3;rcases aX g h3 with h4 | h4;·have:=(a8 g h4).2;omega
        ·omega
     ·exact ((C.o.kept.then (Gx.o.trans' Gk.o)).trans Jq.o (fun i hi=>.inr (a8 i (XD hi)).1)).setCell (.inl Wz) _
   ·obtain rfl:k=v.l.length:=by omega
    obtain⟨WL,rfl⟩:=XF wr;have Gp:=qI C.o;have Gz:=qI Gu.o;have Ja:Hid (w.heap.size+3≤WL.heap.size):=qI (by have h1:=C.o.kept.size;have h2:=Gt.o;omega);have Jr:=qI aw;obtain⟨vL,rfl⟩:=XF vk;obtain⟨lL,rfl⟩:=XF lk;clear aw;go_wp2_with fail;clear b3 C Gu;go_loopw [5] (fun i wr=>∃ (k:Nat) (vm:Value) (mc:List (ByteArray×List Value)) (ms:List (ByteArray×V n)),i = .int .i64 k∧k≤v.m.length∧InsM WL (w.heap.size+1+1) v vL k wr vm mc ms) (fun i _=>v.m.length-(intOf i).toNat);case atStart=>
     exact⟨0,.slice none 0 0,[],[],rfl,XB,{
      blk:=Gp.o.blk
      row:=World.ownsRow_nil _ _ _ _
      all:=zM.nil _
      kept:=Wd
      ord:=List.Pairwise.nil
      perm:=Wz
      lim:=rfl }⟩
    case round=>
     obtain⟨k,vk,mk,ms,rfl,hk,hc⟩:=hrel;have C:=qI hc;have Gu:Hid (zb [] w wr):=qI (Gz.o.trans hc.kept (by intro i hi;simp at hi;subst hi;exact .inr Ws));have b4:=za (o:=4) (v:=.slice b v.m.length e) (C.o.kept.heap Jr.o (by simp;omega)) rfl;clear hc;by_cases al:k<v.m.length
     ·have ba:(k:Int)<v.m.length:=by omega
      obtain⟨g,o,cap,kd,nm,st,a1,b1,he,q0,q1,q2,q3,q4,q5,hr⟩:=H.o.at_m Gu.o k al;simp only [Value.slice.injEq] at he;obtain⟨rfl,-,rfl⟩:=he;obtain⟨ak,ck,rfl,-,-⟩:=(Slc.of_row C.o.row).form;obtain⟨p1,i1,d1,p2,i2,d2,rfl,rfl⟩:=hr.sl;have HR:=qI hr;have Jc:=qI (Jn.o.kid (kN (List.getElem_mem al)));have Jd:=qI (jg Jh.o (kN (List.getElem_mem al)));have f4:=za (o:=4) (v:=.slice ak ms.length ck) C.o.blk rfl;generalize aA:v.m[k].1=key at q0;have Ji:=qI aA;have cq:(ms.length:Int)≤20000:=XC C.o.lim;clear hr aA;obtain⟨wo,rfl⟩:=XF wr;go_upto_block 4 with fail;go_cut [6] from 43 to 62 (fun q wq=>∃ j:Nat,q = .int .i64 j∧j≤ms.length∧Hid (∀ (t:Nat) (ht:t<ms.length),j≤t→ltB key ms[t].1=true)∧Hid (j=0∨∃ h:j-1<ms.length,ltB key (ms[j-1]'h).1=false)∧zb [] wo wq);case first=>
       go_wp2_with fail;go_loopw [6] (fun i wq=>∃ j:Nat,i = .int .i64 j∧j≤ms.length∧(∀ (t:Nat) (ht:t<ms.length),j≤t→ltB key ms[t].1=true)∧zb [] wo wq) (fun i _=>(intOf i).toNat);case atStart=>exact⟨ms.length,rfl,XA,fun t ht h=>absurd ht Ws,Wd⟩
       case round=>
        obtain⟨j,rfl,hj,bm,ai⟩:=hrel;have Je:=qI bm;have Gj:=qI ai;clear bm ai;have aV:(j:Int)≤ms.length:=Ws;have aP:j=0∨(0<j∧∃ h:j-1<ms.length,ltB key (ms[j-1]'h).1=false)∨(0<j∧∃ h:j-1<ms.length,ltB key (ms[j-1]'h).1=true):=by
         by_cases hz:j=0;·exact .inl hz
         ·cases hb:ltB key (ms[j-1]'(Ws)).1 with
          | false=>exact .inr (.inl ⟨Ws,Ws,hb⟩)
          | true=>exact .inr (.inr ⟨Ws,Ws,hb⟩)
        rcases aP with hz | ⟨hp,N,hb⟩ | ⟨hp,N,hb⟩;rotate_left 2
        ·have HB:Hid (∀ (t:Nat) (ht:t<ms.length),t=j-1→ltB key ms[t].1=true):=qI (fun t ht e=>by subst e;exact hb);have HP:=qI hp;have a4:decide (0<j)=true:=decide_eq_true hp;have aF:j-1<ms.length:=N;have aJ:mk.length=ms.length:=C.o.all.1;obtain⟨gm,om,aW,a5,x0⟩:=slc_six ((Slc.of_row C.o.row).k0 Gj.o) (j:=j - 1) (by intro cc aI;obtain⟨pq,hpq,rfl⟩:=List.mem_map.1 aI;obtain⟨y,-,hy⟩:=C.o.all.mem_left hpq;simp [yj,hy.2.len]) Ws;rw [(C.o.all.2 (j-1) _ _ (List.getElem?_eq_getElem Ws) (List.getElem?_eq_getElem N)).1] at x0;simp only [Value.slice.injEq] at a5;obtain⟨ap,-,-⟩:=a5;generalize aK:(ms[j-1]).1=mkey at x0 hb;obtain⟨aQ,ce⟩:=gtr_yes hb;have y0:=zv (Gj.o.cell q0 Wz);have y1:=zv (Gj.o.cell f4 Wz);rw [ap] at y1;have y2:=zv (Gj.o.cell b4 Wz);have y3:=zv x0;have a6:(j:Int)-1<ms.length:=Ws;have ay:(1:Int)≤j:=Ws;have Js:=qI ap;clear N aK x0 aJ ap hp hb;go_wp2_with fail;refine yg wr Wr Wr Wd ?_;repeat go_big_quiet_step (fail)
         refine wpQuiet_nil ?_;intro wq ai;have Gf:=qI (Gj.o.then ai);clear ai a4 y0 y1 y2 y3 a6 ay aQ ce aF;go_wp2;case roundEnd=>
          have hp:=HP.o;exact⟨⟨j-1,by rw [Int.ofNat_sub hp];rfl,Ws,fun t ht h=>by
           by_cases e:t=j-1;·exact HB.o t ht e
           ·exact Je.o t ht Ws,Gf.o⟩,by simp [intOf];omega⟩
        case' inl=>
          have Jf:Hid (j=0∨∃ h:j-1<ms.length,ltB key (ms[j-1]'h).1=false):=qI (.inl hz);have a4:decide (0<j)=false:=decide_eq_false Ws;clear hz;go_wp2_with fail;refine yg wr Wr Wr Wd ?_;repeat go_big_quiet_step (fail)
          refine wpQuiet_nil ?_;intro wq ai;have Gf:=qI (Gj.o.then ai);clear ai a4;go_wp2_with fail
        case' inr.inl=>
          have Jf:Hid (j=0∨∃ h:j-1<ms.length,ltB key (ms[j-1]'h).1=false):=qI (.inr ⟨N,hb⟩);have a4:decide (0<j)=true:=decide_eq_true hp;have aF:j-1<ms.length:=N;have aJ:mk.length=ms.length:=C.o.all.1;obtain⟨gm,om,aW,a5,x0⟩:=slc_six ((Slc.of_row C.o.row).k0 Gj.o) (j:=j - 1) (by intro cc aI;obtain⟨pq,hpq,rfl⟩:=List.mem_map.1 aI;obtain⟨y,-,hy⟩:=C.o.all.mem_left hpq;simp [yj,hy.2.len]) Ws;rw [(C.o.all.2 (j-1) _ _ (List.getElem?_eq_getElem Ws) (List.getElem?_eq_getElem N)).1] at x0;simp only [Value.slice.injEq] at a5;obtain⟨ap,-,-⟩:=a5;generalize aK:(ms[j-1]).1=mkey at x0 hb;have aQ:=gtr_no hb;have y0:=zv (Gj.o.cell q0 Wz);have y1:=zv (Gj.o.cell f4 Wz);rw [ap] at y1;have y2:=zv (Gj.o.cell b4 Wz);have y3:=zv x0;have a6:(j:Int)-1<ms.length:=Ws;have ay:(1:Int)≤j:=Ws;have Js:=qI ap;clear N aK x0 aJ ap hp hb;go_wp2_with fail;refine yg wr Wr Wr Wd ?_;repeat go_big_quiet_step (fail)
          refine wpQuiet_nil ?_;intro wq ai;have Gf:=qI (Gj.o.then ai);clear ai a4 y0 y1 y2 y3 a6 ay aQ aF Js;go_wp2_with fail
        all_goals
         go_meet;exact⟨j,rfl,hj,Je,Jf,Gf.o⟩
      case rest=>
       obtain⟨j,rfl,hj,Je,Jf,aT⟩:=hcut;obtain⟨wq,rfl⟩:=XF wc;have Gf:=qI aT;have aV:(j:Int)≤ms.length:=Ws;clear aT;go_upto_region 12 with fail;go_cut [7] from 63 to 76 (fun q wd=>∃ (pb:Nat) (P m3:Int) (E:ByteArray) (p3:Option Addr) (L I:Nat) (Q:Option Addr) (M J:Nat),q = .pointer (some ⟨pb,0,none⟩)∧Hid (wd.heap[pb]? = some (.cells #[.string key,.int .i64 P,.int .i64 m3,.string E,.slice p3 L I,.slice Q M J] 41 (0,0)))∧Hid (zb [] wo wd)∧Hid (Rep n (fun g=>wo.heap.size≤g∧g≠pb) wd [.int .i64 P,.int .i64 m3,.string E,.slice p3 L I,.slice Q M J] (zI n v.m[k].2)));case first=>
        go_wp2_with fail;have aw:=(C.o.kept.heap Jr.o (by simp;omega));have r0:=Gf.o.cell q0 Wz;have r1:=Gf.o.cell q1 Wz;have r2:=Gf.o.cell q2 Wz;have r3:=Gf.o.cell q3 Wz;have r4:=Gf.o.cell q4 Wz;have r5:=Gf.o.cell q5 Wz;have rb:=Gf.o.cell b4 Wz;clear aw;refine zt (n:=16) (fun w':World=>zb [] wq w') 15 Wr Wr ?_;change zS _ _ _ _ _ _ _ _ _ wq.drew;have d:(fun w':World=>zb [] wq w') wq.drew:=(zb.refl [] wq).drew;revert d;generalize wq.drew=W2;intro d;refine zF ?_;intro O R B hR;have z:kI R:=by subst hR;exact fun _ _ _ _ _ h=>h
        refine qT 0 ?_ B rfl rfl Wr z (fun w f=>?_) d ?_;rotate_left;·exact zg
        try simp only [XI]
        refine qT 1 ?_ B rfl rfl Wr z (fun w f=>?_) d ?_;rotate_left;·have s:=f.cell rb Wz;exact zg
        try simp only [XI]
        refine qT 2 ?_ B rfl rfl Wr z (fun w f=>?_) d ?_;rotate_left;·exact zg
        try simp only [XI]
        refine qT 3 ?_ B rfl rfl Wr z (fun w f=>?_) d ?_;rotate_left;·exact zg
        try simp only [XI]
        refine qT 4 ?_ B rfl rfl Wr z (fun w f=>?_) d ?_;rotate_left;·exact zg
        try simp only [XI]
        refine qT 5 ?_ B rfl rfl Wr z (fun w f=>?_) d ?_;rotate_left;·have s:=f.cell r0 Wz;exact zg
        try simp only [XI]
        refine qT 6 ?_ B rfl rfl Wr z (fun w f=>?_) d ?_;rotate_left;·exact zg
        try simp only [XI]
        refine qT 7 ?_ B rfl rfl Wr z (fun w f=>?_) d ?_;rotate_left;·have s:=f.cell rb Wz;exact zg
        try simp only [XI]
        refine qT 8 ?_ B rfl rfl Wr z (fun w f=>?_) d ?_;rotate_left;·exact zg
        try simp only [XI]
        refine qT 9 ?_ B rfl rfl Wr z (fun w f=>?_) d ?_;rotate_left;·exact zg
        try simp only [XI]
        refine qT 10 ?_ B rfl rfl Wr z (fun w f=>?_) d ?_;rotate_left;·exact zg
        try simp only [XI]
        refine qT 11 ?_ B rfl rfl Wr z (fun w f=>?_) d ?_;rotate_left;·have s1:=f.cell r1 Wz;have s2:=f.cell r2 Wz;have E:=f.cell r3 Wz;have s4:=f.cell r4 Wz;have s5:=f.cell r5 Wz;exact zg
        try simp only [XI]
        clear r0 r1 r2 r3 r4 r5 rb;refine Qd (i:=12) (j:=14) B rfl rfl Wr Wr Wr (fun K A=>?_) (fun K A=>?_);case' refine_1=>
         go_simp;refine Calls.mono (IH.o v.m[k].2 (HR.o.k0 (Gf.o.then d)) Jc.o Jd.o) ?_;rintro e w3 ⟨⟨cs',rfl,ad⟩,Z⟩;have D:=ad.rep;obtain⟨P,m3,E,l3,r3,rfl⟩:=D.five;obtain⟨p3,L,I,Q,M,J,rfl,rfl⟩:=D.sl;have aa:(fun w':World=>zb [] wq w') w3:=d.then Z;refine A _ _ (.inr aa) ?_;clear A K;try simp only [XI]
         have Jt:=qI d.size;clear d;have d:=aa;refine qT 13 ?_ B rfl rfl Wr z (fun w f=>?_) d ?_;rotate_left;·exact zg
         try simp only [XI]
         refine qO 14 B rfl Wr (fun K A=>?_);go_simp;have U:(fun w':World=>zb [] wq w') (w3.alloc (.cells #[.string ⟨#[]⟩,.int .i64 0,.int .i64 0,.string ⟨#[]⟩,.slice none 0 0,.slice none 0 0] 41)):=aa.alloc _;refine A _ _ (.inr U) ?_;clear A K;try simp only [XI]
         have Gd:Hid ((w3.alloc (.cells #[.string ⟨#[]⟩,.int .i64 0,.int .i64 0,.string ⟨#[]⟩,.slice none 0 0,.slice none 0 0] 41)).heap[w3.heap.size]? = some (.cells #[.string ⟨#[]⟩,.int .i64 0,.int .i64 0,.string ⟨#[]⟩,.slice none 0 0,.slice none 0 0] 41 (0,0))):=qI (ze rfl);have Ge:Hid (Rep n (fun g=>wq.heap.size≤g∧g≠w3.heap.size) (w3.alloc (.cells #[.string ⟨#[]⟩,.int .i64 0,.int .i64 0,.string ⟨#[]⟩,.slice none 0 0,.slice none 0 0] 41)) [.int .i64 P,.int .i64 m3,.string E,.slice p3 L I,.slice Q M J] (zI n v.m[k].2)):=qI (D.move ((zb.refl [] w3).alloc _) (fun g W h1=>⟨Wz,by have:=Jt.o;omega,Ws⟩));have Gq:Hid (wq.heap.size≤w3.heap.size):=qI aa.size;clear d ad D Z aa Jt;have d:=U;clear U;revert Gd Ge Gq d;generalize w3.heap.size=pb;generalize w3.alloc (.cells #[.string ⟨#[]⟩,.int .i64 0,.int .i64 0,.string ⟨#[]⟩,.slice none 0 0,.slice none 0 0] 41)=w4;intro Gd Ge Gq d;clear w3
        case' refine_2=>
         go_simp;have U:(fun w':World=>zb [] wq w') (W2.alloc (.cells #[.string ⟨#[]⟩,.int .i64 0,.int .i64 0,.string ⟨#[]⟩,.slice none 0 0,.slice none 0 0] 41)):=d.alloc _;refine A _ _ (.inr U) ?_;clear A K;try simp only [XI]
         have Jg:Hid ((W2.alloc (.cells #[.string ⟨#[]⟩,.int .i64 0,.int .i64 0,.string ⟨#[]⟩,.slice none 0 0,.slice none 0 0] 41)).heap[W2.heap.size]? = some (.cells #[.string ⟨#[]⟩,.int .i64 0,.int .i64 0,.string ⟨#[]⟩,.slice none 0 0,.slice none 0 0] 41 (0,0))):=qI (ze rfl);have Gi:Hid ((W2.alloc (.cells #[.string ⟨#[]⟩,.int .i64 0,.int .i64 0,.string ⟨#[]⟩,.slice none 0 0,.slice none 0 0] 41)).heap.size=W2.heap.size+1):=qI Wz;have Gq:Hid (wq.heap.size≤W2.heap.size):=qI d.size;clear d;have d:=U;clear U;revert Jg Gi Gq d;generalize W2.heap.size=pb;generalize W2.alloc (.cells #[.string ⟨#[]⟩,.int .i64 0,.int .i64 0,.string ⟨#[]⟩,.slice none 0 0,.slice none 0 0] 41)=W3;intro Jg Gi Gq d;refine qO 12 B rfl Wr (fun K A=>?_);go_simp;refine Calls.mono (IH.o v.m[k].2 (HR.o.k0 (Gf.o.then d)) Jc.o Jd.o) ?_;rintro e w4 ⟨⟨cs',rfl,ad⟩,Z⟩;have D:=ad.rep;obtain⟨P,m3,E,l3,r3,rfl⟩:=D.five;obtain⟨p3,L,I,Q,M,J,rfl,rfl⟩:=D.sl;have Gd:=qI (Z.heap Jg.o Wz);have Ge:Hid (Rep n (fun g=>wq.heap.size≤g∧g≠pb) w4 [.int .i64 P,.int .i64 m3,.string E,.slice p3 L I,.slice Q M J] (zI n v.m[k].2)):=qI (D.mono (fun g W h1=>by have:=Gi.o;have:=Gq.o;omega));have U:(fun w':World=>zb [] wq w') w4:=d.then Z;refine A _ _ (.inr U) ?_;clear A K;try simp only [XI]
         clear d ad D Z Jg Gi;have d:=U;clear U W3;refine qT 13 ?_ B rfl rfl Wr z (fun w f=>?_) d ?_;rotate_left;·exact zg
         try simp only [XI]
        all_goals
         clear W2;have b2:=za (o:=0) (v:=.string ⟨#[]⟩) Gd.o rfl;have bn:=za (o:=1) (v:=.int .i64 0) Gd.o rfl;have b7:=za (o:=2) (v:=.int .i64 0) Gd.o rfl;have bs:=za (o:=3) (v:=.string ⟨#[]⟩) Gd.o rfl;have bz:=za (o:=4) (v:=.slice none 0 0) Gd.o rfl;have aS:=za (o:=5) (v:=.slice none 0 0) Gd.o rfl;have cj:=zh (o:=0) Gd.o;have cb:=zh (o:=1) Gd.o;have ca:=zh (o:=2) Gd.o;have ch:=zh (o:=3) Gd.o;have b6:=zh (o:=4) Gd.o;have aG:=zh (o:=5) Gd.o;refine qO 15 B rfl Wr (fun K A=>?_);go_simp;refine A _ _ (.inl rfl) ?_;clear A K;try simp only [XI]
         refine zz B Wr ?_ _;subst hR;try clear z B O
         clear b2 bn b7 bs bz aS cj cb ca ch b6 aG;have KC:zb [pb] w4 ((((((w4.setCell ⟨pb,0,none⟩ (.string key)).setCell ⟨pb,1,none⟩ (.int .i64 P)).setCell ⟨pb,2,none⟩ (.int .i64 m3)).setCell ⟨pb,3,none⟩ (.string E)).setCell ⟨pb,4,none⟩ (.slice p3 L I)).setCell ⟨pb,5,none⟩ (.slice Q M J)):=(((((Wd.setCell (p:=⟨pb,0,none⟩) (.inl Wz) _).setCell (p:=⟨pb,1,none⟩) (.inl Wz) _).setCell (p:=⟨pb,2,none⟩) (.inl Wz) _).setCell (p:=⟨pb,3,none⟩) (.inl Wz) _).setCell (p:=⟨pb,4,none⟩) (.inl Wz) _).setCell (p:=⟨pb,5,none⟩) (.inl Wz) _;have Gg:=qI (zd (v:=.slice Q M J) (i:=5) (zd (v:=.slice p3 L I) (i:=4) (zd (v:=.string E) (i:=3) (zd (v:=.int .i64 m3) (i:=2) (zd (v:=.int .i64 P) (i:=1) (zd (v:=.string key) (i:=0) Gd.o rfl) rfl) rfl) rfl) rfl) rfl);revert KC Gg;generalize (((((w4.setCell ⟨pb,0,none⟩ (.string key)).setCell ⟨pb,1,none⟩ (.int .i64 P)).setCell ⟨pb,2,none⟩ (.int .i64 m3)).setCell ⟨pb,3,none⟩ (.string E)).setCell ⟨pb,4,none⟩ (.slice p3 L I)).setCell ⟨pb,5,none⟩ (.slice Q M J)=WC;intro KC Gg;have Gr:Hid (zb [] wo WC):=qI (Gf.o.trans (zb.trans (X:=[]) d KC (fun i hi=>by simp at hi;subst hi;exact .inr Gq.o)) Wz);have Mb:Hid (wo.heap.size≤wq.heap.size):=qI Gf.o.size;have Gh:Hid (Rep n (fun g=>wo.heap.size≤g∧g≠pb) WC [.int .i64 P,.int .i64 m3,.string E,.slice p3 L I,.slice Q M J] (zI n v.m[k].2)):=qI (Ge.o.move KC (fun g W h1=>⟨by simp;exact h1.2,by have:=Mb.o;omega,h1.2⟩));clear Gd Ge KC d w4;go_wp2;go_meet;exact⟨pb,P,m3,E,p3,L,I,Q,M,J,rfl,Gg,Gr,Gh⟩
       case rest=>
        obtain⟨pb,P,m3,E,p3,L,I,Q,M,J,rfl,Gg,Gr,Gh⟩:=hcut;obtain⟨WC,rfl⟩:=XF wc;have x0:=za (o:=0) (v:=.string key) Gg.o rfl;have x1:=za (o:=1) (v:=.int .i64 P) Gg.o rfl;have x2:=za (o:=2) (v:=.int .i64 m3) Gg.o rfl;have x3:=za (o:=3) (v:=.string E) Gg.o rfl;have x4:=za (o:=4) (v:=.slice p3 L I) Gg.o rfl;have x5:=za (o:=5) (v:=.slice Q M J) Gg.o rfl;have xf:=Gr.o.cell f4 Wz;have aN:∀ p,p∈mk→p.2.length=5:=fun p hp=>by obtain⟨y,-,hy⟩:=C.o.all.mem_left hp;exact hy.2.len
        obtain⟨a1,c1,co,aH⟩:=slc_head kS ((Slc.of_row C.o.row).k0 Gr.o) j hj;obtain⟨a2,c2,cd,aR⟩:=slc_tail kS ((Slc.of_row C.o.row).k0 Gr.o) j hj;rw [J1 _ _ aN] at aH;rw [JY _ _ aN] at aR;have Jj:=qI aH;have Mc:=qI aR;have Jk:Hid (∀ u∈zZ (mk.take j),u.oneCell'=true):=qI (zbO (C.o.all.take j) (fun c y r=>r.one));have Md:Hid (∀ u∈zZ (mk.drop j),u.oneCell'=true):=qI (zbO (C.o.all.drop j) (fun c y r=>r.one));have ct:(j:Int)≤ms.length:=aV;clear aH aR aN;go_wp2_with fail;refine zt (n:=16) (fun w':World=>zb [] WC w') 15 Wr Wr ?_;change zS _ _ _ _ _ _ _ _ _ WC.drew;have d:(fun w':World=>zb [] WC w') WC.drew:=(zb.refl [] WC).drew;revert d;generalize WC.drew=W5;intro d;refine zF ?_;intro O R B hR;have z:kI R:=by subst hR;exact fun _ _ _ _ _ h=>h
        refine qT 1 ?_ B rfl rfl Wr z (fun w f=>?_) d ?_;rotate_left;·exact zg
        try simp only [XI]
        refine qT 2 ?_ B rfl rfl Wr z (fun w f=>?_) d ?_;rotate_left;·have s:=f.cell xf Wz;exact zg
        try simp only [XI]
        refine qT 3 ?_ B rfl rfl Wr z (fun w f=>?_) d ?_;rotate_left;·exact zg
        try simp only [XI]
        refine qT 4 ?_ B rfl rfl Wr z (fun w f=>?_) d ?_;rotate_left;·exact zg
        try simp only [XI]
        refine qT 6 ?_ B rfl rfl Wr z (fun w f=>?_) d ?_;rotate_left;·have s0:=f.cell x0 Wz;have s1:=f.cell x1 Wz;have s2:=f.cell x2 Wz;have E:=f.cell x3 Wz;have s4:=f.cell x4 Wz;have s5:=f.cell x5 Wz;exact zg
        try simp only [XI]
        refine qT 9 ?_ B rfl rfl Wr z (fun w f=>?_) d ?_;rotate_left;·exact zg
        try simp only [XI]
        refine qT 10 ?_ B rfl rfl Wr z (fun w f=>?_) d ?_;rotate_left;·have s:=f.cell xf Wz;exact zg
        try simp only [XI]
        refine qT 11 ?_ B rfl rfl Wr z (fun w f=>?_) d ?_;rotate_left;·exact zg
        try simp only [XI]
        refine qT 12 ?_ B rfl rfl Wr z (fun w f=>?_) d ?_;rotate_left;·exact zg
        try simp only [XI]
        clear x0 x1 x2 x3 x4 x5 xf co cd;refine Qd (i:=0) (j:=7) B rfl rfl Wr Wr Wr (fun K A=>?_) (fun K A=>?_);case' refine_2=>
         go_simp;have kA:(fun w':World=>zb [] WC w') (W5.alloc (.cells #[.string key,.int .i64 P,.int .i64 m3,.string E,.slice p3 L I,.slice Q M J] 41)):=d.alloc _;have am:=yv W5 [.string key,.int .i64 P,.int .i64 m3,.string E,.slice p3 L I,.slice Q M J] 6 1 41 W5.heap.size rfl rfl Wo;refine A _ _ (.inr kA) ?_;clear A K;try simp only [XI]
         have Jb:=qI d.size;clear d;have d:=kA;refine qO 0 B rfl Wr (fun K A=>?_);go_simp;have kB:(fun w':World=>zb [] WC w') ((W5.alloc (.cells #[.string key,.int .i64 P,.int .i64 m3,.string E,.slice p3 L I,.slice Q M J] 41)).alloc (.cells #[] 41)):=kA.alloc _;have F:=Ki (t:=41) (size:=6) (base:=WC.heap.size) (W5.alloc (.cells #[.string key,.int .i64 P,.int .i64 m3,.string E,.slice p3 L I,.slice Q M J] 41)) rfl kA.size;have a3:=am.k0 ((zb.refl [] (W5.alloc (.cells #[.string key,.int .i64 P,.int .i64 m3,.string E,.slice p3 L I,.slice Q M J] 41))).alloc (.cells #[] 41));rw [show (W5.alloc (.cells #[.string key,.int .i64 P,.int .i64 m3,.string E,.slice p3 L I,.slice Q M J] 41)).heap.size=W5.heap.size+1 by simp] at F;refine A _ _ (.inr kB) ?_;clear A K;try simp only [XI]
         clear d;have d:=kB;refine qO 5 B rfl Wr (fun K A=>?_);refine ZQ kS F (Jj.o.k0 kB) Jk.o (by simp only [maxLen];omega) Ws kB.size (.tmp 77) (.tmp 81) rfl rfl rfl ?_;intro b1 d1 w2 af aq aO;have ag:(fun w':World=>zb [] WC w') w2:=zb.trans (X:=[]) kB aq (fun i hi=>.inr (by have:=Jb.o;simp [Value.ownBlock] at hi;omega));have Gb:=qI (a3.kept aq (by intro g W N;simp [Value.ownBlock] at N;simp [yx] at W;omega));have Ga:=qI af;refine A _ _ (.inr ag) ?_;clear A K;try simp only [XI]
         clear d kA F kB am a3 aq aO af Jb;have d:=ag;clear ag;revert Gb;generalize W5.heap.size=G;intro Gb
        case' refine_1=>
         go_simp;have kA:(fun w':World=>zb [] WC w') (W5.alloc (.cells #[] 41)):=d.alloc _;have aj:=Ki (t:=41) (size:=6) (base:=WC.heap.size) W5 rfl d.size;refine A _ _ (.inr kA) ?_;clear A K;try simp only [XI]
         refine Qd (i:=5) (j:=7) B rfl rfl Wr Wr Wr (fun K A=>?_) (fun K A=>?_);case' refine_2=>
          go_simp;have kB:(fun w':World=>zb [] WC w') ((W5.alloc (.cells #[] 41)).alloc (.cells #[.string key,.int .i64 P,.int .i64 m3,.string E,.slice p3 L I,.slice Q M J] 41)):=kA.alloc _;have am:=yv (W5.alloc (.cells #[] 41)) [.string key,.int .i64 P,.int .i64 m3,.string E,.slice p3 L I,.slice Q M J] 6 1 41 (W5.heap.size+1) Wz rfl Wo;have F:=zk aj ((zb.refl [] (W5.alloc (.cells #[] 41))).alloc (.cells #[.string key,.int .i64 P,.int .i64 m3,.string E,.slice p3 L I,.slice Q M J] 41)) Wz;refine A _ _ (.inr kB) ?_;clear A K;try simp only [XI]
          have Jb:=qI d.size;clear d;have d:=kB;refine qO 5 B rfl Wr (fun K A=>?_);refine ZQ kS F (Jj.o.k0 kB) Jk.o (by simp only [maxLen];omega) Ws kB.size (.tmp 77) (.tmp 81) rfl rfl rfl ?_;intro b1 d1 w2 af aq aO;have ag:(fun w':World=>zb [] WC w') w2:=zb.trans (X:=[]) kB aq (fun i hi=>.inr (by have:=Jb.o;simp [Value.ownBlock] at hi;omega));have Gb:=qI (am.kept aq (by intro g W N;simp [Value.ownBlock] at N;simp [yx] at W;omega));have Ga:=qI af;refine A _ _ (.inr ag) ?_;clear A K;try simp only [XI]
          clear d kA aj F kB am aq aO af Jb;have d:=ag;clear ag;revert Gb;generalize W5.heap.size+1=G;intro Gb
         case' refine_1=>
          refine ZQ kS aj (Jj.o.k0 kA) Jk.o (by simp only [maxLen];omega) Ws kA.size (.tmp 77) (.tmp 81) rfl rfl rfl ?_;intro b1 d1 w1 F bk cg;have aE:(fun w':World=>zb [] WC w') w1:=zb.trans (X:=[]) kA bk (fun i hi=>.inr (by have:=d.size;simp [Value.ownBlock] at hi;omega));refine A _ _ (.inr aE) ?_;clear A K;try simp only [XI]
          clear aj bk cg kA d;have d:=aE;clear aE;refine qO 7 B rfl Wr (fun K A=>?_);go_simp;have ag:(fun w':World=>zb [] WC w') (w1.alloc (.cells #[.string key,.int .i64 P,.int .i64 m3,.string E,.slice p3 L I,.slice Q M J] 41)):=d.alloc _;have Gb:=qI (yv w1 [.string key,.int .i64 P,.int .i64 m3,.string E,.slice p3 L I,.slice Q M J] 6 1 41 w1.heap.size rfl rfl Wo);have Ga:=qI (zk F ((zb.refl [] w1).alloc (.cells #[.string key,.int .i64 P,.int .i64 m3,.string E,.slice p3 L I,.slice Q M J] 41)) Wz);refine A _ _ (.inr ag) ?_;clear A K;try simp only [XI]
          clear d F;have d:=ag;clear ag;revert Gb Ga d;generalize w1.heap.size=G;generalize w1.alloc (.cells #[.string key,.int .i64 P,.int .i64 m3,.string E,.slice p3 L I,.slice Q M J] 41)=w2;intro Gb Ga d;clear w1
        all_goals
         refine qO 8 B rfl Wr (fun K A=>?_);refine xa kS Ga.o Gb.o (by intro u hu;rcases List.mem_cons.1 hu with rfl | hu <;> first | rfl | exact Gh.o.one u hu) (by simp only [maxLen];omega) Ws d.size (.tmp 82) (.tmp 84) rfl rfl rfl ?_;intro bx dx w3 ao Z cn;have a9:=Ga.o.lt;have aa:(fun w':World=>zb [] WC w') w3:=zb.trans (X:=[]) d Z (fun i hi=>.inr (a9 i (XD hi)).1);refine A _ _ (.inr aa) ?_;clear A K;try simp only [XI]
         clear d a9;have d:=aa;clear aa;refine qO 13 B rfl Wr (fun K A=>?_);refine xa kS ao (Mc.o.k0 d) Md.o (by simp only [maxLen];omega) Ws d.size (.tmp 85) (.tmp 89) rfl rfl rfl ?_;intro b5 d5 w5 ae au a7;have ab:=ao.lt;have an:(fun w':World=>zb [] WC w') w5:=zb.trans (X:=[]) d au (fun i hi=>.inr (ab i (XD hi)).1);refine A _ _ (.inr an) ?_;clear A K;try simp only [XI]
         clear d ab;have d:=an;clear an;refine qO 14 B rfl Wr (fun K A=>?_);go_simp;refine A _ _ (.inr d) ?_;clear A K;try simp only [XI]
         have Gc:=qI ae;have Jl:Hid (zb [] wo w5):=qI (Gr.o.then d);have Ju:Hid (zb [] WC w5):=qI d;have Jm:Hid (w5.heap[w.heap.size+1+1]? = some (.cells (kh v.kind v.num v.s vL (.slice ak ms.length ck)) 25 (0,0))):=qI (Jl.o.heap C.o.blk Wz);have cl:=za (o:=4) Jm.o rfl;have ci:=zh (o:=4) Jm.o;refine qO 15 B rfl Wr (fun K A=>?_);go_simp;refine A _ _ (.inl rfl) ?_;clear A K;try simp only [XI]
         refine zz B Wr ?_ _;subst hR;try clear z B O
         clear cl ci d ao ae Z au cn a7;go_wp2;case roundEnd=>
          have hz:=Ja.o;have cw:=Gr.o.size;have c5:=C.o.kept.size;have cr:=Ju.o.size;have a8:=C.o.row.lt;have ar:=Gc.o.lt;have e1:(ms.take j++(key,zI n v.m[k].2)::ms.drop j).length=j+1+(ms.length-j):=by simp;omega
          have KX:zb [w.heap.size+1+1] w5 (w5.setCell ⟨w.heap.size+1+1,4,none⟩ (.slice b5 (j+1+(ms.length-j)) d5)):=kept_cell _ _ _ _
          refine⟨⟨k+1,_,mk.take j++(key,[.int .i64 P,.int .i64 m3,.string E,.slice p3 L I,.slice Q M J])::mk.drop j,ms.take j++(key,zI n v.m[k].2)::ms.drop j,by go_num,Ws,{
           blk:=zd Jm.o rfl
           row:=?_
           all:=?_
           kept:=?_
           ord:=put_sorted C.o.ord hj (fun t ht h=>Je.o t ht h) Jf.o
           perm:=?_
           lim:=by rw [e1];have:=C.o.lim;omega }⟩,by simp [intOf];omega⟩
          ·rw [e1];have h4:=qi (zk Gc.o KX (fun g W N=>by have:=(ar g W).1;simp at N;omega)) (base':=WL.heap.size) (fun g W=>by have:=(ar g W).1;omega);have e2:zZ (mk.take j++(key,[.int .i64 P,.int .i64 m3,.string E,.slice p3 L I,.slice Q M J])::mk.drop j)=zZ (mk.take j)++[.string key,.int .i64 P,.int .i64 m3,.string E,.slice p3 L I,.slice Q M J]++zZ (mk.drop j):=by simp [zZ,yj]
           rw [e2];exact h4
          ·have aC:∀ (c:ByteArray×List Value) (y:ByteArray×V n),bh (Rep n (fun g=>WL.heap.size≤g∧(Value.slice ak ms.length ck).ownBlock≠some g) wo) c y→bh (Rep n (fun g=>WL.heap.size≤g∧(Value.slice b5 (j+1+(ms.length-j)) d5).ownBlock≠some g) (w5.setCell ⟨w.heap.size+1+1,4,none⟩ (.slice b5 (j+1+(ms.length-j)) d5))) c y:=fun c y r=>
            ⟨r.1,r.2.move ((Jl.o.mono Wz).trans' KX) (fun g W ⟨h1,h2⟩=>⟨by simp;omega,h1,fun h3=>by have:=(ar g h3).1;omega⟩)⟩
           refine ((C.o.all.take j).mono fun c y _ r=>aC c y r).app (zM.cons ⟨rfl,?_⟩ ((C.o.all.drop j).mono fun c y _ r=>aC c y r));exact Gh.o.move ((Ju.o.mono Wz).trans' KX) (fun g W ⟨h1,h2⟩=>⟨by simp;omega,Ws,fun h3=>by have:=(ar g h3).1;omega⟩)
          ·exact (C.o.kept.then Jl.o).trans' KX
          ·rw [List.take_succ_eq_append_getElem al,List.map_append];refine (put_perm ms _ j).trans ?_;have e3:qj (zI n) v.m[k]=(key,zI n v.m[k].2):=by unfold qj;rw [Ji.o]
           rw [List.map_singleton,e3];exact C.o.perm.append (List.Perm.refl _)
     ·obtain rfl:k=v.m.length:=by omega
      have aZ:ms=(v.m.map (qj (zI n))).mergeSort leK:=by
       have hp:=C.o.perm;rw [List.take_length] at hp;have hk:((v.m.map (qj (zI n))).map (fun p=>p.1)).Nodup:=by rw [List.map_map];exact nodup_right Jh.o
       exact QG (hp.trans (jd v).symm) C.o.ord (List.pairwise_mergeSort Qt KY _) ((hp.map _).nodup_iff.2 hk)
      have Me:=qI aZ;have Mf:=qI C.o.lim;have av:=C.o.blk;have d0:=za (o:=0) (v:=.int .i64 v.kind) av rfl;have d1:=za (o:=1) (v:=.int .i64 v.num) av rfl;have d2:=za (o:=2) (v:=.string v.s) av rfl;have I:=za (o:=3) (v:=vL) av rfl;have J:=za (o:=4) (v:=vk) av rfl;have ah:=C.o.kept.heap (Gp.o.kept.heap Jo.o Wz) Wz;obtain⟨aL,cL,rfl,-,-⟩:=(Slc.of_row Gp.o.row).form;obtain⟨aM,cM,rfl,-,-⟩:=(Slc.of_row C.o.row).form;have r0:=za (o:=0) (v:=.int .i64 0) ah rfl;have r1:=za (o:=1) (v:=.int .i64 0) ah rfl;have r2:=za (o:=2) (v:=.string ⟨#[]⟩) ah rfl;have r3:=za (o:=3) (v:=.slice none 0 0) ah rfl;have r4:=za (o:=4) (v:=.slice none 0 0) ah rfl;have s0:=zh (o:=0) ah;have s1:=zh (o:=1) ah;have s2:=zh (o:=2) ah;have E:=zh (o:=3) ah;have s4:=zh (o:=4) ah;clear av ah aZ;go_wp2_with fail;have KF:zb [w.heap.size+1] wr (((((wr.setCell ⟨w.heap.size+1,0,none⟩ (.int .i64 v.kind)).setCell ⟨w.heap.size+1,1,none⟩ (.int .i64 v.num)).setCell ⟨w.heap.size+1,2,none⟩ (.string v.s)).setCell ⟨w.heap.size+1,3,none⟩ (.slice aL v.l.length cL)).setCell ⟨w.heap.size+1,4,none⟩ (.slice aM ms.length cM)):=
       ((((Wd.setCell (p:=⟨w.heap.size+1,0,none⟩) (.inl Wz) _).setCell (p:=⟨w.heap.size+1,1,none⟩) (.inl Wz) _).setCell (p:=⟨w.heap.size+1,2,none⟩) (.inl Wz) _).setCell (p:=⟨w.heap.size+1,3,none⟩) (.inl Wz) _).setCell (p:=⟨w.heap.size+1,4,none⟩) (.inl Wz) _
      have ax:=zd (v:=.slice aM ms.length cM) (i:=4) (zd (v:=.slice aL v.l.length cL) (i:=3) (zd (v:=.string v.s) (i:=2) (zd (v:=.int .i64 v.num) (i:=1) (zd (v:=.int .i64 v.kind) (i:=0) (C.o.kept.heap (Gp.o.kept.heap Jo.o Wz) Wz) rfl) rfl) rfl) rfl) rfl;have x0:=za (o:=0) (v:=.int .i64 v.kind) ax rfl;have x1:=za (o:=1) (v:=.int .i64 v.num) ax rfl;have x2:=za (o:=2) (v:=.string v.s) ax rfl;have x3:=za (o:=3) (v:=.slice aL v.l.length cL) ax rfl;have x4:=za (o:=4) (v:=.slice aM ms.length cM) ax rfl;clear ax d0 d1 d2 I J r0 r1 r2 r3 r4 s0 s1 s2 E s4;revert KF x0 x1 x2 x3 x4;generalize ((((wr.setCell ⟨w.heap.size+1,0,none⟩ (.int .i64 v.kind)).setCell ⟨w.heap.size+1,1,none⟩ (.int .i64 v.num)).setCell ⟨w.heap.size+1,2,none⟩ (.string v.s)).setCell ⟨w.heap.size+1,3,none⟩ (.slice aL v.l.length cL)).setCell ⟨w.heap.size+1,4,none⟩ (.slice aM ms.length cM)=WF;intro KF x0 x1 x2 x3 x4;have cu:=Ja.o;have b0:=Gt.o;have az:=Gp.o.row.lt;have a0:=C.o.row.lt;have cy:=C.o.kept.size;have aD:zb [w.heap.size+1,w.heap.size+1+1] WL WF:=(C.o.kept.mono Wz).trans' (KF.mono Wz);refine bodyPost_ret (v:=.agg #[.int .i64 v.kind,.int .i64 v.num,.string v.s,.slice aL v.l.length cL,.slice aM ms.length cM]) (by simp [results,results69,go_sem,x0,x1,x2,x3,x4]) rfl ⟨⟨[.int .i64 v.kind,.int .i64 v.num,.string v.s,.slice aL v.l.length cL,.slice aM ms.length cM],rfl,?_⟩,?_⟩
      ·rw [bg,← Me.o];refine⟨_,_,lL,mk,rfl,?_,?_,?_,?_,H.o.wfk,H.o.wfn⟩;·simp only [List.length_map];exact qi (zk Gp.o.row aD (fun g W N=>by have:=az g W;simp at N;omega)) (fun g W=>by have:=az g W;omega)
       ·have h1:=Gp.o.all;rw [List.take_length] at h1;exact h1.mono fun _ _ _ r=>r.move aD (fun g W ⟨h2,h3⟩=>⟨by simp;omega,Ws,h3,fun h4=>by have:=(a0 g h4).1;omega⟩)
       ·exact qi (zk C.o.row KF (fun g W N=>by have:=a0 g W;simp at N;omega)) (fun g W=>by have:=a0 g W;omega)
       ·exact C.o.all.mono fun _ _ _ r=>⟨r.1,r.2.move KF (fun g W ⟨h2,h3⟩=>⟨by simp;omega,Ws,fun h4=>by have:=(az g h4).2;omega,h3⟩)⟩
      ·exact Gz.o.trans aD (fun i hi=>by simp at hi;omega)
theorem Y4:∀ (n:Nat),ZT n
 | 0=>fun v=>nomatch v
 | n+1=>fun v _ _ _ h hs hr=>refSort_step (Y4 n) v h hs hr
end Go.Proofs.YtjccecajigmfkaaGreatDoor

/- Parts of one proof, merged: XK3C. -/
import Derived.Test.YtibnfbglanpoiaaGreatDoorQeG
import Derived.Laws.BytesArg
set_option linter.all false
set_option maxHeartbeats 12800000
set_option maxRecDepth 10000
namespace Go.Proofs.YtibnfbglanpoiaaGreatDoor
open Go.Proofs.Tryz
open Go.RowKit
open Go.Lib (decodeL)
theorem xv (l:List UInt8):(yc l).size=l.length:=by simp [yc,ByteArray.size]
theorem zp.toStr {w:World}{v:Value}{l:List UInt8}(h:zp w v l):(convert 53 9 v).run Tryz.prog w = .ok (.string (yc l)) w:=by
 rcases h.2 with ⟨rfl,h0⟩ | ⟨h0,ad,cap,rfl,hm⟩ | ⟨g,o,cap,rfl,hc,hm,hr⟩
 ·have:l=[]:=List.eq_nil_of_length_eq_zero h0
  subst this
  have h1:=run_convert_bytes_nil (P:=Tryz.prog) w 53 5 underlying53 underlying5 0 0 9 underlying9
  have e1:yc []=ByteArray.empty:=Wk
  rw [e1]
  exact h1
 ·have:l=[]:=List.eq_nil_of_length_eq_zero h0
  subst this
  have h1:=run_convert_bytes_string (P:=Tryz.prog) w 53 9 5 (some ad) 0 cap underlying53 underlying5 underlying9
  rw [h1]
  rfl
 ·have h1:=run_convert_bytes_arg (P:=Tryz.prog) w 53 5 underlying53 underlying5 g o l.length cap (l.map fun b=>(b.toNat:Int)) Wz (fun i hi=>by
   rw [hr.at (by simpa using hi)]
   simp [bv,List.getD_eq_getElem?_getD,hi]) 9 underlying9
  have e2:strOfNums (l.map fun b=>(b.toNat:Int))=yc l:=by
   unfold strOfNums yc
   rw [List.map_map]
   have e3:((fun n:Int=>UInt8.ofNat n.toNat) ∘ fun b:UInt8=>(b.toNat:Int))=id:=funext fun b=>by simp
   rw [e3,List.map_id]
  rw [← e2]
  exact h1
theorem refNext_any (s:ByteArray) (hs:s.size≤281474976710656) (w:World) :
  CL w 140 #[.string s] (.tuple #[.int .i64 (bH s.data.toList).1,.int .i64 (bH s.data.toList).2]):=by
 have HZ:=qI (nextGo_eq s.data.toList)
 have HL:Hid (s.data.toList.length=s.size):=qI Wz
 go_enter func140,ntmps140
 go_wp2_with fail
 go_loopw [4] (fun i wr=>∃ k:Nat,1≤k∧k≤5∧i = .int .i64 k∧kx (5-k) k s.data.toList=kx 4 1 s.data.toList∧zb [] w wr) (fun i _=>5-(intOf i).toNat)
 case atStart=>exact⟨1,Ws,Ws,rfl,rfl,Wd⟩
 case round=>
  obtain⟨k,hk1,hk5,rfl,hg,hkr⟩:=hrel
  have HG:=qI hg
  have Ga:=qI hkr
  clear hg hkr
  by_cases hgo:k≤4∧k≤s.size
  ·obtain⟨h4,hks⟩:=hgo
   have h4I:(k:Int)≤4:=Ws
   have hksI:(k:Int)≤s.size:=Ws
   have hg2:kx (5-k) k s.data.toList=if Y0 (kY s.data.toList k)=true∧xX (kY s.data.toList k).toNat=s.data.toList.take k then (kY s.data.toList k,k) else kx (5-(k+1)) (k+1) s.data.toList:=by
    rw [show 5-k=(5-(k+1))+1 by omega]
    conv=>lhs;unfold kx
    rw [if_pos ⟨h4,by rw [HL.o];exact hks⟩]
   have Gb:=qI hg2
   have CC:=qI (code_any s k hk1 h4 hks hs wr)
   have HT:Hid ((s.extract 0 k).data.toList=s.data.toList.take k):=qI (by rw [ext_list s 0 k hks];simp)
   clear hg2
   revert Gb CC
   generalize kY s.data.toList k=c
   intro Gb CC
   cases hmay:Y0 c with
   | false=>
    have HM:=qI hmay
    clear hmay
    go_wp2_with (go_at_call 175;refine CC.o.mono ?_;rintro e w2 ⟨rfl,rfl⟩)
    refine yn wr Wr Wr Wd ?_
    repeat go_big_quiet_step ((go_at_call 176;exact ext_same ((may_any c _).mono (by rw [HM.o];exact fun _ _ h=>h))))
    refine wpQuiet_nil ?_
    intro w2 hk2
    go_wp2_with fail
    case roundEnd=>
     refine⟨⟨k+1,Ws,Ws,by go_num,?_,Ga.o.then hk2⟩,by simp [intOf];omega⟩
     rw [← HG.o,Gb.o,if_neg (by rw [HM.o];simp)]
   | true=>
    obtain⟨m,rfl,hm⟩:=Qd.1 hmay
    have HM:=qI hmay
    have Gd:=qI hm
    clear hmay hm
    go_wp2_with (go_at_call 175;refine CC.o.mono ?_;rintro e w2 ⟨rfl,rfl⟩)
    refine zv (n:=11) (fun w':World=>zb [] wr w') 11 Wr Wr ?_
    change zX _ _ _ _ _ _ _ _ _ wr.drew
    have hSS:(fun w':World=>zb [] wr w') wr.drew:=Wd.drew
    revert hSS
    generalize wr.drew=W
    intro hSS
    refine zL ?_
    intro O R hO hR
    have hQp:jC R:=by subst hR;exact fun _ _ _ _ _ h=>h
    refine qT 0 ?_ hO rfl rfl Wr hQp (fun w hSw=>?_) hSS ?_
    rotate_left
    ·exact zi
    try simp only [zA,zN,zB,zC,zD]
    refine qO 1 hO rfl Wr (fun K hK=>?_)
    go_simp
    refine Calls.mono (may_any _ _) ?_
    rintro e w2 ⟨rfl,rfl⟩
    rw [HM.o]
    refine hK _ _ (.inr hSS) ?_
    clear hK K
    try simp only [zA,zN,zB,zC,zD]
    refine qT 2 ?_ hO rfl rfl Wr hQp (fun w hSw=>?_) hSS ?_
    rotate_left
    ·exact zi
    try simp only [zA,zN,zB,zC,zD]
    refine qT 3 ?_ hO rfl rfl Wr hQp (fun w hSw=>?_) hSS ?_
    rotate_left
    ·exact zi
    try simp only [zA,zN,zB,zC,zD]
    refine qT 6 ?_ hO rfl rfl Wr hQp (fun w hSw=>?_) hSS ?_
    rotate_left
    ·exact zi
    try simp only [zA,zN,zB,zC,zD]
    refine qT 7 ?_ hO rfl rfl Wr hQp (fun w hSw=>?_) hSS ?_
    rotate_left
    ·exact zi
    try simp only [zA,zN,zB,zC,zD]
    refine qT 8 ?_ hO rfl rfl Wr hQp (fun w hSw=>?_) hSS ?_
    rotate_left
    ·exact zi
    try simp only [zA,zN,zB,zC,zD]
    refine qO 4 hO rfl Wr (fun K hK=>?_)
    go_simp
    refine Calls.mono (refBytes_any m Gd.o _) ?_
    rintro e w2 ⟨⟨ab,cb,rfl,hb⟩,hk2⟩
    have cv:(convert 53 9 (.slice ab (xX m).length cb)).run Tryz.prog w2 = .ok (.string (yc (xX m))) w2:=zp.toStr hb
    have hS2:(fun w':World=>zb [] wr w') w2:=zb.trans' hSS hk2
    refine hK _ _ (.inr hS2) ?_
    clear hK K
    try simp only [zA,zN,zB,zC,zD]
    clear hSS
    have hSS:=hS2
    clear hS2 hb
    refine qO 5 hO rfl Wr (fun K hK=>?_)
    go_simp
    refine hK _ _ (.inr hSS) ?_
    clear hK K
    try simp only [zA,zN,zB,zC,zD]
    clear cv
    by_cases heq:xX m=s.data.toList.take k
    ·have ft:((yc (xX m)).toList == (s.extract 0 k).toList)=true:=(ky (ba_eq (by rw [xZ,HT.o,heq]))).1
     have Gc:Hid (kx (5-k) k s.data.toList=((m:Int),k)):=qI (by rw [Gb.o,if_pos ⟨HM.o,by rw [Int.toNat_natCast];exact heq⟩])
     clear heq
     refine qT 9 ?_ hO rfl rfl Wr hQp (fun w hSw=>?_) hSS ?_
     rotate_left
     ·exact zi
     try simp only [zA,zN,zB,zC,zD]
     refine qT 10 ?_ hO rfl rfl Wr hQp (fun w hSw=>?_) hSS ?_
     rotate_left
     ·exact zi
     try simp only [zA,zN,zB,zC,zD]
     refine zF hO Wr ?_ _
     subst hR
     try clear hQp hO O
     go_wp2_with fail
     go_ret2
     rw [← HZ.o,← HG.o,Gc.o]
     exact⟨rfl,Ga.o.then hSS⟩
    ·have ft:((yc (xX m)).toList == (s.extract 0 k).toList)=false:=(ke (fun e=>heq (by rw [← HT.o,← e,xZ]))).1
     have Gc:Hid (kx (5-k) k s.data.toList=kx (5-(k+1)) (k+1) s.data.toList):=qI (by rw [Gb.o,if_neg (fun e=>heq (by have:=e.2;rw [Int.toNat_natCast] at this;exact this))])
     clear heq
     refine qT 9 ?_ hO rfl rfl Wr hQp (fun w hSw=>?_) hSS ?_
     rotate_left
     ·exact zi
     try simp only [zA,zN,zB,zC,zD]
     refine qT 10 ?_ hO rfl rfl Wr hQp (fun w hSw=>?_) hSS ?_
     rotate_left
     ·exact zi
     try simp only [zA,zN,zB,zC,zD]
     refine zF hO Wr ?_ _
     subst hR
     try clear hQp hO O
     go_wp2_with fail
     case roundEnd=>exact⟨⟨k+1,Ws,Ws,by go_num,by rw [← HG.o,Gc.o],Ga.o.then hSS⟩,by simp [intOf];omega⟩
  ·have Gc:Hid (bH s.data.toList=(-1,0)):=qI (by
    rw [← HZ.o,← HG.o]
    rcases (by omega:k=5∨(k≤4∧s.size<k)) with rfl | ⟨h1,h2⟩
    ·rfl
    ·rw [show 5-k=(4-k)+1 by omega]
     unfold kx
     rw [if_neg (by rw [HL.o];omega)])
   rcases (by omega:(5:Int)≤k∨((k:Int)≤4∧(s.size:Int)<k)) with h1 | ⟨h1,h2⟩
   all_goals
    go_wp2_with fail
    go_ret2
    rw [Gc.o]
    exact⟨rfl,Ga.o⟩
theorem next_valid {l:List UInt8}(h:l≠[]):((bH l).2=0∧Lib.validD l=false)∨(1≤(bH l).2∧(bH l).2≤l.length∧Lib.validD l=Lib.validD (l.drop (bH l).2)):=by
 by_cases hb:(decodeL l).1=65533∧(decodeL l).2=1
 ·refine .inl ⟨?_,?_⟩
  ·unfold bH;rw [if_pos (.inr hb)]
  ·rw [Lib.validD_step l h,if_pos hb]
 ·have D:=decoded h hb
  have e:bH l=(((decodeL l).1:Int),(decodeL l).2):=by unfold bH;rw [if_neg (by rintro (q | q);exact h q;exact hb q)]
  refine .inr ⟨?_,?_,?_⟩
  ·rw [e];exact D.pos
  ·rw [e];exact D.le
  ·rw [e,Lib.validD_step l h,if_neg hb]
theorem bY (s:ByteArray) (hs:s.size≤281474976710656) (w:World) :
  CL w 103 #[.string s] (.bool (zQ s)):=by
 go_enter func103,ntmps103
 go_wp2_with fail
 go_loopw [0] (fun x wr=>∃ t:ByteArray,x = .string t∧t.size≤s.size∧zQ t=zQ s∧zb [] w wr) (fun x _=>match x with | .string t=>t.size | _=>0)
 case atStart=>exact⟨s,rfl,Nat.le_refl _,rfl,Wd⟩
 case round=>
  obtain⟨t,rfl,ht,hg,hkr⟩:=hrel
  have HG:=qI hg
  have Ga:=qI hkr
  clear hg hkr
  by_cases h0:0<t.size
  ·have h0I:(0:Int)<t.size:=by omega
   have hlen:t.data.toList.length=t.size:=Wz
   have hne:t.data.toList≠[]:=fun e=>by rw [e] at hlen;simp only [List.length_nil] at hlen;omega
   have CN:=qI (refNext_any t Ws wr)
   have hv:=next_valid hne
   have HX:Hid (∀ i,(t.extract i t.size).data.toList=t.data.toList.drop i):=qI (ext_from t)
   unfold zQ at HG
   rw [hlen] at hv
   clear hne hlen
   revert CN hv
   generalize bH t.data.toList=r
   obtain⟨c,k⟩:=r
   intro CN hv
   simp only at CN hv
   rcases hv with ⟨rfl,hv⟩ | ⟨hk1,hk2,hv⟩
   ·have HF:Hid (zQ s=false):=qI (by unfold zQ;rw [← HG.o,hv])
    clear hv
    go_wp2_with (go_at_call 140;refine CN.o.mono ?_;rintro e w2 ⟨rfl,hk2⟩)
    go_ret
    rw [HF.o]
    exact⟨rfl,Ga.o.then hk2⟩
   ·have hk1I:(1:Int)≤k:=by omega
    have hk2I:(k:Int)≤t.size:=Ws
    have fk:=(QI (a:=k) (b:=0) Ws).1
    have HV:=qI hv
    clear hv
    go_wp2_with (go_at_call 140;refine CN.o.mono ?_;rintro e w2 ⟨rfl,hk2⟩)
    case roundEnd=>
     refine⟨⟨t.extract k t.size,rfl,by simp;omega,?_,Ga.o.then hk2⟩,by simp;omega⟩
     unfold zQ
     rw [HX.o,← HV.o,HG.o]
  ·have h1:t.size=0:=by omega
   have HF:Hid (zQ s=true):=qI (by
    rw [← HG.o]
    have:t.data.toList=[]:=List.eq_nil_of_length_eq_zero (by simpa using h1)
    unfold zQ
    rw [this]
    rfl)
   have h0':¬ (0:Int)<t.size:=Ws
   clear h1
   go_wp2_with fail
   go_ret
   rw [HF.o]
   exact⟨rfl,Ga.o⟩
end Go.Proofs.YtibnfbglanpoiaaGreatDoor

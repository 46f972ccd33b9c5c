/- Parts of one proof, merged: XWr XWs XGR. -/
import Derived.Test.YtibnfbglanpoiaaGreatDoorQbM
import Derived.Test.YtibnfbglanpoiaaGreatDoorQbAJ
import Derived.Laws.OwnMore
import Derived.Test.YtibnfbglanpoiaaGreatDoorQbO
import Derived.Test.YtibnfbglanpoiaaGreatDoorQbAH
import Derived.Test.YtibnfbglanpoiaaGreatDoorQbQ
import Derived.ChangeKeysEq
set_option linter.all false
set_option maxHeartbeats 12800000
set_option maxRecDepth 10000
set_option linter.unusedVariables false
set_option linter.unusedSimpArgs false
set_option linter.unnecessarySimpa false
namespace Go.Proofs.YtibnfbglanpoiaaGreatDoor
open Go.Proofs.Tryz
open Go.RowKit
theorem one_hex (k:Nat) (hk:k < 16):(⟨#[48,49,50,51,52,53,54,55,56,57,97,98,99,100,101,102]⟩:ByteArray).extract k (k + 1)=⟨#[xX k]⟩:=by
 have:k=0∨k=1∨k=2∨k=3∨k=4∨k=5∨k=6∨k=7∨k=8∨k=9∨k=10∨k=11∨k=12∨k=13∨k=14∨k=15:=by omega
 rcases this with rfl | rfl | rfl | rfl | rfl | rfl | rfl | rfl | rfl | rfl | rfl | rfl | rfl | rfl | rfl | rfl <;> rfl
theorem refHex_any (z:Int) (h0:0≤z) (h1:z < 16) (w:World):Calls Tryz.prog 123 #[.int .i64 z] w fun e w'=>e = .returned (.string ⟨#[xX z.toNat]⟩)∧w=w':=by
 obtain⟨k,rfl⟩:=Int.eq_ofNat_of_zero_le h0
 have hk:k < 16:=by omega
 have hs:=qI (one_hex k hk)
 have hT:Hid ((k:Int).toNat=k):=qI (by simp)
 clear h0 h1
 go_enter func123,ntmps123
 go_wp2_with fail
 go_ret
 rw [hT.o,← hs.o]
 exact⟨rfl,rfl⟩
theorem quote_at (s:ByteArray) (k:Nat) (h:k < s.size):34 :: (s.data.toList.take (k + 1)).flatMap zO=(34 :: (s.data.toList.take k).flatMap zO) ++ zO (s[k]'h):=by
 rw [List.take_succ_eq_append_getElem (by simpa using h),List.flatMap_append,List.cons_append]
 simp only [List.flatMap_cons,List.flatMap_nil,List.append_nil]
 rfl
theorem ZH (s:ByteArray) (hs:s.size≤1000000) (w:World) :
  Calls Tryz.prog 90 #[.string s] w fun e w'=>e = .returned (.string (yc (yn s.data.toList)))∧zb [] w w':=by
 have HL:Hid (s.data.toList.length=s.size):=qI (by simp)
 have Jh:Hid ((w.alloc (.cells #[.int .u8 34] 5)).ownsRow w.heap.size 5 1 (.slice (some ⟨w.heap.size,0,none⟩) 1 1) 1 [.int .u8 34]):=qI (World.ownsRow_lit w #[.int .u8 34] 1 (Nat.le_refl _) (by decide) rfl)
 have Gh:Hid (zb [] w (w.alloc (.cells #[.int .u8 34] 5))):=qI ((zb.refl [] w).alloc _)
 go_enter func90,ntmps90
 go_wp2_with fail
 go_loopw [3,4] (fun o i wr=>∃ (k:Nat) (a:Option Addr) (c:Nat) (L:List UInt8),i = .int .i64 k∧k≤s.size∧L=34 :: (s.data.toList.take k).flatMap zO∧o = .slice a L.length c∧wr.ownsRow w.heap.size 5 1 (.slice a L.length c) L.length (L.map bv)∧zb [] w wr) (fun _ i _=>s.size - (intOf i).toNat)
 case atStart=>exact⟨0,_,_,[34],rfl,Nat.zero_le _,rfl,rfl,Jh.o,Gh.o⟩
 case round=>
  obtain⟨k,a,c,L,rfl,hk,hL,rfl,hr,hkw⟩:=hrel
  have HR:=qI hr
  have Gb:=qI hkw
  have hq:L.length≤6000001:=by
   have:=QC s.data.toList k
   rw [HL.o] at this
   rw [hL,List.length_cons]
   omega
  have Jc:=qI hL
  have Gt:=qI hr.lt
  clear hr hkw hL
  by_cases hlt:k < s.size
  ·have hltI:(k:Int) < s.size:=by omega
   have Gq:Hid (34 :: (s.data.toList.take (k + 1)).flatMap zO=L ++ zO (s[k]'hlt)):=qI (by rw [Jc.o];exact quote_at s k hlt)
   have hx:((s[k]'hlt).toNat:Int)≤255:=by have:=(s[k]'hlt).toNat_lt;omega
   revert hx Gq
   generalize hsk:s[k]'hlt=x
   intro Gq hx
   by_cases h32:x.toNat < 32
   ·obtain⟨z,hz⟩:∃ z:Int,z=(x.toNat:Int):=⟨_,rfl⟩
    have hz0:0≤z:=by omega
    have hz1:z < 32:=by omega
    have hne:(z == 34)=false∧(z == 92)=false:=⟨(xn (by omega)).1,(xn (by omega)).1⟩
    obtain⟨g1,g2⟩:=hne
    have hsk2:((s[k]'hlt).toNat:Int)=z:=by rw [hsk];exact hz.symm
    have HQ:Hid (zO x=[92,117,48,48,xX (z / 16).toNat,xX (z % 16).toNat]):=qI (by
     unfold zO
     rw [if_pos h32,hz]
     have e1:((x.toNat:Int) / 16).toNat=x.toNat / 16:=by omega
     have e2:((x.toNat:Int) % 16).toNat=x.toNat % 16:=by omega
     rw [e1,e2])
    have hq0:0≤z / 16:=by omega
    have hq1:z / 16 < 16:=by omega
    have hr0:0≤z % 16:=by omega
    have hr1:z % 16 < 16:=by omega
    obtain⟨i0,hi,hz0',hz1',hz2'⟩:=info_parts Zt.info
    have HI:=qI hi
    have HZ:=qI (And.intro hz0' (And.intro hz1' hz2'))
    clear hi hz0' hz1' hz2' hz hsk hx h32
    have Gu:Hid (((⟨#[92,117,48,48]⟩:ByteArray) ++ ⟨#[xX (z / 16).toNat]⟩ ++ ⟨#[xX (z % 16).toNat]⟩).size=6∧((⟨#[92,117,48,48]⟩:ByteArray) ++ ⟨#[xX (z / 16).toNat]⟩ ++ ⟨#[xX (z % 16).toNat]⟩).data.toList=zO x):=qI ⟨by simp [ByteArray.size_append];rfl,by rw [HQ.o];simp⟩
    go_wp2_with (first
     | (go_at_call 123;refine (refHex_any _ (by omega) (by omega) _).mono ?_;rintro e w' ⟨rfl,rfl⟩)
     | (at_builtin;refine Lib.wpList_append_own_string _ rfl _ _ 53 9 rfl w.heap.size 5 i0 underlying53 underlying9 HI.o HZ.o.1 HZ.o.2.1 HZ.o.2.2 (.slice a L.length c) L.length (L.map bv) rfl HR.o ((⟨#[92,117,48,48]⟩:ByteArray) ++ ⟨#[xX (z / 16).toNat]⟩ ++ ⟨#[xX (z % 16).toNat]⟩) rfl (by rw [Gu.o.1];simp only [maxLen];omega) (by rw [Gu.o.1];omega) Gb.o.size ?_;intro v2 w2 hown2 hg2 _;have Gc:=qI hown2;have Ji:=qI hg2;clear hown2 hg2))
    case roundEnd=>
     have h9:=Gc.o
     rw [show Lib.strCells ((⟨#[92,117,48,48]⟩:ByteArray) ++ ⟨#[xX (z / 16).toNat]⟩ ++ ⟨#[xX (z % 16).toNat]⟩)=(((⟨#[92,117,48,48]⟩:ByteArray) ++ ⟨#[xX (z / 16).toNat]⟩ ++ ⟨#[xX (z % 16).toNat]⟩).data.toList).map bv from rfl,Gu.o.2,Gu.o.1] at h9
     obtain⟨a',c',rfl,-,-⟩:=(Slc.of_row h9).form
     have hl6:(L ++ zO x).length=L.length + 6:=by rw [HQ.o];simp
     refine⟨⟨k + 1,a',c',L ++ zO x,by go_num,by omega,Gq.o.symm,by rw [hl6],by rw [hl6,List.map_append];exact h9,?_⟩,by simp [intOf];omega⟩
     exact Gb.o.grown Ji.o (fun g hg=>.inr (Gt.o g hg).1)
   ·have h32I:¬ (x.toNat:Int) < 32:=by omega
    by_cases hc:x=34∨x=92
    ·have HQ:Hid (zO x=[92,x]):=qI (by unfold zO;rw [if_neg h32,if_pos hc])
     have hg:((x.toNat:Int) == 34)=true∨(((x.toNat:Int) == 34)=false∧((x.toNat:Int) == 92)=true):=by
      rcases hc with rfl | rfl
      ·exact .inl rfl
      ·exact .inr ⟨rfl,rfl⟩
     have Gd:=qI (zY wr [.int .u8 92,bv x] 1 2 5 wr.heap.size rfl rfl (by decide))
     have Ge:=qI (zk HR.o ((zb.refl [] wr).alloc (.cells #[.int .u8 92,bv x] 5)) (by simp))
     have Gw:Hid (∀ (v':Value) (w':World),w'.ownsRow w.heap.size 5 1 v' (L.length + 2) (L.map bv ++ [.int .u8 92,bv x])→∃ a' c',v' = .slice a' (L ++ zO x).length c'∧w'.ownsRow w.heap.size 5 1 (.slice a' (L ++ zO x).length c') (L ++ zO x).length ((L ++ zO x).map bv)):=qI (by
      intro v' w' h
      obtain⟨a',c',rfl,-,-⟩:=(Slc.of_row h).form
      rw [HQ.o]
      exact⟨a',c',by simp,by simpa [bv] using h⟩)
     clear hc h32
     unfold bv at Gd Ge
     rcases hg with g1 | ⟨g1,g2⟩
     all_goals
      go_wp2_with (at_builtin;refine zj Zt Ge.o Gd.o (by intro u hu;simp at hu;rcases hu with rfl | rfl <;> rfl) (by simp only [maxLen];omega) (by omega) (by have:=Gb.o.size;simp;omega) rfl _ _ rfl rfl rfl ?_;intro v' w' hown hk2 _ hbk;have Gc:=qI hown;have Gf:=qI hk2;clear hown hk2 hbk)
      case roundEnd=>
       obtain⟨a',c',rfl,h9⟩:=Gw.o _ _ Gc.o
       refine⟨⟨k + 1,a',c',_,by go_num,by omega,Gq.o.symm,rfl,h9,?_⟩,by simp [intOf];omega⟩
       exact ((Gb.o.alloc _).trans Gf.o (fun i hi=>.inr (Gt.o i (Option.mem_toList.1 hi)).1))
    ·have HQ:Hid (zO x=[x]):=qI (by unfold zO;rw [if_neg h32,if_neg hc])
     have hg1:((x.toNat:Int) == 34)=false:=(xn (fun e=>hc (.inl (UInt8.toNat_inj.1 (show x.toNat=34 by omega))))).1
     have hg2:((x.toNat:Int) == 92)=false:=(xn (fun e=>hc (.inr (UInt8.toNat_inj.1 (show x.toNat=92 by omega))))).1
     have Gd:=qI (zY wr [bv x] 1 1 5 wr.heap.size rfl rfl (by decide))
     have Ge:=qI (zk HR.o ((zb.refl [] wr).alloc (.cells #[bv x] 5)) (by simp))
     have Gw:Hid (∀ (v':Value) (w':World),w'.ownsRow w.heap.size 5 1 v' (L.length + 1) (L.map bv ++ [bv x])→∃ a' c',v' = .slice a' (L ++ zO x).length c'∧w'.ownsRow w.heap.size 5 1 (.slice a' (L ++ zO x).length c') (L ++ zO x).length ((L ++ zO x).map bv)):=qI (by
      intro v' w' h
      obtain⟨a',c',rfl,-,-⟩:=(Slc.of_row h).form
      rw [HQ.o]
      exact⟨a',c',by simp,by simpa [bv] using h⟩)
     clear hc h32
     unfold bv at Gd Ge
     go_wp2_with (at_builtin;refine zj Zt Ge.o Gd.o (by intro u hu;simp at hu;rcases hu with rfl | rfl <;> rfl) (by simp only [maxLen];omega) (by omega) (by have:=Gb.o.size;simp;omega) rfl _ _ rfl rfl rfl ?_;intro v' w' hown hk2 _ hbk;have Gc:=qI hown;have Gf:=qI hk2;clear hown hk2 hbk)
     case roundEnd=>
      obtain⟨a',c',rfl,h9⟩:=Gw.o _ _ Gc.o
      refine⟨⟨k + 1,a',c',_,by go_num,by omega,Gq.o.symm,rfl,h9,?_⟩,by simp [intOf];omega⟩
      exact ((Gb.o.alloc _).trans Gf.o (fun i hi=>.inr (Gt.o i (Option.mem_toList.1 hi)).1))
  ·obtain rfl:k=s.size:=by omega
   have HE:Hid (L ++ [34]=yn s.data.toList):=qI (by rw [Jc.o,List.take_of_length_le (by rw [HL.o];exact Nat.le_refl _)];rfl)
   have Gd:=qI (zY wr [.int .u8 34] 1 1 5 wr.heap.size rfl rfl (by decide))
   have Ge:=qI (zk HR.o ((zb.refl [] wr).alloc (.cells #[.int .u8 34] 5)) (by simp))
   have Jj:Hid (∀ (v':Value) (w':World),w'.ownsRow w.heap.size 5 1 v' (L.length + 1) (L.map bv ++ [.int .u8 34])→(convert 53 9 v').run Tryz.prog w' = .ok (.string (yc (yn s.data.toList))) w'):=qI (by
    intro v' w' h
    rw [← HE.o]
    refine zo.toStr ?_
    have h2:=Slc.of_row h
    unfold zo
    simpa [bv] using h2)
   go_wp2_with (at_builtin;refine zj Zt Ge.o Gd.o (by intro u hu;simp at hu;subst hu;rfl) (by simp only [maxLen];omega) (by omega) (by have:=Gb.o.size;simp;omega) rfl _ _ rfl rfl rfl ?_;intro v' w' hown hk2 _ hbk;have Gf:=qI hk2;have hcv:=Jj.o _ _ hown;clear hown hk2 hbk)
   go_ret
   exact⟨rfl,(Gb.o.alloc _).trans Gf.o (fun i hi=>.inr (Gt.o i (Option.mem_toList.1 hi)).1)⟩
theorem xT (a b:List UInt8):yc (a ++ b)=yc a ++ yc b:=by
 apply ByteArray.ext
 simp [yc]
theorem getD_map {α β:Type}(f:α→β) (l:List α) (k:Nat) (h:k < l.length) (d:β):(l.map f).getD k d=f l[k]:=by
 rw [List.getD_eq_getElem?_getD,List.getElem?_map,List.getElem?_eq_getElem h]
 rfl
def qZ (n : Nat) : Prop := ∀ (v : V n) {S : Nat → Prop} {w : World} {cs : List Value}, Rep n S w cs v → yx n v → zx n v = true →
    Calls Tryz.prog 48 #[.agg cs.toArray] w fun e w'=>e = .returned (.string (yc (zp n v)))∧zb [] w w'
theorem ZO {n:Nat}(known:qZ n):qZ (n + 1):=fun (v:VS (V n)) {S}{w}{cs} h hs hr0=>by
  have Gv:=qI hs
  have Jd:=qI hr0
  obtain⟨vl,vm,lcs,mcs,h⟩:=h
  obtain⟨a,c,b,e,rfl,rfl,rfl⟩:=h.forms
  have H:=qI h
  have IH:=qI known
  have hlv:v.l.length≤20000:=by have:=hs.few;omega
  have hmv:v.m.length≤20000:=by have:=hs.few;omega
  have Je:=qI (YB hr0 hs)
  obtain⟨W0,Ga⟩:∃ W0,Hid (W0=w.alloc (.cells #[.int .i64 v.kind,.int .i64 v.num,.string v.s,.slice a v.l.length c,.slice b v.m.length e] 25)):=⟨_,qI rfl⟩
  have Gh:Hid (zb [] w W0):=qI (by rw [Ga.o];exact (zb.refl [] w).alloc _)
  have hown:=km (kp hr0)
  have Gk:Hid (∀ k:Int,v.kind=k→qy W0 w.heap.size k v.num v.s (.slice a v.l.length c) (.slice b v.m.length e)):=qI (fun k hk=>by rw [Ga.o,← hk];exact xz _ _ _ _ _ _ _)
  clear h hs hr0
  rcases hown with g | g | g | g | g | g
  ·have HE:=qI (zat g.1)
   rw [g.1] at Ga ⊢
   clear g Gk
   obtain⟨c0,c1,c2,c3,c4⟩:=xz w 1 v.num v.s (.slice a v.l.length c) (.slice b v.m.length e) 25
   go_enter func48,ntmps48
   go_wp2_with fail
   go_ret
   rw [HE.o,← Ga.o]
   exact⟨rfl,Gh.o⟩
  ·have HE:=qI (J6 g.1)
   have hn:=g.2.1
   rw [g.1] at Ga ⊢
   clear g Gk
   obtain⟨c0,c1,c2,c3,c4⟩:=xz w 2 v.num v.s (.slice a v.l.length c) (.slice b v.m.length e) 25
   rcases hn with hn | hn
   ·rw [hn] at Ga HE c1 ⊢
    clear hn
    go_enter func48,ntmps48
    go_wp2_with fail
    go_ret
    rw [HE.o,← Ga.o]
    exact⟨rfl,Gh.o⟩
   ·rw [hn] at Ga HE c1 ⊢
    clear hn
    go_enter func48,ntmps48
    go_wp2_with fail
    go_ret
    rw [HE.o,← Ga.o]
    exact⟨rfl,Gh.o⟩
  ·have HE:=qI (JU g.1)
   have CD:=qI (Kr v.num (by omega) (by omega) W0)
   rw [g.1] at Ga ⊢
   clear g Gk
   obtain⟨c0,c1,c2,c3,c4⟩:=xz w 3 v.num v.s (.slice a v.l.length c) (.slice b v.m.length e) 25
   go_enter func48,ntmps48
   go_wp2_with fail
   rw [← Ga.o]
   refine CD.o.mono ?_
   rintro e w1 ⟨rfl,rfl⟩
   go_wp2_with fail
   go_ret
   rw [HE.o]
   exact⟨rfl,Gh.o⟩
  ·have HE:=qI (JS g.1)
   have hsz:v.s.size≤1000000:=by
    have h1:=Gv.o.2
    have h2:v.s.size≤yd (n + 1) v:=Nat.le_trans (Nat.le_add_right _ _) (Nat.le_add_right _ _)
    omega
   have CD:=qI (ZH v.s hsz W0)
   rw [g.1] at Ga ⊢
   clear g Gk hsz
   obtain⟨c0,c1,c2,c3,c4⟩:=xz w 4 v.num v.s (.slice a v.l.length c) (.slice b v.m.length e) 25
   go_enter func48,ntmps48
   go_wp2_with fail
   rw [← Ga.o]
   refine CD.o.mono ?_
   rintro e w1 ⟨rfl,hk1⟩
   go_wp2_with fail
   go_ret
   rw [HE.o]
   exact⟨rfl,Gh.o.then hk1⟩
  ·have HE:=qI (J8 g.1)
   have HL:Hid ((yD (fun k=>(v.l.map (zp n)).getD k []) v.l.length).length≤3000000):=qI (by have h1:=Je.o;rw [HE.o,List.length_cons,List.length_append] at h1;omega)
   have Gm:=qI (Gk.o 5 g.1)
   rw [g.1] at Ga ⊢
   clear g Gk
   obtain⟨c0,c1,c2,c3,c4⟩:=xz w 5 v.num v.s (.slice a v.l.length c) (.slice b v.m.length e) 25
   go_enter func48,ntmps48
   go_wp2_with fail
   rw [← Ga.o]
   clear c0 c1 c2 c3 c4
   generalize hit:(fun k=>(v.l.map (zp n)).getD k [])=it at HE HL
   have Gx:Hid (∀ (k:Nat) (h:k < v.l.length),it k=zp n v.l[k]):=qI (fun k h=>by rw [← hit];exact getD_map _ _ _ h _)
   clear hit
   go_loopw [3,4] (fun q i wr=>∃ k:Nat,i = .int .i64 k∧k≤v.l.length∧q = .string (yc (91 :: yD it k))∧zb [] W0 wr) (fun _ i _=>v.l.length - (intOf i).toNat)
   case atStart=>exact⟨0,rfl,Nat.zero_le _,rfl,zb.refl _ _⟩
   case round=>
    obtain⟨k,rfl,hk,rfl,hkw⟩:=hrel
    have Gb:=qI hkw
    obtain⟨d0,d1,d2,d3,d4⟩:=Gm.o.kept0 hkw
    have hle:=kY it hk
    have Gg:Hid ((yc (91 :: yD it k)).size≤3000001):=qI (by rw [xa,List.length_cons];have:=HL.o;omega)
    clear hkw hle
    by_cases hlt:k < v.l.length
    ·have hltI:(k:Int) < v.l.length:=by omega
     obtain⟨g,o,cap,kd,nm,st,a1,b1,he,q0,q1,q2,q3,q4,hr⟩:=H.o.at_l (Gh.o.then Gb.o) k hlt
     simp only [Value.slice.injEq] at he
     obtain⟨rfl,-,rfl⟩:=he
     obtain⟨p1,i1,d1',p2,i2,d2',rfl,rfl⟩:=hr.sl
     have CW:=qI (IH.o v.l[k] hr (Gv.o.kid (kD (List.getElem_mem hlt))) (ql Jd.o (kD (List.getElem_mem hlt))))
     rw [← Gx.o k hlt] at CW
     have hst:=jQ it k
     have hle2:=kY it (show k + 1≤v.l.length from hlt)
     have Gl:Hid ((yc (it k)).size≤3000001):=qI (by rw [xa];have:=HL.o;omega)
     have Gi:Hid (yc (91 :: yD it (k + 1))=if k=0 then yc (91 :: yD it k) ++ yc (it k) else yc (91 :: yD it k) ++ ⟨#[44]⟩ ++ yc (it k)):=qI (by
      by_cases h0:k=0
      ·rw [if_pos h0,h0,bm,ki,← xT];rfl
      ·rw [if_neg h0,jJ it (by omega),show (⟨#[44]⟩:ByteArray)=yc [44] from rfl,← xT,← xT];simp)
     clear hr hst hle2
     revert Gg Gl Gi CW
     generalize yc (91 :: yD it k)=T
     generalize yc (it k)=U
     intro Gg CW Gl Gi
     have hsT:=Gg.o
     have hsU:=Gl.o
     have hz1:¬ 9223372036854775807 < T.size + 1:=by omega
     have hz2:¬ 9223372036854775807 < T.size + 1 + U.size:=by omega
     have hz3:¬ 9223372036854775807 < T.size + U.size:=by omega
     clear hsT hsU
     by_cases h0:k=0
     ·have hst:=Gi.o
      rw [if_pos h0] at hst
      have Gj:=qI hst
      have h0I:decide (0 < k)=false:=decide_eq_false (by omega)
      clear h0 hst
      go_wp2_with (go_at_call 48;refine CW.o.mono ?_;rintro e w2 ⟨rfl,hk2⟩;have Gf:=qI hk2;clear hk2)
      case roundEnd=>exact⟨⟨k + 1,by go_num,by omega,by rw [Gj.o],Gb.o.then Gf.o⟩,by simp [intOf];omega⟩
     ·have hst:=Gi.o
      rw [if_neg h0] at hst
      have Gj:=qI hst
      have h0I:decide (0 < k)=true:=decide_eq_true (by omega)
      clear h0 hst
      go_wp2_with (go_at_call 48;refine CW.o.mono ?_;rintro e w2 ⟨rfl,hk2⟩;have Gf:=qI hk2;clear hk2)
      case roundEnd=>exact⟨⟨k + 1,by go_num,by omega,by rw [Gj.o],Gb.o.then Gf.o⟩,by simp [intOf];omega⟩
    ·obtain rfl:k=v.l.length:=by omega
     have Gn:Hid (yc (zp (n + 1) v)=yc (91 :: yD it v.l.length) ++ ⟨#[93]⟩):=qI (by rw [HE.o,show (⟨#[93]⟩:ByteArray)=yc [93] from rfl,← xT];rfl)
     revert Gg Gn
     generalize yc (91 :: yD it v.l.length)=T
     intro Gg Gn
     have hsT:=Gg.o
     have hz1:¬ 9223372036854775807 < T.size + 1:=by omega
     clear hsT
     go_wp2_with fail
     go_ret
     rw [Gn.o]
     exact⟨rfl,Gh.o.then Gb.o⟩
  ·have HE:=qI (JM g.1)
   have HL:Hid ((yD (fun k=>(v.m.map (fun p=>yn p.1.data.toList ++ (58 :: zp n p.2))).getD k []) v.m.length).length≤3000000):=qI (by have h1:=Je.o;rw [HE.o,List.length_cons,List.length_append] at h1;omega)
   have Gm:=qI (Gk.o 6 g.1)
   rw [g.1] at Ga ⊢
   clear g Gk
   obtain⟨c0,c1,c2,c3,c4⟩:=xz w 6 v.num v.s (.slice a v.l.length c) (.slice b v.m.length e) 25
   go_enter func48,ntmps48
   go_wp2_with fail
   rw [← Ga.o]
   clear c0 c1 c2 c3 c4
   generalize hit:(fun k=>(v.m.map (fun p=>yn p.1.data.toList ++ (58 :: zp n p.2))).getD k [])=it at HE HL
   have Gx:Hid (∀ (k:Nat) (h:k < v.m.length),it k=yn v.m[k].1.data.toList ++ (58 :: zp n v.m[k].2)):=qI (fun k h=>by rw [← hit];exact getD_map _ _ _ h _)
   clear hit
   go_loopw [5,6] (fun q i wr=>∃ k:Nat,i = .int .i64 k∧k≤v.m.length∧q = .string (yc (123 :: yD it k))∧zb [] W0 wr) (fun _ i _=>v.m.length - (intOf i).toNat)
   case atStart=>exact⟨0,rfl,Nat.zero_le _,rfl,zb.refl _ _⟩
   case round=>
    obtain⟨k,rfl,hk,rfl,hkw⟩:=hrel
    have Gb:=qI hkw
    obtain⟨d0,d1,d2,d3,d4⟩:=Gm.o.kept0 hkw
    have hle:=kY it hk
    have Gg:Hid ((yc (123 :: yD it k)).size≤3000001):=qI (by rw [xa,List.length_cons];have:=HL.o;omega)
    clear hkw hle
    by_cases hlt:k < v.m.length
    ·have hltI:(k:Int) < v.m.length:=by omega
     obtain⟨g,o,cap,kd,nm,st,a1,b1,he,q0,q1,q2,q3,q4,q5,hr⟩:=H.o.at_m (Gh.o.then Gb.o) k hlt
     simp only [Value.slice.injEq] at he
     obtain⟨rfl,-,rfl⟩:=he
     obtain⟨p1,i1,d1',p2,i2,d2',rfl,rfl⟩:=hr.sl
     have CW:Hid (∀ z:Ext wr,_):=qI (fun z:Ext wr=>IH.o v.m[k].2 (hr.kept0 z.k) (Gv.o.kid (kK (List.getElem_mem hlt))) (ql Jd.o (kK (List.getElem_mem hlt))))
     have hkS:v.m[k].1.size≤1000000:=by have h1:=Gv.o.2;have h2:=key_le (List.getElem_mem hlt);omega
     have CQ:Hid (∀ z:Ext wr,_):=qI (fun z:Ext wr=>ZH v.m[k].1 hkS z.w)
     have hst:=jQ it k
     have hle2:=kY it (show k + 1≤v.m.length from hlt)
     have hitk:=Gx.o k hlt
     have hitl:(it k).length≤3000001:=by have:=HL.o;omega
     rw [hitk,List.length_append,List.length_cons] at hitl
     have Gr:Hid ((yc (yn v.m[k].1.data.toList)).size≤3000001):=qI (by rw [xa];omega)
     have Gl:Hid ((yc (zp n v.m[k].2)).size≤3000001):=qI (by rw [xa];omega)
     have Gi:Hid (yc (123 :: yD it (k + 1))=(if k=0 then yc (123 :: yD it k) else yc (123 :: yD it k) ++ ⟨#[44]⟩) ++ yc (yn v.m[k].1.data.toList) ++ ⟨#[58]⟩ ++ yc (zp n v.m[k].2)):=qI (by
      rw [show (⟨#[58]⟩:ByteArray)=yc [58] from rfl]
      by_cases h0:k=0
      ·have e0:yD it (k + 1)=it k:=by rw [h0];exact bm it
       have e1:yD it k=[]:=by rw [h0];exact ki it
       rw [if_pos h0,e0,e1,← xT,← xT,← xT,hitk]
       simp
      ·rw [if_neg h0,jJ it (by omega),show (⟨#[44]⟩:ByteArray)=yc [44] from rfl,← xT,← xT,← xT,← xT,hitk]
       simp)
     clear hr hst hle2 hitk hitl hkS
     generalize hky:v.m[k].1=key at q0 Gr Gi CQ
     clear hky
     revert Gg CW Gl Gi Gr CQ
     generalize yc (123 :: yD it k)=T
     generalize yc (zp n v.m[k].2)=U
     generalize yc (yn key.data.toList)=Q
     intro Gg CW Gl Gr Gi CQ
     by_cases h0:k=0
     ·have hst:=Gi.o
      rw [if_pos h0] at hst
      have Gs:=qI hst
      have h0I:decide (0 < k)=false:=decide_eq_false (by omega)
      clear h0 hst Gi
      go_wp2_with fail
      have Gj:Hid (T.size≤3000002):=qI (by have:=Gg.o;omega)
      obtain⟨T2,rfl⟩:∃ T2,T2=T:=⟨_,rfl⟩
      have hs2:=Gj.o
      have hq0:=Gr.o
      have hu0:=Gl.o
      have hz2:¬ 9223372036854775807 < T2.size + Q.size:=by omega
      have hz3:¬ 9223372036854775807 < T2.size + Q.size + 1:=by omega
      have hz4:¬ 9223372036854775807 < T2.size + Q.size + 1 + U.size:=by omega
      have e4:=zu d4
      have r0:=zu q0
      have r1:=zu q1
      have r2:=zu q2
      have r3:=zu q3
      have r4:=zu q4
      have r5:=zu q5
      refine yr wr (by kernel_rfl) (by kernel_rfl) (zb.refl _ _) ?_
      clear hs2 hq0 hu0 d0 d1 d2 d3 d4 q0 q1 q2 q3 q4 q5
      repeat go_big_quiet_step (first | (go_at_call 90;exact vT (CQ.o _)) | (go_at_call 48;exact vT (CW.o _)))
      refine wpQuiet_nil ?_
      intro w2 hk2
      have Gf:=qI hk2
      clear hk2 e4 r0 r1 r2 r3 r4 r5 hz2 hz3 hz4
      go_wp2_with fail
      case roundEnd=>exact⟨⟨k + 1,by go_num,by omega,by rw [Gs.o],Gb.o.then Gf.o⟩,by simp [intOf];omega⟩
     ·have hst:=Gi.o
      rw [if_neg h0] at hst
      have Gs:=qI hst
      have h0I:decide (0 < k)=true:=decide_eq_true (by omega)
      have hsz:=Gg.o
      have hz1:¬ 9223372036854775807 < T.size + 1:=by omega
      clear h0 hst Gi hsz
      go_wp2_with fail
      have Gj:Hid ((T ++ ⟨#[44]⟩).size≤3000002):=qI (by rw [ByteArray.size_append,show (⟨#[44]⟩:ByteArray).size=1 from rfl];have:=Gg.o;omega)
      clear hz1
      revert Gs Gj
      generalize T ++ (⟨#[44]⟩:ByteArray)=T2
      intro Gs Gj
      have hs2:=Gj.o
      have hq0:=Gr.o
      have hu0:=Gl.o
      have hz2:¬ 9223372036854775807 < T2.size + Q.size:=by omega
      have hz3:¬ 9223372036854775807 < T2.size + Q.size + 1:=by omega
      have hz4:¬ 9223372036854775807 < T2.size + Q.size + 1 + U.size:=by omega
      have e4:=zu d4
      have r0:=zu q0
      have r1:=zu q1
      have r2:=zu q2
      have r3:=zu q3
      have r4:=zu q4
      have r5:=zu q5
      refine yr wr (by kernel_rfl) (by kernel_rfl) (zb.refl _ _) ?_
      clear hs2 hq0 hu0 d0 d1 d2 d3 d4 q0 q1 q2 q3 q4 q5
      repeat go_big_quiet_step (first | (go_at_call 90;exact vT (CQ.o _)) | (go_at_call 48;exact vT (CW.o _)))
      refine wpQuiet_nil ?_
      intro w2 hk2
      have Gf:=qI hk2
      clear hk2 e4 r0 r1 r2 r3 r4 r5 hz2 hz3 hz4
      go_wp2_with fail
      case roundEnd=>exact⟨⟨k + 1,by go_num,by omega,by rw [Gs.o],Gb.o.then Gf.o⟩,by simp [intOf];omega⟩
    ·obtain rfl:k=v.m.length:=by omega
     have Gn:Hid (yc (zp (n + 1) v)=yc (123 :: yD it v.m.length) ++ ⟨#[125]⟩):=qI (by rw [HE.o,show (⟨#[125]⟩:ByteArray)=yc [125] from rfl,← xT];rfl)
     revert Gg Gn
     generalize yc (123 :: yD it v.m.length)=T
     intro Gg Gn
     have hsT:=Gg.o
     have hz1:¬ 9223372036854775807 < T.size + 1:=by omega
     clear hsT
     go_wp2_with fail
     go_ret
     rw [Gn.o]
     exact⟨rfl,Gh.o.then Gb.o⟩
theorem je:∀ (n:Nat),qZ n
 | 0=>fun v {_}{_}{_} h _ _=>h.elim
 | n + 1=>ZO (je n)
theorem JK:∀ (n:Nat) (v:V n) {S:Nat→Prop}{w:World}{cs:List Value},Rep n S w cs v→yx n v→zx n v=true →
  Calls Tryz.prog 48 #[.agg cs.toArray] w fun e w'=>e = .returned (.string (yc (zp n v)))∧zb [] w w':=fun n=>je n
theorem Qo (k:zQ) (h:zI k=true):zx 3 (jG k)=true∧yS 3 (jG k)=0:=by
 have hv:=(qL.1 (bG k h)).2.2
 have e:zx 3 (qr k)=(zH (qr k:VS (V 2)) && (qr k:VS (V 2)).kids.all (zx 2)):=rfl
 rw [e,Bool.and_eq_true,List.all_eq_true] at hv
 have hval:zx 2 (jk k)=true:=hv.2 (jk k) (List.Mem.tail _ (List.Mem.tail _ (List.Mem.head _)))
 obtain⟨-,-,-,l4,l5,l6,l7,l8⟩:=lits_ok
 have hr:zx 3 (jG k)=true:=by
  refine Z3 (n:=2) _ (by simp [l4,l5,l6]) (by simp only [List.map_cons,List.map_nil];decide) ?_
  intro p hp
  simp only [List.mem_cons,List.not_mem_nil,or_false] at hp
  rcases hp with rfl | rfl | rfl
  ·exact jq (n:=1) _ l7
  ·exact hval
  ·exact jq (n:=1) _ l8
 exact⟨hr,qL.2 ⟨Nat.le_trans (depth_le 3 _) (by decide),by show (7:Nat)≤4096;omega,hr⟩⟩
theorem Kf (k:zQ) (h:k.root.length=32):yx 3 (jG k):=by
 have e:=(Z7 k h).2
 have e2:yd 3 (jG k)=0 + (7 + (6 + (6 + 0))) + ((14 + 0 + 0) + (yd 2 (jk k) + ((6 + 0 + 0) + 0))):=rfl
 have e3:yd 2 (jk k)=0 + (4 + (6 + (6 + 0))) + ((0 + 0 + 0) + ((0 + 0 + 0) + (((xL k.root).size + 0 + 0) + 0))):=rfl
 have e4:=qM k.root
 exact⟨by show (7:Nat)≤20000;omega,by rw [e2,e3,e4,h];omega⟩
theorem keyR_sort (k:zQ):zv 3 (jG k)=zv 3 (qr k):=by
 have hn:((((jG k:VS (V 2)).m.map (fun p=>(p.1,zv 2 p.2))).mergeSort leK).map (fun p=>p.1)).Nodup:=by
  refine ((List.mergeSort_perm ((jG k:VS (V 2)).m.map (fun p=>(p.1,zv 2 p.2))) leK).map (fun p:ByteArray × V 2=>p.1)).nodup_iff.2 ?_
  show ([⟨#[107,101,121,116,121,112,101]⟩,⟨#[107,101,121,118,97,108]⟩,⟨#[115,99,104,101,109,101]⟩]:List ByteArray).Nodup
  decide
 have hp:(((jG k:VS (V 2)).m.map (fun p=>(p.1,zv 2 p.2))).mergeSort leK).Perm (((qr k:VS (V 2)).m.map (fun p=>(p.1,zv 2 p.2))).mergeSort leK):=by
  refine ((List.mergeSort_perm _ _).trans ?_).trans (List.mergeSort_perm _ _).symm
  refine List.Perm.map _ ?_
  exact List.Perm.cons _ (List.Perm.swap _ _ _)
 have he:=kw hp (List.pairwise_mergeSort qQ vt _) (List.pairwise_mergeSort qQ vt _) hn
 show (⟨6,0,⟨#[]⟩,[],_⟩:VS (V 2))=⟨6,0,⟨#[]⟩,[],_⟩
 exact congrArg (fun m=>(⟨6,0,⟨#[]⟩,[],m⟩:VS (V 2))) he
theorem zaw (k:zQ) (hr:k.root.length=32) (h:zI k=true):zp 3 (zv 3 (jG k))=(kh 3 (qr k)).1∧(zp 3 (zv 3 (jG k))).length≤262144:=by
 have hc:=bG k h
 have hl:=(Y6 k hr h)
 rw [keyR_sort]
 by_cases q:(zp 3 (zv 3 (qr k))).length≤262144
 ·rw [bS hc q];exact⟨rfl,q⟩
 ·exfalso
  rw [KL hc (by omega)] at hl
  cases hl.1
theorem zai {n:Nat}{v:V n}(h:yx n v):yx n (zv n v):=⟨by rw [jf];exact h.1,by rw [jl];exact h.2⟩
theorem ZC (k:zQ) (hb:ka k.bits) (hr:k.root.length=32) (w:World):Calls Tryz.prog 18 #[.agg (yb k)] w fun e w'=>e = .returned (.string (yq k))∧zb [] w w':=by
 obtain⟨W0,Ga⟩:∃ W0,Hid (W0=w.alloc (.cells (yb k) 47)):=⟨_,qI rfl⟩
 have Gh:Hid (zb [] w W0):=qI (by rw [Ga.o];exact (zb.refl _ w).alloc _)
 have HA:Hid (yo W0 w.heap.size k):=qI (by rw [Ga.o];exact zd rfl)
 have Gp:=qI hr
 have CM:=qI (Zb k hb W0)
 have CV:=qI (Y2 k hb hr)
 have Gy:Hid (yq k=if zI k=true then xL (zW (kh 3 (qr k)).1) else ⟨#[]⟩):=qI rfl
 clear hb hr
 by_cases hm:zI k=true
 rotate_left
 ·have Gz:Hid (yq k=⟨#[]⟩):=qI (by rw [Gy.o,if_neg hm])
  have hm2:zI k=false:=by simpa using hm
  rw [hm2] at CM
  clear hm hm2
  go_enter func18,ntmps18
  go_upto_region 1 with fail
  rw [← Ga.o]
  go_wp2_with first
   | (refine zS (by rfl) (.tmp 1) (by rfl) HA.o Gp.o (by rfl) ?_)
   | (go_at_call 46;refine CM.o.mono ?_;rintro e w1 ⟨rfl,hk1⟩;have Ja:=qI hk1;clear hk1)
  go_ret
  exact⟨by rw [Gz.o];rfl,Gh.o.then Ja.o⟩
 obtain⟨X,HX⟩:∃ X,Hid (X=zp 3 (zv 3 (jG k))):=⟨_,qI rfl⟩
 have Gz:Hid (yq k=xL (zW X)):=qI (by rw [Gy.o,if_pos hm,HX.o,(zaw k Gp.o hm).1])
 have Jf:Hid (X.length≤262144):=qI (by rw [HX.o];exact (zaw k Gp.o hm).2)
 have CV2:Hid (∀ w1,Calls Tryz.prog 50 #[.agg (yb k)] w1 fun e w'=>(∃ k3 m3 s3 p3 i3 c3 q3 j3 e3,e = .returned (.agg #[.int .i64 k3,.int .i64 m3,.string s3,.slice p3 i3 c3,.slice q3 j3 e3])∧Rep 3 (fun _=>True) w' [.int .i64 k3,.int .i64 m3,.string s3,.slice p3 i3 c3,.slice q3 j3 e3] (jG k))∧zb [] w1 w'):=qI (fun w1=>by
  refine (CV.o w1).mono ?_
  rintro e w' ⟨h9,hk9⟩
  unfold bK at h9
  rw [if_pos hm] at h9
  obtain⟨cs,rfl,h8⟩:=h9
  obtain⟨k3,m3,s3,p3,i3,c3,q3,j3,e3,rfl⟩:=h8.conv
  exact⟨⟨k3,m3,s3,p3,i3,c3,q3,j3,e3,rfl,h8.mono (fun _ _ _=>trivial)⟩,hk9⟩)
 have CSO:Hid (∀ (w1:World) (cs:List Value),Rep 3 (fun _=>True) w1 cs (jG k)→Calls Tryz.prog 49 #[.agg cs.toArray] w1 fun e w'=>(∃ k3 m3 s3 p3 i3 c3 q3 j3 e3,e = .returned (.agg #[.int .i64 k3,.int .i64 m3,.string s3,.slice p3 i3 c3,.slice q3 j3 e3])∧Rep 3 (fun _=>True) w' [.int .i64 k3,.int .i64 m3,.string s3,.slice p3 i3 c3,.slice q3 j3 e3] (zv 3 (jG k)))∧zb [] w1 w'):=qI (fun w1 cs hc=>by
  refine (YV 3 (jG k) hc (Kf k Gp.o) (Qo k hm).1).mono ?_
  rintro e w' ⟨⟨cs',rfl,h8⟩,hk9⟩
  have h8:=h8.rep
  obtain⟨k3,m3,s3,p3,i3,c3,q3,j3,e3,rfl⟩:=h8.conv
  exact⟨⟨k3,m3,s3,p3,i3,c3,q3,j3,e3,rfl,h8.mono (fun _ _ _=>trivial)⟩,hk9⟩)
 have CWR:Hid (∀ (w1:World) (cs:List Value),Rep 3 (fun _=>True) w1 cs (zv 3 (jG k))→Calls Tryz.prog 48 #[.agg cs.toArray] w1 fun e w'=>e = .returned (.string (yc X))∧zb [] w1 w'):=qI (fun w1 cs hc=>by
  rw [HX.o]
  exact JK 3 (zv 3 (jG k)) hc (zai (Kf k Gp.o)) (by rw [jm];exact (Qo k hm).1))
 rw [hm] at CM
 clear hm CV Gy
 go_enter func18,ntmps18
 go_upto_region 1 with fail
 rw [← Ga.o]
 go_upto_region 3 with first
  | (refine zS (by rfl) (.tmp 1) (by rfl) HA.o Gp.o (by rfl) ?_)
  | (go_at_call 46;refine CM.o.mono ?_;rintro e w1 ⟨rfl,hk1⟩;have Ja:=qI hk1;have Jk:=qI (yo.kept0 HA.o hk1);clear hk1)
 go_upto_region 4 with first
  | (refine zS (by rfl) (.tmp 1) (by rfl) Jk.o Gp.o (by rfl) ?_)
  | (go_at_call 50;refine (CV2.o _).mono ?_;rintro e w2 ⟨⟨k3,m3,s3,p3,i3,c3,q3,j3,e3,rfl,h3⟩,hk2⟩;have H3:=qI h3;have Gf:=qI (Ja.o.then hk2);clear hk2 h3)
  | (go_at_call 49;refine (CSO.o _ _ H3.o).mono ?_;rintro e w3 ⟨⟨k4,m4,s4,p4,i4,c4,q4,j4,e4,rfl,h4⟩,hk3⟩;have H4:=qI h4;have Jl:=qI (Gf.o.then hk3);clear hk3 h4)
  | (go_at_call 48;refine (CWR.o _ _ H4.o).mono ?_;rintro e w4 ⟨rfl,hk4⟩;have Jm:=qI (Jl.o.then hk4);clear hk4;obtain⟨ba,bn,bc,w5,hcv,hbn,hb5,hk5⟩:=KR w4 (yc X) (by rw [xa];have:=Jf.o;omega);rw [qm] at hbn hb5;subst hbn;have Jr:=qI hb5;have Jn:=qI (Jm.o.then hk5);have CO:=qI (refSha_any w5 ba bc X hb5 (by have:=Jf.o;omega));clear hk5 hb5)
  | (go_at_call 47;refine CO.o.mono ?_;rintro e w6 ⟨rfl,hk6⟩;have Jo:=qI (Jn.o.then hk6);clear hk6)
  | (refine zt (by rfl) (.tmp 3) (.tmp 12) (by rfl) (g:=w6.heap.size) (l:=zW X) (l0:=yZ zr 0) (zd rfl) (zX _ _) (yh X) (by rfl) (by rfl) ?_;intro w7 h7 hk7;have Jg:=qI h7;have Jb:Hid (zb [] w6 w7):=qI (((zb.refl [] w6).alloc _).trans hk7 (by intro i hi;simp at hi;subst hi;exact .inr (Nat.le_refl _)));clear h7 hk7;simp only [Act.put])
 have Jp:Hid (Calls Tryz.prog 51 #[.slice (some ⟨w6.heap.size,0,none⟩) 32 32] w7 fun e w'=>e = .returned (.string (xL (zW X)))∧zb [] w7 w'):=qI (by
  have hb:zo w7 (.slice (some ⟨w6.heap.size,0,none⟩) (zW X).length 32) (zW X):=⟨by simp,.inr (.inr ⟨w6.heap.size,0,32,rfl,by rw [yh];omega,by decide,⟨Jg.o.range,Jg.o.lt⟩⟩)⟩
  have h9:=Zz hb (by rw [yh];decide)
  rw [yh] at h9
  exact h9)
 go_wp2_with (go_at_call 51;refine Jp.o.mono ?_;rintro e w8 ⟨rfl,hk8⟩;have Jq:=qI hk8;clear hk8)
 go_ret
 exact⟨by rw [Gz.o];rfl,((Gh.o.then Jo.o).then Jb.o).then Jq.o⟩
section
variable {P : Program} (w : World)
end
end Go.Proofs.YtibnfbglanpoiaaGreatDoor

/- Parts of one proof, merged: XWr XWs XGR. -/
import Derived.Test.YtibnfbglanpoiaaGreatDoorQcM
import Derived.Test.YtibnfbglanpoiaaGreatDoorQcAJ
import Derived.Laws.OwnMore
import Derived.Test.YtibnfbglanpoiaaGreatDoorQcO
import Derived.Test.YtibnfbglanpoiaaGreatDoorQcAH
import Derived.Test.YtibnfbglanpoiaaGreatDoorQcQ
import Derived.ChangeKeysEq
set_option linter.all false
set_option maxHeartbeats 12800000
set_option maxRecDepth 10000
set_option linter.unusedVariables false
set_option linter.unusedSimpArgs false
set_option linter.unnecessarySimpa false
namespace Go.Proofs.YtibnfbglanpoiaaGreatDoor
open Go.Proofs.Tryz
open Go.RowKit
theorem one_hex (k:Nat) (hk:k < 16):(⟨#[48,49,50,51,52,53,54,55,56,57,97,98,99,100,101,102]⟩:ByteArray).extract k (k + 1)=⟨#[qg k]⟩:=by
 have:k=0∨k=1∨k=2∨k=3∨k=4∨k=5∨k=6∨k=7∨k=8∨k=9∨k=10∨k=11∨k=12∨k=13∨k=14∨k=15:=by omega
 rcases this with rfl | rfl | rfl | rfl | rfl | rfl | rfl | rfl | rfl | rfl | rfl | rfl | rfl | rfl | rfl | rfl <;> rfl
theorem refHex_any (z:Int) (h0:0≤z) (h1:z < 16) (w:World):Calls Tryz.prog 123 #[.int .i64 z] w fun e w'=>e = .returned (.string ⟨#[qg z.toNat]⟩)∧w=w':=by
 obtain⟨k,rfl⟩:=Int.eq_ofNat_of_zero_le h0
 have hk:k < 16:=by omega
 have hs:=qI (one_hex k hk)
 have hT:Hid ((k:Int).toNat=k):=qI (by simp)
 clear h0 h1
 go_enter func123,ntmps123
 go_wp2_with fail
 go_ret
 rw [hT.o,← hs.o]
 exact⟨rfl,rfl⟩
theorem quote_at (s:ByteArray) (k:Nat) (h:k < s.size):34 :: (s.data.toList.take (k + 1)).flatMap zQ=(34 :: (s.data.toList.take k).flatMap zQ) ++ zQ (s[k]'h):=by
 rw [List.take_succ_eq_append_getElem (by simpa using h),List.flatMap_append,List.cons_append]
 simp only [List.flatMap_cons,List.flatMap_nil,List.append_nil]
 rfl
theorem YJ (s:ByteArray) (hs:s.size≤1000000) (w:World) :
  Calls Tryz.prog 90 #[.string s] w fun e w'=>e = .returned (.string (yc (yr s.data.toList)))∧zb [] w w':=by
 have HL:Hid (s.data.toList.length=s.size):=qI (by simp)
 have Jh:Hid ((w.alloc (.cells #[.int .u8 34] 5)).ownsRow w.heap.size 5 1 (.slice (some ⟨w.heap.size,0,none⟩) 1 1) 1 [.int .u8 34]):=qI (World.ownsRow_lit w #[.int .u8 34] 1 (Nat.le_refl _) (by decide) rfl)
 have Gh:Hid (zb [] w (w.alloc (.cells #[.int .u8 34] 5))):=qI ((zb.refl [] w).alloc _)
 go_enter func90,ntmps90
 go_wp2_with fail
 go_loopw [3,4] (fun o i wr=>∃ (k:Nat) (a:Option Addr) (c:Nat) (L:List UInt8),i = .int .i64 k∧k≤s.size∧L=34 :: (s.data.toList.take k).flatMap zQ∧o = .slice a L.length c∧wr.ownsRow w.heap.size 5 1 (.slice a L.length c) L.length (L.map bv)∧zb [] w wr) (fun _ i _=>s.size - (intOf i).toNat)
 case atStart=>exact⟨0,_,_,[34],rfl,Nat.zero_le _,rfl,rfl,Jh.o,Gh.o⟩
 case round=>
  obtain⟨k,a,c,L,rfl,hk,hL,rfl,hr,hkw⟩:=hrel
  have HR:=qI hr
  have Gb:=qI hkw
  have hq:L.length≤6000001:=by
   have:=KD s.data.toList k
   rw [HL.o] at this
   rw [hL,List.length_cons]
   omega
  have Jc:=qI hL
  have Gt:=qI hr.lt
  clear hr hkw hL
  by_cases hlt:k < s.size
  ·have hltI:(k:Int) < s.size:=by omega
   have Gq:Hid (34 :: (s.data.toList.take (k + 1)).flatMap zQ=L ++ zQ (s[k]'hlt)):=qI (by rw [Jc.o];exact quote_at s k hlt)
   have hx:((s[k]'hlt).toNat:Int)≤255:=by have:=(s[k]'hlt).toNat_lt;omega
   revert hx Gq
   generalize hsk:s[k]'hlt=x
   intro Gq hx
   by_cases h32:x.toNat < 32
   ·obtain⟨z,hz⟩:∃ z:Int,z=(x.toNat:Int):=⟨_,rfl⟩
    have hz0:0≤z:=by omega
    have hz1:z < 32:=by omega
    have hne:(z == 34)=false∧(z == 92)=false:=⟨(yx (by omega)).1,(yx (by omega)).1⟩
    obtain⟨g1,g2⟩:=hne
    have hsk2:((s[k]'hlt).toNat:Int)=z:=by rw [hsk];exact hz.symm
    have HQ:Hid (zQ x=[92,117,48,48,qg (z / 16).toNat,qg (z % 16).toNat]):=qI (by
     unfold zQ
     rw [if_pos h32,hz]
     have e1:((x.toNat:Int) / 16).toNat=x.toNat / 16:=by omega
     have e2:((x.toNat:Int) % 16).toNat=x.toNat % 16:=by omega
     rw [e1,e2])
    have hq0:0≤z / 16:=by omega
    have hq1:z / 16 < 16:=by omega
    have hr0:0≤z % 16:=by omega
    have hr1:z % 16 < 16:=by omega
    obtain⟨i0,hi,hz0',hz1',hz2'⟩:=info_parts ZU.info
    have HI:=qI hi
    have HZ:=qI (And.intro hz0' (And.intro hz1' hz2'))
    clear hi hz0' hz1' hz2' hz hsk hx h32
    have Gu:Hid (((⟨#[92,117,48,48]⟩:ByteArray) ++ ⟨#[qg (z / 16).toNat]⟩ ++ ⟨#[qg (z % 16).toNat]⟩).size=6∧((⟨#[92,117,48,48]⟩:ByteArray) ++ ⟨#[qg (z / 16).toNat]⟩ ++ ⟨#[qg (z % 16).toNat]⟩).data.toList=zQ x):=qI ⟨by simp [ByteArray.size_append];rfl,by rw [HQ.o];simp⟩
    go_wp2_with (first
     | (go_at_call 123;refine (refHex_any _ (by omega) (by omega) _).mono ?_;rintro e w' ⟨rfl,rfl⟩)
     | (at_builtin;refine Lib.wpList_append_own_string _ rfl _ _ 53 9 rfl w.heap.size 5 i0 underlying53 underlying9 HI.o HZ.o.1 HZ.o.2.1 HZ.o.2.2 (.slice a L.length c) L.length (L.map bv) rfl HR.o ((⟨#[92,117,48,48]⟩:ByteArray) ++ ⟨#[qg (z / 16).toNat]⟩ ++ ⟨#[qg (z % 16).toNat]⟩) rfl (by rw [Gu.o.1];simp only [maxLen];omega) (by rw [Gu.o.1];omega) Gb.o.size ?_;intro v2 w2 hown2 hg2 _;have Gc:=qI hown2;have Ji:=qI hg2;clear hown2 hg2))
    case roundEnd=>
     have h9:=Gc.o
     rw [show Lib.strCells ((⟨#[92,117,48,48]⟩:ByteArray) ++ ⟨#[qg (z / 16).toNat]⟩ ++ ⟨#[qg (z % 16).toNat]⟩)=(((⟨#[92,117,48,48]⟩:ByteArray) ++ ⟨#[qg (z / 16).toNat]⟩ ++ ⟨#[qg (z % 16).toNat]⟩).data.toList).map bv from rfl,Gu.o.2,Gu.o.1] at h9
     obtain⟨a',c',rfl,-,-⟩:=(Slc.of_row h9).form
     have hl6:(L ++ zQ x).length=L.length + 6:=by rw [HQ.o];simp
     refine⟨⟨k + 1,a',c',L ++ zQ x,by go_num,by omega,Gq.o.symm,by rw [hl6],by rw [hl6,List.map_append];exact h9,?_⟩,by simp [intOf];omega⟩
     exact Gb.o.grown Ji.o (fun g hg=>.inr (Gt.o g hg).1)
   ·have h32I:¬ (x.toNat:Int) < 32:=by omega
    by_cases hc:x=34∨x=92
    ·have HQ:Hid (zQ x=[92,x]):=qI (by unfold zQ;rw [if_neg h32,if_pos hc])
     have hg:((x.toNat:Int) == 34)=true∨(((x.toNat:Int) == 34)=false∧((x.toNat:Int) == 92)=true):=by
      rcases hc with rfl | rfl
      ·exact .inl rfl
      ·exact .inr ⟨rfl,rfl⟩
     have Gd:=qI (zV wr [.int .u8 92,bv x] 1 2 5 wr.heap.size rfl rfl (by decide))
     have Ge:=qI (zk HR.o ((zb.refl [] wr).alloc (.cells #[.int .u8 92,bv x] 5)) (by simp))
     have Gw:Hid (∀ (v':Value) (w':World),w'.ownsRow w.heap.size 5 1 v' (L.length + 2) (L.map bv ++ [.int .u8 92,bv x])→∃ a' c',v' = .slice a' (L ++ zQ x).length c'∧w'.ownsRow w.heap.size 5 1 (.slice a' (L ++ zQ x).length c') (L ++ zQ x).length ((L ++ zQ x).map bv)):=qI (by
      intro v' w' h
      obtain⟨a',c',rfl,-,-⟩:=(Slc.of_row h).form
      rw [HQ.o]
      exact⟨a',c',by simp,by simpa [bv] using h⟩)
     clear hc h32
     unfold bv at Gd Ge
     rcases hg with g1 | ⟨g1,g2⟩
     all_goals
      go_wp2_with (at_builtin;refine zj ZU Ge.o Gd.o (by intro u hu;simp at hu;rcases hu with rfl | rfl <;> rfl) (by simp only [maxLen];omega) (by omega) (by have:=Gb.o.size;simp;omega) rfl _ _ rfl rfl rfl ?_;intro v' w' hown hk2 _ hbk;have Gc:=qI hown;have Gf:=qI hk2;clear hown hk2 hbk)
      case roundEnd=>
       obtain⟨a',c',rfl,h9⟩:=Gw.o _ _ Gc.o
       refine⟨⟨k + 1,a',c',_,by go_num,by omega,Gq.o.symm,rfl,h9,?_⟩,by simp [intOf];omega⟩
       exact ((Gb.o.alloc _).trans Gf.o (fun i hi=>.inr (Gt.o i (Option.mem_toList.1 hi)).1))
    ·have HQ:Hid (zQ x=[x]):=qI (by unfold zQ;rw [if_neg h32,if_neg hc])
     have hg1:((x.toNat:Int) == 34)=false:=(yx (fun e=>hc (.inl (UInt8.toNat_inj.1 (show x.toNat=34 by omega))))).1
     have hg2:((x.toNat:Int) == 92)=false:=(yx (fun e=>hc (.inr (UInt8.toNat_inj.1 (show x.toNat=92 by omega))))).1
     have Gd:=qI (zV wr [bv x] 1 1 5 wr.heap.size rfl rfl (by decide))
     have Ge:=qI (zk HR.o ((zb.refl [] wr).alloc (.cells #[bv x] 5)) (by simp))
     have Gw:Hid (∀ (v':Value) (w':World),w'.ownsRow w.heap.size 5 1 v' (L.length + 1) (L.map bv ++ [bv x])→∃ a' c',v' = .slice a' (L ++ zQ x).length c'∧w'.ownsRow w.heap.size 5 1 (.slice a' (L ++ zQ x).length c') (L ++ zQ x).length ((L ++ zQ x).map bv)):=qI (by
      intro v' w' h
      obtain⟨a',c',rfl,-,-⟩:=(Slc.of_row h).form
      rw [HQ.o]
      exact⟨a',c',by simp,by simpa [bv] using h⟩)
     clear hc h32
     unfold bv at Gd Ge
     go_wp2_with (at_builtin;refine zj ZU Ge.o Gd.o (by intro u hu;simp at hu;rcases hu with rfl | rfl <;> rfl) (by simp only [maxLen];omega) (by omega) (by have:=Gb.o.size;simp;omega) rfl _ _ rfl rfl rfl ?_;intro v' w' hown hk2 _ hbk;have Gc:=qI hown;have Gf:=qI hk2;clear hown hk2 hbk)
     case roundEnd=>
      obtain⟨a',c',rfl,h9⟩:=Gw.o _ _ Gc.o
      refine⟨⟨k + 1,a',c',_,by go_num,by omega,Gq.o.symm,rfl,h9,?_⟩,by simp [intOf];omega⟩
      exact ((Gb.o.alloc _).trans Gf.o (fun i hi=>.inr (Gt.o i (Option.mem_toList.1 hi)).1))
  ·obtain rfl:k=s.size:=by omega
   have HE:Hid (L ++ [34]=yr s.data.toList):=qI (by rw [Jc.o,List.take_of_length_le (by rw [HL.o];exact Nat.le_refl _)];rfl)
   have Gd:=qI (zV wr [.int .u8 34] 1 1 5 wr.heap.size rfl rfl (by decide))
   have Ge:=qI (zk HR.o ((zb.refl [] wr).alloc (.cells #[.int .u8 34] 5)) (by simp))
   have Jj:Hid (∀ (v':Value) (w':World),w'.ownsRow w.heap.size 5 1 v' (L.length + 1) (L.map bv ++ [.int .u8 34])→(convert 53 9 v').run Tryz.prog w' = .ok (.string (yc (yr s.data.toList))) w'):=qI (by
    intro v' w' h
    rw [← HE.o]
    refine zp.toStr ?_
    have h2:=Slc.of_row h
    unfold zp
    simpa [bv] using h2)
   go_wp2_with (at_builtin;refine zj ZU Ge.o Gd.o (by intro u hu;simp at hu;subst hu;rfl) (by simp only [maxLen];omega) (by omega) (by have:=Gb.o.size;simp;omega) rfl _ _ rfl rfl rfl ?_;intro v' w' hown hk2 _ hbk;have Gf:=qI hk2;have hcv:=Jj.o _ _ hown;clear hown hk2 hbk)
   go_ret
   exact⟨rfl,(Gb.o.alloc _).trans Gf.o (fun i hi=>.inr (Gt.o i (Option.mem_toList.1 hi)).1)⟩
theorem qh (a b:List UInt8):yc (a ++ b)=yc a ++ yc b:=by
 apply ByteArray.ext
 simp [yc]
theorem getD_map {α β:Type}(f:α→β) (l:List α) (k:Nat) (h:k < l.length) (d:β):(l.map f).getD k d=f l[k]:=by
 rw [List.getD_eq_getElem?_getD,List.getElem?_map,List.getElem?_eq_getElem h]
 rfl
def ki (n : Nat) : Prop := ∀ (v : V n) {S : Nat → Prop} {w : World} {cs : List Value}, Rep n S w cs v → yk n v → zo n v = true →
    Calls Tryz.prog 48 #[.agg cs.toArray] w fun e w'=>e = .returned (.string (yc (zq n v)))∧zb [] w w'
theorem YB {n:Nat}(known:ki n):ki (n + 1):=fun (v:VS (V n)) {S}{w}{cs} h hs hr0=>by
  have Gv:=qI hs
  have Jd:=qI hr0
  obtain⟨vl,vm,lcs,mcs,h⟩:=h
  obtain⟨a,c,b,e,rfl,rfl,rfl⟩:=h.forms
  have H:=qI h
  have IH:=qI known
  have hlv:v.l.length≤20000:=by have:=hs.few;omega
  have hmv:v.m.length≤20000:=by have:=hs.few;omega
  have Je:=qI (Qh hr0 hs)
  obtain⟨W0,Ga⟩:∃ W0,Hid (W0=w.alloc (.cells #[.int .i64 v.kind,.int .i64 v.num,.string v.s,.slice a v.l.length c,.slice b v.m.length e] 25)):=⟨_,qI rfl⟩
  have Gh:Hid (zb [] w W0):=qI (by rw [Ga.o];exact (zb.refl [] w).alloc _)
  have hown:=kK (kM hr0)
  have Gk:Hid (∀ k:Int,v.kind=k→qf W0 w.heap.size k v.num v.s (.slice a v.l.length c) (.slice b v.m.length e)):=qI (fun k hk=>by rw [Ga.o,← hk];exact yQ _ _ _ _ _ _ _)
  clear h hs hr0
  rcases hown with g | g | g | g | g | g
  ·have HE:=qI (write_1 g.1)
   rw [g.1] at Ga ⊢
   clear g Gk
   obtain⟨c0,c1,c2,c3,c4⟩:=yQ w 1 v.num v.s (.slice a v.l.length c) (.slice b v.m.length e) 25
   go_enter func48,ntmps48
   go_wp2_with fail
   go_ret
   rw [HE.o,← Ga.o]
   exact⟨rfl,Gh.o⟩
  ·have HE:=qI (write_2 g.1)
   have hn:=g.2.1
   rw [g.1] at Ga ⊢
   clear g Gk
   obtain⟨c0,c1,c2,c3,c4⟩:=yQ w 2 v.num v.s (.slice a v.l.length c) (.slice b v.m.length e) 25
   rcases hn with hn | hn
   ·rw [hn] at Ga HE c1 ⊢
    clear hn
    go_enter func48,ntmps48
    go_wp2_with fail
    go_ret
    rw [HE.o,← Ga.o]
    exact⟨rfl,Gh.o⟩
   ·rw [hn] at Ga HE c1 ⊢
    clear hn
    go_enter func48,ntmps48
    go_wp2_with fail
    go_ret
    rw [HE.o,← Ga.o]
    exact⟨rfl,Gh.o⟩
  ·have HE:=qI (write_3 g.1)
   have CD:=qI (JN v.num (by omega) (by omega) W0)
   rw [g.1] at Ga ⊢
   clear g Gk
   obtain⟨c0,c1,c2,c3,c4⟩:=yQ w 3 v.num v.s (.slice a v.l.length c) (.slice b v.m.length e) 25
   go_enter func48,ntmps48
   go_wp2_with fail
   rw [← Ga.o]
   refine CD.o.mono ?_
   rintro e w1 ⟨rfl,rfl⟩
   go_wp2_with fail
   go_ret
   rw [HE.o]
   exact⟨rfl,Gh.o⟩
  ·have HE:=qI (write_4 g.1)
   have hsz:v.s.size≤1000000:=by
    have h1:=Gv.o.2
    have h2:v.s.size≤ya (n + 1) v:=Nat.le_trans (Nat.le_add_right _ _) (Nat.le_add_right _ _)
    omega
   have CD:=qI (YJ v.s hsz W0)
   rw [g.1] at Ga ⊢
   clear g Gk hsz
   obtain⟨c0,c1,c2,c3,c4⟩:=yQ w 4 v.num v.s (.slice a v.l.length c) (.slice b v.m.length e) 25
   go_enter func48,ntmps48
   go_wp2_with fail
   rw [← Ga.o]
   refine CD.o.mono ?_
   rintro e w1 ⟨rfl,hk1⟩
   go_wp2_with fail
   go_ret
   rw [HE.o]
   exact⟨rfl,Gh.o.then hk1⟩
  ·have HE:=qI (write_5 g.1)
   have HL:Hid ((yG (fun k=>(v.l.map (zq n)).getD k []) v.l.length).length≤3000000):=qI (by have h1:=Je.o;rw [HE.o,List.length_cons,List.length_append] at h1;omega)
   have Gm:=qI (Gk.o 5 g.1)
   rw [g.1] at Ga ⊢
   clear g Gk
   obtain⟨c0,c1,c2,c3,c4⟩:=yQ w 5 v.num v.s (.slice a v.l.length c) (.slice b v.m.length e) 25
   go_enter func48,ntmps48
   go_wp2_with fail
   rw [← Ga.o]
   clear c0 c1 c2 c3 c4
   generalize hit:(fun k=>(v.l.map (zq n)).getD k [])=it at HE HL
   have Gx:Hid (∀ (k:Nat) (h:k < v.l.length),it k=zq n v.l[k]):=qI (fun k h=>by rw [← hit];exact getD_map _ _ _ h _)
   clear hit
   go_loopw [3,4] (fun q i wr=>∃ k:Nat,i = .int .i64 k∧k≤v.l.length∧q = .string (yc (91 :: yG it k))∧zb [] W0 wr) (fun _ i _=>v.l.length - (intOf i).toNat)
   case atStart=>exact⟨0,rfl,Nat.zero_le _,rfl,zb.refl _ _⟩
   case round=>
    obtain⟨k,rfl,hk,rfl,hkw⟩:=hrel
    have Gb:=qI hkw
    obtain⟨d0,d1,d2,d3,d4⟩:=Gm.o.kept0 hkw
    have hle:=jj it hk
    have Gg:Hid ((yc (91 :: yG it k)).size≤3000001):=qI (by rw [xA,List.length_cons];have:=HL.o;omega)
    clear hkw hle
    by_cases hlt:k < v.l.length
    ·have hltI:(k:Int) < v.l.length:=by omega
     obtain⟨g,o,cap,kd,nm,st,a1,b1,he,q0,q1,q2,q3,q4,hr⟩:=H.o.at_l (Gh.o.then Gb.o) k hlt
     simp only [Value.slice.injEq] at he
     obtain⟨rfl,-,rfl⟩:=he
     obtain⟨p1,i1,d1',p2,i2,d2',rfl,rfl⟩:=hr.sl
     have CW:=qI (IH.o v.l[k] hr (Gv.o.kid (kE (List.getElem_mem hlt))) (qz Jd.o (kE (List.getElem_mem hlt))))
     rw [← Gx.o k hlt] at CW
     have hst:=vJ it k
     have hle2:=jj it (show k + 1≤v.l.length from hlt)
     have Gl:Hid ((yc (it k)).size≤3000001):=qI (by rw [xA];have:=HL.o;omega)
     have Gi:Hid (yc (91 :: yG it (k + 1))=if k=0 then yc (91 :: yG it k) ++ yc (it k) else yc (91 :: yG it k) ++ ⟨#[44]⟩ ++ yc (it k)):=qI (by
      by_cases h0:k=0
      ·rw [if_pos h0,h0,bY,kL,← qh];rfl
      ·rw [if_neg h0,vA it (by omega),show (⟨#[44]⟩:ByteArray)=yc [44] from rfl,← qh,← qh];simp)
     clear hr hst hle2
     revert Gg Gl Gi CW
     generalize yc (91 :: yG it k)=T
     generalize yc (it k)=U
     intro Gg CW Gl Gi
     have hsT:=Gg.o
     have hsU:=Gl.o
     have hz1:¬ 9223372036854775807 < T.size + 1:=by omega
     have hz2:¬ 9223372036854775807 < T.size + 1 + U.size:=by omega
     have hz3:¬ 9223372036854775807 < T.size + U.size:=by omega
     clear hsT hsU
     by_cases h0:k=0
     ·have hst:=Gi.o
      rw [if_pos h0] at hst
      have Gj:=qI hst
      have h0I:decide (0 < k)=false:=decide_eq_false (by omega)
      clear h0 hst
      go_wp2_with (go_at_call 48;refine CW.o.mono ?_;rintro e w2 ⟨rfl,hk2⟩;have Gf:=qI hk2;clear hk2)
      case roundEnd=>exact⟨⟨k + 1,by go_num,by omega,by rw [Gj.o],Gb.o.then Gf.o⟩,by simp [intOf];omega⟩
     ·have hst:=Gi.o
      rw [if_neg h0] at hst
      have Gj:=qI hst
      have h0I:decide (0 < k)=true:=decide_eq_true (by omega)
      clear h0 hst
      go_wp2_with (go_at_call 48;refine CW.o.mono ?_;rintro e w2 ⟨rfl,hk2⟩;have Gf:=qI hk2;clear hk2)
      case roundEnd=>exact⟨⟨k + 1,by go_num,by omega,by rw [Gj.o],Gb.o.then Gf.o⟩,by simp [intOf];omega⟩
    ·obtain rfl:k=v.l.length:=by omega
     have Gn:Hid (yc (zq (n + 1) v)=yc (91 :: yG it v.l.length) ++ ⟨#[93]⟩):=qI (by rw [HE.o,show (⟨#[93]⟩:ByteArray)=yc [93] from rfl,← qh];rfl)
     revert Gg Gn
     generalize yc (91 :: yG it v.l.length)=T
     intro Gg Gn
     have hsT:=Gg.o
     have hz1:¬ 9223372036854775807 < T.size + 1:=by omega
     clear hsT
     go_wp2_with fail
     go_ret
     rw [Gn.o]
     exact⟨rfl,Gh.o.then Gb.o⟩
  ·have HE:=qI (write_6 g.1)
   have HL:Hid ((yG (fun k=>(v.m.map (fun p=>yr p.1.data.toList ++ (58 :: zq n p.2))).getD k []) v.m.length).length≤3000000):=qI (by have h1:=Je.o;rw [HE.o,List.length_cons,List.length_append] at h1;omega)
   have Gm:=qI (Gk.o 6 g.1)
   rw [g.1] at Ga ⊢
   clear g Gk
   obtain⟨c0,c1,c2,c3,c4⟩:=yQ w 6 v.num v.s (.slice a v.l.length c) (.slice b v.m.length e) 25
   go_enter func48,ntmps48
   go_wp2_with fail
   rw [← Ga.o]
   clear c0 c1 c2 c3 c4
   generalize hit:(fun k=>(v.m.map (fun p=>yr p.1.data.toList ++ (58 :: zq n p.2))).getD k [])=it at HE HL
   have Gx:Hid (∀ (k:Nat) (h:k < v.m.length),it k=yr v.m[k].1.data.toList ++ (58 :: zq n v.m[k].2)):=qI (fun k h=>by rw [← hit];exact getD_map _ _ _ h _)
   clear hit
   go_loopw [5,6] (fun q i wr=>∃ k:Nat,i = .int .i64 k∧k≤v.m.length∧q = .string (yc (123 :: yG it k))∧zb [] W0 wr) (fun _ i _=>v.m.length - (intOf i).toNat)
   case atStart=>exact⟨0,rfl,Nat.zero_le _,rfl,zb.refl _ _⟩
   case round=>
    obtain⟨k,rfl,hk,rfl,hkw⟩:=hrel
    have Gb:=qI hkw
    obtain⟨d0,d1,d2,d3,d4⟩:=Gm.o.kept0 hkw
    have hle:=jj it hk
    have Gg:Hid ((yc (123 :: yG it k)).size≤3000001):=qI (by rw [xA,List.length_cons];have:=HL.o;omega)
    clear hkw hle
    by_cases hlt:k < v.m.length
    ·have hltI:(k:Int) < v.m.length:=by omega
     obtain⟨g,o,cap,kd,nm,st,a1,b1,he,q0,q1,q2,q3,q4,q5,hr⟩:=H.o.at_m (Gh.o.then Gb.o) k hlt
     simp only [Value.slice.injEq] at he
     obtain⟨rfl,-,rfl⟩:=he
     obtain⟨p1,i1,d1',p2,i2,d2',rfl,rfl⟩:=hr.sl
     have CW:Hid (∀ z:Ext wr,_):=qI (fun z:Ext wr=>IH.o v.m[k].2 (hr.kept0 z.k) (Gv.o.kid (kD (List.getElem_mem hlt))) (qz Jd.o (kD (List.getElem_mem hlt))))
     have hkS:v.m[k].1.size≤1000000:=by have h1:=Gv.o.2;have h2:=key_le (List.getElem_mem hlt);omega
     have CQ:Hid (∀ z:Ext wr,_):=qI (fun z:Ext wr=>YJ v.m[k].1 hkS z.w)
     have hst:=vJ it k
     have hle2:=jj it (show k + 1≤v.m.length from hlt)
     have hitk:=Gx.o k hlt
     have hitl:(it k).length≤3000001:=by have:=HL.o;omega
     rw [hitk,List.length_append,List.length_cons] at hitl
     have Gr:Hid ((yc (yr v.m[k].1.data.toList)).size≤3000001):=qI (by rw [xA];omega)
     have Gl:Hid ((yc (zq n v.m[k].2)).size≤3000001):=qI (by rw [xA];omega)
     have Gi:Hid (yc (123 :: yG it (k + 1))=(if k=0 then yc (123 :: yG it k) else yc (123 :: yG it k) ++ ⟨#[44]⟩) ++ yc (yr v.m[k].1.data.toList) ++ ⟨#[58]⟩ ++ yc (zq n v.m[k].2)):=qI (by
      rw [show (⟨#[58]⟩:ByteArray)=yc [58] from rfl]
      by_cases h0:k=0
      ·have e0:yG it (k + 1)=it k:=by rw [h0];exact bY it
       have e1:yG it k=[]:=by rw [h0];exact kL it
       rw [if_pos h0,e0,e1,← qh,← qh,← qh,hitk]
       simp
      ·rw [if_neg h0,vA it (by omega),show (⟨#[44]⟩:ByteArray)=yc [44] from rfl,← qh,← qh,← qh,← qh,hitk]
       simp)
     clear hr hst hle2 hitk hitl hkS
     generalize hky:v.m[k].1=key at q0 Gr Gi CQ
     clear hky
     revert Gg CW Gl Gi Gr CQ
     generalize yc (123 :: yG it k)=T
     generalize yc (zq n v.m[k].2)=U
     generalize yc (yr key.data.toList)=Q
     intro Gg CW Gl Gr Gi CQ
     by_cases h0:k=0
     ·have hst:=Gi.o
      rw [if_pos h0] at hst
      have Gs:=qI hst
      have h0I:decide (0 < k)=false:=decide_eq_false (by omega)
      clear h0 hst Gi
      go_wp2_with fail
      have Gj:Hid (T.size≤3000002):=qI (by have:=Gg.o;omega)
      obtain⟨T2,rfl⟩:∃ T2,T2=T:=⟨_,rfl⟩
      have hs2:=Gj.o
      have hq0:=Gr.o
      have hu0:=Gl.o
      have hz2:¬ 9223372036854775807 < T2.size + Q.size:=by omega
      have hz3:¬ 9223372036854775807 < T2.size + Q.size + 1:=by omega
      have hz4:¬ 9223372036854775807 < T2.size + Q.size + 1 + U.size:=by omega
      have e4:=zx d4
      have r0:=zx q0
      have r1:=zx q1
      have r2:=zx q2
      have r3:=zx q3
      have r4:=zx q4
      have r5:=zx q5
      refine yo wr (by kernel_rfl) (by kernel_rfl) (zb.refl _ _) ?_
      clear hs2 hq0 hu0 d0 d1 d2 d3 d4 q0 q1 q2 q3 q4 q5
      repeat go_big_quiet_step (first | (go_at_call 90;exact bU (CQ.o _)) | (go_at_call 48;exact bU (CW.o _)))
      refine wpQuiet_nil ?_
      intro w2 hk2
      have Gf:=qI hk2
      clear hk2 e4 r0 r1 r2 r3 r4 r5 hz2 hz3 hz4
      go_wp2_with fail
      case roundEnd=>exact⟨⟨k + 1,by go_num,by omega,by rw [Gs.o],Gb.o.then Gf.o⟩,by simp [intOf];omega⟩
     ·have hst:=Gi.o
      rw [if_neg h0] at hst
      have Gs:=qI hst
      have h0I:decide (0 < k)=true:=decide_eq_true (by omega)
      have hsz:=Gg.o
      have hz1:¬ 9223372036854775807 < T.size + 1:=by omega
      clear h0 hst Gi hsz
      go_wp2_with fail
      have Gj:Hid ((T ++ ⟨#[44]⟩).size≤3000002):=qI (by rw [ByteArray.size_append,show (⟨#[44]⟩:ByteArray).size=1 from rfl];have:=Gg.o;omega)
      clear hz1
      revert Gs Gj
      generalize T ++ (⟨#[44]⟩:ByteArray)=T2
      intro Gs Gj
      have hs2:=Gj.o
      have hq0:=Gr.o
      have hu0:=Gl.o
      have hz2:¬ 9223372036854775807 < T2.size + Q.size:=by omega
      have hz3:¬ 9223372036854775807 < T2.size + Q.size + 1:=by omega
      have hz4:¬ 9223372036854775807 < T2.size + Q.size + 1 + U.size:=by omega
      have e4:=zx d4
      have r0:=zx q0
      have r1:=zx q1
      have r2:=zx q2
      have r3:=zx q3
      have r4:=zx q4
      have r5:=zx q5
      refine yo wr (by kernel_rfl) (by kernel_rfl) (zb.refl _ _) ?_
      clear hs2 hq0 hu0 d0 d1 d2 d3 d4 q0 q1 q2 q3 q4 q5
      repeat go_big_quiet_step (first | (go_at_call 90;exact bU (CQ.o _)) | (go_at_call 48;exact bU (CW.o _)))
      refine wpQuiet_nil ?_
      intro w2 hk2
      have Gf:=qI hk2
      clear hk2 e4 r0 r1 r2 r3 r4 r5 hz2 hz3 hz4
      go_wp2_with fail
      case roundEnd=>exact⟨⟨k + 1,by go_num,by omega,by rw [Gs.o],Gb.o.then Gf.o⟩,by simp [intOf];omega⟩
    ·obtain rfl:k=v.m.length:=by omega
     have Gn:Hid (yc (zq (n + 1) v)=yc (123 :: yG it v.m.length) ++ ⟨#[125]⟩):=qI (by rw [HE.o,show (⟨#[125]⟩:ByteArray)=yc [125] from rfl,← qh];rfl)
     revert Gg Gn
     generalize yc (123 :: yG it v.m.length)=T
     intro Gg Gn
     have hsT:=Gg.o
     have hz1:¬ 9223372036854775807 < T.size + 1:=by omega
     clear hsT
     go_wp2_with fail
     go_ret
     rw [Gn.o]
     exact⟨rfl,Gh.o.then Gb.o⟩
theorem jJ:∀ (n:Nat),ki n
 | 0=>fun v {_}{_}{_} h _ _=>h.elim
 | n + 1=>YB (jJ n)
theorem refWrite_any:∀ (n:Nat) (v:V n) {S:Nat→Prop}{w:World}{cs:List Value},Rep n S w cs v→yk n v→zo n v=true →
  Calls Tryz.prog 48 #[.agg cs.toArray] w fun e w'=>e = .returned (.string (yc (zq n v)))∧zb [] w w':=fun n=>jJ n
theorem QU (k:zP) (h:zK k=true):zo 3 (j7 k)=true∧yC 3 (j7 k)=0:=by
 have hv:=(qZ.1 (Zt k h)).2.2
 have e:zo 3 (qG k)=(zv (qG k:VS (V 2)) && (qG k:VS (V 2)).kids.all (zo 2)):=rfl
 rw [e,Bool.and_eq_true,List.all_eq_true] at hv
 have hval:zo 2 (jO k)=true:=hv.2 (jO k) (List.Mem.tail _ (List.Mem.tail _ (List.Mem.head _)))
 obtain⟨-,-,-,l4,l5,l6,l7,l8⟩:=lits_ok
 have hr:zo 3 (j7 k)=true:=by
  refine YL (n:=2) _ (by simp [l4,l5,l6]) (by simp only [List.map_cons,List.map_nil];decide) ?_
  intro p hp
  simp only [List.mem_cons,List.not_mem_nil,or_false] at hp
  rcases hp with rfl | rfl | rfl
  ·exact jH (n:=1) _ l7
  ·exact hval
  ·exact jH (n:=1) _ l8
 exact⟨hr,qZ.2 ⟨Nat.le_trans (depth_le 3 _) (by decide),by show (7:Nat)≤4096;omega,hr⟩⟩
theorem K2 (k:zP) (h:k.root.length=32):yk 3 (j7 k):=by
 have e:=(Y7 k h).2
 have e2:ya 3 (j7 k)=0 + (7 + (6 + (6 + 0))) + ((14 + 0 + 0) + (ya 2 (jO k) + ((6 + 0 + 0) + 0))):=rfl
 have e3:ya 2 (jO k)=0 + (4 + (6 + (6 + 0))) + ((0 + 0 + 0) + ((0 + 0 + 0) + (((xU k.root).size + 0 + 0) + 0))):=rfl
 have e4:=qW k.root
 exact⟨by show (7:Nat)≤20000;omega,by rw [e2,e3,e4,h];omega⟩
theorem keyR_sort (k:zP):zz 3 (j7 k)=zz 3 (qG k):=by
 have hn:((((j7 k:VS (V 2)).m.map (fun p=>(p.1,zz 2 p.2))).mergeSort leK).map (fun p=>p.1)).Nodup:=by
  refine ((List.mergeSort_perm ((j7 k:VS (V 2)).m.map (fun p=>(p.1,zz 2 p.2))) leK).map (fun p:ByteArray × V 2=>p.1)).nodup_iff.2 ?_
  show ([⟨#[107,101,121,116,121,112,101]⟩,⟨#[107,101,121,118,97,108]⟩,⟨#[115,99,104,101,109,101]⟩]:List ByteArray).Nodup
  decide
 have hp:(((j7 k:VS (V 2)).m.map (fun p=>(p.1,zz 2 p.2))).mergeSort leK).Perm (((qG k:VS (V 2)).m.map (fun p=>(p.1,zz 2 p.2))).mergeSort leK):=by
  refine ((List.mergeSort_perm _ _).trans ?_).trans (List.mergeSort_perm _ _).symm
  refine List.Perm.map _ ?_
  exact List.Perm.cons _ (List.Perm.swap _ _ _)
 have he:=kQ hp (List.pairwise_mergeSort qY vI _) (List.pairwise_mergeSort qY vI _) hn
 show (⟨6,0,⟨#[]⟩,[],_⟩:VS (V 2))=⟨6,0,⟨#[]⟩,[],_⟩
 exact congrArg (fun m=>(⟨6,0,⟨#[]⟩,[],m⟩:VS (V 2))) he
theorem keyR_enc (k:zP) (hr:k.root.length=32) (h:zK k=true):zq 3 (zz 3 (j7 k))=(kG 3 (qG k)).1∧(zq 3 (zz 3 (j7 k))).length≤262144:=by
 have hc:=Zt k h
 have hl:=(QJ k hr h)
 rw [keyR_sort]
 by_cases q:(zq 3 (zz 3 (qG k))).length≤262144
 ·rw [Zp hc q];exact⟨rfl,q⟩
 ·exfalso
  rw [zad hc (by omega)] at hl
  cases hl.1
theorem small_sorted {n:Nat}{v:V n}(h:yk n v):yk n (zz n v):=⟨by rw [jI];exact h.1,by rw [jB];exact h.2⟩
theorem Z4 (k:zP) (hb:kx k.bits) (hr:k.root.length=32) (w:World):Calls Tryz.prog 18 #[.agg (yi k)] w fun e w'=>e = .returned (.string (yu k))∧zb [] w w':=by
 obtain⟨W0,Ga⟩:∃ W0,Hid (W0=w.alloc (.cells (yi k) 47)):=⟨_,qI rfl⟩
 have Gh:Hid (zb [] w W0):=qI (by rw [Ga.o];exact (zb.refl _ w).alloc _)
 have HA:Hid (yt W0 w.heap.size k):=qI (by rw [Ga.o];exact zd rfl)
 have Gp:=qI hr
 have CM:=qI (ZA k hb W0)
 have CV:=qI (QC k hb hr)
 have Gy:Hid (yu k=if zK k=true then xU (zY (kG 3 (qG k)).1) else ⟨#[]⟩):=qI rfl
 clear hb hr
 by_cases hm:zK k=true
 rotate_left
 ·have Gz:Hid (yu k=⟨#[]⟩):=qI (by rw [Gy.o,if_neg hm])
  have hm2:zK k=false:=by simpa using hm
  rw [hm2] at CM
  clear hm hm2
  go_enter func18,ntmps18
  go_upto_region 1 with fail
  rw [← Ga.o]
  go_wp2_with first
   | (refine zT (by rfl) (.tmp 1) (by rfl) HA.o Gp.o (by rfl) ?_)
   | (go_at_call 46;refine CM.o.mono ?_;rintro e w1 ⟨rfl,hk1⟩;have Ja:=qI hk1;clear hk1)
  go_ret
  exact⟨by rw [Gz.o];rfl,Gh.o.then Ja.o⟩
 obtain⟨X,HX⟩:∃ X,Hid (X=zq 3 (zz 3 (j7 k))):=⟨_,qI rfl⟩
 have Gz:Hid (yu k=xU (zY X)):=qI (by rw [Gy.o,if_pos hm,HX.o,(keyR_enc k Gp.o hm).1])
 have Jf:Hid (X.length≤262144):=qI (by rw [HX.o];exact (keyR_enc k Gp.o hm).2)
 have CV2:Hid (∀ w1,Calls Tryz.prog 50 #[.agg (yi k)] w1 fun e w'=>(∃ k3 m3 s3 p3 i3 c3 q3 j3 e3,e = .returned (.agg #[.int .i64 k3,.int .i64 m3,.string s3,.slice p3 i3 c3,.slice q3 j3 e3])∧Rep 3 (fun _=>True) w' [.int .i64 k3,.int .i64 m3,.string s3,.slice p3 i3 c3,.slice q3 j3 e3] (j7 k))∧zb [] w1 w'):=qI (fun w1=>by
  refine (CV.o w1).mono ?_
  rintro e w' ⟨h9,hk9⟩
  unfold Zg at h9
  rw [if_pos hm] at h9
  obtain⟨cs,rfl,h8⟩:=h9
  obtain⟨k3,m3,s3,p3,i3,c3,q3,j3,e3,rfl⟩:=h8.conv
  exact⟨⟨k3,m3,s3,p3,i3,c3,q3,j3,e3,rfl,h8.mono (fun _ _ _=>trivial)⟩,hk9⟩)
 have CSO:Hid (∀ (w1:World) (cs:List Value),Rep 3 (fun _=>True) w1 cs (j7 k)→Calls Tryz.prog 49 #[.agg cs.toArray] w1 fun e w'=>(∃ k3 m3 s3 p3 i3 c3 q3 j3 e3,e = .returned (.agg #[.int .i64 k3,.int .i64 m3,.string s3,.slice p3 i3 c3,.slice q3 j3 e3])∧Rep 3 (fun _=>True) w' [.int .i64 k3,.int .i64 m3,.string s3,.slice p3 i3 c3,.slice q3 j3 e3] (zz 3 (j7 k)))∧zb [] w1 w'):=qI (fun w1 cs hc=>by
  refine (Y8 3 (j7 k) hc (K2 k Gp.o) (QU k hm).1).mono ?_
  rintro e w' ⟨⟨cs',rfl,h8⟩,hk9⟩
  have h8:=h8.rep
  obtain⟨k3,m3,s3,p3,i3,c3,q3,j3,e3,rfl⟩:=h8.conv
  exact⟨⟨k3,m3,s3,p3,i3,c3,q3,j3,e3,rfl,h8.mono (fun _ _ _=>trivial)⟩,hk9⟩)
 have CWR:Hid (∀ (w1:World) (cs:List Value),Rep 3 (fun _=>True) w1 cs (zz 3 (j7 k))→Calls Tryz.prog 48 #[.agg cs.toArray] w1 fun e w'=>e = .returned (.string (yc X))∧zb [] w1 w'):=qI (fun w1 cs hc=>by
  rw [HX.o]
  exact refWrite_any 3 (zz 3 (j7 k)) hc (small_sorted (K2 k Gp.o)) (by rw [jy];exact (QU k hm).1))
 rw [hm] at CM
 clear hm CV Gy
 go_enter func18,ntmps18
 go_upto_region 1 with fail
 rw [← Ga.o]
 go_upto_region 3 with first
  | (refine zT (by rfl) (.tmp 1) (by rfl) HA.o Gp.o (by rfl) ?_)
  | (go_at_call 46;refine CM.o.mono ?_;rintro e w1 ⟨rfl,hk1⟩;have Ja:=qI hk1;have Jk:=qI (yt.kept0 HA.o hk1);clear hk1)
 go_upto_region 4 with first
  | (refine zT (by rfl) (.tmp 1) (by rfl) Jk.o Gp.o (by rfl) ?_)
  | (go_at_call 50;refine (CV2.o _).mono ?_;rintro e w2 ⟨⟨k3,m3,s3,p3,i3,c3,q3,j3,e3,rfl,h3⟩,hk2⟩;have H3:=qI h3;have Gf:=qI (Ja.o.then hk2);clear hk2 h3)
  | (go_at_call 49;refine (CSO.o _ _ H3.o).mono ?_;rintro e w3 ⟨⟨k4,m4,s4,p4,i4,c4,q4,j4,e4,rfl,h4⟩,hk3⟩;have H4:=qI h4;have Jl:=qI (Gf.o.then hk3);clear hk3 h4)
  | (go_at_call 48;refine (CWR.o _ _ H4.o).mono ?_;rintro e w4 ⟨rfl,hk4⟩;have Jm:=qI (Jl.o.then hk4);clear hk4;obtain⟨ba,bn,bc,w5,hcv,hbn,hb5,hk5⟩:=JZ w4 (yc X) (by rw [xA];have:=Jf.o;omega);rw [xR] at hbn hb5;subst hbn;have Jr:=qI hb5;have Jn:=qI (Jm.o.then hk5);have CO:=qI (refSha_any w5 ba bc X hb5 (by have:=Jf.o;omega));clear hk5 hb5)
  | (go_at_call 47;refine CO.o.mono ?_;rintro e w6 ⟨rfl,hk6⟩;have Jo:=qI (Jn.o.then hk6);clear hk6)
  | (refine zu (by rfl) (.tmp 3) (.tmp 12) (by rfl) (g:=w6.heap.size) (l:=zY X) (l0:=xy zw 0) (zd rfl) (z6 _ _) (yn X) (by rfl) (by rfl) ?_;intro w7 h7 hk7;have Jg:=qI h7;have Jb:Hid (zb [] w6 w7):=qI (((zb.refl [] w6).alloc _).trans hk7 (by intro i hi;simp at hi;subst hi;exact .inr (Nat.le_refl _)));clear h7 hk7;simp only [Act.put])
 have Jp:Hid (Calls Tryz.prog 51 #[.slice (some ⟨w6.heap.size,0,none⟩) 32 32] w7 fun e w'=>e = .returned (.string (xU (zY X)))∧zb [] w7 w'):=qI (by
  have hb:zp w7 (.slice (some ⟨w6.heap.size,0,none⟩) (zY X).length 32) (zY X):=⟨by simp,.inr (.inr ⟨w6.heap.size,0,32,rfl,by rw [yn];omega,by decide,⟨Jg.o.range,Jg.o.lt⟩⟩)⟩
  have h9:=YF hb (by rw [yn];decide)
  rw [yn] at h9
  exact h9)
 go_wp2_with (go_at_call 51;refine Jp.o.mono ?_;rintro e w8 ⟨rfl,hk8⟩;have Jq:=qI hk8;clear hk8)
 go_ret
 exact⟨by rw [Gz.o];rfl,((Gh.o.then Jo.o).then Jb.o).then Jq.o⟩
section
variable {P : Program} (w : World)
end
end Go.Proofs.YtibnfbglanpoiaaGreatDoor

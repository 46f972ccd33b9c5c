/- Parts of one proof, merged: XEF. -/
import Derived.Test.YtibnfbglanpoiaaGreatDoorQbS
import Derived.Test.YtibnfbglanpoiaaGreatDoorQbAL
import Derived.Test.YtibnfbglanpoiaaGreatDoorQbAE
import Derived.Deep.QuietTactic
import Derived.BigQuiet
set_option linter.all false
set_option maxHeartbeats 12800000
set_option maxRecDepth 10000
set_option linter.unusedVariables false
set_option linter.unusedSimpArgs false
set_option linter.unnecessarySimpa false
namespace Go.Proofs.YtibnfbglanpoiaaGreatDoor
open Go.Proofs.Tryz
open Go.RowKit
attribute [local go_sem] Oper.semAt_some
theorem take_rev {α:Type}(l:List α) (j:Nat) (hj:j < l.length):l.reverse.take (l.length - 1 - j + 1)=l.reverse.take (l.length - 1 - j) ++ [l[j]]:=by
 rw [List.take_succ_eq_append_getElem (by rw [List.length_reverse];omega),List.getElem_reverse]
 congr 2
 congr 1
 omega
theorem krows_snoc (l:List yK) (r:yK):xN (l ++ [r])=xN l ++ r.enc:=by simp [xN]
theorem nodup_snoc {l:List yK}{i:Nat}(hi:i < l.length) (h:((l.take i).map yK.id).Nodup) (hne:∀ j (hj:j < i),l[j].id≠l[i].id):((l.take (i + 1)).map yK.id).Nodup:=by
 rw [List.take_succ_eq_append_getElem hi,List.map_append,List.nodup_append]
 refine⟨h,by simp,fun a ha b hb=>?_⟩
 obtain⟨x,hx,rfl⟩:=List.mem_map.1 ha
 obtain⟨j,hj,rfl⟩:=List.getElem_of_mem hx
 rw [List.map_cons,List.map_nil,List.mem_singleton] at hb
 subst hb
 rw [List.length_take] at hj
 rw [List.getElem_take]
 exact hne j (by omega)
structure vG (B g:Nat) (W w:World) (a:Option Addr) (k c:Nat) (th:Int) (l:List ByteArray):Prop where
 box:JH w g (.slice a k c) th
 row:w.ownsRow B 9 1 (.slice a k c) k (l.map Value.string)
 kept:zb [g] W w
 base:W.heap.size≤B
theorem vG.kept0 {B g:Nat}{W w w':World}{a:Option Addr}{k c:Nat}{th:Int}{l:List ByteArray}(h:vG B g W w a k c th l) (q:zb [] w w'):vG B g W w' a k c th l:=
 ⟨q.heap h.box (by simp),zk h.row q (by simp),h.kept.then q,h.base⟩
theorem vG.push {B g:Nat}{W w w':World}{a a5:Option Addr}{k c c5:Nat}{th:Int}{l:List ByteArray}{s:ByteArray}(h:vG B g W w a k c th l)
  (ho:w'.ownsRow B 9 1 (.slice a5 (k + 1) c5) (k + 1) (l.map Value.string ++ [.string s])) (hk:zb (Value.slice a k c).ownBlock.toList w w') :
  w'.cell? ⟨g,0,none⟩=some (.slice a k c)∧w'.frozen? ⟨g,0,none⟩=false∧vG B g W (w'.setCell ⟨g,0,none⟩ (.slice a5 (k + 1) c5)) a5 (k + 1) c5 th (l ++ [s]):=by
 have hne:g ∉ (Value.slice a k c).ownBlock.toList:=fun hx=>yH (z7 h.row (Option.mem_toList.1 hx)) (zy h.box) (by decide) rfl
 have hb:=hk.heap h.box hne
 have ks:zb [g] w' (w'.setCell ⟨g,0,none⟩ (.slice a5 (k + 1) c5)):=(zb.refl _ w').setCell (.inl (by simp)) _
 refine⟨za (o:=0) hb rfl,zh hb,ze (i:=0) (v:=.slice a5 (k + 1) c5) (d:=#[.slice a5 (k + 1) c5,.int .i64 th]) hb rfl,?_,?_,h.base⟩
 ·rw [List.map_append]
  exact zk ho ks (fun q hq hx=>by
   simp at hx
   subst hx
   exact yH (z7 ho hq) (zy hb) (by decide) rfl)
 ·exact (h.kept.trans hk (fun i hi=>.inr (Nat.le_trans h.base (h.row.lt i (Option.mem_toList.1 hi)).1))).setCell (.inl (by simp)) _
set_option maxRecDepth 100000 in
theorem Y1 {n:Nat}{v:V n}{S:Nat→Prop}{w:World}{cs:List Value}(hv:jR n BB S w cs v) {a:Option Addr}{c:Nat}{l:List yl}(hr:qu w (.slice a l.length c) l) (hz:∀ r,r ∈ l→r.small) (hl:l.length≤140737488355328)
  {r:qf}{ra:Option Addr}{rc:Nat}(hro:yy w (.slice ra r.keys.length rc) r.keys) (hrz:∀ k,k ∈ r.keys→k.size≤140737488355328) (hrn:r.keys.length≤140737488355328)
  {a2:Option Addr}{c2:Nat}{keys:List yK}(hk:Slc w 35 (.slice a2 keys.length c2) keys.length (xN keys)) (hkf:∀ r,r ∈ keys→r.fine) (hkn:keys.length≤140737488355328) (ht:xW w) (hks:xb w) :
  Calls Tryz.prog 6 #[.agg (bA cs a l.length c).toArray,.agg #[.slice ra r.keys.length rc,.int .i64 r.thr],.slice a2 keys.length c2] w fun e w'=>e = .returned (.bool true)∧zb [] w w':=by
 obtain⟨kd,nm,st,p1,i1,d1,p2,i2,d2,rfl⟩:=hv.1.conv
 obtain⟨W1,Gq⟩:∃ W1,Hid (W1=(w.alloc (.cells #[.int .i64 kd,.int .i64 nm,.string st,.slice p1 i1 d1,.slice p2 i2 d2,.slice a l.length c] 28)).alloc (.cells #[.slice ra r.keys.length rc,.int .i64 r.thr] 31)):=⟨_,qI rfl⟩
 have Gz:Hid (zb [] w W1):=qI (by rw [Gq.o];exact ((zb.refl _ w).alloc _).alloc _)
 have Gh:Hid (QK W1 w.heap.size kd nm st (.slice p1 i1 d1) (.slice p2 i2 d2) (.slice a l.length c)):=qI (by rw [Gq.o];exact ((zb.refl [] _).alloc _).heap (zd rfl) (by simp))
 have Gi:Hid (JH W1 (w.heap.size + 1) (.slice ra r.keys.length rc) r.thr):=qI (by rw [Gq.o];exact zd (by simp))
 have Jr:Hid (bN (∃ v':V 21,Rep 21 S w [.int .i64 kd,.int .i64 nm,.string st,.slice p1 i1 d1,.slice p2 i2 d2] v'∧yx 21 v') w (.agg #[.int .i64 kd,.int .i64 nm,.string st,.slice p1 i1 d1,.slice p2 i2 d2])):=qI (incomingR hv)
 have CLG:=qI (large18_any (Jr.o.kept0 Gz.o) (hr.kept0 Gz.o) hz hl ra r.keys.length rc hrn r.thr a2 keys.length c2 hkn)
 have CRL:Hid (∀ w2,zb [] w w2→Calls Tryz.prog 14 #[.agg #[.int .i64 kd,.int .i64 nm,.string st,.slice p1 i1 d1,.slice p2 i2 d2,.slice a l.length c]] w2 fun e w'=>(∃ b,e = .returned (.bool b))∧zb [] w2 w'):=qI (fun w2 h=>(bi (Jr.o.kept0 h) (hr.kept0 h) hz hl).mono (fun e w' h9=>by obtain⟨⟨b,e1,-⟩,h2⟩:=h9;exact⟨⟨b,e1⟩,h2⟩))
 have CLL:Hid (∀ w2,zb [] w w2→Calls Tryz.prog 8 #[] w2 fun e w'=>e = .returned (.bool true)∧zb [] w2 w'):=qI (fun w2 h=>lives18_any (ht.kept0 h) (hks.kept0 h))
 have Gr:Hid (l.length≤50→∀ (v':V 21),Rep 21 S w [.int .i64 kd,.int .i64 nm,.string st,.slice p1 i1 d1,.slice p2 i2 d2] v'→yx 21 v'→∀ w2,zb [] w w2→Env 21 S w2 [.int .i64 kd,.int .i64 nm,.string st,.slice p1 i1 d1,.slice p2 i2 d2] v' a c l):=qI (fun h50 v' h1 h2 w2 h=>⟨h1.kept0 h,h2,by decide,hr.kept0 h,hz,by omega⟩)
 show Calls _ _ #[.agg #[.int .i64 kd,.int .i64 nm,.string st,.slice p1 i1 d1,.slice p2 i2 d2,.slice a l.length c],.agg #[.slice ra r.keys.length rc,.int .i64 r.thr],.slice a2 keys.length c2] _ _
 have Jk:=qI hro
 have Js:=qI hrz
 have Ja:=qI (And.intro hk hkf)
 have HT:=qI ht
 have Gu:=qI hks
 have hkI:(keys.length:Int)≤140737488355328:=by omega
 have hrI:(r.keys.length:Int)≤140737488355328:=by omega
 clear hv hr hz hl hro hrz hrn hk hkf hkn ht hks
 obtain⟨m,HM⟩:∃ m,Hid (m=l.length):=⟨_,qI rfl⟩
 obtain⟨rn,Gb⟩:∃ rn,Hid (rn=r.keys.length):=⟨_,qI rfl⟩
 obtain⟨kn,Gc⟩:∃ kn,Hid (kn=keys.length):=⟨_,qI rfl⟩
 obtain⟨th,Gm⟩:∃ th,Hid (th=r.thr):=⟨_,qI rfl⟩
 rw [← HM.o,← Gb.o,← Gc.o,← Gm.o]
 rw [← HM.o,← Gb.o,← Gc.o,← Gm.o] at CLG
 rw [← HM.o] at Gh Gr CRL Gq
 rw [← Gb.o,← Gm.o] at Gi Gq
 rw [← Gc.o] at hkI
 rw [← Gb.o] at hrI
 have c0:=za (o:=0) Gh.o rfl
 have c1:=za (o:=1) Gh.o rfl
 have c2':=za (o:=2) Gh.o rfl
 have c3:=za (o:=3) Gh.o rfl
 have c4:=za (o:=4) Gh.o rfl
 have c5:=za (o:=5) Gh.o rfl
 have r0:=za (o:=0) Gi.o rfl
 have r1:=za (o:=1) Gi.o rfl
 go_enter func6,ntmps6
 go_upto_region 1 with fail
 change Code.wp _ _ _ _ ((w.alloc (.cells #[.int .i64 kd,.int .i64 nm,.string st,.slice p1 i1 d1,.slice p2 i2 d2,.slice a m c] 28)).alloc (.cells #[.slice ra rn rc,.int .i64 th] 31))
 rw [← Gq.o]
 go_wp2_with first
  | (go_at_call 7;refine CLG.o.mono ?_;rintro e w2 ⟨⟨b,rfl,hb⟩,hk2⟩;have HB:=qI hb;have Jt:=qI hk2;have Ju:=qI (Gz.o.then hk2);have y0:=hk2.cell c0 (by simp);have y1:=hk2.cell c1 (by simp);have y2:=hk2.cell c2' (by simp);have y3:=hk2.cell c3 (by simp);have y4:=hk2.cell c4 (by simp);have y5:=hk2.cell c5 (by simp);clear hk2 hb c0 c1 c2' c3 c4 c5;cases b)
  | (go_at_call 14;refine (CRL.o _ Ju.o).mono ?_;rintro e w3 ⟨⟨b,rfl⟩,hk3⟩;have Jv:=qI (Jt.o.then hk3);have Gv:=qI (Ju.o.then hk3);clear hk3 y0 y1 y2 y3 y4 y5;cases b)
  | (have hq:=Gv.o;go_at_call 8;refine (CLL.o _ hq).mono ?_;rintro e w4 ⟨rfl,hk4⟩;have Jb:=qI (hq.then hk4);clear hk4 hq)
  | (have hq:=Ju.o;go_at_call 8;refine (CLL.o _ hq).mono ?_;rintro e w4 ⟨rfl,hk4⟩;have Jb:=qI (hq.then hk4);clear hk4 hq)
 rotate_left
 ·go_ret
  exact⟨rfl,Jb.o⟩
 ·go_ret
  exact⟨rfl,Jb.o⟩
 have Jc:Hid ((m≤50∧∃ v':V 21,Rep 21 S w [.int .i64 kd,.int .i64 nm,.string st,.slice p1 i1 d1,.slice p2 i2 d2] v'∧yx 21 v')∧rn≤30∧kn≤30):=qI (HB.o (by first | rfl | trivial))
 have Jl:Hid (∀ w2,zb [] w w2→xu w2 (.slice a2 keys.length c2) keys):=qI (fun w2 hk=>⟨Slc.kept0 Ja.o.1 hk,Ja.o.2,by have:=Gc.o;have:=Jc.o.2.2;omega⟩)
 have hk30:(kn:Int)≤30:=by have:=Jc.o.2.2;omega
 have hr30:(rn:Int)≤30:=by have:=Jc.o.2.1;omega
 clear r0 r1 hkI hrI
 go_loopw [7,8] (fun t7 _ wr=>∃ i:Nat,t7 = .int .i64 i∧i≤kn∧Hid (zb [] w3 wr)∧Hid (((keys.take i).map yK.id).Nodup)) (fun t7 _ _=>kn - (intOf t7).toNat)
 case atStart=>exact⟨0,rfl,Nat.zero_le _,qI (zb.refl _ _),qI (by simp)⟩
 case round=>
  obtain⟨i,rfl,hi,Jw,Jx⟩:=hrel
  rcases Nat.lt_or_ge i kn with hlt | hge
  ·have hiI:(i:Int) < kn:=by omega
   have HI:=qI hlt
   have hil:i < keys.length:=by have:=Gc.o;omega
   obtain⟨g,o,rfl,-,hcell⟩:=xu.cells (Jl.o w (zb.refl _ _)) (by omega)
   have Mm:Hid (∀ j (hj:j < keys.length),∀ w2,zb [] w w2→w2.cell? ⟨g,o + j * 35,none⟩=some (.string keys[j].id)):=qI (fun j hj w2 hk=>hk.cell (hcell j hj 0 _ rfl) (by simp))
   clear hcell hi hlt
   go_wp2_with fail
   go_loopw [8] (fun t8 wr2=>∃ k:Nat,t8 = .int .i64 k∧k≤i∧Hid (zb [] w3 wr2)∧Hid (∀ j,j < k→(keys[j]?).map yK.id≠(keys[i]?).map yK.id)) (fun t8 _=>i - (intOf t8).toNat)
   case atStart=>exact⟨0,rfl,Nat.zero_le _,Jw,qI (fun j hj=>absurd hj (Nat.not_lt_zero j))⟩
   case round=>
    obtain⟨k,rfl,hk,Ga,Mn⟩:=hrel
    rcases Nat.lt_or_ge k i with hki | hki
    ·have hkI:(k:Int) < i:=by omega
     have hkn:(k:Int) < kn:=by omega
     have Mo:=qI hki
     have hkl:k < keys.length:=by omega
     have e0:=Mm.o k hkl _ (Gv.o.then Ga.o)
     have e1:=Mm.o i hil _ (Gv.o.then Ga.o)
     by_cases heq:keys[k].id=keys[i].id
     ·generalize keys[k].id=s1 at e0 heq
      generalize keys[i].id=s2 at e1 heq
      obtain⟨f1,f2⟩:=vw heq
      clear heq hkl hil hki hk
      go_wp2_with fail
      go_quiet (fail)
      go_wp2_with (go_at_call 8;refine (CLL.o _ ((Gv.o.then Ga.o).drewN _)).mono ?_;rintro e w4 ⟨rfl,hk4⟩;have Jb:=qI (((Gv.o.then Ga.o).drewN _).then hk4);clear hk4)
      go_ret
      exact⟨rfl,Jb.o⟩
     ·have Jy:Hid (∀ j,j < k + 1→(keys[j]?).map yK.id≠(keys[i]?).map yK.id):=qI (fun j hj=>by
       rcases Nat.lt_or_ge j k with h1 | h1
       ·exact Mn.o j h1
       ·obtain rfl:j=k:=by omega
        rw [List.getElem?_eq_getElem hkl,List.getElem?_eq_getElem hil]
        intro h9
        exact heq (Option.some.inj h9))
      generalize keys[k].id=s1 at e0 heq
      generalize keys[i].id=s2 at e1 heq
      obtain⟨f1,f2⟩:=jH heq
      clear heq hkl hil hki hk
      go_wp2_with fail
      go_quiet (fail)
      go_wp2_with fail
      case roundEnd=>exact⟨⟨k + 1,by go_num,Mo.o,qI (Ga.o.drewN _),Jy⟩,by have:=Mo.o;simp [intOf];omega⟩
    ·obtain rfl:k=i:=by omega
     have Jz:Hid (((keys.take (k + 1)).map yK.id).Nodup):=qI (nodup_snoc hil Jx.o (fun j hj h9=>Mn.o j hj (by
      rw [List.getElem?_eq_getElem hil,List.getElem?_eq_getElem (by omega)]
      exact congrArg some h9)))
     clear hki hk hil
     go_wp2_with fail
     case roundEnd=>exact⟨⟨k + 1,by go_num,HI.o,Ga,Jz⟩,by have:=HI.o;simp [intOf];omega⟩
  ·obtain rfl:i=kn:=by omega
   have Jd:Hid ((keys.map yK.id).Nodup):=qI (by have h1:=Jx.o;rw [List.take_of_length_le (by have:=Gc.o;omega)] at h1;exact h1)
   have Je:=qI (Gv.o.then Jw.o)
   obtain⟨W5,hW5⟩:∃ W5,W5=wr:=⟨_,rfl⟩
   subst hW5
   have hge0:¬ ((i:Int) < i):=by omega
   clear hge hi
   go_wp2_with fail
   go_loopw [9,10] (fun t9 t10 wr2=>(∃ (j:Nat) (av:Option Addr) (ac:Nat),t10 = .int .i64 j∧t9 = .slice av (i - 1 - j) ac∧j < i∧Hid (wr2.ownsRow W5.heap.size 49 35 (.slice av (i - 1 - j) ac) (i - 1 - j) (xN (keys.reverse.take (i - 1 - j))))∧Hid (zb [] W5 wr2))∨(∃ (av:Option Addr) (ac:Nat),t10 = .int .i64 (-1)∧t9 = .slice av i ac∧Hid (wr2.ownsRow W5.heap.size 49 35 (.slice av i ac) i (xN keys.reverse))∧Hid (zb [] W5 wr2))) (fun _ t10 _=>(intOf t10 + 1).toNat)
   case atStart=>
    have hm:=Gc.o
    rcases Nat.eq_zero_or_pos i with h0 | h0
    ·subst h0
     have h1:keys=[]:=List.eq_nil_of_length_eq_zero hm.symm
     subst h1
     exact .inr ⟨none,0,rfl,rfl,qI (World.ownsRow_nil _ _ _ _),qI (zb.refl _ _)⟩
    ·refine .inl ⟨i - 1,none,0,by congr 1;omega,?_,by omega,?_,qI (zb.refl _ _)⟩
     ·rw [show i - 1 - (i - 1)=0 by omega]
     ·rw [show i - 1 - (i - 1)=0 by omega];exact qI (World.ownsRow_nil _ _ _ _)
   case round=>
    rcases hrel with ⟨j,av,ac,rfl,rfl,hj,Gw,Ga⟩ | ⟨ab,cb,rfl,rfl,Gw,Ga⟩
    ·have hm:=Gc.o
     have hj2:j < keys.length:=by omega
     obtain⟨g,o,rfl,-,hcell⟩:=xu.cells (Jl.o _ (Je.o.then Ga.o)) (by omega)
     have Ma:Hid (wr.rangeAt g (o + j * 35) (qe keys[j].id keys[j].key)):=qI (hcell j hj2)
     have Jm:Hid (keys[j].key.root.length=32):=qI (Ja.o.2 _ (List.getElem_mem _)).1
     have Gn:Hid (keys.reverse.take (i - 1 - j + 1)=keys.reverse.take (i - 1 - j) ++ [⟨keys[j].id,keys[j].key⟩]):=qI (by have h1:=take_rev keys j hj2;rw [← hm] at h1;exact h1)
     have Mb:=qI hj
     have hjI:(j:Int) < i:=by omega
     obtain⟨k,hk⟩:∃ k,i - 1 - j=k:=⟨_,rfl⟩
     rw [hk] at Gw Gn ⊢
     have Mc:=qI hk
     have Jf:Hid (k≤30):=qI (by omega)
     generalize keys[j].id=s1 at Ma Gn
     generalize keys[j].key=y1 at Ma Gn Jm
     clear hk hm hj hj2 hcell
     go_wp2_with first
      | (refine Zd (by rfl) _ rfl Ma.o Jm.o (by rfl) ?_)
      | (refine vO (by rfl) (.tmp 60) (by rfl) Jm.o (by rfl) ?_)
      | (at_builtin;refine zj tyRows (v:=.slice av k ac) (n:=k) (m:=1) (news:=qe s1 y1) (xs:=xN (keys.reverse.take k)) (zk Gw.o ((zb.refl [] _).alloc (.cells (qe s1 y1).toArray 49)) (by simp)) (zY wr (qe s1 y1) 35 1 _ _ rfl (xy Jm.o) (by decide)) (rowL_one _ _) (by have:=Jf.o;simp only [maxLen];omega) (by have:=Jf.o;omega) (by have:=Ga.o.size;simp;omega) rfl _ _ rfl rfl rfl ?_;intro v9 w9 hown hk9 _ _;obtain⟨a9,c9,rfl,-,-⟩:=(Slc.of_row hown).form;have My:=qI hown;have Gp:Hid (zb [] W5 w9):=qI ((Ga.o.alloc _).trans hk9 (fun b hb=>.inr (Gw.o.lt b (Option.mem_toList.1 hb)).1));clear hown hk9)
     case roundEnd=>
      have hj:=Mb.o
      have hkj:=Mc.o
      have h1:=My.o
      have e1:xN (keys.reverse.take k) ++ qe s1 y1=xN (keys.reverse.take (k + 1)):=by rw [Gn.o,krows_snoc];rfl
      rw [e1] at h1
      by_cases h0:j=0
      ·refine⟨.inr ⟨a9,c9,by rw [h0];rfl,?_,?_,Gp⟩,by simp [intOf,h0]⟩
       ·have e:k + 1=i:=by omega
        rw [e]
       ·have e:k + 1=i:=by omega
        rw [e,List.take_of_length_le (by rw [List.length_reverse,← Gc.o];exact Nat.le_refl _)] at h1
        exact qI h1
      ·refine⟨.inl ⟨j - 1,a9,c9,by congr 1;omega,?_,by omega,?_,Gp⟩,by first | (simp [intOf];done) | (simp [intOf];omega)⟩
       ·rw [show i - 1 - (j - 1)=k + 1 by omega]
       ·rw [show i - 1 - (j - 1)=k + 1 by omega]
        exact qI h1
    ·have Gj:Hid (zb [] w wr):=qI (Je.o.then Ga.o)
     have Gk:Hid (zb [] W1 wr):=qI (Jv.o.then (Jw.o.then Ga.o))
     have Md:Hid (Slc wr 35 (.slice ab i cb) i (xN keys.reverse)):=qI (Slc.of_row Gw.o)
     have r0:=Gk.o.cell (za (o:=0) Gi.o rfl) (by simp)
     have r1:=Gk.o.cell (za (o:=1) Gi.o rfl) (by simp)
     have r0':=((zb.refl [] wr).alloc (.cells #[.slice none 0 0,.int .i64 th] 31)).cell r0 (by simp)
     clear Gw Jx hge0
     go_wp2_with fail
     obtain⟨W6,Jn⟩:∃ W6,Hid (W6=wr.alloc (.cells #[.slice none 0 0,.int .i64 th] 31)):=⟨_,qI rfl⟩
     have Gs:Hid (zb [] wr W6):=qI (by rw [Jn.o];exact (zb.refl _ _).alloc _)
     have Me:Hid (JH W6 wr.heap.size (.slice none 0 0) th):=qI (by rw [Jn.o];exact zd rfl)
     rw [← Jn.o]
     have Mf:Hid (W1.heap.size≤wr.heap.size∧w.heap.size + 2≤W1.heap.size):=qI ⟨Gk.o.size,by rw [Gq.o];simp⟩
     generalize hg11:wr.heap.size=g11 at Me Mf ⊢
     have Jg:Hid (vG W6.heap.size g11 W6 W6 none 0 0 th []):=qI ⟨Me.o,World.ownsRow_nil _ _ _ _,zb.refl _ _,Nat.le_refl _⟩
     have Mz:Hid (wr.heap.size≤g11):=qI (by omega)
     have Jo:Hid (∀ q,q < W1.heap.size→q ∉ [g11]):=qI (fun q hq=>by have:=Mf.o.1;rw [List.mem_singleton];omega)
     have Mp:Hid (zb [] w W6):=qI (Gj.o.then Gs.o)
     have Gt:Hid (zb [] W1 W6):=qI (Gk.o.then Gs.o)
     clear r0 r1 r0' Jn Me hg11
     go_loopw [12] (fun t12 wr3=>(∃ (j:Nat) (av:Option Addr) (ac:Nat),t12 = .int .i64 j∧j < rn∧Hid (vG W6.heap.size g11 W6 wr3 av (rn - 1 - j) ac th (r.keys.reverse.take (rn - 1 - j))))∨(∃ (at':Option Addr) (ct:Nat),t12 = .int .i64 (-1)∧Hid (vG W6.heap.size g11 W6 wr3 at' rn ct th r.keys.reverse))) (fun t12 _=>(intOf t12 + 1).toNat)
     case atStart=>
      have hm:=Gb.o
      rcases Nat.eq_zero_or_pos rn with h0 | h0
      ·have h1:r.keys=[]:=List.eq_nil_of_length_eq_zero (by omega)
       rw [h0,h1]
       exact .inr ⟨none,0,rfl,Jg⟩
      ·exact .inl ⟨rn - 1,none,0,by congr 1;omega,by omega,by rw [show rn - 1 - (rn - 1)=0 by omega];exact Jg⟩
     case round=>
      rcases hrel with ⟨j,av,ac,rfl,hj,Gf⟩ | ⟨at',ct,rfl,Gf⟩
      ·have hm:=Gb.o
       have hj2:j < r.keys.length:=by omega
       obtain⟨g,o,rfl,hcell⟩:=yy.at Jk.o (k:=j) hj2
       have hgl:=Slc.lt Jk.o (g:=g) (kW (by omega))
       have Mq:Hid (wr.cell? ⟨g,o + j,none⟩=some (.string r.keys[j])):=qI (Gf.o.kept.cell (Mp.o.cell hcell (by simp)) (Jo.o g (by have:=Gz.o.size;omega)))
       have z0:=Gf.o.kept.cell (Gt.o.cell (za (o:=0) Gi.o rfl) (by simp)) (Jo.o _ (lt_of_block Gi.o))
       have Gn:Hid (r.keys.reverse.take (rn - 1 - j + 1)=r.keys.reverse.take (rn - 1 - j) ++ [r.keys[j]]):=qI (by have h1:=take_rev r.keys j hj2;rw [← hm] at h1;exact h1)
       have Mb:=qI hj
       have hjI:(j:Int) < rn:=by omega
       obtain⟨k,hk⟩:∃ k,rn - 1 - j=k:=⟨_,rfl⟩
       rw [hk] at Gf Gn
       have Mc:=qI hk
       have Jf:Hid (k≤30):=qI (by omega)
       generalize r.keys[j]=s1 at Mq Gn
       have b0:=za (o:=0) Gf.o.box rfl
       clear hk hm hj hj2 hcell hgl
       go_upto_region 20 with fail
       refine zU (n:=141) 8 [zg.is (.pointer (some ⟨g11,0,none⟩)),
        zg.is (.slice av k ac),
        zg.is (.pointer (some ⟨w.heap.size + 1,0,none⟩)),
        zg.is (.slice (some ⟨g,o,none⟩) rn rc),
        zg.is (.int .i64 j),
        zg.is (.pointer (some ⟨g,o + j,none⟩)),
        zg.is (.string s1),
        yU [.string s1] 1 1] (by kernel_rfl) rfl (by kernel_rfl) (fun x=>by simp only [List.map,yJ,Act.put,List.setIfInBounds_toArray,List.set_cons_zero,List.set_cons_succ];rfl) ?_ ?_
       ·refine⟨fun x w2 hkw b hd=>?_,fun x w2 hkw b hd=>?_,fun x w2 hkw b hd=>?_,fun x w2 hkw b hd=>?_,fun x w2 hkw b hd=>?_,fun x w2 hkw b hd=>?_,fun x w2 hkw b hd=>?_,fun x w2 hkw b hd=>?_,trivial⟩
        ·go_wp2_with fail
         exact⟨rfl,zb.refl _ _⟩
        ·have d0:x 0=_:=hd 0 (by kernel_rfl)
         have y0:=hkw.cell b0 (by simp)
         go_wp2_with fail
         exact⟨rfl,zb.refl _ _⟩
        ·go_wp2_with fail
         exact⟨rfl,zb.refl _ _⟩
        ·have d2:x 2=_:=hd 2 (by kernel_rfl)
         have y0:=hkw.cell z0 (by simp)
         go_wp2_with fail
         exact⟨rfl,zb.refl _ _⟩
        ·go_wp2_with fail
         exact⟨rfl,zb.refl _ _⟩
        ·have d3:x 3=_:=hd 3 (by kernel_rfl)
         have d4:x 4=_:=hd 4 (by kernel_rfl)
         have h1:=hjI
         go_wp2_with fail
         exact⟨rfl,zb.refl _ _⟩
        ·have d5:x 5=_:=hd 5 (by kernel_rfl)
         have y0:=hkw.cell Mq.o (by simp)
         go_wp2_with fail
         exact⟨rfl,zb.refl _ _⟩
        ·have d6:x 6=_:=hd 6 (by kernel_rfl)
         go_wp2_with fail
         exact⟨⟨w2.heap.size,rfl,Nat.le_refl _,by simp,zY w2 [.string s1] 1 1 _ _ rfl rfl (by decide)⟩,(zb.refl _ _).alloc _⟩
       ·intro x w7 hkw b7 hd hwin
        have d1:x 1=_:=hd 1 (by decide)
        obtain⟨g9,d7,-,-,hsl⟩:=hd 7 (by decide)
        have Ya:=qI hsl
        have Mg:=qI (Gf.o.kept0 hkw)
        clear hd hwin hkw hsl
        change wpList _ _ _ [_,_,_] _ _
        go_wp2_with (at_builtin;refine zj J3 (v:=.slice av k ac) (n:=k) (xs:=(r.keys.reverse.take k).map Value.string) Mg.o.row Ya.o (by simp [Value.oneCell']) (by have:=Jf.o;simp only [maxLen];omega) (by have:=Jf.o;omega) Mg.o.kept.size rfl _ _ rfl d1 d7 ?_;intro v5 w8 hown hk5 _ _;obtain⟨a5,c5,rfl,-,-⟩:=(Slc.of_row hown).form;obtain⟨u0,uf,ho8⟩:=Mg.o.push hown hk5;rw [← Gn.o] at ho8;have Mr:=qI ho8;clear hown hk5 ho8)
        case roundEnd=>
         have hj:=Mb.o
         have hkj:=Mc.o
         by_cases h0:j=0
         ·refine⟨.inr ⟨a5,c5,by rw [h0];rfl,?_⟩,by simp [intOf,h0]⟩
          have h1:=Mr.o
          have e:k + 1=rn:=by omega
          rw [e,List.take_of_length_le (by rw [List.length_reverse,← Gb.o];exact Nat.le_refl _)] at h1
          rw [e]
          exact qI h1
         ·refine⟨.inl ⟨j - 1,a5,c5,by congr 1;omega,by omega,?_⟩,by first | (simp [intOf];done) | (simp [intOf];omega)⟩
          rw [show rn - 1 - (j - 1)=k + 1 by omega]
          exact Mr
      ·obtain⟨W7,hW7⟩:∃ W7,W7=wr:=⟨_,rfl⟩
       subst hW7
       obtain⟨⟨h50,v',hrep,hsm⟩,hrn,hkn⟩:=Jc.o
       have Gd:Hid (zb [] w W7):=qI (Mp.o.trans Gf.o.kept (by intro b hb;rw [List.mem_singleton] at hb;subst hb;exact .inr (by have:=Mf.o;have:=Gz.o.size;omega)))
       have Gx:Hid (QK W7 w.heap.size kd nm st (.slice p1 i1 d1) (.slice p2 i2 d2) (.slice a m c)):=qI (Gf.o.kept.heap (Gt.o.heap Gh.o (by simp)) (Jo.o _ (lt_of_block Gh.o)))
       have Ms:Hid (JH W7 (w.heap.size + 1) (.slice ra rn rc) th):=qI (Gf.o.kept.heap (Gt.o.heap Gi.o (by simp)) (Jo.o _ (lt_of_block Gi.o)))
       have Jh:Hid (Slc W7 35 (.slice ab i cb) i (xN keys.reverse)):=qI (Slc.kept (Slc.kept0 Md.o Gs.o) Gf.o.kept (fun q hq hx=>by have h1:=Slc.lt Md.o hq;rw [List.mem_singleton] at hx;subst hx;exact absurd h1 (by have:=Mz.o;omega)))
       have hEL:bA [.int .i64 kd,.int .i64 nm,.string st,.slice p1 i1 d1,.slice p2 i2 d2] a l.length c=[.int .i64 kd,.int .i64 nm,.string st,.slice p1 i1 d1,.slice p2 i2 d2,.slice a m c]:=by rw [HM.o];rfl
       have Gy:Hid (∀ w2,zb [] W7 w2→Env 21 S w2 [.int .i64 kd,.int .i64 nm,.string st,.slice p1 i1 d1,.slice p2 i2 d2] v' a c l):=qI (fun w2 hk=>Gr.o h50 v' hrep hsm w2 (Gd.o.then hk))
       have Jp:Hid (∀ w2,zb [] W7 w2→kO w2 ra rc r):=qI (fun w2 hk=>⟨Jk.o.kept0 (Gd.o.then hk),Js.o,by have:=Gb.o;omega⟩)
       have Mh:Hid (∀ w2,zb [] W7 w2→kO w2 at' ct (vK r)):=qI (fun w2 hk=>⟨by
        show yy w2 (.slice at' r.keys.reverse.length ct) r.keys.reverse
        unfold yy
        rw [List.length_reverse,← Gb.o]
        exact Slc.kept0 (Slc.of_row Gf.o.row) hk,fun x hx=>Js.o x (List.mem_reverse.1 hx),by
        show r.keys.reverse.length≤_
        rw [List.length_reverse];have:=Gb.o;omega⟩)
       have Jq:Hid (∀ w2,zb [] W7 w2→xu w2 (.slice a2 keys.length c2) keys):=qI (fun w2 hk=>Jl.o w2 (Gd.o.then hk))
       have Mi:Hid (∀ w2,zb [] W7 w2→xu w2 (.slice ab keys.reverse.length cb) keys.reverse):=qI (fun w2 hk=>⟨by
        rw [List.length_reverse,← Gc.o]
        exact Slc.kept0 Jh.o hk,fun x hx=>Ja.o.2 x (List.mem_reverse.1 hx),by rw [List.length_reverse];have:=Gc.o;omega⟩)
       obtain⟨res,Gg⟩:∃ res,Hid (res=zJ 21 v' l r keys):=⟨_,qI rfl⟩
       obtain⟨rev,Gl⟩:∃ rev,Hid (rev=res.reverse):=⟨_,qI rfl⟩
       obtain⟨z,HZ⟩:∃ z,Hid (z=yC r res.length):=⟨_,qI rfl⟩
       have Mj:Hid (zJ 21 v' l r keys.reverse=res):=qI (by rw [valid_back r Jd.o,Gg.o])
       have Mt:Hid (zJ 21 v' l (vK r) keys=rev):=qI (by rw [QJ,Gl.o,Gg.o])
       have Mu:Hid (yC (vK r) (zJ 21 v' l (vK r) keys.reverse).length=z):=qI (by rw [enough_turn,QJ,Mj.o,List.length_reverse,HZ.o])
       have Mk:Hid (res.length≤30):=qI (by have h1:=validL_len v' l r keys;rw [← Gg.o] at h1;have:=Gb.o;omega)
       have CV1:Hid (∀ w2,zb [] W7 w2→Calls Tryz.prog 12 #[.agg #[.int .i64 kd,.int .i64 nm,.string st,.slice p1 i1 d1,.slice p2 i2 d2,.slice a m c],.agg #[.slice ra rn rc,.int .i64 th],.slice a2 i c2] w2 fun e w'=>(∃ q d,e = .returned (.slice q res.length d)∧yy w' (.slice q res.length d) res)∧zb [] w2 w'):=qI (fun w2 hk=>by
        have h1:=vb (Gy.o w2 hk) (HT.o.kept0 (Gd.o.then hk)) (Gu.o.kept0 (Gd.o.then hk)) (Jp.o w2 hk) (Jq.o w2 hk)
        rw [← Gg.o,← Gb.o,← Gm.o,← Gc.o] at h1
        rw [hEL] at h1
        exact h1)
       have CV2:Hid (∀ w2,zb [] W7 w2→Calls Tryz.prog 12 #[.agg #[.int .i64 kd,.int .i64 nm,.string st,.slice p1 i1 d1,.slice p2 i2 d2,.slice a m c],.agg #[.slice ra rn rc,.int .i64 th],.slice ab i cb] w2 fun e w'=>(∃ q d,e = .returned (.slice q res.length d)∧yy w' (.slice q res.length d) res)∧zb [] w2 w'):=qI (fun w2 hk=>by
        have h1:=vb (Gy.o w2 hk) (HT.o.kept0 (Gd.o.then hk)) (Gu.o.kept0 (Gd.o.then hk)) (Jp.o w2 hk) (Mi.o w2 hk)
        rw [Mj.o,← Gb.o,← Gm.o,List.length_reverse,← Gc.o] at h1
        rw [hEL] at h1
        exact h1)
       have CV3:Hid (∀ w2,zb [] W7 w2→Calls Tryz.prog 12 #[.agg #[.int .i64 kd,.int .i64 nm,.string st,.slice p1 i1 d1,.slice p2 i2 d2,.slice a m c],.agg #[.slice at' rn ct,.int .i64 th],.slice a2 i c2] w2 fun e w'=>(∃ q d,e = .returned (.slice q rev.length d)∧yy w' (.slice q rev.length d) rev)∧zb [] w2 w'):=qI (fun w2 hk=>by
        have h1:=vb (Gy.o w2 hk) (HT.o.kept0 (Gd.o.then hk)) (Gu.o.kept0 (Gd.o.then hk)) (Mh.o w2 hk) (Jq.o w2 hk)
        rw [Mt.o,show (vK r).keys.length=rn by rw [Gb.o];exact List.length_reverse,show (vK r).thr=th from Gm.o.symm,← Gc.o] at h1
        rw [hEL] at h1
        exact h1)
       have CE1:Hid (∀ w2,zb [] W7 w2→Calls Tryz.prog 15 #[.agg #[.int .i64 kd,.int .i64 nm,.string st,.slice p1 i1 d1,.slice p2 i2 d2,.slice a m c],.agg #[.slice at' rn ct,.int .i64 th],.slice ab i cb] w2 fun e w'=>e = .returned (.int .i64 z)∧zb [] w2 w'):=qI (fun w2 hk=>by
        have h1:=qJ (Gy.o w2 hk) (HT.o.kept0 (Gd.o.then hk)) (Gu.o.kept0 (Gd.o.then hk)) (Mh.o w2 hk) (Mi.o w2 hk)
        rw [Mu.o,show (vK r).keys.length=rn by rw [Gb.o];exact List.length_reverse,show (vK r).thr=th from Gm.o.symm,List.length_reverse,← Gc.o] at h1
        rw [hEL] at h1
        exact h1)
       have CE2:Hid (∀ w2,zb [] W7 w2→Calls Tryz.prog 15 #[.agg #[.int .i64 kd,.int .i64 nm,.string st,.slice p1 i1 d1,.slice p2 i2 d2,.slice a m c],.agg #[.slice ra rn rc,.int .i64 th],.slice a2 i c2] w2 fun e w'=>e = .returned (.int .i64 z)∧zb [] w2 w'):=qI (fun w2 hk=>by
        have h1:=qJ (Gy.o w2 hk) (HT.o.kept0 (Gd.o.then hk)) (Gu.o.kept0 (Gd.o.then hk)) (Jp.o w2 hk) (Jq.o w2 hk)
        rw [← Gg.o,← HZ.o,← Gb.o,← Gm.o,← Gc.o] at h1
        rw [hEL] at h1
        exact h1)
       have Mv:=qI Gf.o.box
       have Ji:Hid (rev.length=res.length):=qI (by rw [Gl.o,List.length_reverse])
       have Mw:Hid (∀ q,q < res.length→res[q]? = rev[res.length - 1 - q]?):=qI (fun q hq=>by
        rw [Gl.o,List.getElem?_reverse (by omega)]
        congr 1
        omega)
       clear hrep hsm hrn hkn h50 hEL Gy Jp Mh Jq Mi Gg Gl HZ Mj Mt Mu Jh Md Gf Jc HB Jd Gr Jk Js Ja HT Gu Jr CLG CRL Jl Gi Gh
       have b0:=za (o:=0) Gx.o rfl
       have b1:=za (o:=1) Gx.o rfl
       have b2:=za (o:=2) Gx.o rfl
       have b3:=za (o:=3) Gx.o rfl
       have b4:=za (o:=4) Gx.o rfl
       have b5:=za (o:=5) Gx.o rfl
       have q0:=za (o:=0) Ms.o rfl
       have q1:=za (o:=1) Ms.o rfl
       have t0:=za (o:=0) Mv.o rfl
       have t1:=za (o:=1) Mv.o rfl
       go_upto_region 21 with fail
       refine zU (n:=141) 12 [zg.is (.agg #[.int .i64 kd,.int .i64 nm,.string st,.slice p1 i1 d1,.slice p2 i2 d2,.slice a m c]),
        zg.is (.agg #[.slice ra rn rc,.int .i64 th]),
        zg.is (.slice a2 i c2),
        bV res,
        zg.is (.agg #[.int .i64 kd,.int .i64 nm,.string st,.slice p1 i1 d1,.slice p2 i2 d2,.slice a m c]),
        zg.is (.agg #[.slice ra rn rc,.int .i64 th]),
        zg.is (.slice ab i cb),
        bV res,
        zg.is (.agg #[.int .i64 kd,.int .i64 nm,.string st,.slice p1 i1 d1,.slice p2 i2 d2,.slice a m c]),
        zg.is (.agg #[.slice at' rn ct,.int .i64 th]),
        zg.is (.slice a2 i c2),
        bV rev] (by kernel_rfl) rfl (by kernel_rfl) (fun x=>by simp only [List.map,yJ,Act.put,List.setIfInBounds_toArray,List.set_cons_zero,List.set_cons_succ];rfl) ?_ ?_
       ·refine⟨fun x w2 hkw b hd=>?_,fun x w2 hkw b hd=>?_,fun x w2 hkw b hd=>?_,fun x w2 hkw b hd=>?_,fun x w2 hkw b hd=>?_,fun x w2 hkw b hd=>?_,fun x w2 hkw b hd=>?_,fun x w2 hkw b hd=>?_,fun x w2 hkw b hd=>?_,fun x w2 hkw b hd=>?_,fun x w2 hkw b hd=>?_,fun x w2 hkw b hd=>?_,trivial⟩
        ·have y0:=hkw.cell b0 (by simp)
         have y1:=hkw.cell b1 (by simp)
         have y2:=hkw.cell b2 (by simp)
         have y3:=hkw.cell b3 (by simp)
         have y4:=hkw.cell b4 (by simp)
         have y5:=hkw.cell b5 (by simp)
         go_wp2_with fail
         exact⟨rfl,zb.refl _ _⟩
        ·have y0:=hkw.cell q0 (by simp)
         have y1:=hkw.cell q1 (by simp)
         go_wp2_with fail
         exact⟨rfl,zb.refl _ _⟩
        ·go_wp2_with fail
         exact⟨rfl,zb.refl _ _⟩
        ·have d0:x 0=_:=hd 0 (by kernel_rfl)
         have d1:x 1=_:=hd 1 (by kernel_rfl)
         have d2:x 2=_:=hd 2 (by kernel_rfl)
         have CX:=CV1.o w2 hkw
         go_wp2_with (go_at_call 12;refine CX.mono ?_;rintro e w9 ⟨⟨q9,e9,rfl,ht9⟩,hk9⟩;have Jj:=qI ht9;have Gp:=qI hk9;clear ht9 hk9)
         exact⟨⟨q9,e9,rfl,Jj.o⟩,Gp.o⟩
        ·have y0:=hkw.cell b0 (by simp)
         have y1:=hkw.cell b1 (by simp)
         have y2:=hkw.cell b2 (by simp)
         have y3:=hkw.cell b3 (by simp)
         have y4:=hkw.cell b4 (by simp)
         have y5:=hkw.cell b5 (by simp)
         go_wp2_with fail
         exact⟨rfl,zb.refl _ _⟩
        ·have y0:=hkw.cell q0 (by simp)
         have y1:=hkw.cell q1 (by simp)
         go_wp2_with fail
         exact⟨rfl,zb.refl _ _⟩
        ·go_wp2_with fail
         exact⟨rfl,zb.refl _ _⟩
        ·have d4:x 4=_:=hd 4 (by kernel_rfl)
         have d5:x 5=_:=hd 5 (by kernel_rfl)
         have d6:x 6=_:=hd 6 (by kernel_rfl)
         have CX:=CV2.o w2 hkw
         go_wp2_with (go_at_call 12;refine CX.mono ?_;rintro e w9 ⟨⟨q9,e9,rfl,ht9⟩,hk9⟩;have Jj:=qI ht9;have Gp:=qI hk9;clear ht9 hk9)
         exact⟨⟨q9,e9,rfl,Jj.o⟩,Gp.o⟩
        ·have y0:=hkw.cell b0 (by simp)
         have y1:=hkw.cell b1 (by simp)
         have y2:=hkw.cell b2 (by simp)
         have y3:=hkw.cell b3 (by simp)
         have y4:=hkw.cell b4 (by simp)
         have y5:=hkw.cell b5 (by simp)
         go_wp2_with fail
         exact⟨rfl,zb.refl _ _⟩
        ·have y0:=hkw.cell t0 (by simp)
         have y1:=hkw.cell t1 (by simp)
         go_wp2_with fail
         exact⟨rfl,zb.refl _ _⟩
        ·go_wp2_with fail
         exact⟨rfl,zb.refl _ _⟩
        ·have d8:x 8=_:=hd 8 (by kernel_rfl)
         have d9:x 9=_:=hd 9 (by kernel_rfl)
         have d10:x 10=_:=hd 10 (by kernel_rfl)
         have CX:=CV3.o w2 hkw
         go_wp2_with (go_at_call 12;refine CX.mono ?_;rintro e w9 ⟨⟨q9,e9,rfl,ht9⟩,hk9⟩;have Jj:=qI ht9;have Gp:=qI hk9;clear ht9 hk9)
         exact⟨⟨q9,e9,rfl,Jj.o⟩,Gp.o⟩
       ·intro x w7 hkw bb hd hwin
        obtain⟨x3,e3,d3,hx3⟩:=hd 3 (by decide)
        obtain⟨x7,e7,d7,hx7⟩:=hd 7 (by decide)
        obtain⟨x11,e11,d11,hx11⟩:=hd 11 (by decide)
        have T3:=qI hx3
        have T7:=qI hx7
        have T11:=qI hx11
        have Ge:Hid (zb [] W7 w7):=qI hkw
        clear hd hwin hkw hx3 hx7 hx11
        change wpList _ _ _ [_,_,_] _ _
        rw [Ji.o] at d11 T11
        have CSM:Hid (∀ w2,zb [] w7 w2→Calls Tryz.prog 11 #[.slice x3 res.length e3,.slice x7 res.length e7] w2 fun e w'=>e = .returned (.bool true)∧zb [] w2 w'):=qI (fun w2 hk=>JZ (T3.o.kept0 hk) (T7.o.kept0 hk) (by have:=Mk.o;omega))
        have Mx:Hid (∀ q,q < res.length→∃ g o g' o' s,x3=some ⟨g,o,none⟩∧x11=some ⟨g',o',none⟩∧w7.cell? ⟨g,o + q,none⟩=some (.string s)∧w7.cell? ⟨g',o' + (res.length - 1 - q),none⟩=some (.string s)):=qI (fun q hq=>by
         obtain⟨g,o,h1,h2⟩:=T3.o.at hq
         have T11':yy w7 (.slice x11 rev.length e11) rev:=by rw [Ji.o];exact T11.o
         obtain⟨g',o',h3,h4⟩:=T11'.at (k:=res.length - 1 - q) (by rw [Ji.o];omega)
         have h5:=Mw.o q hq
         rw [List.getElem?_eq_getElem hq,List.getElem?_eq_getElem (by rw [Ji.o];omega)] at h5
         refine⟨g,o,g',o',res[q],h1,h3,h2,?_⟩
         rw [h4,← Option.some.inj h5])
        have b0:=Ge.o.cell b0 (by simp)
        have b1:=Ge.o.cell b1 (by simp)
        have b2:=Ge.o.cell b2 (by simp)
        have b3:=Ge.o.cell b3 (by simp)
        have b4:=Ge.o.cell b4 (by simp)
        have b5:=Ge.o.cell b5 (by simp)
        have q0:=Ge.o.cell q0 (by simp)
        have q1:=Ge.o.cell q1 (by simp)
        have t0:=Ge.o.cell t0 (by simp)
        have t1:=Ge.o.cell t1 (by simp)
        clear T3 T7 T11 Ji Mw
        generalize res.length=kr at d3 d7 d11 CSM Mx Mk
        have Yb:=Mk.o
        have hkrI:(kr:Int)≤30:=by omega
        go_upto_region 22 with fail
        refine zU (n:=141) 25 [zg.is (.bool true),
         zg.is (.bool false),
         zg.is (.bool false),
         zg.is (.slice x3 kr e3),
         zg.is (.slice x7 kr e7),
         zg.is (.bool true),
         zg.is (.bool false),
         zg.is (.bool false),
         zg.is (.bool false),
         zg.is (.slice x11 kr e11),
         zg.is (.int .i64 kr),
         zg.is (.slice x3 kr e3),
         zg.is (.int .i64 kr),
         zg.is (.bool false),
         zg.is (.bool false),
         zg.is (.bool false),
         zg.is (.agg #[.int .i64 kd,.int .i64 nm,.string st,.slice p1 i1 d1,.slice p2 i2 d2,.slice a m c]),
         zg.is (.agg #[.slice at' rn ct,.int .i64 th]),
         zg.is (.slice ab i cb),
         zg.is (.int .i64 z),
         zg.is (.agg #[.int .i64 kd,.int .i64 nm,.string st,.slice p1 i1 d1,.slice p2 i2 d2,.slice a m c]),
         zg.is (.agg #[.slice ra rn rc,.int .i64 th]),
         zg.is (.slice a2 i c2),
         zg.is (.int .i64 z),
         zg.is (.bool false)] (by kernel_rfl) rfl (by kernel_rfl) (fun x=>by simp only [List.map,yJ,Act.put,List.setIfInBounds_toArray,List.set_cons_zero,List.set_cons_succ];rfl) ?_ ?_
        ·refine⟨fun x w2 hkw b hd=>?_,fun x w2 hkw b hd=>?_,fun x w2 hkw b hd=>?_,fun x w2 hkw b hd=>?_,fun x w2 hkw b hd=>?_,fun x w2 hkw b hd=>?_,fun x w2 hkw b hd=>?_,fun x w2 hkw b hd=>?_,fun x w2 hkw b hd=>?_,fun x w2 hkw b hd=>?_,fun x w2 hkw b hd=>?_,fun x w2 hkw b hd=>?_,fun x w2 hkw b hd=>?_,fun x w2 hkw b hd=>?_,fun x w2 hkw b hd=>?_,fun x w2 hkw b hd=>?_,fun x w2 hkw b hd=>?_,fun x w2 hkw b hd=>?_,fun x w2 hkw b hd=>?_,fun x w2 hkw b hd=>?_,fun x w2 hkw b hd=>?_,fun x w2 hkw b hd=>?_,fun x w2 hkw b hd=>?_,fun x w2 hkw b hd=>?_,fun x w2 hkw b hd=>?_,trivial⟩
         ·have CX:=CLL.o w2 (Gd.o.then (Ge.o.then hkw))
          go_wp2_with (go_at_call 8;refine CX.mono ?_;rintro e w5 ⟨rfl,hk5⟩;have Gj:=qI hk5;clear hk5)
          exact⟨rfl,Gj.o⟩
         ·have d0:x 0=_:=hd 0 (by kernel_rfl)
          go_wp2_with fail
          exact⟨rfl,zb.refl _ _⟩
         ·have d1:x 1=_:=hd 1 (by kernel_rfl)
          go_wp2_with fail
          exact⟨rfl,zb.refl _ _⟩
         ·have d2:x 2=_:=hd 2 (by kernel_rfl)
          go_wp2_with fail
          exact⟨rfl,zb.refl _ _⟩
         ·have d2:x 2=_:=hd 2 (by kernel_rfl)
          go_wp2_with fail
          exact⟨rfl,zb.refl _ _⟩
         ·have d2:x 2=_:=hd 2 (by kernel_rfl)
          have d3:x 3=_:=hd 3 (by kernel_rfl)
          have d4:x 4=_:=hd 4 (by kernel_rfl)
          have CX:=CSM.o w2 hkw
          go_wp2_with (go_at_call 11;refine CX.mono ?_;rintro e w5 ⟨rfl,hk5⟩;have Gj:=qI hk5;clear hk5)
          exact⟨rfl,Gj.o⟩
         ·have d2:x 2=_:=hd 2 (by kernel_rfl)
          have d5:x 5=_:=hd 5 (by kernel_rfl)
          go_wp2_with fail
          exact⟨rfl,zb.refl _ _⟩
         ·have d2:x 2=_:=hd 2 (by kernel_rfl)
          have d6:x 6=_:=hd 6 (by kernel_rfl)
          go_wp2_with fail
          exact⟨rfl,zb.refl _ _⟩
         ·have d7:x 7=_:=hd 7 (by kernel_rfl)
          go_wp2_with fail
          exact⟨rfl,zb.refl _ _⟩
         ·have d8:x 8=_:=hd 8 (by kernel_rfl)
          go_wp2_with fail
          exact⟨rfl,zb.refl _ _⟩
         ·have d8:x 8=_:=hd 8 (by kernel_rfl)
          have d9:x 9=_:=hd 9 (by kernel_rfl)
          go_wp2_with fail
          exact⟨rfl,zb.refl _ _⟩
         ·have d8:x 8=_:=hd 8 (by kernel_rfl)
          go_wp2_with fail
          exact⟨rfl,zb.refl _ _⟩
         ·have d8:x 8=_:=hd 8 (by kernel_rfl)
          have d11:x 11=_:=hd 11 (by kernel_rfl)
          go_wp2_with fail
          exact⟨rfl,zb.refl _ _⟩
         ·have d8:x 8=_:=hd 8 (by kernel_rfl)
          have d10:x 10=_:=hd 10 (by kernel_rfl)
          have d12:x 12=_:=hd 12 (by kernel_rfl)
          go_wp2_with fail
          exact⟨rfl,zb.refl _ _⟩
         ·have d8:x 8=_:=hd 8 (by kernel_rfl)
          have d13:x 13=_:=hd 13 (by kernel_rfl)
          go_wp2_with fail
          exact⟨rfl,zb.refl _ _⟩
         ·have d14:x 14=_:=hd 14 (by kernel_rfl)
          go_wp2_with fail
          exact⟨rfl,zb.refl _ _⟩
         ·have d15:x 15=_:=hd 15 (by kernel_rfl)
          have y0:=hkw.cell b0 (by simp)
          have y1:=hkw.cell b1 (by simp)
          have y2:=hkw.cell b2 (by simp)
          have y3:=hkw.cell b3 (by simp)
          have y4:=hkw.cell b4 (by simp)
          have y5:=hkw.cell b5 (by simp)
          go_wp2_with fail
          exact⟨rfl,zb.refl _ _⟩
         ·have d15:x 15=_:=hd 15 (by kernel_rfl)
          have y0:=hkw.cell t0 (by simp)
          have y1:=hkw.cell t1 (by simp)
          go_wp2_with fail
          exact⟨rfl,zb.refl _ _⟩
         ·have d15:x 15=_:=hd 15 (by kernel_rfl)
          go_wp2_with fail
          exact⟨rfl,zb.refl _ _⟩
         ·have d15:x 15=_:=hd 15 (by kernel_rfl)
          have d16:x 16=_:=hd 16 (by kernel_rfl)
          have d17:x 17=_:=hd 17 (by kernel_rfl)
          have d18:x 18=_:=hd 18 (by kernel_rfl)
          have CX:=CE1.o w2 (Ge.o.then hkw)
          go_wp2_with (go_at_call 15;refine CX.mono ?_;rintro e w5 ⟨rfl,hk5⟩;have Gj:=qI hk5;clear hk5)
          exact⟨rfl,Gj.o⟩
         ·have d15:x 15=_:=hd 15 (by kernel_rfl)
          have y0:=hkw.cell b0 (by simp)
          have y1:=hkw.cell b1 (by simp)
          have y2:=hkw.cell b2 (by simp)
          have y3:=hkw.cell b3 (by simp)
          have y4:=hkw.cell b4 (by simp)
          have y5:=hkw.cell b5 (by simp)
          go_wp2_with fail
          exact⟨rfl,zb.refl _ _⟩
         ·have d15:x 15=_:=hd 15 (by kernel_rfl)
          have y0:=hkw.cell q0 (by simp)
          have y1:=hkw.cell q1 (by simp)
          go_wp2_with fail
          exact⟨rfl,zb.refl _ _⟩
         ·have d15:x 15=_:=hd 15 (by kernel_rfl)
          go_wp2_with fail
          exact⟨rfl,zb.refl _ _⟩
         ·have d15:x 15=_:=hd 15 (by kernel_rfl)
          have d20:x 20=_:=hd 20 (by kernel_rfl)
          have d21:x 21=_:=hd 21 (by kernel_rfl)
          have d22:x 22=_:=hd 22 (by kernel_rfl)
          have CX:=CE2.o w2 (Ge.o.then hkw)
          go_wp2_with (go_at_call 15;refine CX.mono ?_;rintro e w5 ⟨rfl,hk5⟩;have Gj:=qI hk5;clear hk5)
          exact⟨rfl,Gj.o⟩
         ·have d15:x 15=_:=hd 15 (by kernel_rfl)
          have d19:x 19=_:=hd 19 (by kernel_rfl)
          have d23:x 23=_:=hd 23 (by kernel_rfl)
          go_wp2_with fail
          exact⟨rfl,zb.refl _ _⟩
        ·intro y w8 hkw bb hd hwin
         have d24:y 24=_:=hd 24 (by decide)
         have d15:y 15=_:=hd 15 (by decide)
         have Ml:Hid (zb [] w7 w8):=qI hkw
         clear hd hwin hkw
         change wpList _ _ _ [_] _ _
         go_wp2_with fail
         clear b0 b1 b2 b3 b4 b5 q0 q1 t0 t1
         go_loopw [16] (fun t16 wr4=>∃ q:Nat,t16 = .int .i64 q∧q≤kr∧Hid (zb [] w8 wr4)) (fun t16 _=>kr - (intOf t16).toNat)
         case atStart=>exact⟨0,rfl,Nat.zero_le _,qI (zb.refl _ _)⟩
         case round=>
          obtain⟨q,rfl,hq,Ga⟩:=hrel
          rcases Nat.lt_or_ge q kr with hlt | hge
          ·obtain⟨g,o,g',o',s,rfl,rfl,e0,e1⟩:=Mx.o q hlt
           have e0:=(Ml.o.then Ga.o).cell e0 (by simp)
           have e1:=(Ml.o.then Ga.o).cell e1 (by simp)
           have hqI:(q:Int) < kr:=by omega
           have HQ:=qI hlt
           obtain⟨p,hp⟩:∃ p,kr - 1 - q=p:=⟨_,rfl⟩
           rw [hp] at e1
           have hpI:(kr:Int) - 1 - (q:Int)=(p:Int):=by omega
           have hpk:(p:Int) < kr:=by omega
           clear hp hq hlt
           go_wp2_with fail
           go_quiet (fail)
           go_wp2_with fail
           case roundEnd=>exact⟨⟨q + 1,by go_num,HQ.o,qI (Ga.o.drewN _)⟩,by have:=HQ.o;simp [intOf];omega⟩
          ·obtain rfl:q=kr:=by omega
           go_wp2_with fail
           go_ret
           exact⟨rfl,Gd.o.then (Ge.o.then (Ml.o.then Ga.o))⟩
end Go.Proofs.YtibnfbglanpoiaaGreatDoor

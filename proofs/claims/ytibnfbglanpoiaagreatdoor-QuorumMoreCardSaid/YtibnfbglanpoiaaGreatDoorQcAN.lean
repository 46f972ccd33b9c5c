/- Parts of one proof, merged: XEI XAV. -/
import Derived.Test.YtibnfbglanpoiaaGreatDoorQcAM
import Derived.Deep.Upon
import Derived.Deep.QuietTactic
import Derived.BigQuiet
import Derived.Deep.AppendSrc
import Derived.Test.YtibnfbglanpoiaaGreatDoorQcB
import Derived.Deep.Slices
import Derived.OpenShut
import Derived.SizedLaws
set_option linter.all false
set_option maxHeartbeats 12800000
set_option maxRecDepth 10000
set_option linter.unusedVariables false
set_option linter.unusedSimpArgs false
set_option linter.unnecessarySimpa false
namespace Go.Proofs.YtibnfbglanpoiaaGreatDoor
open Go.Proofs.Tryz
open Go.RowKit
attribute [local go_sem] Oper.semAt_some
theorem Qw (w:World) (ty:TypeId) (g:Addr) (a:Option Addr) (c:Nat):(Builtin.append_ #[26,26] ty #[.slice (some g) 0 0,.slice a 0 c]).run Tryz.prog w = .ok (.slice (some g) 0 0) w:=by
 obtain⟨i,hi,hsz⟩:∃ i,Tryz.prog.info? 40=some i∧i.size=2:=by
  obtain⟨i,hi⟩:∃ i,Tryz.prog.info? 40=some i:=Option.isSome_iff_exists.1 (by kernel_rfl)
  have h:(Tryz.prog.info? 40).map (·.size)=some 2:=by kernel_rfl
  rw [hi] at h
  exact⟨i,hi,by simpa using h⟩
 cases a with
 | none=>exact run_append_nothing w _ _ ty _ i underlying26 hi (some g) 0 0 (Nat.le_refl _) _ (Src.ofNil w underlying26 c)
 | some b=>exact run_append_nothing w _ _ ty _ i underlying26 hi (some g) 0 0 (Nat.le_refl _) _ (Src.ofSlice w underlying26 b 0 c [] (by simp) (by simp) (by simp))
theorem Zx {w:World}{B:Nat}{g:Addr}(hown:w.ownsRow B 40 2 (.slice (some g) 0 0) 0 []) {xa:Option Addr}{m c:Nat}{l:List yh}(hsrc:Slc w 2 (.slice xa m c) m (xV l)) (h63:m≤maxLen) (hbytes:m * 32≤140737488355328) (hB:B≤w.heap.size)
  {ops:Array Oper}{rest:List Oper}{o:Oper}{a:Act}{Q:Exit→Act→World→Prop}(hgd:o.guard=none) (s x:Operand)
  (ho:o.op = .call { callee:=.builtin .append,args:=#[s,x],argTypes:=#[26,26] }) (hs:a.eval s = .slice (some g) 0 0) (hx:a.eval x = .slice xa m c)
  (h:∀ v' w',w'.ownsRow B 40 2 v' m (xV l)→zb [] w w'→wpList Tryz.prog ops Q rest (a.put o.dst v') w'):wpList Tryz.prog ops Q (o :: rest) a w:=by
 rcases Nat.eq_zero_or_pos m with h0 | h0
 ·subst h0
  have hl:xV l=[]:=List.eq_nil_of_length_eq_zero (by have:=hsrc.1;omega)
  refine wpList_plain hgd fun K hK=>?_
  unfold Oper.wp
  simp [execOp,ho,resolve,invoke,builtin,hs,hx,Qw,Result.andThen]
  exact hK _ _ (h _ w (by rw [hl];exact hown) (zb.refl _ _))
 ·obtain⟨gx,ox,rfl,-,hr⟩:=qD hsrc h0
  obtain⟨i,hi⟩:∃ i,Tryz.prog.info? 40=some i:=Option.isSome_iff_exists.1 (by kernel_rfl)
  have q1:(Tryz.prog.info? 40).map (·.size)=some 2:=by kernel_rfl
  have q2:(Tryz.prog.info? 40).map (·.bytes)=some 32:=by kernel_rfl
  have q3:((Tryz.prog.info? 40).bind (·.zero)).map (·.cells.size)=some 2:=by kernel_rfl
  rw [hi] at q1 q2 q3
  obtain⟨z,hz,hzc⟩:=Option.map_eq_some_iff.1 q3
  have hsz:i.size=2:=Option.some.inj q1
  have hby:i.bytes=32:=Option.some.inj q2
  refine wpList_append_grows w hgd s x 26 ho 40 i z 2 32 underlying26 hi hz hsz hby hzc (by decide) (some g) 0 0 [] hs (fun e=>nomatch e) (by simp) (fun _ _ _ _ hu=>by simp at hu) ⟨gx,ox,none⟩ m c (xV l) hx hsrc.1 hr.adds (rows_one l) (by omega) (by omega) (by omega) (fun v' w' ho2 hg=>h v' w' ?_ ((zb.refl [] w).grown hg (fun _ e=>nomatch e)))
  rw [Nat.zero_add,List.nil_append] at ho2
  exact Joins.ownsRow_le ho2 hB
theorem Back.first {B g:Nat}{W w w':World}{kd nm:Int}{st:ByteArray}{x y hd:Value}{a3 a5:Option Addr}{k c3 m c5:Nat}{l l2:List yh}(hbox:ZB w g kd nm st x y hd) (hrow:w.ownsRow B 40 2 (.slice a3 k c3) k (xV l)) (hK:zb [g] W w) (hB:W.heap.size≤B)
  (ho:w'.ownsRow B 40 2 (.slice a5 (k + m) c5) (k + m) (xV l ++ xV l2)) (hk:zb (Value.slice a3 k c3).ownBlock.toList w w') :
  w'.cell? ⟨g,5,none⟩=some hd∧w'.frozen? ⟨g,5,none⟩=false∧Back B g W (w'.setCell ⟨g,5,none⟩ (.slice a5 (k + m) c5)) kd nm st x y a5 (k + m) c5 (l ++ l2):=by
 have hne:g ∉ (Value.slice a3 k c3).ownBlock.toList:=fun hx=>yL (yd hrow (Option.mem_toList.1 hx)) (zH hbox) (by decide) rfl
 have hb:=hk.heap hbox hne
 have ks:zb [g] w' (w'.setCell ⟨g,5,none⟩ (.slice a5 (k + m) c5)):=(zb.refl _ w').setCell (.inl (by simp)) _
 refine⟨za (o:=5) hb rfl,zh hb,ze (i:=5) (v:=.slice a5 (k + m) c5) (d:=#[.int .i64 kd,.int .i64 nm,.string st,x,y,.slice a5 (k + m) c5]) hb rfl,?_,?_,hB⟩
 ·have e:xV (l ++ l2)=xV l ++ xV l2:=by simp [xV]
  rw [e]
  exact zk ho ks (fun q hq hx=>by
   simp at hx
   subst hx
   exact yL (yd ho hq) (zH hb) (by decide) rfl)
 ·exact (hK.trans hk (fun i hi=>.inr (Nat.le_trans hB (hrow.lt i (Option.mem_toList.1 hi)).1))).setCell (.inl (by simp)) _
def emptyFact (B:Nat):zg (zb []):=⟨fun v _ w=>B≤w.heap.size∧∃ g,v = .slice (some g) 0 0∧w.ownsRow B 40 2 (.slice (some g) 0 0) 0 [],fun _ _ _ _ ⟨h0,g,h1,h2⟩ k=>⟨Nat.le_trans h0 k.size,g,h1,zk h2 k (by simp)⟩⟩
def rowsFact (B m:Nat) (l:List yh):zg (zb []):=⟨fun v _ w=>∃ a c,v = .slice a m c∧w.ownsRow B 40 2 (.slice a m c) m (xV l),fun _ _ _ _ ⟨a,c,h1,h2⟩ k=>⟨a,c,h1,zk h2 k (by simp)⟩⟩
theorem valid_more {n:Nat}{v:V n}{l:List yh}{row:yh}(h:zW n v (l ++ [row])=true) (r:kf) (keys:List xT) :
  (zL n v l r keys).Sublist (zL n v (l ++ [row]) r keys)∧(zL n v (l ++ [row]) r keys).length≤(zL n v l r keys).length + 1∧(row.id ∉ r.keys→(zL n v (l ++ [row]) r keys).length=(zL n v l r keys).length):=by
 unfold zL
 rw [h,more_may h]
 by_cases hr:xo r=true
 ·rw [if_pos ⟨hr,rfl⟩,if_pos ⟨hr,rfl⟩]
  refine⟨vV _ _ (fun x=>(jE h keys x).1) _,ZM _ _ row.id (fun x=>(jE h keys x).1) (fun x h1 h2=>(jE h keys x).2 h1 h2) _ (JE hr),fun hn=>congrArg List.length (Qs _ _ _ (fun x hx=>?_))⟩
  cases h1:yT n v l keys x with
  | true=>exact (jE h keys x).1 h1
  | false=>
   cases h2:yT n v (l ++ [row]) keys x with
   | false=>rfl
   | true=>exact absurd (by rw [(jE h keys x).2 h2 h1];exact hx) hn
 ·rw [if_neg (fun h9=>hr h9.1),if_neg (fun h9=>hr h9.1)]
  exact⟨.slnil,Nat.zero_le _,fun _=>rfl⟩
theorem sub_next {A B:List ByteArray}{i k:Nat}(h:(A.drop i).Sublist (B.drop k)) (hi:i < A.length):∃ hk:k < B.length,(A[i]=B[k]→(A.drop (i + 1)).Sublist (B.drop k))∧(A[i]≠B[k]→(A.drop i).Sublist (B.drop (k + 1))):=by
 rw [List.drop_eq_getElem_cons hi] at h
 have hk:k < B.length:=by
  rcases Nat.lt_or_ge k B.length with h1 | h1
  ·exact h1
  ·rw [List.drop_eq_nil_of_le h1] at h
   exact nomatch List.sublist_nil.1 h
 refine⟨hk,fun _=>(List.sublist_cons_self _ _).trans h,fun hne=>?_⟩
 rw [List.drop_eq_getElem_cons hi]
 rw [List.drop_eq_getElem_cons hk] at h
 generalize A[i]=x at h hne ⊢
 generalize B[k]=y at h hne
 cases h with
 | cons _ h2=>exact h2
 | cons_cons _ h2=>exact absurd rfl hne
set_option maxRecDepth 100000 in
theorem Q4 {n:Nat}{v:V n}{S:Nat→Prop}{w:World}{cs:List Value}(hv:vu n BB S w cs v) {a:Option Addr}{c:Nat}{l:List yh}(hr:xZ w (.slice a l.length c) l) (hz:∀ r,r ∈ l→r.small) (hl:l.length≤140737488355328) (h32:l.length * 32≤reachBytes) {row:yh}(hrow:row.small)
  {r:kf}{ra:Option Addr}{rc:Nat}(hro:xg w (.slice ra r.keys.length rc) r.keys) (hrz:∀ k,k ∈ r.keys→k.size≤140737488355328) (hrn:r.keys.length≤140737488355328)
  {a2:Option Addr}{c2:Nat}{keys:List xT}(hk:Slc w 35 (.slice a2 keys.length c2) keys.length (vY keys)) (hkf:∀ r,r ∈ keys→r.fine) (hkn:keys.length≤140737488355328) (ht:ql w) (hks:xz w) :
  Calls Tryz.prog 5 #[.agg (vt cs a l.length c).toArray,.agg row.enc.toArray,.agg #[.slice ra r.keys.length rc,.int .i64 r.thr],.slice a2 keys.length c2] w fun e w'=>e = .returned (.bool true)∧zb [] w w':=by
 obtain⟨kd,nm,st,p1,i1,d1,p2,i2,d2,rfl⟩:=hv.1.conv
 obtain⟨s1,s2⟩:=row
 obtain⟨W1,Gj⟩:∃ W1,Hid (W1=((w.alloc (.cells #[.int .i64 kd,.int .i64 nm,.string st,.slice p1 i1 d1,.slice p2 i2 d2,.slice a l.length c] 28)).alloc (.cells #[.string s1,.string s2] 40)).alloc (.cells #[.slice ra r.keys.length rc,.int .i64 r.thr] 31)):=⟨_,qI rfl⟩
 have Mg:Hid (zb [] w W1):=qI (by rw [Gj.o];exact (((zb.refl _ w).alloc _).alloc _).alloc _)
 have Gh:Hid (ZB W1 w.heap.size kd nm st (.slice p1 i1 d1) (.slice p2 i2 d2) (.slice a l.length c)):=qI (by rw [Gj.o];exact (((zb.refl [] _).alloc _).alloc _).heap (zd rfl) (by simp))
 have Gw:Hid (W1.heap[w.heap.size + 1]? = some (.cells #[.string s1,.string s2] 40 (0,0))):=qI (by rw [Gj.o];exact ((zb.refl [] _).alloc _).heap (zd (by simp)) (by simp))
 have Jc:Hid (RolAt W1 (w.heap.size + 2) (.slice ra r.keys.length rc) r.thr):=qI (by rw [Gj.o];exact zd (by simp))
 have Jp:Hid (W1.heap.size=w.heap.size + 3):=qI (by rw [Gj.o];simp)
 have Mh:Hid (Zu (∃ v':V 21,Rep 21 S w [.int .i64 kd,.int .i64 nm,.string st,.slice p1 i1 d1,.slice p2 i2 d2] v'∧yk 21 v') w (.agg #[.int .i64 kd,.int .i64 nm,.string st,.slice p1 i1 d1,.slice p2 i2 d2])):=qI (incomingR hv)
 have CLL:Hid (∀ w2,zb [] w w2→Calls Tryz.prog 8 #[] w2 fun e w'=>e = .returned (.bool true)∧zb [] w2 w'):=qI (fun w2 h=>lives18_any (ht.kept0 h) (hks.kept0 h))
 show Calls _ _ #[.agg #[.int .i64 kd,.int .i64 nm,.string st,.slice p1 i1 d1,.slice p2 i2 d2,.slice a l.length c],.agg #[.string s1,.string s2],.agg #[.slice ra r.keys.length rc,.int .i64 r.thr],.slice a2 keys.length c2] _ _
 have Jd:=qI hr
 have HZ:=qI hz
 have Mi:=qI hrow
 have Jq:=qI hro
 have Mj:=qI hrz
 have Jr:=qI (And.intro hk hkf)
 have Je:=qI (And.intro hrn hkn)
 have HT:=qI ht
 have Js:=qI hks
 have Ge:=qI h32
 clear hv hr hz hl hro hrz hrn hk hkf hkn ht hks hrow h32
 obtain⟨m,HM⟩:∃ m,Hid (m=l.length):=⟨_,qI rfl⟩
 obtain⟨rn,Gk⟩:∃ rn,Hid (rn=r.keys.length):=⟨_,qI rfl⟩
 obtain⟨kn,Gx⟩:∃ kn,Hid (kn=keys.length):=⟨_,qI rfl⟩
 obtain⟨th,Jf⟩:∃ th,Hid (th=r.thr):=⟨_,qI rfl⟩
 rw [← HM.o,← Gk.o,← Gx.o,← Jf.o]
 rw [← HM.o] at Gh Gj Jd Ge
 rw [← Gk.o,← Jf.o] at Jc Gj
 rw [← Gk.o,← Gx.o] at Je
 have Gd:Hid (m * 32≤140737488351232):=qI (by have h1:=Ge.o;rw [show reachBytes=140737488351232 from by decide] at h1;exact h1)
 clear Ge
 have c0:=za (o:=0) Gh.o rfl
 have c1:=za (o:=1) Gh.o rfl
 have c2':=za (o:=2) Gh.o rfl
 have c3:=za (o:=3) Gh.o rfl
 have c4:=za (o:=4) Gh.o rfl
 have c5:=za (o:=5) Gh.o rfl
 go_enter func5,ntmps5
 go_upto_region 1 with fail
 change Code.wp _ _ _ _ (((w.alloc (.cells #[.int .i64 kd,.int .i64 nm,.string st,.slice p1 i1 d1,.slice p2 i2 d2,.slice a m c] 28)).alloc (.cells #[.string s1,.string s2] 40)).alloc (.cells #[.slice ra rn rc,.int .i64 th] 31))
 rw [← Gj.o]
 go_upto_region 2 with fail
 obtain⟨W2,Jg⟩:∃ W2,Hid (W2=W1.alloc (.cells #[.int .i64 kd,.int .i64 nm,.string st,.slice p1 i1 d1,.slice p2 i2 d2,.slice a m c] 28)):=⟨_,qI rfl⟩
 have Gc:Hid (zb [] W1 W2):=qI (by rw [Jg.o];exact (zb.refl _ _).alloc _)
 have Jt:Hid (ZB W2 W1.heap.size kd nm st (.slice p1 i1 d1) (.slice p2 i2 d2) (.slice a m c)):=qI (by rw [Jg.o];exact zd rfl)
 have Mk:Hid (zb [] w W2):=qI (Mg.o.then Gc.o)
 rw [← Jg.o]
 obtain⟨g9,Jh⟩:∃ g9,Hid (g9=W1.heap.size):=⟨_,qI rfl⟩
 rw [← Jh.o] at Jt
 rw [← Jh.o]
 have b5:=Gc.o.cell c5 (by simp)
 have e0:=Gc.o.cell (za (o:=0) Gw.o rfl) (by simp)
 have e1:=Gc.o.cell (za (o:=1) Gw.o rfl) (by simp)
 have Ml:Hid (∀ w2,zb [] W2 w2→Slc w2 2 (.slice a m c) m (xV l)):=qI (fun w2 h=>by have h1:=Jd.o.kept0 (Mk.o.then h);unfold xZ at h1;rw [← HM.o] at h1;exact h1)
 clear c0 c1 c2' c3 c4 c5
 refine zZ (n:=116) 6 [emptyFact W2.heap.size,
  zg.is (.pointer (some ⟨w.heap.size,5,none⟩)),
  zg.is (.slice a m c),
  rowsFact W2.heap.size m l,
  zg.is (.agg #[.string s1,.string s2]),
  yU [.string s1,.string s2] 1 2] (by kernel_rfl) rfl (by kernel_rfl) (fun x=>by simp only [List.map,yM,Act.put,List.setIfInBounds_toArray,List.set_cons_zero,List.set_cons_succ];rfl) ?_ ?_
 ·refine⟨fun x w2 hkw b hd=>?_,fun x w2 hkw b hd=>?_,fun x w2 hkw b hd=>?_,fun x w2 hkw b hd=>?_,fun x w2 hkw b hd=>?_,fun x w2 hkw b hd=>?_,trivial⟩
  ·go_wp2_with fail
   exact⟨⟨by have:=hkw.size;simp;omega,⟨w2.heap.size,0,none⟩,rfl,jT w2 rfl hkw.size⟩,(zb.refl _ _).alloc _⟩
  ·go_wp2_with fail
   exact⟨rfl,zb.refl _ _⟩
  ·have d1:x 1=_:=hd 1 (by kernel_rfl)
   have y0:=hkw.cell b5 (by simp)
   go_wp2_with fail
   exact⟨rfl,zb.refl _ _⟩
  ·have d2:x 2=_:=hd 2 (by kernel_rfl)
   obtain⟨hB0,g0,d0,hown0⟩:=hd 0 (by kernel_rfl)
   have d2:x 2=_:=hd 2 (by kernel_rfl)
   change wpList _ _ _ [_] _ _
   refine Zx hown0 (Ml.o w2 hkw) (by have:=Gd.o;simp only [maxLen];omega) (by have:=Gd.o;omega) hkw.size rfl _ _ rfl d0 d2 ?_
   intro v' w' ho hk
   obtain⟨a3,c3,rfl,-,-⟩:=(Slc.of_row ho).form
   exact⟨rfl,_,rfl,⟨a3,c3,rfl,ho⟩,hk⟩
  ·have y0:=hkw.cell e0 (by simp)
   have y1:=hkw.cell e1 (by simp)
   go_wp2_with fail
   exact⟨rfl,zb.refl _ _⟩
  ·have d4:x 4=_:=hd 4 (by kernel_rfl)
   go_wp2_with fail
   exact⟨⟨w2.heap.size,rfl,Nat.le_refl _,by simp,zV w2 [.string s1,.string s2] 2 1 _ _ rfl rfl (by decide)⟩,(zb.refl _ _).alloc _⟩
 ·intro x w7 hkw b7 hd hwin
  obtain⟨a3,c3,d3,hrow3⟩:=hd 3 (by decide)
  obtain⟨g5,d5,-,-,hsl⟩:=hd 5 (by decide)
  have Mm:=qI hsl
  have Gs:=qI hrow3
  have Mn:=qI (hkw.heap Jt.o (by simp))
  have Gl:=qI hkw
  clear hd hwin hkw hsl hrow3 e0 e1 b5
  change wpList _ _ _ [_,_,_] _ _
  go_upto_region 3 with (at_builtin;refine zj tySigs (v:=.slice a3 m c3) (n:=m) (xs:=xV l) Gs.o Mm.o (by simp [Value.oneCell']) (by have:=Gd.o;simp only [maxLen];omega) (by have:=Gd.o;omega) Gl.o.size rfl _ _ rfl d3 d5 ?_;intro v5 w8 hown hk5 _ _;obtain⟨a9,c9,rfl,-,-⟩:=(Slc.of_row hown).form;obtain⟨u0,uf,ho8⟩:=Back.first (W:=W2) (l2:=[⟨s1,s2⟩]) Mn.o Gs.o (Gl.o.mono (by simp)) (Nat.le_refl _) hown hk5;have Gp:=qI ho8;clear hown hk5 ho8)
  generalize w8.setCell ⟨g9,5,none⟩ (.slice a9 (m + 1) c9)=W3 at Gp ⊢
  clear u0 uf Mn Gs Mm Gl Ml d3 d5
  have Ju:Hid (∀ q,q < W1.heap.size→q ∉ [g9]):=qI (fun q hq=>by have:=Jh.o;rw [List.mem_singleton];omega)
  have Gb:Hid (zb [] w W3):=qI (Mk.o.trans Gp.o.kept (by intro b hb;rw [List.mem_singleton] at hb;subst hb;exact .inr (by have:=Jh.o;have:=Mg.o.size;omega)))
  have Gt:Hid (ZB W3 w.heap.size kd nm st (.slice p1 i1 d1) (.slice p2 i2 d2) (.slice a m c)):=qI (Gp.o.kept.heap (Gc.o.heap Gh.o (by simp)) (Ju.o _ (lt_of_block Gh.o)))
  have Ms:Hid (W3.heap[w.heap.size + 1]? = some (.cells #[.string s1,.string s2] 40 (0,0))):=qI (Gp.o.kept.heap (Gc.o.heap Gw.o (by simp)) (Ju.o _ (lt_of_block Gw.o)))
  have Gs:Hid (RolAt W3 (w.heap.size + 2) (.slice ra rn rc) th):=qI (Gp.o.kept.heap (Gc.o.heap Jc.o (by simp)) (Ju.o _ (lt_of_block Jc.o)))
  have Gu:=qI Gp.o.box
  obtain⟨l2,Gv⟩:∃ l2,Hid (l2=l ++ [⟨s1,s2⟩]):=⟨_,qI rfl⟩
  have Gq:Hid (l2.length=m + 1):=qI (by rw [Gv.o,List.length_append,HM.o];rfl)
  have Jv:Hid (xZ W3 (.slice a9 l2.length c9) l2):=qI (by
   have h1:=Slc.of_row Gp.o.row
   unfold xZ
   rw [Gq.o,Gv.o]
   exact h1)
  have Jw:Hid (∀ r,r ∈ l2→r.small):=qI (fun x hx=>by
   rw [Gv.o] at hx
   rcases List.mem_append.1 hx with h1 | h1
   ·exact HZ.o x h1
   ·rw [List.mem_singleton] at h1;rw [h1];exact Mi.o)
  have CLG:Hid (Calls Tryz.prog 7 #[.agg #[.int .i64 kd,.int .i64 nm,.string st,.slice p1 i1 d1,.slice p2 i2 d2,.slice a9 (m + 1) c9],.agg #[.slice ra rn rc,.int .i64 th],.slice a2 kn c2] W3 fun e w'=>(∃ b,e = .returned (.bool b)∧(b=false→(l2.length≤50∧∃ v':V 21,Rep 21 S w [.int .i64 kd,.int .i64 nm,.string st,.slice p1 i1 d1,.slice p2 i2 d2] v'∧yk 21 v')∧rn≤30∧kn≤30))∧zb [] W3 w'):=qI (by
   have h1:=large18_any (Mh.o.kept0 Gb.o) Jv.o Jw.o (by have:=Gq.o;have:=Gd.o;omega) ra rn rc Je.o.1 th a2 kn c2 Je.o.2
   rw [show Value.slice a9 l2.length c9 = .slice a9 (m + 1) c9 by rw [Gq.o]] at h1
   exact h1)
  have Gf:Hid (l2.length≤50→∀ (v':V 21),Rep 21 S w [.int .i64 kd,.int .i64 nm,.string st,.slice p1 i1 d1,.slice p2 i2 d2] v'→yk 21 v'→∀ w2,zb [] W3 w2→Env 21 S w2 [.int .i64 kd,.int .i64 nm,.string st,.slice p1 i1 d1,.slice p2 i2 d2] v' a9 c9 l2):=qI (fun h50 v' h1 h2 w2 h=>⟨h1.kept0 (Gb.o.then h),h2,by decide,Jv.o.kept0 h,Jw.o,by omega⟩)
  have Gy:Hid (l2.length≤50→∀ (v':V 21),Rep 21 S w [.int .i64 kd,.int .i64 nm,.string st,.slice p1 i1 d1,.slice p2 i2 d2] v'→yk 21 v'→∀ w2,zb [] W3 w2→Env 21 S w2 [.int .i64 kd,.int .i64 nm,.string st,.slice p1 i1 d1,.slice p2 i2 d2] v' a c l):=qI (fun h50 v' h1 h2 w2 h=>⟨h1.kept0 (Gb.o.then h),h2,by decide,by rw [← HM.o];exact Jd.o.kept0 (Gb.o.then h),HZ.o,by have:=Gq.o;have:=HM.o;omega⟩)
  have CMY:Hid (l2.length≤50→∀ (v':V 21),Rep 21 S w [.int .i64 kd,.int .i64 nm,.string st,.slice p1 i1 d1,.slice p2 i2 d2] v'→yk 21 v'→∀ w2,zb [] W3 w2→Calls Tryz.prog 13 #[.agg #[.int .i64 kd,.int .i64 nm,.string st,.slice p1 i1 d1,.slice p2 i2 d2,.slice a9 (m + 1) c9]] w2 fun e w'=>e = .returned (.bool (zW 21 v' l2))∧zb [] w2 w'):=qI (fun h50 v' h1 h2 w2 h=>by
   have h3:=refMay17_any (Gf.o h50 v' h1 h2 w2 h)
   rw [show vt [.int .i64 kd,.int .i64 nm,.string st,.slice p1 i1 d1,.slice p2 i2 d2] a9 l2.length c9=[.int .i64 kd,.int .i64 nm,.string st,.slice p1 i1 d1,.slice p2 i2 d2,.slice a9 (m + 1) c9] by rw [Gq.o];rfl] at h3
   exact h3)
  have b0:=za (o:=0) Gt.o rfl
  have b1:=za (o:=1) Gt.o rfl
  have b2:=za (o:=2) Gt.o rfl
  have b3:=za (o:=3) Gt.o rfl
  have b4:=za (o:=4) Gt.o rfl
  have b5:=za (o:=5) Gt.o rfl
  have f0:=za (o:=0) Gu.o rfl
  have f1:=za (o:=1) Gu.o rfl
  have f2:=za (o:=2) Gu.o rfl
  have f3:=za (o:=3) Gu.o rfl
  have f4:=za (o:=4) Gu.o rfl
  have f5:=za (o:=5) Gu.o rfl
  have q0:=za (o:=0) Gs.o rfl
  have q1:=za (o:=1) Gs.o rfl
  have Mo:Hid (∀ w2,zb [] W3 w2→w2.cell? ⟨g9,0,none⟩=some (.int .i64 kd)∧w2.cell? ⟨g9,1,none⟩=some (.int .i64 nm)∧w2.cell? ⟨g9,2,none⟩=some (.string st)∧w2.cell? ⟨g9,3,none⟩=some (.slice p1 i1 d1)∧w2.cell? ⟨g9,4,none⟩=some (.slice p2 i2 d2)∧w2.cell? ⟨g9,5,none⟩=some (.slice a9 (m + 1) c9)):=qI (fun w2 h=>⟨h.cell f0 (by simp),h.cell f1 (by simp),h.cell f2 (by simp),h.cell f3 (by simp),h.cell f4 (by simp),h.cell f5 (by simp)⟩)
  clear Gh Gw Jc Jt Jv Jw HZ Mi Je Mh Jd Gj Jg Gd Jp Gc
  go_wp2_with first
   | (go_at_call 7;refine CLG.o.mono ?_;rintro e w4 ⟨⟨b,rfl,hb⟩,hk4⟩;have HB:=qI hb;have Jx:Hid (zb [] W3 w4):=qI hk4;obtain⟨g0,g1,g2,g3,g4,g5⟩:=Mo.o w4 hk4;clear hk4 hb;cases b)
   | (obtain⟨⟨h50,v',hrep,hsm⟩,hrk⟩:=HB.o (by first | rfl | trivial);have H50:=qI h50;have Gm:=qI hrep;have Ji:=qI hsm;have Jj:=qI hrk;clear h50 hrep hsm hrk;go_at_call 13;refine (CMY.o H50.o v' Gm.o Ji.o _ Jx.o).mono ?_;rintro e w5 ⟨rfl,hk5⟩;have Ga:Hid (zb [] W3 w5):=qI (Jx.o.then hk5);clear hk5 g0 g1 g2 g3 g4 g5;obtain⟨bm,hbm⟩:∃ bm,zW 21 v' l2=bm:=⟨_,rfl⟩;rw [hbm];have Mp:=qI hbm;clear hbm;cases bm)
   | (have hq:=Ga.o;go_at_call 8;refine (CLL.o _ (Gb.o.then hq)).mono ?_;rintro e w6 ⟨rfl,hk6⟩;have Jy:=qI ((Gb.o.then hq).then hk6);clear hk6 hq)
   | (have hq:=Jx.o;go_at_call 8;refine (CLL.o _ (Gb.o.then hq)).mono ?_;rintro e w6 ⟨rfl,hk6⟩;have Jy:=qI ((Gb.o.then hq).then hk6);clear hk6 hq)
  ·go_ret
   exact⟨rfl,Jy.o⟩
  rotate_left
  ·go_ret
   exact⟨rfl,Jy.o⟩
  have Jz:Hid (∀ w2,zb [] W3 w2→jA w2 ra rc r):=qI (fun w2 hk=>⟨Jq.o.kept0 (Gb.o.then hk),Mj.o,by have:=Gk.o;have:=Jj.o.1;omega⟩)
  have Ma:Hid (∀ w2,zb [] W3 w2→qo w2 (.slice a2 keys.length c2) keys):=qI (fun w2 hk=>⟨Slc.kept0 Jr.o.1 (Gb.o.then hk),Jr.o.2,by have:=Gx.o;have:=Jj.o.2;omega⟩)
  obtain⟨A,HA⟩:∃ A,Hid (A=zL 21 v' l r keys):=⟨_,qI rfl⟩
  obtain⟨B,Mb⟩:∃ B,Hid (B=zL 21 v' l2 r keys):=⟨_,qI rfl⟩
  have Jk:Hid (A.Sublist B∧B.length≤A.length + 1∧(s1 ∉ r.keys→B.length=A.length)):=qI (by
   have h1:=Mp.o
   rw [Gv.o] at h1
   rw [HA.o,Mb.o,Gv.o]
   exact valid_more h1 r keys)
  have Mt:Hid (A.length≤30):=qI (by have h1:=validL_len v' l r keys;rw [← HA.o] at h1;have:=Gk.o;have:=Jj.o.1;omega)
  have CV1:Hid (∀ w2,zb [] w5 w2→Calls Tryz.prog 12 #[.agg #[.int .i64 kd,.int .i64 nm,.string st,.slice p1 i1 d1,.slice p2 i2 d2,.slice a m c],.agg #[.slice ra rn rc,.int .i64 th],.slice a2 kn c2] w2 fun e w'=>(∃ q d,e = .returned (.slice q A.length d)∧xg w' (.slice q A.length d) A)∧zb [] w2 w'):=qI (fun w2 hk=>by
   have h1:=Zh (Gy.o H50.o v' Gm.o Ji.o w2 (Ga.o.then hk)) (HT.o.kept0 (Gb.o.then (Ga.o.then hk))) (Js.o.kept0 (Gb.o.then (Ga.o.then hk))) (Jz.o w2 (Ga.o.then hk)) (Ma.o w2 (Ga.o.then hk))
   rw [← HA.o,← Gk.o,← Jf.o,← Gx.o,show vt [.int .i64 kd,.int .i64 nm,.string st,.slice p1 i1 d1,.slice p2 i2 d2] a l.length c=[.int .i64 kd,.int .i64 nm,.string st,.slice p1 i1 d1,.slice p2 i2 d2,.slice a m c] by rw [HM.o];rfl] at h1
   exact h1)
  have CV2:Hid (∀ w2,zb [] w5 w2→Calls Tryz.prog 12 #[.agg #[.int .i64 kd,.int .i64 nm,.string st,.slice p1 i1 d1,.slice p2 i2 d2,.slice a9 (m + 1) c9],.agg #[.slice ra rn rc,.int .i64 th],.slice a2 kn c2] w2 fun e w'=>(∃ q d,e = .returned (.slice q B.length d)∧xg w' (.slice q B.length d) B)∧zb [] w2 w'):=qI (fun w2 hk=>by
   have h1:=Zh (Gf.o H50.o v' Gm.o Ji.o w2 (Ga.o.then hk)) (HT.o.kept0 (Gb.o.then (Ga.o.then hk))) (Js.o.kept0 (Gb.o.then (Ga.o.then hk))) (Jz.o w2 (Ga.o.then hk)) (Ma.o w2 (Ga.o.then hk))
   rw [← Mb.o,← Gk.o,← Jf.o,← Gx.o,show vt [.int .i64 kd,.int .i64 nm,.string st,.slice p1 i1 d1,.slice p2 i2 d2] a9 l2.length c9=[.int .i64 kd,.int .i64 nm,.string st,.slice p1 i1 d1,.slice p2 i2 d2,.slice a9 (m + 1) c9] by rw [Gq.o];rfl] at h1
   exact h1)
  have Mu:Hid (∀ w2,zb [] W3 w2→xg w2 (.slice ra r.keys.length rc) r.keys):=qI (fun w2 hk=>Jq.o.kept0 (Gb.o.then hk))
  have hr30:(rn:Int)≤30:=by have:=Jj.o.1;omega
  have b0:=Ga.o.cell b0 (by simp)
  have b1:=Ga.o.cell b1 (by simp)
  have b2:=Ga.o.cell b2 (by simp)
  have b3:=Ga.o.cell b3 (by simp)
  have b4:=Ga.o.cell b4 (by simp)
  have b5:=Ga.o.cell b5 (by simp)
  have f0:=Ga.o.cell f0 (by simp)
  have f1:=Ga.o.cell f1 (by simp)
  have f2:=Ga.o.cell f2 (by simp)
  have f3:=Ga.o.cell f3 (by simp)
  have f4:=Ga.o.cell f4 (by simp)
  have f5:=Ga.o.cell f5 (by simp)
  have q0:=Ga.o.cell q0 (by simp)
  have q1:=Ga.o.cell q1 (by simp)
  clear Gy Gf Gm Ji Mp Jz Ma HT Js Jq Jr Mj Gv Gq Mo CLG CMY HB HA Mb H50
  refine zZ (n:=116) 8 [zg.is (.agg #[.int .i64 kd,.int .i64 nm,.string st,.slice p1 i1 d1,.slice p2 i2 d2,.slice a m c]),
   zg.is (.agg #[.slice ra rn rc,.int .i64 th]),
   zg.is (.slice a2 kn c2),
   YM A,
   zg.is (.agg #[.int .i64 kd,.int .i64 nm,.string st,.slice p1 i1 d1,.slice p2 i2 d2,.slice a9 (m + 1) c9]),
   zg.is (.agg #[.slice ra rn rc,.int .i64 th]),
   zg.is (.slice a2 kn c2),
   YM B] (by kernel_rfl) rfl (by kernel_rfl) (fun x=>by simp only [List.map,yM,Act.put,List.setIfInBounds_toArray,List.set_cons_zero,List.set_cons_succ];rfl) ?_ ?_
  ·refine⟨fun x w2 hkw b hd=>?_,fun x w2 hkw b hd=>?_,fun x w2 hkw b hd=>?_,fun x w2 hkw b hd=>?_,fun x w2 hkw b hd=>?_,fun x w2 hkw b hd=>?_,fun x w2 hkw b hd=>?_,fun x w2 hkw b hd=>?_,trivial⟩
   ·have y0:=hkw.cell b0 (by simp)
    have y1:=hkw.cell b1 (by simp)
    have y2:=hkw.cell b2 (by simp)
    have y3:=hkw.cell b3 (by simp)
    have y4:=hkw.cell b4 (by simp)
    have y5:=hkw.cell b5 (by simp)
    go_wp2_with fail
    exact⟨rfl,zb.refl _ _⟩
   ·have y0:=hkw.cell q0 (by simp)
    have y1:=hkw.cell q1 (by simp)
    go_wp2_with fail
    exact⟨rfl,zb.refl _ _⟩
   ·go_wp2_with fail
    exact⟨rfl,zb.refl _ _⟩
   ·have d0:x 0=_:=hd 0 (by kernel_rfl)
    have d1:x 1=_:=hd 1 (by kernel_rfl)
    have d2:x 2=_:=hd 2 (by kernel_rfl)
    have CX:=CV1.o w2 hkw
    go_wp2_with (go_at_call 12;refine CX.mono ?_;rintro e w9 ⟨⟨q9,e9,rfl,ht9⟩,hk9⟩;have Mc:=qI ht9;have Gz:=qI hk9;clear ht9 hk9)
    exact⟨⟨q9,e9,rfl,Mc.o⟩,Gz.o⟩
   ·have y0:=hkw.cell f0 (by simp)
    have y1:=hkw.cell f1 (by simp)
    have y2:=hkw.cell f2 (by simp)
    have y3:=hkw.cell f3 (by simp)
    have y4:=hkw.cell f4 (by simp)
    have y5:=hkw.cell f5 (by simp)
    go_wp2_with fail
    exact⟨rfl,zb.refl _ _⟩
   ·have y0:=hkw.cell q0 (by simp)
    have y1:=hkw.cell q1 (by simp)
    go_wp2_with fail
    exact⟨rfl,zb.refl _ _⟩
   ·go_wp2_with fail
    exact⟨rfl,zb.refl _ _⟩
   ·have d4:x 4=_:=hd 4 (by kernel_rfl)
    have d5:x 5=_:=hd 5 (by kernel_rfl)
    have d6:x 6=_:=hd 6 (by kernel_rfl)
    have CX:=CV2.o w2 hkw
    go_wp2_with (go_at_call 12;refine CX.mono ?_;rintro e w9 ⟨⟨q9,e9,rfl,ht9⟩,hk9⟩;have Mc:=qI ht9;have Gz:=qI hk9;clear ht9 hk9)
    exact⟨⟨q9,e9,rfl,Mc.o⟩,Gz.o⟩
  ·intro x w7 hkw bb hd hwin
   obtain⟨x3,e3,d3,hx3⟩:=hd 3 (by decide)
   obtain⟨x7,e7,d7,hx7⟩:=hd 7 (by decide)
   obtain⟨la,Jl⟩:∃ la,Hid (la=A.length):=⟨_,qI rfl⟩
   obtain⟨lb,Jm⟩:∃ lb,Hid (lb=B.length):=⟨_,qI rfl⟩
   have T3:=qI hx3
   have T7:=qI hx7
   rw [← Jl.o] at d3
   rw [← Jm.o] at d7
   have Gl:Hid (zb [] W3 w7):=qI (Ga.o.then hkw)
   have q0:=hkw.cell q0 (by simp)
   clear hd hwin hkw hx3 hx7 b0 b1 b2 b3 b4 b5 f0 f1 f2 f3 f4 f5 q1
   change wpList _ _ _ [_,_] _ _
   simp only [Nat.zero_add,Nat.reduceAdd,d3,d7]
   go_wp2_with fail
   go_loopw [12,13] (fun t12 t13 wr=>∃ (k:Nat),t12 = .bool ((r.keys.take k).any (fun x=>decide (x=s1)))∧t13 = .int .i64 k∧k≤rn∧Hid (zb [] w7 wr)) (fun _ t13 _=>rn - (intOf t13).toNat)
   case atStart=>exact⟨0,rfl,rfl,Nat.zero_le _,qI (zb.refl _ _)⟩
   case round=>
    obtain⟨k,rfl,rfl,hk,Gg⟩:=hrel
    have q0:=Gg.o.cell q0 (by simp)
    rcases Nat.lt_or_ge k rn with hlt | hge
    ·have hkI:(k:Int) < rn:=by omega
     have Gi:=qI hlt
     have hkl:k < r.keys.length:=by have:=Gk.o;omega
     have Gr:Hid ((r.keys.take (k + 1)).any (fun x=>decide (x=s1))=((r.keys.take k).any (fun x=>decide (x=s1)) || decide (r.keys[k]=s1))):=qI (by
      rw [List.take_succ_eq_append_getElem hkl,List.any_append]
      simp)
     obtain⟨g,o,rfl,hcell⟩:=xg.at (Mu.o _ (Gl.o.then Gg.o)) (k:=k) hkl
     have e1:=(Gl.o.then Gg.o).cell (za (o:=0) Ms.o rfl) (by simp)
     generalize (r.keys.take k).any (fun x=>decide (x=s1))=ob at Gr ⊢
     generalize r.keys[k]=sk at Gr hcell
     clear hk hlt hkl
     cases ob with
     | true=>
      go_wp2_with fail
      go_quiet (fail)
      go_wp2_with fail
      case roundEnd=>exact⟨⟨k + 1,by rw [Gr.o];rfl,by go_num,Gi.o,qI (Gg.o.drewN _)⟩,by have:=Gi.o;simp [intOf];omega⟩
     | false=>
      by_cases heq:sk=s1
      ·obtain⟨f1,f2⟩:=k9 heq
       rw [decide_eq_true heq] at Gr
       clear heq
       go_wp2_with fail
       go_quiet (fail)
       go_wp2_with fail
       case roundEnd=>exact⟨⟨k + 1,by rw [Gr.o];rfl,by go_num,Gi.o,qI (Gg.o.drewN _)⟩,by have:=Gi.o;simp [intOf];omega⟩
      ·obtain⟨f1,f2⟩:=kF heq
       rw [decide_eq_false heq] at Gr
       clear heq
       go_wp2_with fail
       go_quiet (fail)
       go_wp2_with fail
       case roundEnd=>exact⟨⟨k + 1,by rw [Gr.o];rfl,by go_num,Gi.o,qI (Gg.o.drewN _)⟩,by have:=Gi.o;simp [intOf];omega⟩
    ·obtain rfl:k=rn:=by omega
     have Md:Hid ((r.keys.take k).any (fun x=>decide (x=s1))=false→lb=la):=qI (fun h=>by
      rw [List.take_of_length_le (by have:=Gk.o;omega)] at h
      rw [Jl.o,Jm.o]
      refine Jk.o.2.2 (fun hm=>?_)
      rw [List.any_eq_false] at h
      exact h s1 hm (by simp))
     have Gn:Hid (la≤lb∧lb≤la + 1∧la≤30):=qI (by rw [Jl.o,Jm.o];exact⟨Jk.o.1.length_le,Jk.o.2.1,Mt.o⟩)
     generalize (r.keys.take k).any (fun x=>decide (x=s1))=ob at Md ⊢
     have hge0:¬ ((k:Int) < k):=by omega
     clear hge hk
     obtain⟨W9,hW9⟩:∃ W9,W9=wr:=⟨_,rfl⟩
     subst hW9
     go_upto_region 11 with fail
     go_cut [88] from 61 to 87 (fun t wc=>t = .bool false∧Hid (zb [] W9 wc))
     case first=>
      have hA30:(la:Int)≤30:=by have:=Gn.o.2.2;omega
      have hB31:(lb:Int)≤31:=by have:=Gn.o;omega
      have g1:decide ((lb:Int) < la)=false:=decide_eq_false (by have:=Gn.o.1;omega)
      have g2:decide ((la:Int) + 1 < lb)=false:=decide_eq_false (by have:=Gn.o.2.1;omega)
      have g1n:decide (lb < la)=false:=decide_eq_false (by have:=Gn.o.1;omega)
      have g2n:decide (la + 1 < lb)=false:=decide_eq_false (by have:=Gn.o.2.1;omega)
      cases ob with
      | false=>
       obtain rfl:lb=la:=Md.o rfl
       go_wp2_with (go_at_call 8;refine (CLL.o _ (Gb.o.then (Gl.o.then Gg.o))).mono ?_;rintro e w8 ⟨rfl,hk8⟩;have Me:=qI hk8;clear hk8)
       go_meet
       exact⟨rfl,Me⟩
      | true=>
       go_wp2_with (go_at_call 8;refine (CLL.o _ (Gb.o.then (Gl.o.then Gg.o))).mono ?_;rintro e w8 ⟨rfl,hk8⟩;have Me:=qI hk8;clear hk8)
       go_meet
       exact⟨rfl,Me⟩
     case rest=>
      obtain⟨rfl,Gz⟩:=hcut
      have hA30:(la:Int)≤30:=by have:=Gn.o.2.2;omega
      have hB31:(lb:Int)≤31:=by have:=Gn.o;omega
      clear Md hge0
      go_wp2_with fail
      go_loopw [14,15] (fun t14 t15 wq=>∃ (i k:Nat),t14 = .int .i64 i∧t15 = .int .i64 k∧i≤la∧Hid ((A.drop i).Sublist (B.drop k))∧Hid (zb [] W9 wq)) (fun t14 _ _=>la - (intOf t14).toNat)
      case atStart=>exact⟨0,0,rfl,rfl,Nat.zero_le _,qI (by rw [List.drop_zero,List.drop_zero];exact Jk.o.1),Gz⟩
      case round=>
       obtain⟨i,k,rfl,rfl,hi,Jn,Mq⟩:=hrel
       rcases Nat.lt_or_ge i la with hlt | hge
       ·have hiI:(i:Int) < la:=by omega
        have Gi:=qI hlt
        clear hlt hi
        go_wp2_with fail
        go_loopw [15] (fun t15 wp=>∃ (k:Nat),t15 = .int .i64 k∧Hid ((A.drop i).Sublist (B.drop k))∧Hid (zb [] W9 wp)) (fun t15 _=>lb - (intOf t15).toNat)
        case atStart=>exact⟨k,rfl,Jn,Mq⟩
        case round=>
         obtain⟨k,rfl,Jn,Jo⟩:=hrel
         have hia:i < A.length:=by have:=Jl.o;have:=Gi.o;omega
         obtain⟨hkb,hS1,hS2⟩:=sub_next Jn.o hia
         have Mr:Hid (k < lb):=qI (by have:=Jm.o;omega)
         have hkI:(k:Int) < lb:=by have:=Mr.o;omega
         have hkne:¬ ((k:Int)=lb):=by omega
         have hkn2:¬ (k=lb):=by omega
         obtain⟨ga,oa,rfl,ca⟩:=xg.at (T3.o.kept0 (Gg.o.then Jo.o)) hia
         obtain⟨gb,ob',rfl,cb⟩:=xg.at (T7.o.kept0 (Gg.o.then Jo.o)) hkb
         have Ja:=qI hS1
         have Jb:=qI hS2
         clear hS1 hS2
         generalize A[i]=sa at Ja Jb ca
         generalize B[k]=sb at Ja Jb cb
         clear hia hkb Jn
         by_cases heq:sb=sa
         ·obtain⟨f1,f2⟩:=k9 heq
          have Mf:=qI (Ja.o heq.symm)
          clear heq Ja Jb
          go_wp2_with fail
          go_quiet (fail)
          go_wp2_with fail
          case roundEnd=>exact⟨⟨i + 1,k,by go_num,rfl,Gi.o,Mf,qI (Jo.o.drewN _)⟩,by have:=Gi.o;simp [intOf];omega⟩
         ·obtain⟨f1,f2⟩:=kF heq
          have Mf:=qI (Jb.o (fun h=>heq h.symm))
          clear heq Ja Jb
          go_wp2_with fail
          go_quiet (fail)
          go_wp2_with fail
          case roundEnd=>exact⟨⟨k + 1,by go_num,Mf,qI (Jo.o.drewN _)⟩,by have:=Mr.o;simp [intOf];omega⟩
       ·obtain rfl:i=la:=by omega
        have hge0:¬ ((i:Int) < i):=by omega
        go_wp2_with fail
        go_ret
        exact⟨rfl,Gb.o.then (Gl.o.then (Gg.o.then Mq.o))⟩
theorem YX:Tryz.prog.cellsOf 3=1:=by kernel_rfl
theorem vR:Tryz.prog.cellsOf 9=1:=by kernel_rfl
theorem cellsVals:Tryz.prog.cellsOf 22=1:=by kernel_rfl
theorem cellsPairs:Tryz.prog.cellsOf 23=1:=by kernel_rfl
theorem Q8:Tryz.prog.cellsOf 25=5:=by kernel_rfl
theorem J9:Tryz.prog.cellsOf 132=6:=by kernel_rfl
section
variable {H : Type} {enc : TypeId × Value → H} {w : World} {held : Bool}
theorem bZ {P:Program}{e:TypeId}:∀ {l:List (DataW H)}{d:DataW H}{k:Nat},d ∈ l→k ∈ d.weights P e→k ∈ DataW.weightsAll P e l
 | [],_,_,h,_=>by cases h
 | a :: l,d,k,h,hk=>by
  rw [DataW.weightsAll,List.mem_append]
  rcases List.mem_cons.1 h with rfl | h
  ·exact .inl hk
  ·exact .inr (bZ h hk)
theorem xv {P:Program}{t:TypeId}{fs:Array Field}{xs:List (DataW H × List MemPlace)}(h:P.underlying t=some (.struct fs)) {j:Nat}{tt:TypeId}{y:DataW H × List MemPlace}{k:Nat}(ht:(fs.toList.map (·.type))[j]? = some tt) (hy:xs[j]? = some y) (hk:k ∈ y.1.weights P tt):k ∈ (DataW.agg (xs.map (·.1)):DataW H).weights P t:=by
 rw [DataW.weights,h]
 exact DataW.weights_mem_each (j:=j) ht (by rw [List.getElem?_map,hy];rfl) k hk
theorem vM {P:Program}{t e size:Nat}(ht:P.underlying t=some (.slice e)) (hc:P.cellsOf e=size) (hpos:0 < size) {fuel:Nat}{v:Value}{x:DataW H × List MemPlace}{B:Nat}
  (h:DataW.trod enc P w 0 (fun _=>true) held fuel t [v]=some x) (hw:∀ k,k ∈ x.1.weights P t→k≤B) (hb:0 < P.bytesOf e) :
  ∃ n xs,Slc w size v n xs∧n≤B∧(n=0∨∃ m,fuel=m + 1∧∀ i,i < n→∃ y,DataW.trod enc P w 0 (fun _=>true) held m e ((xs.drop (i * size)).take size)=some y∧∀ k,k ∈ y.1.weights P e→k≤B):=by
 rcases DataW.trod_slice ht h with ⟨hcs,_⟩ | ⟨a,len,cap,elems,rest,m,hfuel,hcs,hxe,_,hl,hm,hel,hx,_⟩
 ·obtain rfl:v = .slice none 0 0:=by simpa using hcs
  exact⟨0,[],xn _ _,Nat.zero_le _,.inl rfl⟩
 ·obtain rfl:v = .slice (some a) len cap:=by simpa using hcs
  rw [hc] at hx
  by_cases h0:len=0
  ·subst h0
   exact⟨0,[],⟨by simp,.inr (.inl ⟨rfl,a,cap,rfl,hm⟩)⟩,Nat.zero_le _,.inl rfl⟩
  ·rw [hxe] at hw
   have hwe:(DataW.slice (elems.map (·.1)) (rest.map (·.1)):DataW H).weights P t=((elems.map (·.1)).length + (rest.map (·.1)).length) * P.bytesOf e :: (DataW.weightsAll P e (elems.map (·.1)) ++ DataW.weightsAll P e (rest.map (·.1))):=by
    rw [DataW.weights,ht]
   simp only at hw
   rw [hwe] at hw
   have hlenB:len≤B:=by
    have h1:=hw _ (List.mem_cons_self ..)
    rw [List.length_map,List.length_map,hel] at h1
    have h2:(len + rest.length) * 1≤(len + rest.length) * P.bytesOf e:=Nat.mul_le_mul_left _ hb
    omega
   have hx':∀ i,i < len→∃ cs',w.cells? 0 (a.add (i * size)) size=some cs'∧∃ y,DataW.trod enc P w 0 (fun _=>true) held m e cs'=some y∧∀ k,k ∈ y.1.weights P e→k≤B:=by
    intro i hi
    have h1:=hx i hi
    rw [List.getElem?_eq_getElem (by omega)] at h1
    obtain⟨cs',h2,h3⟩:=Option.bind_eq_some_iff.1 h1
    exact⟨cs',h2,_,h3,fun k hk=>hw k (List.mem_cons_of_mem _ (List.mem_append_left _ (bZ (List.mem_map_of_mem (List.getElem_mem (by omega))) hk)))⟩
   have hcell:∀ j,j < len * size→∃ u,w.cell? (a.add j)=some u:=by
    intro j hj
    have hi:j / size < len:=Nat.div_lt_of_lt_mul (by rw [Nat.mul_comm];exact hj)
    obtain⟨cs',h1,_⟩:=hx' _ hi
    obtain⟨_,h2,h3⟩:=World.cells?_some h1
    have hr:=Nat.mod_lt j hpos
    have h4:=h3 _ hr
    rw [Deep.add_add,show j / size * size + j % size=j by rw [Nat.mul_comm];exact Nat.div_add_mod j size] at h4
    rw [h4]
    exact⟨cs'[j % size],by simp [h2,hr]⟩
   have hpos2:0 < len * size:=Nat.mul_pos (by omega) hpos
   obtain⟨u0,hu0⟩:=hcell 0 hpos2
   obtain⟨g,o,spot⟩:=a
   have hspot:spot=none:=by simpa [Addr.add] using World.cell?_spot hu0
   subst hspot
   have hlt:g < w.heap.size:=by
    rcases Nat.lt_or_ge g w.heap.size with h | h
    ·exact h
    ·exfalso
     simp [World.cell?,Addr.add,Array.getElem?_eq_none h] at hu0
   refine⟨len,(List.range (len * size)).map fun j=>(w.cell? ⟨g,o + j,none⟩).getD (.bool false),⟨by simp,.inr (.inr ⟨g,o,cap,rfl,hl,hm,⟨?_,hlt⟩⟩)⟩,hlenB,.inr ⟨m,hfuel,?_⟩⟩
   ·intro j u hu
    rw [List.getElem?_map] at hu
    by_cases hj:j < len * size
    ·obtain⟨u',hu'⟩:=hcell j hj
     rw [vD] at hu'
     simp [hj,hu'] at hu
     rw [hu',hu]
    ·simp [hj] at hu
   ·intro i hi
    obtain⟨cs',h1,h2⟩:=hx' i (by omega)
    obtain⟨_,h3,h4⟩:=World.cells?_some h1
    have hle:i * size + size≤len * size:=by
     have:=Nat.mul_le_mul_right size (show i + 1≤len by omega)
     rw [Nat.add_mul,Nat.one_mul] at this
     exact this
    have e1:(((List.range (len * size)).map fun j=>(w.cell? ⟨g,o + j,none⟩).getD (.bool false)).drop (i * size)).take size=cs':=by
     apply List.ext_getElem?
     intro r
     by_cases hr:r < size
     ·have h5:=h4 r hr
      rw [Deep.add_add,vD] at h5
      rw [List.getElem?_take,if_pos hr,List.getElem?_drop,List.getElem?_map,List.getElem?_range (by omega)]
      simp only [Option.map_some]
      rw [h5]
      simp [h3,hr]
     ·rw [List.getElem?_eq_none (by rw [List.length_take];omega),List.getElem?_eq_none (by omega)]
    rw [e1]
    exact h2
def Zi:Value→UInt8
 | .int _ k=>UInt8.ofNat k.toNat
 | _=>0
theorem byteOfV_wf {k:Int}(h:(Lit.int .u8 k).wf=true):bv (Zi (.int .u8 k)) = .int .u8 k:=by
 have h1:=bounds_u8 h
 unfold bv Zi
 congr 1
 simp only [UInt8.toNat_ofNat']
 omega
theorem zas {xs:List Value}{i:Nat}(hi:i < xs.length):(xs.drop (i * 1)).take 1=[xs[i]]:=by
 rw [Nat.mul_one,List.drop_eq_getElem_cons hi]
 rfl
theorem KQ {α:Type}{l:List α}(h:l.length=5):∃ a b c d e,l=[a,b,c,d,e]:=by
 match l,h with
 | [a,b,c,d,e],_=>exact⟨a,b,c,d,e,rfl⟩
theorem list_sixV {α:Type}{l:List α}(h:l.length=6):∃ a b c d e f,l=[a,b,c,d,e,f]:=by
 match l,h with
 | [a,b,c,d,e,f],_=>exact⟨a,b,c,d,e,f,rfl⟩
theorem texts_up {B:Nat}:∀ (n:Nat) (v:V n),qA B n v→qA B (n + 1) (up n v)
 | 0,v,_=>nomatch v
 | n + 1,(v:VS (V n)),⟨⟨h1,h2,h3⟩,h4,h5⟩=>by
  refine⟨⟨h1,?_,?_⟩,?_,?_⟩
  ·show (v.l.map _).length≤B;rw [List.length_map];exact h2
  ·show (v.m.map _).length≤B;rw [List.length_map];exact h3
  ·intro p hp
   obtain⟨q,hq,rfl⟩:=List.mem_map.1 hp
   exact h4 q hq
  ·intro x hx
   have hx':x ∈ (VS.map (up n) v).kids:=hx
   rw [VS.kids_map] at hx'
   obtain⟨y,hy,rfl⟩:=List.mem_map.1 hx'
   exact texts_up n y (h5 y hy)
theorem vu.up {n B:Nat}{S:Nat→Prop}{cs:List Value}{v:V n}(h:vu n B S w cs v):vu (n + 1) B S w cs (Go.Proofs.YtibnfbglanpoiaaGreatDoor.up n v):=⟨h.1.up,texts_up n v h.2⟩
def qp (size:Nat) (xs:List Value) (n:Nat):List (List Value):=(List.range n).map fun i=>(xs.drop (i * size)).take size
theorem Za {size:Nat}:∀ (n:Nat) (xs:List Value),xs.length=n * size→(qp size xs n).flatten=xs
 | 0,xs,h=>by
  rw [Nat.zero_mul] at h
  rw [List.eq_nil_of_length_eq_zero h]
  rfl
 | n + 1,xs,h=>by
  have h':(xs.drop size).length=n * size:=by rw [List.length_drop,h,Nat.add_mul,Nat.one_mul];omega
  have ih:=Za n (xs.drop size) h'
  unfold qp at ih ⊢
  rw [List.range_succ_eq_map,List.map_cons,List.flatten_cons,Nat.zero_mul,List.drop_zero,List.map_map]
  have e:((fun i=>(xs.drop (i * size)).take size) ∘ Nat.succ)=fun i=>((xs.drop size).drop (i * size)).take size:=by
   funext i
   simp only [Function.comp,List.drop_drop]
   rw [show Nat.succ i * size=size + i * size by rw [Nat.succ_mul];omega]
  rw [e,ih]
  exact List.take_append_drop size xs
def pairF (c:List Value):ByteArray × List Value:=(match c.head? with | some (.string s)=>s | _=>⟨#[]⟩,c.tail)
theorem trod_value {B:Nat}:∀ (fuel:Nat) {cs:List Value}{x:DataW H × List MemPlace},DataW.trod enc Tryz.prog w 0 (fun _=>true) held fuel 25 cs=some x→(∀ k,k ∈ x.1.weights Tryz.prog 25→k≤B)→∃ v:V fuel,vu fuel B (fun g=>g < w.heap.size) w cs v:=by
 intro fuel
 induction fuel using Nat.strongRecOn with
 | ind fuel IH=>
  intro cs x h hw
  obtain⟨xs,n,hfu,hxe,hl,hlen,hf⟩:=DataW.trod_struct underlying25 h
  subst hfu
  rw [Q8] at hl
  obtain⟨c0,c1,c2,c3,c4,rfl⟩:=KQ hl
  obtain⟨y0,y1,y2,y3,y4,rfl⟩:=KQ hlen
  have h0:DataW.trod enc Tryz.prog w 0 (fun _=>true) held n 3 (([c0,c1,c2,c3,c4].drop 0).take (Tryz.prog.cellsOf 3))=some y0:=hf 0 _ rfl
  have h1:DataW.trod enc Tryz.prog w 0 (fun _=>true) held n 3 (([c0,c1,c2,c3,c4].drop 1).take (Tryz.prog.cellsOf 3))=some y1:=hf 1 _ rfl
  have h2:DataW.trod enc Tryz.prog w 0 (fun _=>true) held n 9 (([c0,c1,c2,c3,c4].drop 2).take (Tryz.prog.cellsOf 9))=some y2:=hf 2 _ rfl
  have h3:DataW.trod enc Tryz.prog w 0 (fun _=>true) held n 22 (([c0,c1,c2,c3,c4].drop 3).take (Tryz.prog.cellsOf 22))=some y3:=hf 3 _ rfl
  have h4:DataW.trod enc Tryz.prog w 0 (fun _=>true) held n 23 (([c0,c1,c2,c3,c4].drop 4).take (Tryz.prog.cellsOf 23))=some y4:=hf 4 _ rfl
  rw [YX] at h0 h1
  rw [vR] at h2
  rw [cellsVals] at h3
  rw [cellsPairs] at h4
  have hwf:∀ (j:Nat) (tt:TypeId) (y:DataW H × List MemPlace),([3,3,9,22,23]:List TypeId)[j]? = some tt→[y0,y1,y2,y3,y4][j]? = some y→∀ k,k ∈ y.1.weights Tryz.prog tt→k≤B:=by
   intro j tt y ht hy k hk
   refine hw k ?_
   rw [hxe]
   exact xv underlying25 ht hy hk
  obtain⟨i,e0,_,w0⟩:=DataW.trod_int underlying3 (x:=y0) h0
  obtain⟨j,e1,_,w1⟩:=DataW.trod_int underlying3 (x:=y1) h1
  obtain⟨s,e2,f2,-⟩:=DataW.trod_string underlying9 (x:=y2) h2
  have w2:s.size≤B:=by
   have h9:=hwf 2 _ y2 rfl rfl s.data.toList.length (by rw [f2];show _ ∈ DataW.weights Tryz.prog 9 (.lit (.string s.data.toList));simp [DataW.weights])
   simpa using h9
  have hL:=vM (v:=c3) (x:=y3) underlying22 Q8 (by decide) h3 (hwf 3 _ y3 rfl rfl) (by rw [show Tryz.prog.bytesOf 25=80 by kernel_rfl];decide)
  have hM:=vM (v:=c4) (x:=y4) underlying23 J9 (by decide) h4 (hwf 4 _ y4 rfl rfl) (by rw [show Tryz.prog.bytesOf 132=96 by kernel_rfl];decide)
  simp only [List.drop_zero,List.drop_succ_cons,List.take_succ_cons,List.take_zero,List.cons.injEq,and_true] at e0 e1 e2
  subst e0 e1 e2
  obtain⟨nl,xl,sl,ml,hl⟩:=hL
  obtain⟨nm,xm,sm,mm,hm⟩:=hM
  have gl:∃ zl:List (V n),zI (vu n B (fun g=>g < w.heap.size) w) (qp 5 xl nl) zl:=by
   refine zI.pick (R:=fun (c:List Value) (k:Nat)=>∃ z:V n,vu n B (fun g=>g < w.heap.size) w c z) _ (List.range nl) ⟨by simp [qp],?_⟩ (fun _ _ _ r=>r)
   intro q c k hc hk
   have hq:q < nl:=by
    have:=(List.getElem?_eq_some_iff.1 hk).1
    simpa using this
   unfold qp at hc
   rw [List.getElem?_map,List.getElem?_range hq] at hc
   simp only [Option.map_some,Option.some.injEq] at hc
   subst hc
   rcases hl with h0 | ⟨m,hm,hl⟩
   ·omega
   obtain⟨y,hy,hwy⟩:=hl q hq
   obtain⟨z,hz⟩:=IH m (by omega) hy hwy
   subst hm
   exact⟨_,hz.up⟩
  have gm:∃ zm:List (ByteArray × V n),zI (fun c (z:ByteArray × V n)=>(c = .string z.1 :: c.tail∧vu n B (fun g=>g < w.heap.size) w c.tail z.2)∧z.1.size≤B) (qp 6 xm nm) zm:=by
   refine zI.pick (R:=fun (c:List Value) (k:Nat)=>∃ z:ByteArray × V n,(c = .string z.1 :: c.tail∧vu n B (fun g=>g < w.heap.size) w c.tail z.2)∧z.1.size≤B) _ (List.range nm) ⟨by simp [qp],?_⟩ (fun _ _ _ r=>r)
   intro q c k hc hk
   have hq:q < nm:=by
    have:=(List.getElem?_eq_some_iff.1 hk).1
    simpa using this
   unfold qp at hc
   rw [List.getElem?_map,List.getElem?_range hq] at hc
   simp only [Option.map_some,Option.some.injEq] at hc
   subst hc
   rcases hm with h0 | ⟨m,hm',hm⟩
   ·omega
   obtain⟨y,hy,hwy⟩:=hm q hq
   obtain⟨ys,n2,hf2,hye,hl2,hlen2,hg2⟩:=DataW.trod_struct underlying132 hy
   rw [J9] at hl2
   revert hl2 hg2
   generalize (xm.drop (q * 6)).take 6=c6
   intro hl2 hg2
   obtain⟨d0,d1,d2,d3,d4,d5,rfl⟩:=list_sixV hl2
   obtain⟨z0,z1,rfl⟩:∃ z0 z1,ys=[z0,z1]:=by
    match ys,hlen2 with
    | [a,b],_=>exact⟨a,b,rfl⟩
   have k0:DataW.trod enc Tryz.prog w 0 (fun _=>true) held n2 9 (([d0,d1,d2,d3,d4,d5].drop 0).take (Tryz.prog.cellsOf 9))=some z0:=hg2 0 _ rfl
   have k1:DataW.trod enc Tryz.prog w 0 (fun _=>true) held n2 25 (([d0,d1,d2,d3,d4,d5].drop 1).take (Tryz.prog.cellsOf 25))=some z1:=hg2 1 _ rfl
   rw [vR] at k0
   rw [Q8] at k1
   have hwp:∀ (j:Nat) (tt:TypeId) (y':DataW H × List MemPlace),([9,25]:List TypeId)[j]? = some tt→[z0,z1][j]? = some y'→∀ k,k ∈ y'.1.weights Tryz.prog tt→k≤B:=by
    intro j tt y' ht hy' k hk
    refine hwy k ?_
    rw [hye]
    exact xv underlying132 ht hy' hk
   obtain⟨s2,q0,f2',-⟩:=DataW.trod_string underlying9 (x:=z0) k0
   simp only [List.drop_zero,List.take_succ_cons,List.take_zero,List.cons.injEq,and_true] at q0
   subst q0
   have q2:s2.size≤B:=by
    have h9:=hwp 0 _ z0 rfl rfl s2.data.toList.length (by rw [f2'];show _ ∈ DataW.weights Tryz.prog 9 (.lit (.string s2.data.toList));simp [DataW.weights])
    simpa using h9
   have k1':DataW.trod enc Tryz.prog w 0 (fun _=>true) held n2 25 [d1,d2,d3,d4,d5]=some z1:=k1
   obtain⟨z,hz⟩:=IH n2 (by omega) k1' (hwp 1 _ z1 rfl rfl)
   subst hf2
   subst hm'
   exact⟨(s2,Go.Proofs.YtibnfbglanpoiaaGreatDoor.up _ (Go.Proofs.YtibnfbglanpoiaaGreatDoor.up _ z)),⟨rfl,hz.up.up⟩,q2⟩
  obtain⟨zl,al⟩:=gl
  obtain⟨zm,am⟩:=gm
  have el:zl.length=nl:=by rw [← al.1];simp [qp]
  have em:zm.length=nm:=by rw [← am.1];simp [qp]
  have getl:∀ x,x ∈ zl→qA B n x:=fun x hx=>by
   obtain⟨j,hj,rfl⟩:=List.getElem_of_mem hx
   exact (al.2 j _ _ (List.getElem?_eq_getElem (by rw [al.1];exact hj)) (List.getElem?_eq_getElem hj)).2
  have getm:∀ p,p ∈ zm→qA B n p.2∧p.1.size≤B:=fun x hx=>by
   obtain⟨j,hj,rfl⟩:=List.getElem_of_mem hx
   have:=am.2 j _ _ (List.getElem?_eq_getElem (by rw [am.1];exact hj)) (List.getElem?_eq_getElem hj)
   exact⟨this.1.2.2,this.2⟩
  have hfix:∀ c,c ∈ qp 6 xm nm→yJ (pairF c)=c:=fun c hc=>by
   obtain⟨j,hj,rfl⟩:=List.getElem_of_mem hc
   have h5:=(am.2 j _ _ (List.getElem?_eq_getElem hj) (List.getElem?_eq_getElem (by rw [← am.1];exact hj))).1.1
   rw [h5]
   rfl
  have hcm:zX ((qp 6 xm nm).map pairF)=xm:=by
   rw [qx,List.map_map]
   have e:(qp 6 xm nm).map (yJ ∘ pairF)=qp 6 xm nm:=by
    conv=>rhs;rw [← List.map_id (qp 6 xm nm)]
    exact List.map_congr_left fun c hc=>hfix c hc
   rw [e]
   exact Za nm xm sm.1
  have hcl:(qp 5 xl nl).flatten=xl:=Za nl xl sl.1
  refine⟨(⟨i,j,s,zl,zm⟩:VS (V n)),⟨c3,c4,qp 5 xl nl,(qp 6 xm nm).map pairF,{
   cells:=rfl
   slcl:=by rw [el,hcl];exact sl
   alll:=al.mono fun _ _ _ r=>r.1
   slcm:=by rw [em,hcm];exact sm
   allm:=?_
   inl:=fun g hg=>sl.lt hg
   inm:=fun g hg=>sm.lt hg
   wfk:=w0
   wfn:=w1 }⟩,⟨w2,by rw [el];exact ml,by rw [em];exact mm⟩,fun p hp=>(getm p hp).2,fun x hx=>?_⟩
  ·refine⟨by rw [List.length_map];exact am.1,?_⟩
   intro q c z hc hz
   rw [List.getElem?_map,Option.map_eq_some_iff] at hc
   obtain⟨c',hc',rfl⟩:=hc
   have h5:=(am.2 q c' z hc' hz).1
   refine⟨?_,h5.2.1⟩
   rw [h5.1]
   rfl
  ·rcases List.mem_append.1 hx with hx | hx
   ·exact getl x hx
   ·obtain⟨p,hp,rfl⟩:=List.mem_map.1 hx
    exact (getm p hp).1
end
end Go.Proofs.YtibnfbglanpoiaaGreatDoor

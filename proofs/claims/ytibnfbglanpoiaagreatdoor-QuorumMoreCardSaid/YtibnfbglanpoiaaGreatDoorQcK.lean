/- Parts of one proof, merged: XOr XJG. -/
import Derived.Test.YtibnfbglanpoiaaGreatDoorQcA
import Derived.OrdersHeld
import Derived.Test.YtibnfbglanpoiaaGreatDoorQcJ
set_option linter.all false
set_option maxHeartbeats 12800000
set_option maxRecDepth 10000
set_option linter.unusedVariables false
set_option linter.unusedSimpArgs false
set_option linter.unnecessarySimpa false
namespace Go.Proofs.YtibnfbglanpoiaaGreatDoor
open Go.Proofs.Tryz
structure zg (R:World→World→Prop) where
 p:Value→Nat × Nat→World→Prop
 st:∀ v b w w',p v b w→R w w'→p v b w'
def zg.is {R:World→World→Prop}(v:Value):zg R:=⟨fun u _ _=>u=v,fun _ _ _ _ h _=>h⟩
def zg.any {R:World→World→Prop}:zg R:=⟨fun _ _ _=>True,fun _ _ _ _ h _=>h⟩
def qQ {R:World→World→Prop}(fs:List (zg R)) (i:Nat):zg R:=fs.getD i zg.any
def yM:List (Option Nat)→Nat→(Nat→Value)→Act→Act
 | [],_,_,a=>a
 | d :: ds,k,x,a=>yM ds (k + 1) x (a.put d (x k))
def vo (a:Act):Option Nat→Value
 | some d=>a.tmps.getD d undef
 | none=>undef
def qL (ops:Array Oper) (k j:Nat):Bool:=((ops[k]?).map (·.after.any fun e=>Region.binds .any e && e.on == j)).getD false
def bW (ops:Array Oper) (k:Nat):Bool:=((ops[k]?).map (·.after.all fun e=>!Region.binds .any e || decide (e.on < k))).getD false
def bd:List (Option Nat)→Bool
 | []=>true
 | none :: l=>bd l
 | some d :: l=>!l.contains (some d) && bd l
def ordB (ops:Array Oper) (L n:Nat):Bool:=
 decide (L < ops.size) && (List.range ops.size).all (bW ops) && (List.range L).all (fun j=>(List.range (L + 1)).any (fun k=>decide (j < k) && qL ops k j)) && bd (ops.toList.map (·.dst)) &&
  (ops.toList.map (·.dst)).all (fun d=>d.all (fun d=>decide (d < n))) && (List.range ops.size).all (fun k=>decide (k≤L) || qL ops k (k - 1))
theorem jX:∀ {l:List (Option Nat)},bd l=true→∀ (i j:Nat) (d:Nat),l[i]? = some (some d)→l[j]? = some (some d)→i=j
 | [],_,i,_,_,h,_=>by simp at h
 | none :: l,h,i,j,d,hi,hj=>by
  cases i with
  | zero=>simp at hi
  | succ i=>
   cases j with
   | zero=>simp at hj
   | succ j=>rw [jX (l:=l) h i j d (by simpa using hi) (by simpa using hj)]
 | some e :: l,h,i,j,d,hi,hj=>by
  simp only [bd,Bool.and_eq_true,Bool.not_eq_true',List.contains_eq_mem,decide_eq_false_iff_not] at h
  cases i with
  | zero=>
   cases j with
   | zero=>rfl
   | succ j=>
    simp only [List.getElem?_cons_zero,Option.some.injEq] at hi
    subst hi
    exact absurd (List.mem_of_getElem? (by simpa using hj)) h.1
  | succ i=>
   cases j with
   | zero=>
    simp only [List.getElem?_cons_zero,Option.some.injEq] at hj
    subst hj
    exact absurd (List.mem_of_getElem? (by simpa using hi)) h.1
   | succ j=>rw [jX (l:=l) h.2 i j d (by simpa using hi) (by simpa using hj)]
theorem vP (a:Act) (d t:Nat) (v:Value) (hd:d < a.tmps.size):(a.put (some d) v).tmps.getD t undef=if t=d then v else a.tmps.getD t undef:=by
 simp only [Act.put,Array.getD_eq_getD_getElem?,Array.getElem?_setIfInBounds]
 by_cases h:d=t
 ·subst h;simp [hd]
 ·rw [if_neg h,if_neg (Ne.symm h)]
theorem J1:∀ (ds:List (Option Nat)) (k:Nat) (x:Nat→Value) (a:Act),(yM ds k x a).tmps.size=a.tmps.size
 | [],_,_,_=>rfl
 | d :: ds,k,x,a=>by
  rw [yM,J1 ds]
  cases d <;> simp [Act.put]
theorem Y9:∀ (ds:List (Option Nat)) (k:Nat) (x:Nat→Value) (a:Act),(yM ds k x a).defers=a.defers
 | [],_,_,_=>rfl
 | d :: ds,k,x,a=>by
  rw [yM,Y9 ds]
  cases d <;> simp [Act.put]
theorem KY:∀ (ds:List (Option Nat)) (k:Nat) (x:Nat→Value) (a:Act) (t:Nat),some t ∉ ds→(∀ d,some d ∈ ds→d < a.tmps.size)→(yM ds k x a).tmps.getD t undef=a.tmps.getD t undef
 | [],_,_,_,_,_,_=>rfl
 | d :: ds,k,x,a,t,h,hz=>by
  have hs:(a.put d (x k)).tmps.size=a.tmps.size:=by cases d <;> simp [Act.put]
  rw [yM,KY ds _ _ _ t (fun g=>h (List.mem_cons_of_mem _ g)) (fun e he=>by rw [hs];exact hz e (List.mem_cons_of_mem _ he))]
  cases d with
  | none=>rfl
  | some d=>
   rw [vP a d t _ (hz d (List.mem_cons_self ..)),if_neg (fun e=>h (by rw [e];exact List.mem_cons_self ..))]
theorem puts_at:∀ (ds:List (Option Nat)) (k:Nat) (x:Nat→Value) (a:Act) (i d:Nat),bd ds=true→(∀ d,some d ∈ ds→d < a.tmps.size)→ds[i]? = some (some d)→(yM ds k x a).tmps.getD d undef=x (k + i)
 | [],_,_,_,_,_,_,_,h=>by simp at h
 | e :: ds,k,x,a,i,d,hn,hz,h=>by
  have hs:(a.put e (x k)).tmps.size=a.tmps.size:=by cases e <;> simp [Act.put]
  have hz':∀ d,some d ∈ ds→d < (a.put e (x k)).tmps.size:=fun d hd=>by rw [hs];exact hz d (List.mem_cons_of_mem _ hd)
  rw [yM]
  cases i with
  | zero=>
   simp only [List.getElem?_cons_zero,Option.some.injEq] at h
   subst h
   simp only [bd,Bool.and_eq_true,Bool.not_eq_true',List.contains_eq_mem,decide_eq_false_iff_not] at hn
   rw [KY ds _ _ _ d hn.1 hz',vP a d d _ (hz d (List.mem_cons_self ..)),if_pos rfl]
   rfl
  | succ i=>
   rw [puts_at ds (k + 1) x _ i d (by
    cases e with
    | none=>exact hn
    | some e=>simp only [bd,Bool.and_eq_true] at hn;exact hn.2) hz' (by simpa using h)]
   congr 1;omega
theorem act_puts {ds:List (Option Nat)}{a b:Act}(hn:bd ds=true) (hz:∀ d,some d ∈ ds→d < a.tmps.size) (hs:b.tmps.size=a.tmps.size) (hd:b.defers=a.defers) (ho:∀ t,some t ∉ ds→b.tmps.getD t undef=a.tmps.getD t undef) :
  b=yM ds 0 (fun j=>vo b (ds.getD j none)) a:=by
 have key:b.tmps=(yM ds 0 (fun j=>vo b (ds.getD j none)) a).tmps:=by
  apply Array.ext
  ·rw [J1,hs]
  ·intro t h1 h2
   have e1:b.tmps[t]=b.tmps.getD t undef:=by simp [Array.getD_eq_getD_getElem?,h1]
   have e2:(yM ds 0 (fun j=>vo b (ds.getD j none)) a).tmps[t]=(yM ds 0 (fun j=>vo b (ds.getD j none)) a).tmps.getD t undef:=by rw [Array.getD_eq_getD_getElem?,Array.getElem?_eq_getElem h2];rfl
   rw [e1,e2]
   by_cases hm:some t ∈ ds
   ·obtain⟨i,hi,he⟩:=List.getElem_of_mem hm
    have hg:ds[i]? = some (some t):=by rw [List.getElem?_eq_getElem hi,he]
    rw [puts_at ds 0 _ a i t hn hz hg,Nat.zero_add,List.getD_eq_getElem?_getD,hg]
    rfl
   ·rw [KY ds 0 _ a t hm hz,ho t hm]
 have e3:=Y9 ds 0 (fun j=>vo b (ds.getD j none)) a
 rw [← hd] at e3
 cases b
 rename_i tm df
 generalize hP:yM ds 0 _ a=p at key e3 ⊢
 cases p
 simp only at key e3
 subst key;subst e3
 rfl
def Zo (W w':World) (L:Nat) (b:Nat→Nat × Nat):Prop:=(∀ j,j < L→W.heap.size≤(b j).1∧(b j).1≤(b j).2∧(b j).2≤w'.heap.size)∧∀ i j,i < L→j < L→i≠j→(b i).2≤(b j).1∨(b j).2≤(b i).1
section
variable {P : Program} {ops : Array Oper} {R : World → World → Prop}
def bS (P:Program) (ops:Array Oper) (R:World→World→Prop) (fs:List (zg R)) (W:World) (F:(Nat→Value)→Act):List Oper→Nat→Prop
 | [],_=>True
 | o :: l, i => (∀ x w, R W w → ∀ b : Nat → Nat × Nat, (∀ j, qL ops i j = true → (qQ fs j).p (x j) (b j) w) →
     wpList P ops (fun e a' w'=>e = .normal∧∃ v,a'=(F x).put o.dst v∧(qQ fs i).p (match o.dst with | some _=>v | none=>undef) (w.heap.size,w'.heap.size) w'∧R w w') [o] (F x) w)∧bS P ops R fs W F l (i + 1)
theorem JU {fs:List (zg R)}{W:World}{F:(Nat→Value)→Act}:∀ (l:List Oper) (k i:Nat) (o:Oper),bS P ops R fs W F l k→l[i]? = some o→∀ x w,R W w→∀ b:Nat→Nat × Nat,(∀ j,qL ops (k + i) j=true→(qQ fs j).p (x j) (b j) w) →
  wpList P ops (fun e a' w'=>e = .normal∧∃ v,a'=(F x).put o.dst v∧(qQ fs (k + i)).p (match o.dst with | some _=>v | none=>undef) (w.heap.size,w'.heap.size) w'∧R w w') [o] (F x) w
 | [],_,_,_,_,h=>by simp at h
 | o :: l,k,0,o',h,ho=>by
  simp only [List.getElem?_cons_zero,Option.some.injEq] at ho
  subst ho
  exact h.1
 | o :: l,k,i + 1,o',h,ho=>by
  have:=JU l (k + 1) i o' h.2 (by simpa using ho)
  rw [show k + 1 + i=k + (i + 1) by omega] at this
  exact this
theorem wpOp_of_list {Q Q':Exit→Act→World→Prop}{K:Act→World→Prop}{i:Nat}{o:Oper}{a:Act}{w:World}(ho:ops[i]? = some o) (h:wpList P ops Q [o] a w) (hK:∀ a' w',Q .normal a' w'→K a' w') (hp:∀ c a w,Q (.panic c) a w→Q' (.panic c) a w) (hl:LetsOut Q→LetsOut Q'):wpOp P ops Q' i K a w:=by
 unfold wpOp
 rw [ho]
 simp only
 unfold wpList at h
 split at h
 ·rename_i hw
  rw [if_pos hw]
  rcases h with h | h
  ·refine .inl ?_
   unfold Oper.wp at *
   generalize (execOp a.eval o).run P w=r at *
   cases r with
   | ok n w'=>
    cases n <;> simp only [Oper.upon] at h ⊢
    case value v=>exact hK _ _ h
    case skip=>exact hK _ _ h
    case defer d=>exact hK _ _ h
    case enter f args=>
     exact Calls.mono h (fun e w'' he=>by cases e <;> first | exact hK _ _ he | exact hp _ _ _ he | exact hl he)
    case row r args=>exact Rows.mono h (fun _ _ he=>hK _ _ he)
   | halt x w'=>cases x <;> simp only [Oper.upon] at h ⊢ <;> exact hp _ _ _ h
  ·exact .inr ⟨h.1,hl h.2⟩
 ·rename_i hw
  rw [if_neg hw]
  exact hK _ _ h
structure Mid (ops:Array Oper) (fs:List (zg R)) (W:World) (L:Nat) (b:Act) (listed:Array Bool) (a:Act) (w:World) (bs:Nat→Nat × Nat):Prop where
 size:listed.size=ops.size
 last:∀ k,L≤k→listed.getD k false=false
 closed:∀ k j,listed.getD k false=true→qL ops k j=true→listed.getD j false=true
 tmps:a.tmps.size=b.tmps.size
 defers:a.defers=b.defers
 rest:∀ t,some t ∉ ops.toList.map (·.dst)→a.tmps.getD t undef=b.tmps.getD t undef
 late:∀ k d,L≤k→(ops.toList.map (·.dst))[k]? = some (some d)→a.tmps.getD d undef=b.tmps.getD d undef
 rel:R W w
 facts:∀ j,listed.getD j false=true→(qQ fs j).p (vo a ((ops.toList.map (·.dst)).getD j none)) (bs j) w
 within:∀ j,listed.getD j false=true→W.heap.size≤(bs j).1∧(bs j).1≤(bs j).2∧(bs j).2≤w.heap.size
 apart:∀ i j,listed.getD i false=true→listed.getD j false=true→i≠j→(bs i).2≤(bs j).1∨(bs j).2≤(bs i).1
theorem ZN {md:Region.Mode}{listed:Array Bool}{i:Nat}:i ∈ Region.ready md ops listed→listed.getD i true=false∧∃ o,ops[i]? = some o∧∀ e ∈ o.after,Region.binds md e=true→listed.getD e.on false=true:=fun h=>by
 obtain⟨h1,o,h2,h3⟩:=mem_ready.1 h
 exact⟨h1,o,h2,h3⟩
theorem kj {listed:Array Bool}{i j:Nat}{o:Oper}(ho:ops[i]? = some o) (h:∀ e ∈ o.after,Region.binds .any e=true→listed.getD e.on false=true) (hw:qL ops i j=true):listed.getD j false=true:=by
 unfold qL at hw
 rw [ho] at hw
 simp only [Option.map_some,Option.getD_some,Array.any_eq_true'] at hw
 obtain⟨e,he,hb⟩:=hw
 simp only [Bool.and_eq_true,beq_iff_eq] at hb
 rw [← hb.2]
 exact h e he hb.1
theorem qN {l:Array Bool}{i:Nat}(h:l.getD i true=false):l.getD i false=false∧i < l.size:=by
 by_cases hi:i < l.size
 ·simp [Array.getD_eq_getD_getElem?,hi] at h ⊢;exact h
 ·simp [Array.getD_eq_getD_getElem?,hi] at h
theorem all_of_last {listed:Array Bool}{L:Nat}(hc:∀ k j,listed.getD k false=true→qL ops k j=true→listed.getD j false=true) (hL:∀ j,qL ops L j=true→listed.getD j false=true)
  (hB:(List.range L).all (fun j=>(List.range (L + 1)).any (fun k=>decide (j < k) && qL ops k j))=true):∀ (m j:Nat),L - j=m→j < L→listed.getD j false=true:=by
 intro m
 induction m using Nat.strongRecOn with
 | _ m ih=>
  intro j hm hj
  have h1:=List.all_eq_true.1 hB j (List.mem_range.2 hj)
  obtain⟨k,hk,h2⟩:=List.any_eq_true.1 h1
  simp only [Bool.and_eq_true,decide_eq_true_eq] at h2
  have hkL:=List.mem_range.1 hk
  by_cases e:k=L
  ·subst e;exact hL j h2.2
  ·exact hc k j (ih (L - k) (by omega) k rfl (by omega)) h2.2
theorem QS {listed:Array Bool}{n:Nat}(hs:ops.size=n) (hl:listed.size=n) (hb:∀ k,k < n→bW ops k=true):∀ (m:Nat),m < n→listed.getD m false=false→Region.ready .any ops listed≠[]:=by
 intro m
 induction m using Nat.strongRecOn with
 | _ m ih=>
  intro hm h
  obtain⟨o,ho⟩:∃ o,ops[m]? = some o:=⟨_,Array.getElem?_eq_getElem (by omega)⟩
  by_cases hall:∀ e ∈ o.after,Region.binds .any e=true→listed.getD e.on false=true
  ·intro e
   have:m ∈ Region.ready .any ops listed:=mem_ready.2 ⟨by
    have hi:m < listed.size:=by omega
    simp [Array.getD_eq_getD_getElem?,hi] at h ⊢;exact h,o,ho,hall⟩
   rw [e] at this
   cases this
  ·simp only [Classical.not_forall] at hall
   obtain⟨e,he,hbn,hf⟩:=hall
   have h1:=hb m hm
   unfold bW at h1
   rw [ho] at h1
   simp only [Option.map_some,Option.getD_some,Array.all_eq_true_iff_forall_mem] at h1
   have h2:=h1 e he
   simp only [hbn,Bool.not_true,Bool.false_or,decide_eq_true_eq] at h2
   exact ih e.on h2 (by omega) (by simpa using hf)
def kU (l:Array Bool):Nat:=l.toList.countP (fun b=>!b)
theorem unlisted_set {l:Array Bool}{i:Nat}(h:l.getD i true=false):kU (l.setIfInBounds i true) + 1=kU l:=by
 have hi:=(qN h).2
 have hv:l[i]=false:=by simpa [Array.getD_eq_getD_getElem?,hi] using h
 unfold kU
 rw [Array.toList_setIfInBounds]
 have hil:i < l.toList.length:=by simpa using hi
 rw [List.countP_set hil]
 have hv':l.toList[i]=false:=by simpa using hv
 rw [hv']
 have:0 < l.toList.countP (fun b=>!b):=List.countP_pos_iff.2 ⟨false,by rw [← hv'];exact List.getElem_mem hil,rfl⟩
 simp only [Bool.not_false,Bool.not_true,if_true,Bool.false_eq_true,if_false]
 omega
theorem unlisted_pos {l:Array Bool}{i:Nat}(hi:i < l.size) (h:l.getD i false=false):0 < kU l:=by
 have hv:l[i]=false:=by simpa [Array.getD_eq_getD_getElem?,hi] using h
 exact List.countP_pos_iff.2 ⟨false,by rw [← hv];exact Array.getElem_mem_toList hi,rfl⟩
theorem tail_any {Q:Exit→Act→World→Prop}{L:Nat}(hb:∀ k,k < ops.size→bW ops k=true) (hch:∀ k,k < ops.size→L < k→qL ops k (k - 1)=true):∀ (tl:List Oper) (k:Nat) (fuel:Nat) (listed:Array Bool) (a:Act) (w:World),
  L≤k→ops.toList.drop k=tl→listed.size=ops.size→(∀ j,j < k→j < ops.size→listed.getD j false=true)→(∀ j,k≤j→listed.getD j false=false)→tl.length≤fuel→wpList P ops Q tl a w→wpAny P .any ops Q fuel listed a w:=by
 intro tl
 induction tl with
 | nil=>
  intro k fuel listed a w _ htl hs hall _ _ h
  have hk:ops.size≤k:=by simpa using List.drop_eq_nil_iff.1 htl
  refine wpAny_done ?_ h fuel
  rw [List.eq_nil_iff_forall_not_mem]
  intro j hj
  have hj2:=qN (ZN hj).1
  rw [hall j (by omega) (by omega)] at hj2
  cases hj2.1
 | cons o rest ih=>
  intro k fuel listed a w hLk htl hs hall hno hf h
  have hk:k < ops.size:=by
   rcases Nat.lt_or_ge k ops.size with h1 | h1
   ·exact h1
   ·rw [List.drop_eq_nil_of_le (by simpa using h1)] at htl;cases htl
  have ho:ops[k]? = some o:=by
   have h1:(ops.toList.drop k)[0]? = some o:=by rw [htl];rfl
   rw [List.getElem?_drop,Nat.add_zero,Array.getElem?_toList] at h1
   exact h1
  have hrest:ops.toList.drop (k + 1)=rest:=by
   rw [← List.drop_drop,htl]
   rfl
  obtain⟨f,rfl⟩:∃ f,fuel=f + 1:=⟨fuel - 1,by simp only [List.length_cons] at hf;omega⟩
  refine⟨fun h0=>absurd h0 (QS rfl hs hb k hk (hno k (Nat.le_refl _))),fun i hi=>?_⟩
  obtain⟨hun,o',ho',hwt⟩:=ZN hi
  have hiu:=qN hun
  have hik:i=k:=by
   rcases Nat.lt_trichotomy i k with h1 | h1 | h1
   ·rw [hall i h1 (by omega)] at hiu;cases hiu.1
   ·exact h1
   ·have h2:=hch i (by omega) (by omega)
    have h3:=kj ho' hwt h2
    rw [hno (i - 1) (by omega)] at h3
    cases h3
  subst hik
  obtain rfl:o=o':=by rw [ho] at ho';exact Option.some.inj ho'
  have hnext:∀ a' w',wpList P ops Q rest a' w'→wpAny P .any ops Q f (listed.setIfInBounds i true) a' w':=fun a' w' h'=>by
   refine ih (i + 1) f _ a' w' (by omega) hrest (by rw [Array.size_setIfInBounds];exact hs) (fun j hj hjs=>?_) (fun j hj=>?_) (by simp only [List.length_cons] at hf;omega) h'
   ·simp only [Array.getD_eq_getD_getElem?,Array.getElem?_setIfInBounds]
    by_cases e:i=j
    ·rw [if_pos e,if_pos (by omega)];rfl
    ·rw [if_neg e]
     have:=hall j (by omega) hjs
     rwa [Array.getD_eq_getD_getElem?] at this
   ·simp only [Array.getD_eq_getD_getElem?,Array.getElem?_setIfInBounds]
    rw [if_neg (by omega)]
    have:=hno j (by omega)
    rwa [Array.getD_eq_getD_getElem?] at this
  unfold wpOp
  rw [ho]
  simp only
  unfold wpList at h
  split at h
  ·rename_i hw
   rw [if_pos hw]
   rcases h with h | h
   ·exact .inl (Oper.wp_mono hnext h)
   ·exact .inr h
  ·rename_i hw
   rw [if_neg hw]
   exact hnext _ _ h
theorem any_late {n:Nat}{Q:Exit→Act→World→Prop}{a:Act}{w:World}{os:List Oper}(R:World→World→Prop) (W:World) (L:Nat) (fs:List (zg R)) {F G:(Nat→Value)→Act}(hn:a.tmps.size=n) (hB:ordB os.toArray L n=true)
  (hR:R W w.drew) (htr:∀ x y z,R x y→R y z→R x z) (hsz:∀ x y,R x y→x.heap.size≤y.heap.size) (hF:∀ x,yM (os.map (·.dst)) 0 x a=F x) (hG:∀ x,(∀ k,L≤k→k < os.length→x k=vo a ((os.map (·.dst)).getD k none))→F x=G x)
  (hsteps:bS P os.toArray R fs W G (os.take L) 0)
  (hlast:∀ x w',R W w'→∀ b:Nat→Nat × Nat,(∀ j,j < L→(qQ fs j).p (x j) (b j) w')→Zo W w' L b→wpList P os.toArray Q (os.drop L) (F x) w'):wpAny P .any os.toArray Q os.toArray.size (Array.replicate os.toArray.size false) a { w with drawn:=w.drawn + 1 }:=by
 subst hn
 have hB0:=hB
 unfold ordB at hB
 simp only [Bool.and_eq_true,beq_iff_eq] at hB
 obtain⟨⟨⟨⟨⟨h1,h2⟩,h3⟩,h4⟩,h5⟩,h6⟩:=hB
 have h1:L < os.length:=by simpa using h1
 have hs0:os.toArray.size=os.length:=by simp
 have hbk:∀ k,k < os.toArray.size→bW os.toArray k=true:=fun k hk=>List.all_eq_true.1 h2 k (List.mem_range.2 hk)
 have hch:∀ k,k < os.toArray.size→L < k→qL os.toArray k (k - 1)=true:=fun k hk hl=>by
  have:=List.all_eq_true.1 h6 k (List.mem_range.2 hk)
  simp only [Bool.or_eq_true,decide_eq_true_eq] at this
  exact this.resolve_left (by omega)
 have hz:∀ d,some d ∈ os.map (·.dst)→d < a.tmps.size:=fun d hd=>by
  have:=List.all_eq_true.1 h5 _ hd
  simpa using this
 have hds:os.toArray.toList.map (·.dst)=os.map (·.dst):=rfl
 have main:∀ (fuel:Nat) (listed:Array Bool) (b:Act) (v:World) (bs:Nat→Nat × Nat),kU listed≤fuel→Mid os.toArray fs W L a listed b v bs→wpAny P .any os.toArray Q fuel listed b v:=by
  intro fuel
  induction fuel with
  | zero=>
   intro listed b v bs hu hM
   have:=unlisted_pos (i:=L) (by rw [hM.size];omega) (hM.last L (Nat.le_refl _))
   omega
  | succ fuel ih=>
   intro listed b v bs hu hM
   refine⟨fun h0=>absurd h0 (QS rfl hM.size hbk L (by omega) (hM.last L (Nat.le_refl _))),fun i hi=>?_⟩
   obtain⟨hun,o,ho,hall⟩:=ZN hi
   have hb:b=F (fun j=>vo b ((os.map (·.dst)).getD j none)):=by
    rw [← hF]
    exact act_puts h4 hz hM.tmps hM.defers hM.rest
   have hu':kU (listed.setIfInBounds i true)≤fuel:=by have:=unlisted_set hun;omega
   have hil:=(qN hun).2
   by_cases hiL:i=L
   ·subst hiL
    have hAll:∀ j,j < i→listed.getD j false=true:=fun j hj=>all_of_last hM.closed (fun j hj=>kj ho hall hj) h3 _ j rfl hj
    have h9:=hlast _ v hM.rel bs (fun j hj=>hM.facts j (hAll j hj)) ⟨fun j hj=>hM.within j (hAll j hj),fun i j hi hj=>hM.apart i j (hAll i hi) (hAll j hj)⟩
    rw [← hb] at h9
    have hul:(os.drop i).length≤fuel + 1:=by
     refine Nat.le_trans ?_ hu
     have hdrop:listed.toList.drop i=List.replicate (os.length - i) false:=by
      apply List.ext_getElem
      ·rw [List.length_drop,Array.length_toList,hM.size,List.length_replicate];simp
      ·intro j h1' h2'
       rw [List.getElem_drop,List.getElem_replicate]
       have h7:=hM.last (i + j) (by omega)
       have h8:i + j < listed.size:=by rw [List.length_drop,Array.length_toList] at h1';omega
       simpa [Array.getD_eq_getD_getElem?,h8] using h7
     unfold kU
     conv=>rhs;rw [← List.take_append_drop i listed.toList,List.countP_append,hdrop]
     have hc:List.countP (fun b=>!b) (List.replicate (os.length - i) false)=os.length - i:=by rw [List.countP_replicate];rfl
     rw [List.length_drop,hc]
     omega
    exact (tail_any hbk hch _ i (fuel + 1) listed b v (Nat.le_refl _) (by rfl) hM.size (fun j hj _=>hAll j hj) hM.last hul h9).2 i hi
   ·have hil2:i < L:=by
     rcases Nat.lt_or_ge i L with h7 | h7
     ·exact h7
     ·have h8:=kj ho hall (hch i (by rw [← hM.size];exact hil) (by omega))
      rw [hM.last (i - 1) (by omega)] at h8
      cases h8
    have hoi:os[i]? = some o:=by simpa using ho
    have hol:(os.take L)[i]? = some o:=by rw [List.getElem?_take,if_pos hil2];exact hoi
    have h9:=JU (os.take L) 0 i o hsteps hol (fun j=>vo b ((os.map (·.dst)).getD j none)) v hM.rel bs (fun j hj=>hM.facts j (kj ho hall (by rw [← Nat.zero_add i];exact hj)))
    have hbG:=hb.trans (hG _ (fun k hk _=>by
     show vo b ((os.map (·.dst)).getD k none)=_
     cases hd:(os.map (·.dst)).getD k none with
     | none=>rfl
     | some d=>exact hM.late k d hk (by
       rw [hds]
       rw [List.getD_eq_getElem?_getD] at hd
       cases h7:(os.map (·.dst))[k]? with
       | none=>rw [h7] at hd;cases hd
       | some z=>rw [h7] at hd;exact congrArg some hd)))
    rw [← hbG,Nat.zero_add] at h9
    have hdi:(os.map (·.dst))[i]? = some o.dst:=by rw [List.getElem?_map,hoi];rfl
    refine wpOp_of_list ho h9 (fun a' w' ⟨_,u,e1,e2,e3⟩=>ih _ _ _ (fun j=>if i=j then (v.heap.size,w'.heap.size) else bs j) hu' ?_) (fun _ _ _ h=>nomatch h.1) (fun⟨_,_,h⟩=>nomatch h.1)
    have hgd:∀ j,(listed.setIfInBounds i true).getD j false=if i=j then true else listed.getD j false:=fun j=>by
     simp only [Array.getD_eq_getD_getElem?,Array.getElem?_setIfInBounds]
     by_cases e:i=j
     ·rw [if_pos e,if_pos e,if_pos hil];rfl
     ·rw [if_neg e,if_neg e]
    have hod:∀ d,o.dst=some d→d < b.tmps.size:=fun d hd=>by rw [hM.tmps];exact hz d (by rw [← hd];exact List.mem_of_getElem? hdi)
    subst e1
    refine⟨by rw [Array.size_setIfInBounds];exact hM.size,fun k hk=>by rw [hgd,if_neg (by omega)];exact hM.last k hk,?_,?_,?_,?_,?_,htr _ _ _ hM.rel e3,?_,?_,?_⟩
    ·intro k j hk hw
     rw [hgd] at hk ⊢
     split
     ·rfl
     split at hk
     ·rename_i e;subst e;exact kj ho hall hw
     ·exact hM.closed k j hk hw
    ·rw [← hM.tmps];cases o.dst <;> simp [Act.put]
    ·rw [← hM.defers];cases o.dst <;> simp [Act.put]
    ·intro t ht
     rw [← hM.rest t ht]
     cases hd:o.dst with
     | none=>rfl
     | some d=>rw [vP b d t _ (hod d hd),if_neg (fun e=>ht (by rw [e,← hd];exact List.mem_of_getElem? hdi))]
    ·intro k d hk hkd
     rw [← hM.late k d hk hkd]
     cases hd:o.dst with
     | none=>rfl
     | some d'=>rw [vP b d' d _ (hod d' hd),if_neg (fun e=>by
       subst e
       have:=jX h4 i k d (by rw [hdi,hd]) hkd
       omega)]
    ·intro j hj
     rw [hds]
     by_cases e:i=j
     ·subst e
      rw [List.getD_eq_getElem?_getD,hdi,if_pos rfl]
      show (qQ fs i).p (vo (b.put o.dst u) o.dst) _ w'
      cases hd:o.dst with
      | none=>rw [hd] at e2;exact e2
      | some d=>
       rw [hd] at e2
       show (qQ fs i).p ((b.put (some d) u).tmps.getD d undef) _ w'
       rw [vP b d d _ (hod d hd),if_pos rfl]
       exact e2
     ·rw [hgd,if_neg e] at hj
      have h8:=(qQ fs j).st _ _ _ _ (hM.facts j hj) e3
      rw [if_neg e]
      rw [hds] at h8
      cases hd:o.dst with
      | none=>exact h8
      | some d=>
       have hne:(os.map (·.dst)).getD j none≠some d:=fun e9=>by
        have:(os.map (·.dst))[j]? = some (some d):=by
         rw [List.getD_eq_getElem?_getD] at e9
         cases h7:(os.map (·.dst))[j]? with
         | none=>rw [h7] at e9;cases e9
         | some z=>rw [h7] at e9;exact congrArg some e9
        exact e (jX h4 i j d (by rw [hdi,hd]) this)
       cases h6:(os.map (·.dst)).getD j none with
       | none=>rw [h6] at h8;exact h8
       | some c=>
        rw [h6] at h8
        show (qQ fs j).p ((b.put (some d) u).tmps.getD c undef) _ w'
        rw [vP b d c _ (hod d hd),if_neg (fun e9=>hne (by rw [h6,e9]))]
        exact h8
    ·intro j hj
     by_cases e:i=j
     ·rw [if_pos e]
      exact⟨hsz _ _ hM.rel,hsz _ _ e3,Nat.le_refl _⟩
     ·rw [if_neg e]
      rw [hgd,if_neg e] at hj
      have:=hM.within j hj
      have:=hsz _ _ e3
      omega
    ·intro j k hj hk hne
     rw [hgd] at hj hk
     by_cases e:i=j
     ·rw [if_pos e]
      have e2':i≠k:=fun h=>hne (e.symm.trans h)
      rw [if_neg e2'] at hk ⊢
      have:=hM.within k hk
      exact .inr this.2.2
     ·rw [if_neg e] at hj ⊢
      by_cases e':i=k
      ·rw [if_pos e']
       have:=hM.within j hj
       exact .inl this.2.2
      ·rw [if_neg e'] at hk ⊢
       exact hM.apart j k hj hk hne
 refine main os.toArray.size _ a _ (fun _=>(0,0)) ?_ ?_
 ·unfold kU
  exact Nat.le_trans List.countP_le_length (by simp)
 ·refine⟨by simp,?_,?_,rfl,rfl,fun _ _=>rfl,fun _ _ _ _=>rfl,hR,?_,?_,?_⟩
  ·intro k _
   simp only [Array.getD_eq_getD_getElem?,Array.getElem?_replicate]
   split <;> rfl
  ·intro k j hk
   exfalso
   simp only [Array.getD_eq_getD_getElem?,Array.getElem?_replicate] at hk
   split at hk <;> simp at hk
  ·intro j hj
   exfalso
   simp only [Array.getD_eq_getD_getElem?,Array.getElem?_replicate] at hj
   split at hj <;> simp at hj
  ·intro j hj
   exfalso
   simp only [Array.getD_eq_getD_getElem?,Array.getElem?_replicate] at hj
   split at hj <;> simp at hj
  ·intro j k hj
   exfalso
   simp only [Array.getD_eq_getD_getElem?,Array.getElem?_replicate] at hj
   split at hj <;> simp at hj
theorem Zb {id n:Nat}{Q:Exit→Act→World→Prop}{a:Act}{w:World}{os:List Oper}(R:World→World→Prop) (W:World) (L:Nat) (fs:List (zg R)) {F G:(Nat→Value)→Act}(hm:P.follows .mixedOrders=true) (hn:a.tmps.size=n) (hB:ordB os.toArray L n=true)
  (hR:R W w.drew) (htr:∀ x y z,R x y→R y z→R x z) (hsz:∀ x y,R x y→x.heap.size≤y.heap.size) (hF:∀ x,yM (os.map (·.dst)) 0 x a=F x) (hG:∀ x,(∀ k,L≤k→k < os.length→x k=vo a ((os.map (·.dst)).getD k none))→F x=G x)
  (hsteps:bS P os.toArray R fs W G (os.take L) 0)
  (hlast:∀ x w',R W w'→∀ b:Nat→Nat × Nat,(∀ j,j < L→(qQ fs j).p (x j) (b j) w')→Zo W w' L b→wpList P os.toArray Q (os.drop L) (F x) w'):(Code.region id os.toArray true).wp P Q a w:=
 wp_region_any hm (any_late R W L fs hn hB hR htr hsz hF hG hsteps hlast)
theorem Qz {id n:Nat}{Q:Exit→Act→World→Prop}{a:Act}{w:World}{os:List Oper}(R:World→World→Prop) (W:World) (L:Nat) (fs:List (zg R)) {F:(Nat→Value)→Act}(hm:P.follows .mixedOrders=true) (hn:a.tmps.size=n) (hB:ordB os.toArray L n=true)
  (hR:R W w.drew) (htr:∀ x y z,R x y→R y z→R x z) (hsz:∀ x y,R x y→x.heap.size≤y.heap.size) (hF:∀ x,yM (os.map (·.dst)) 0 x a=F x)
  (hsteps:bS P os.toArray R fs W F (os.take L) 0)
  (hlast:∀ x w',R W w'→∀ b:Nat→Nat × Nat,(∀ j,j < L→(qQ fs j).p (x j) (b j) w')→Zo W w' L b→wpList P os.toArray Q (os.drop L) (F x) w'):(Code.region id os.toArray true).wp P Q a w:=
 Zb R W L fs hm hn hB hR htr hsz hF (fun _ _=>rfl) hsteps hlast
theorem vb {id n:Nat}{Q:Exit→Act→World→Prop}{a:Act}{w:World}{os:List Oper}(L:Nat) (fs:List (zg (zb []))) {F G:(Nat→Value)→Act}(hm:P.follows .mixedOrders=true) (hn:a.tmps.size=n) (hB:ordB os.toArray L n=true)
  (hF:∀ x,yM (os.map (·.dst)) 0 x a=F x) (hG:∀ x,(∀ k,L≤k→k < os.length→x k=vo a ((os.map (·.dst)).getD k none))→F x=G x)
  (hsteps:bS P os.toArray (zb []) fs w G (os.take L) 0)
  (hlast:∀ x w',zb [] w w'→∀ b:Nat→Nat × Nat,(∀ j,j < L→(qQ fs j).p (x j) (b j) w')→Zo w w' L b→wpList P os.toArray Q (os.drop L) (F x) w'):(Code.region id os.toArray true).wp P Q a w:=
 Zb (zb []) w L fs hm hn hB (zb.refl [] w).drew (fun _ _ _ h k=>h.then k) (fun _ _ h=>h.size) hF hG hsteps hlast
theorem zZ {id n:Nat}{Q:Exit→Act→World→Prop}{a:Act}{w:World}{os:List Oper}(L:Nat) (fs:List (zg (zb []))) {F:(Nat→Value)→Act}(hm:P.follows .mixedOrders=true) (hn:a.tmps.size=n) (hB:ordB os.toArray L n=true)
  (hF:∀ x,yM (os.map (·.dst)) 0 x a=F x)
  (hsteps:bS P os.toArray (zb []) fs w F (os.take L) 0)
  (hlast:∀ x w',zb [] w w'→∀ b:Nat→Nat × Nat,(∀ j,j < L→(qQ fs j).p (x j) (b j) w')→Zo w w' L b→wpList P os.toArray Q (os.drop L) (F x) w'):(Code.region id os.toArray true).wp P Q a w:=
 Qz (zb []) w L fs hm hn hB (zb.refl [] w).drew (fun _ _ _ h k=>h.then k) (fun _ _ h=>h.size) hF hsteps hlast
end
def yU (cs:List Value) (n m:Nat):zg (zb []):=⟨fun v b w=>∃ g,v = .slice (some ⟨g,0,none⟩) n n∧b.1≤g∧g < b.2∧Slc w m (.slice (some ⟨g,0,none⟩) n n) n cs,fun _ _ _ _ ⟨g,h1,h3,h4,h2⟩ k=>⟨g,h1,h3,h4,h2.kept0 k⟩⟩
def boxFact (t:Nat):zg (zb []):=⟨fun v b w=>∃ g,b.1≤g∧g < b.2∧v = .pointer (some ⟨g,0,none⟩)∧w.heap[g]? = some (.cells #[.int .i64 0,.int .i64 0,.string ⟨#[]⟩,.slice none 0 0,.slice none 0 0] t (0,0)),fun _ _ _ _ ⟨g,h0,h3,h1,h2⟩ k=>⟨g,h0,h3,h1,k.heap h2 (by simp)⟩⟩
open Go.RowKit
def QD:Nat→S8→List UInt8→S8 × List UInt8
 | 0,s,l=>(s,l)
 | k + 1,s,l=>if 64≤l.length then QD k (xH s (l.take 64)) (l.drop 64) else (s,l)
def ky (s:S8) (l:List UInt8):S8 × List UInt8:=QD l.length s l
theorem bK:∀ (k:Nat) (s:S8) (l:List UInt8),l.length≤k→QD k s l=QD l.length s l
 | 0,s,l,h=>by
  have:l=[]:=List.eq_nil_of_length_eq_zero (by omega)
  subst this
  rfl
 | k + 1,s,l,h=>by
  by_cases h64:64≤l.length
  ·obtain⟨m,hm⟩:∃ m,l.length=m + 1:=⟨l.length - 1,by omega⟩
   rw [hm]
   simp only [QD]
   rw [if_pos h64,if_pos h64,bK k _ _ (by simp;omega),bK m _ _ (by simp;omega)]
  ·obtain h0 | ⟨m,hm⟩:l.length=0∨∃ m,l.length=m + 1:=by
    cases hl:l.length with
    | zero=>exact .inl rfl
    | succ m=>exact .inr ⟨m,rfl⟩
   ·rw [h0]
    simp only [QD]
    rw [if_neg h64]
   ·rw [hm]
    simp only [QD]
    rw [if_neg h64,if_neg h64]
theorem vN (s:S8) (l:List UInt8) (h:64≤l.length):ky s l=ky (xH s (l.take 64)) (l.drop 64):=by
 unfold ky
 obtain⟨m,hm⟩:∃ m,l.length=m + 1:=⟨l.length - 1,by omega⟩
 rw [hm]
 simp only [QD]
 rw [if_pos h,bK m _ _ (by simp;omega)]
theorem jn (s:S8) (l:List UInt8) (h:l.length < 64):ky s l=(s,l):=by
 unfold ky
 cases hl:l.length with
 | zero=>rfl
 | succ m=>
  simp only [QD]
  rw [if_neg (by omega)]
theorem Z8 (s:S8) (l:List UInt8):(ky s l).2.length < 64:=by
 unfold ky
 suffices h:∀ (k:Nat) (s:S8) (l:List UInt8),l.length≤k→(QD k s l).2.length < 64 from h _ s l (Nat.le_refl _)
 intro k
 induction k with
 | zero=>intro s l h;simp only [QD];omega
 | succ k ih=>
  intro s l h
  simp only [QD]
  split
  ·exact ih _ _ (by simp;omega)
  ·simp only;omega
def Z1:Value→Nat
 | .slice _ n _=>n
 | _=>0
def S8.agg (s:S8):Value:=.agg #[.int .u32 s.a,.int .u32 s.b,.int .u32 s.c,.int .u32 s.d,.int .u32 s.e,.int .u32 s.f,.int .u32 s.g,.int .u32 s.h]
def putS (w:World) (p:Nat) (r:S8):World:=(((((((w.setCell ⟨p,0,none⟩ (.int .u32 r.a)).setCell ⟨p,1,none⟩ (.int .u32 r.b)).setCell ⟨p,2,none⟩ (.int .u32 r.c)).setCell ⟨p,3,none⟩ (.int .u32 r.d)).setCell ⟨p,4,none⟩ (.int .u32 r.e)).setCell ⟨p,5,none⟩ (.int .u32 r.f)).setCell ⟨p,6,none⟩ (.int .u32 r.g)).setCell ⟨p,7,none⟩ (.int .u32 r.h)
theorem putS_kept (w:World) (p:Nat) (r:S8):zb [p] w (putS w p r):=by
 unfold putS
 exact ((((((((zb.refl [p] w).setCell (.inl (by simp)) _).setCell (.inl (by simp)) _).setCell (.inl (by simp)) _).setCell (.inl (by simp)) _).setCell (.inl (by simp)) _).setCell (.inl (by simp)) _).setCell (.inl (by simp)) _).setCell (.inl (by simp)) _
theorem yv.putS {w:World}{p:Nat}{s:S8}{v:Value}{n:Int}(h:yv w p s v n) (r:S8):yv (putS w p r) p r v n:=by
 unfold yv hashC at h ⊢
 unfold Go.Proofs.YtibnfbglanpoiaaGreatDoor.putS
 have h1:=ze (i:=0) (v:=.int .u32 r.a) (d:=#[.int .u32 r.a,.int .u32 s.b,.int .u32 s.c,.int .u32 s.d,.int .u32 s.e,.int .u32 s.f,.int .u32 s.g,.int .u32 s.h,v,.int .i64 n]) h rfl
 have h2:=ze (i:=1) (v:=.int .u32 r.b) (d:=#[.int .u32 r.a,.int .u32 r.b,.int .u32 s.c,.int .u32 s.d,.int .u32 s.e,.int .u32 s.f,.int .u32 s.g,.int .u32 s.h,v,.int .i64 n]) h1 rfl
 have h3:=ze (i:=2) (v:=.int .u32 r.c) (d:=#[.int .u32 r.a,.int .u32 r.b,.int .u32 r.c,.int .u32 s.d,.int .u32 s.e,.int .u32 s.f,.int .u32 s.g,.int .u32 s.h,v,.int .i64 n]) h2 rfl
 have h4:=ze (i:=3) (v:=.int .u32 r.d) (d:=#[.int .u32 r.a,.int .u32 r.b,.int .u32 r.c,.int .u32 r.d,.int .u32 s.e,.int .u32 s.f,.int .u32 s.g,.int .u32 s.h,v,.int .i64 n]) h3 rfl
 have h5:=ze (i:=4) (v:=.int .u32 r.e) (d:=#[.int .u32 r.a,.int .u32 r.b,.int .u32 r.c,.int .u32 r.d,.int .u32 r.e,.int .u32 s.f,.int .u32 s.g,.int .u32 s.h,v,.int .i64 n]) h4 rfl
 have h6:=ze (i:=5) (v:=.int .u32 r.f) (d:=#[.int .u32 r.a,.int .u32 r.b,.int .u32 r.c,.int .u32 r.d,.int .u32 r.e,.int .u32 r.f,.int .u32 s.g,.int .u32 s.h,v,.int .i64 n]) h5 rfl
 have h7:=ze (i:=6) (v:=.int .u32 r.g) (d:=#[.int .u32 r.a,.int .u32 r.b,.int .u32 r.c,.int .u32 r.d,.int .u32 r.e,.int .u32 r.f,.int .u32 r.g,.int .u32 s.h,v,.int .i64 n]) h6 rfl
 have h8:=ze (i:=7) (v:=.int .u32 r.h) (d:=#[.int .u32 r.a,.int .u32 r.b,.int .u32 r.c,.int .u32 r.d,.int .u32 r.e,.int .u32 r.f,.int .u32 r.g,.int .u32 r.h,v,.int .i64 n]) h7 rfl
 exact h8
theorem yv.putV {w:World}{p:Nat}{s:S8}{v:Value}{n:Int}(h:yv w p s v n) (u:Value):yv (w.setCell ⟨p,8,none⟩ u) p s u n:=ze (d:=hashC s u n) h rfl
theorem yv.putN {w:World}{p:Nat}{s:S8}{v:Value}{n:Int}(h:yv w p s v n) (m:Int):yv (w.setCell ⟨p,9,none⟩ (.int .i64 m)) p s v m:=ze (d:=hashC s v m) h rfl
theorem xz.keptX {X:List Nat}{w w':World}(h:xz w) (k:zb X w w') (hx:0 ∉ X):xz w':=fun j v hv=>k.cell (h j v hv) hx
structure Wrote (w w':World) (p:Nat) (s:S8) (l:List UInt8) (n:Int):Prop where
 hash:∃ v',yv w' p s v' n∧zp w' v' l∧∀ g,yq v'=some g→w.heap.size≤g∧kind w' g=5 + 2
 kept:zb [p] w w'
 ks:xz w'
theorem zp.head {w:World}{a:Option Addr}{c:Nat}{l:List UInt8}(h:zp w (.slice a l.length c) l) (k:Nat) (hk:k≤l.length):zp w (.slice a k c) (l.take k):=by
 have e:(l.take k).length=k:=by rw [List.length_take];omega
 unfold zp
 rw [e]
 refine⟨by simp;omega,?_⟩
 rcases h.2 with ⟨h1,h0⟩ | ⟨h0,a',cap,h1,hm⟩ | ⟨g,o,cap,h1,h2,h3,h4⟩
 ·simp only [Value.slice.injEq] at h1
  obtain⟨rfl,-,rfl⟩:=h1
  obtain rfl:k=0:=by omega
  exact .inl ⟨rfl,rfl⟩
 ·simp only [Value.slice.injEq] at h1
  obtain⟨rfl,-,rfl⟩:=h1
  obtain rfl:k=0:=by omega
  exact .inr (.inl ⟨rfl,_,_,rfl,hm⟩)
 ·simp only [Value.slice.injEq] at h1
  obtain⟨rfl,-,rfl⟩:=h1
  refine .inr (.inr ⟨g,o,_,rfl,by omega,h3,?_⟩)
  rw [List.map_take]
  exact h4.take k
theorem zp.tail {w:World}{a:Option Addr}{c:Nat}{l:List UInt8}(h:zp w (.slice a l.length c) l) (k:Nat) (hk:k≤l.length):zp w (.slice (if c=k then a else a.map fun x=>⟨x.block,x.off + k,none⟩) (l.length - k) (c - k)) (l.drop k)∧∀ g,yq (.slice (if c=k then a else a.map fun x=>⟨x.block,x.off + k,none⟩) (l.length - k) (c - k))=some g→yq (.slice a l.length c)=some g:=by
 have e:(l.drop k).length=l.length - k:=List.length_drop
 unfold zp
 rw [e]
 rcases h.2 with ⟨h1,h0⟩ | ⟨h0,a',cap,h1,hm⟩ | ⟨g,o,cap,h1,h2,h3,h4⟩
 ·simp only [Value.slice.injEq] at h1
  obtain⟨rfl,-,rfl⟩:=h1
  obtain rfl:k=0:=by omega
  rw [h0]
  exact⟨⟨by simp [h0],.inl ⟨rfl,rfl⟩⟩,by simp [yq]⟩
 ·simp only [Value.slice.injEq] at h1
  obtain⟨rfl,-,rfl⟩:=h1
  obtain rfl:k=0:=by omega
  rw [h0]
  refine⟨⟨by simp [h0],?_⟩,by intro g hg;split at hg <;> simp [yq] at hg⟩
  split
  ·exact .inr (.inl ⟨rfl,_,_,rfl,by omega⟩)
  ·exact .inr (.inl ⟨rfl,_,_,rfl,by omega⟩)
 ·simp only [Value.slice.injEq] at h1
  obtain⟨rfl,-,rfl⟩:=h1
  refine⟨⟨by simp,.inr (.inr ?_)⟩,fun g' hg'=>?_⟩
  ·by_cases hc:c=k
   ·rw [if_pos hc]
    have e2:l.length - k=0:=by omega
    exact⟨g,o,_,rfl,by omega,by omega,⟨by
     have:(l.drop k).map bv=[]:=by rw [List.map_eq_nil_iff];exact List.eq_nil_of_length_eq_zero (by rw [e,e2])
     rw [this];simp,h4.lt⟩⟩
   ·rw [if_neg hc]
    refine⟨g,o + k,_,rfl,by omega,by omega,?_⟩
    rw [List.map_drop]
    exact h4.drop k
  ·obtain⟨hpos,hob⟩:=kV hg'
   have hgg:g'=g:=by split at hob <;> simpa [Value.ownBlock,eq_comm] using hob
   subst hgg
   exact jW (by omega)
theorem zp.capL {w:World}{a:Option Addr}{c n:Nat}{l:List UInt8}(h:zp w (.slice a n c) l):n≤c:=by
 obtain⟨a',c',h1,h2,-⟩:=h.form
 simp only [Value.slice.injEq] at h1
 obtain⟨-,h3,rfl⟩:=h1
 omega
structure WRel (W1:World) (p:Nat) (v:Value) (n:Int) (s0:S8) (l0:List UInt8) (x:Value) (wr:World):Prop where
 some_:∃ a c rest s',x = .slice a rest.length c∧zp wr (.slice a rest.length c) rest∧(∀ g,yq (.slice a rest.length c)=some g→g≠p)∧yv wr p s' v n∧ky s' rest=ky s0 l0∧rest.length≤l0.length
 kept:zb [p] W1 wr
theorem YQ (w:World) (p:Nat) (s:S8) (v b:Value) (l bs:List UInt8) (n:Int) (h:yv w p s v n) (hb:zp w v l) (hx:∀ g,yq v=some g→g≠p) (hbb:zp w b bs) (hxb:∀ g,yq b=some g→g≠p) (hll:l.length≤64) (hl:bs.length≤100000000000) (hn0:0≤n) (hn1:n≤100000000000) (hks:xz w) (hpk:p≠0) :
  Calls Tryz.prog 117 #[.pointer (some ⟨p,0,none⟩),b] w fun e w'=>e = .returned (.int .i64 bs.length)∧Wrote w w' p (ky s (l ++ bs)).1 (ky s (l ++ bs)).2 (n + bs.length):=by
 obtain⟨av,cv,rfl,-,-⟩:=hb.form
 obtain⟨ab,cb,rfl,-,-⟩:=hbb.form
 have HH:=qI h
 have HB:=qI hb
 have Gt:=qI hbb
 have HX:=qI hx
 have Gu:=qI hxb
 have Gv:=qI hks
 have Gg:=qI hpk
 have Gp:=qI hll
 have HL:=qI hl
 have hlI:(bs.length:Int)≤100000000000:=by omega
 have hllI:(l.length:Int)≤64:=by omega
 have x9:=h.c.2.2.2.2.2.2.2.2.2
 have y9:=zh (o:=9) h
 have Gw:=qI hn1
 have Gx:=qI hn0
 have hwr:wrap64 (n + bs.length)=n + bs.length:=by unfold wrap64;omega
 have Gq:Hid ((l ++ bs).length=l.length + bs.length):=qI List.length_append
 obtain⟨l9,Gh⟩:∃ l9,Hid (l9=l ++ bs):=⟨_,qI rfl⟩
 rw [← Gh.o] at Gq ⊢
 obtain⟨W1,Gi⟩:∃ W1,Hid (W1=w.setCell ⟨p,9,none⟩ (.int .i64 (n + bs.length))):=⟨_,qI rfl⟩
 have Gb:Hid (zb [p] w W1):=qI (by rw [Gi.o];exact (zb.refl _ w).setCell (.inl (by simp)) _)
 have Ge:Hid (yv W1 p s (.slice av l.length cv) (n + bs.length)):=qI (by rw [Gi.o];exact HH.o.putN _)
 have Gy:Hid (zp W1 (.slice av l.length cv) l):=qI (hb.kept Gb.o (fun g hg=>by simpa using hx g hg))
 have Gc:Hid (zp W1 (.slice ab bs.length cb) bs):=qI (hbb.kept Gb.o (fun g hg=>by simpa using hxb g hg))
 have Gd:Hid (xz W1):=qI (hks.keptX Gb.o (by simpa using Ne.symm hpk))
 have Gz:Hid (p < W1.heap.size):=qI Ge.o.lt
 have Gj:Hid (w.heap.size≤W1.heap.size):=qI Gb.o.size
 clear hb hx hbb hxb hks hpk hll hl hn1 hn0 HB Gt Gv Gw Gx
 go_enter func117,ntmps117
 go_upto_region 5 with fail
 rw [← Gi.o]
 clear x9 y9
 have x8:=Ge.o.c.2.2.2.2.2.2.2.2.1
 rcases Nat.eq_zero_or_pos l.length with h0 | h0
 case' inl=>
  have e0:Hid (l9=bs):=qI (by rw [Gh.o,List.eq_nil_of_length_eq_zero h0];rfl)
  have h0I:(l.length:Int)≤0:=by omega
  clear h0
  go_wp2_with fail
  have Gr:Hid (WRel W1 p (.slice av l.length cv) (n + bs.length) s l9 (.slice ab bs.length cb) W1):=qI ⟨⟨_,_,bs,s,rfl,Gc.o,Gu.o,Ge.o,by rw [e0.o],by rw [e0.o];exact Nat.le_refl _⟩,zb.refl _ _⟩
 case' inr=>
  have h0I:(0:Int) < l.length:=by omega
  have hrow:Row (W1.alloc (.cells #[.slice av l.length cv,.slice ab bs.length cb] 53)) W1.heap.size 0 [.slice av l.length cv,.slice ab bs.length cb]:=ZY W1 _ _
  have hka:=(zb.refl [] W1).alloc (.cells #[.slice av l.length cv,.slice ab bs.length cb] 53)
  have CC:=qI (concat2 W1.heap.size 2 _ _ l bs _ hrow (Gy.o.kept0 hka) (Gc.o.kept0 hka) (by have:=HL.o;have:=Gp.o;unfold lim;omega))
  rw [← Gh.o] at CC
  have Gk:=qI hka
  clear hrow hka
  go_wp2_with (go_at_call 152;refine CC.o.mono ?_;rintro e w2 ⟨v2,rfl,hnb,hk2⟩;obtain⟨a2,c2,rfl,-,-⟩:=hnb.1.form;have Ga:=qI hnb;have Gs:=qI hk2;clear hnb hk2 x8)
  have Gr:Hid (WRel W1 p (.slice av l.length cv) (n + bs.length) s l9 (.slice a2 l9.length c2) w2):=qI ⟨⟨_,_,l9,s,rfl,Ga.o.1,fun g hg=>by
   have h1:=(Ga.o.2 g hg).1
   have h2:=Gz.o
   have h3:=Gk.o.size
   omega,(Ge.o.kept Gk.o (by simp)).kept Gs.o (by simp),rfl,Nat.le_refl _⟩,((Gk.o.then Gs.o).mono (by simp))⟩
 all_goals
  go_loopw [5] (fun x wr=>WRel W1 p (.slice av l.length cv) (n + bs.length) s l9 x wr) (fun x _=>Z1 x)
  case atStart=>exact Gr.o
  case round=>
   obtain⟨⟨a,c,rest,s',rfl,hb,hx,hh,he,hlen⟩,hk⟩:=hrel
   have hlI:(rest.length:Int)≤200000000000:=by have:=Gq.o;have:=HL.o;have:=Gp.o;omega
   rcases Nat.lt_or_ge rest.length 64 with h64 | h64
   ·have h64I:(rest.length:Int) < 64:=by omega
    have CL:=qI (jx _ rest wr hb (by unfold lim;omega))
    have Ja:=qI hh
    have Jb:=qI hk
    have HE:Hid (ky s' rest=(s',rest)):=qI (jn s' rest h64)
    have Jc:=qI he
    have Gl:=qI (Gd.o.keptX hk (by simpa using Ne.symm Gg.o))
    have Jd:=qI hh.lt
    have Gm:=qI hk.size
    clear hb hx hh he hk hlen h64 hlI
    go_wp2_with fail
    refine CL.o.mono ?_
    rintro e w3 ⟨v3,rfl,hnb,hk3⟩
    obtain⟨a3,c3,rfl,-,-⟩:=hnb.1.form
    have Ga:=qI hnb
    have Gf:=qI hk3
    have Gn:=qI (Ja.o.kept hk3 (by simp))
    have y8:=Gn.o.c.2.2.2.2.2.2.2.2.1
    have z8:=zh (o:=8) Gn.o
    clear hnb hk3
    go_wp2_with fail
    go_ret
    have hp3:∀ g,yq (.slice a3 rest.length c3)=some g→g≠p:=fun g hg=>by
     have h1:=(Ga.o.2 g hg).1
     have h2:=Jd.o
     omega
    have hks:zb [p] w3 (w3.setCell ⟨p,8,none⟩ (.slice a3 rest.length c3)):=(zb.refl _ _).setCell (.inl (by simp)) _
    have ee:ky s l9=(s',rest):=by rw [← Jc.o,HE.o]
    refine⟨rfl,?_⟩
    rw [ee]
    exact⟨⟨_,Gn.o.putV _,Ga.o.1.kept hks (fun g hg=>by simpa using hp3 g hg),fun g hg=>⟨Nat.le_trans Gj.o (Nat.le_trans Gm.o (Ga.o.2 g hg).1),(hks.kind (Ga.o.1.lt hg) (by simpa using hp3 g hg)).trans (Ga.o.2 g hg).2⟩⟩,
     ((Gb.o.trans' Jb.o).then Gf.o).trans' hks,(Gl.o.kept0 Gf.o).keptX hks (by simpa using Ne.symm Gg.o)⟩
   ·have h64I:(64:Int)≤rest.length:=by omega
    have u2:=hb.head 64 h64
    have hcI:(rest.length:Int)≤c:=by have:=hb.capL;omega
    go_upto_region 8 with fail
    refine zZ (n:=53) 10 [zg.is (.pointer (some ⟨p,0,none⟩)),zg.is (.pointer (some ⟨p,0,none⟩)),zg.is (.pointer (some ⟨p,0,none⟩)),zg.is (.pointer (some ⟨p,0,none⟩)),zg.is (S8.agg s'),zg.is (.slice a rest.length c),zg.is (.slice a 64 c),zg.is (S8.agg (xH s' (rest.take 64))),zg.is (.pointer (some ⟨p,0,none⟩)),zg.is (.pointer (some ⟨p,0,none⟩))] (by kernel_rfl) rfl (by kernel_rfl) (fun x=>by simp only [List.map,yM,Act.put,List.setIfInBounds_toArray,List.set_cons_zero,List.set_cons_succ];rfl) ?_ ?_
    ·refine⟨fun x w' hkw b hd=>?_,fun x w' hkw b hd=>?_,fun x w' hkw b hd=>?_,fun x w' hkw b hd=>?_,fun x w' hkw b hd=>?_,fun x w' hkw b hd=>?_,fun x w' hkw b hd=>?_,fun x w' hkw b hd=>?_,fun x w' hkw b hd=>?_,fun x w' hkw b hd=>?_,trivial⟩
     ·go_wp2_with fail
      exact⟨rfl,zb.refl _ _⟩
     ·go_wp2_with fail
      exact⟨rfl,zb.refl _ _⟩
     ·have d1:x 1=_:=hd 1 (by kernel_rfl)
      go_wp2_with fail
      exact⟨rfl,zb.refl _ _⟩
     ·have d1:x 2=_:=hd 2 (by kernel_rfl)
      go_wp2_with fail
      exact⟨rfl,zb.refl _ _⟩
     ·have d1:x 3=_:=hd 3 (by kernel_rfl)
      obtain⟨y0,y1,y2,y3,y4,y5,y6,y7,-,-⟩:=(hh.kept hkw (by simp)).c
      go_wp2_with fail
      exact⟨rfl,zb.refl _ _⟩
     ·go_wp2_with fail
      exact⟨rfl,zb.refl _ _⟩
     ·have d1:x 5=_:=hd 5 (by kernel_rfl)
      go_wp2_with fail
      exact⟨rfl,zb.refl _ _⟩
     ·have d1:x 4 = .agg #[.int .u32 s'.a,.int .u32 s'.b,.int .u32 s'.c,.int .u32 s'.d,.int .u32 s'.e,.int .u32 s'.f,.int .u32 s'.g,.int .u32 s'.h]:=hd 4 (by kernel_rfl)
      have d2:x 6=_:=hd 6 (by kernel_rfl)
      have CB:=block_any w' s' a c (rest.take 64) (by rw [List.length_take];omega) (u2.kept0 hkw) ((Gd.o.keptX hk (by simpa using Ne.symm Gg.o)).kept0 hkw)
      go_wp2_with fail
      refine CB.mono ?_
      rintro e w3 ⟨rfl,hk3⟩
      have Gf:=qI hk3
      clear hk3
      go_wp2_with fail
      exact⟨rfl,Gf.o⟩
     ·have d1:x 0=_:=hd 0 (by kernel_rfl)
      go_wp2_with fail
      exact⟨rfl,zb.refl _ _⟩
     ·have d1:x 8=_:=hd 8 (by kernel_rfl)
      go_wp2_with fail
      exact⟨rfl,zb.refl _ _⟩
    ·intro x w' hkw b hd hwin
     have d1:x 9=_:=hd 9 (by decide)
     have d2:=hd 7 (by decide)
     obtain⟨r,hr⟩:∃ r,Hid (r=xH s' (rest.take 64)):=⟨_,qI rfl⟩
     rw [← hr.o] at d2
     have d2:x 7 = .agg #[.int .u32 r.a,.int .u32 r.b,.int .u32 r.c,.int .u32 r.d,.int .u32 r.e,.int .u32 r.f,.int .u32 r.g,.int .u32 r.h]:=d2
     have hh':=hh.kept hkw (by simp)
     obtain⟨y0,y1,y2,y3,y4,y5,y6,y7,-,-⟩:=hh'.c
     have z:∀ j,w'.frozen? ⟨p,j,none⟩=false:=fun j=>zh hh'
     change wpList _ _ _ [_] _ _
     go_wp2_with fail
     have hps:zb [p] w' (putS w' p r):=putS_kept _ _ _
     have ht:=hb.tail 64 h64
     refine⟨⟨⟨_,_,rest.drop 64,r,by rw [List.length_drop],by rw [List.length_drop];exact (ht.1.kept0 hkw).kept hps (fun g hg=>by simpa using hx g (ht.2 g hg)),fun g hg=>hx g (ht.2 g (by rw [List.length_drop] at hg;exact hg)),hh'.putS r,by rw [hr.o,← vN s' rest h64];exact he,by rw [List.length_drop];omega⟩,(hk.then hkw).trans' hps⟩,by simp only [Z1];omega⟩
end Go.Proofs.YtibnfbglanpoiaaGreatDoor

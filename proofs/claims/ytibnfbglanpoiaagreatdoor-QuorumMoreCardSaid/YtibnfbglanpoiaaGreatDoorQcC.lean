/- Parts of one proof, merged: XKC XLast XG. -/
import Derived.Test.YtibnfbglanpoiaaGreatDoorQcB
import Derived.Test.YtibnfbglanpoiaaGreatDoorQcA
import Derived.OrdersHeld
import Derived.Deep.DrawnRows
import Derived.Deep.RegionHeld3
set_option linter.all false
set_option maxHeartbeats 12800000
set_option maxRecDepth 10000
set_option linter.unusedVariables false
set_option linter.unusedSimpArgs false
set_option linter.unnecessarySimpa false
namespace Go.Proofs.YtibnfbglanpoiaaGreatDoor
open Go.Proofs.Tryz
open Go.RowKit
theorem maxL_snoc (l:List Nat) (x:Nat):qB (l ++ [x])=max (qB l) x:=by
 rw [maxL_app];simp [qB]
theorem xw {α β:Type}(f:α→β) (l:List α) (k:Nat) (h:k < l.length):(l.take (k + 1)).map f=(l.take k).map f ++ [f l[k]]:=by
 rw [List.take_succ_eq_append_getElem h,List.map_append];rfl
theorem kb:∀ (n:Nat) (v:V n),zy n v≤n
 | 0,v=>nomatch v
 | n + 1,(v:VS (V n))=>by
  show 1 + qB (v.kids.map (zy n))≤n + 1
  have:qB (v.kids.map (zy n))≤n:=be.2 (fun x hx=>by
   obtain⟨y,_,rfl⟩:=List.mem_map.1 hx
   exact kb n y)
  omega
theorem yk.few {n:Nat}{v:VS (V n)}(h:yk (n + 1) v):v.l.length + v.m.length≤20000:=by
 have:=kids_few v;have:=h.1;omega
def ju (n : Nat) : Prop := ∀ (v : V n) {S : Nat → Prop} {w : World} {cs : List Value}, Rep n S w cs v → yk n v → n ≤ 100 →
    Calls Tryz.prog 31 #[.agg cs.toArray] w fun e w'=>e = .returned (.int .i64 (zy n v))∧zb [] w w'
theorem K5 {n:Nat}(known:ju n):ju (n + 1):=fun (v:VS (V n)) {S}{w}{cs} h hs hn=>by
  have Gc:=qI h
  have Gg:=qI hs
  obtain⟨vl,vm,lcs,mcs,h⟩:=h
  obtain⟨a,c,b,e,rfl,rfl,rfl⟩:=h.forms
  have IH:=qI known
  have Gj:Hid (∀ x,x ∈ v.kids→zy n x≤n):=qI fun x _=>kb n x
  have Ga:Hid (zy (n + 1) v=1 + qB (v.kids.map (zy n))):=qI rfl
  have HB:=qI (yQ w v.kind v.num v.s (.slice a v.l.length c) (.slice b v.m.length e) 25)
  have Gh:=qI (((zb.refl [] w).alloc (.cells #[.int .i64 v.kind,.int .i64 v.num,.string v.s,.slice a v.l.length c,.slice b v.m.length e] 25)))
  have Gd:Hid (v.kids.length≤20000):=qI (by have:=hs.few;simp only [VS.kids,List.length_append,List.length_map];omega)
  obtain⟨c0,c1,c2,c3,c4⟩:=HB.o
  clear h hs
  have Gi:=qI (kids_any (Gc.o.kept0 Gh.o) Gg.o.few)
  go_enter func31,ntmps31
  go_wp2_with (go_at_call 65;refine Gi.o.mono ?_;rintro e w1 ⟨⟨ak,ck,rfl,hva⟩,hk1⟩)
  have Ge:=qI hva
  have Gk:=qI (Gh.o.then hk1)
  clear hva hk1 c0 c1 c2 c3 c4 Gi
  have hkl:=Gd.o
  revert Ge Gj Ga Gd hkl
  have Gf:Hid (∀ x,x ∈ v.kids→yk n x):=qI fun x hx=>Gg.o.kid hx
  revert Gf
  generalize v.kids=kids
  intro Gf Gj Ga Gd Ge hkl
  go_loopw [3,5] (fun m i wr=>∃ k:Nat,i = .int .i64 k∧k≤kids.length∧m = .int .i64 (qB ((kids.take k).map (zy n)))∧zb [] w1 wr) (fun _ i _=>kids.length - (intOf i).toNat)
  case atStart=>exact⟨0,rfl,Nat.zero_le _,rfl,zb.refl _ _⟩
  case round=>
   obtain⟨k,rfl,hk,rfl,hkr⟩:=hrel
   have Gb:=qI hkr
   clear hkr
   by_cases hlt:k < kids.length
   ·have hltI:(k:Int) < kids.length:=by omega
    obtain⟨g,o,cap,kd,nm,st,a1,b1,he,q0,q1,q2,q3,q4,hr⟩:=(Ge.o.kept0 Gb.o).at hlt
    simp only [Value.slice.injEq] at he
    obtain⟨rfl,-,rfl⟩:=he
    have CL:=qI (IH.o kids[k] hr (Gf.o _ (List.getElem_mem hlt)) (by omega))
    have hd:=Gj.o kids[k] (List.getElem_mem hlt)
    have HT:Hid (qB ((kids.take (k + 1)).map (zy n))=max (qB ((kids.take k).map (zy n))) (zy n kids[k])):=qI (by rw [xw _ _ _ hlt,maxL_snoc])
    clear hr
    revert CL hd HT
    generalize zy n kids[k]=D
    generalize qB ((kids.take k).map (zy n))=M
    intro CL hd HT
    by_cases hgt:M < D
    ·have hgtI:(M:Int) < D:=by omega
     go_wp2_with (go_at_call 31;refine CL.o.mono ?_;rintro e w2 ⟨rfl,hk2⟩)
     case roundEnd=>
      refine⟨⟨k + 1,by go_num,by omega,?_,Gb.o.then hk2⟩,by simp [intOf];omega⟩
      rw [HT.o,Nat.max_eq_right (Nat.le_of_lt hgt)]
    ·have hgtI:¬ (M:Int) < D:=by omega
     go_wp2_with (go_at_call 31;refine CL.o.mono ?_;rintro e w2 ⟨rfl,hk2⟩)
     case roundEnd=>
      refine⟨⟨k + 1,by go_num,by omega,?_,Gb.o.then hk2⟩,by simp [intOf];omega⟩
      rw [HT.o,Nat.max_eq_left (by omega)]
   ·obtain rfl:k=kids.length:=by omega
    rw [List.take_length]
    have hM:qB (kids.map (zy n))≤n:=be.2 (fun x hx=>by
     obtain⟨y,hy,rfl⟩:=List.mem_map.1 hx
     exact Gj.o y hy)
    revert hM Ga
    generalize qB (kids.map (zy n))=M
    intro Ga hM
    go_wp2_with fail
    go_ret
    rw [Ga.o]
    exact⟨by simp;omega,Gk.o.then Gb.o⟩
theorem bu:∀ (n:Nat),ju n
 | 0=>fun v {_}{_}{_} h _ _=>h.elim
 | n + 1=>K5 (bu n)
theorem zam:∀ (n:Nat) (v:V n) {S:Nat→Prop}{w:World}{cs:List Value},Rep n S w cs v→yk n v→n≤100 →
  Calls Tryz.prog 31 #[.agg cs.toArray] w fun e w'=>e = .returned (.int .i64 (zy n v))∧zb [] w w':=fun n=>bu n
def jt (n : Nat) : Prop := ∀ (v : V n) {S : Nat → Prop} {w : World} {cs : List Value}, Rep n S w cs v → yk n v →
    Calls Tryz.prog 63 #[.agg cs.toArray] w fun e w'=>e = .returned (.int .i64 (zt n v))∧zb [] w w'
theorem Kd {n:Nat}(known:jt n):jt (n + 1):=fun (v:VS (V n)) {S}{w}{cs} h hs=>by
  have Gc:=qI h
  have Gg:=qI hs
  obtain⟨vl,vm,lcs,mcs,h⟩:=h
  obtain⟨a,c,b,e,rfl,rfl,rfl⟩:=h.forms
  have IH:=qI known
  have Ga:Hid (zt (n + 1) v=1 + (v.kids.map (zt n)).sum):=qI rfl
  have HC:Hid (1 + (v.kids.map (zt n)).sum≤20000):=qI hs.1
  have HB:=qI (yQ w v.kind v.num v.s (.slice a v.l.length c) (.slice b v.m.length e) 25)
  have Gh:=qI (((zb.refl [] w).alloc (.cells #[.int .i64 v.kind,.int .i64 v.num,.string v.s,.slice a v.l.length c,.slice b v.m.length e] 25)))
  have Gd:Hid (v.kids.length≤20000):=qI (by have:=hs.few;simp only [VS.kids,List.length_append,List.length_map];omega)
  obtain⟨c0,c1,c2,c3,c4⟩:=HB.o
  clear h hs
  have Gi:=qI (kids_any (Gc.o.kept0 Gh.o) Gg.o.few)
  go_enter func63,ntmps63
  go_wp2_with (go_at_call 65;refine Gi.o.mono ?_;rintro e w1 ⟨⟨ak,ck,rfl,hva⟩,hk1⟩)
  have Ge:=qI hva
  have Gk:=qI (Gh.o.then hk1)
  clear hva hk1 c0 c1 c2 c3 c4 Gi
  have hkl:=Gd.o
  revert Ge HC Ga Gd hkl
  have Gf:Hid (∀ x,x ∈ v.kids→yk n x):=qI fun x hx=>Gg.o.kid hx
  revert Gf
  generalize v.kids=kids
  intro Gf Ga HC Gd Ge hkl
  go_loopw [3,5] (fun m i wr=>∃ k:Nat,i = .int .i64 k∧k≤kids.length∧m = .int .i64 (1 + ((kids.take k).map (zt n)).sum:Nat)∧zb [] w1 wr) (fun _ i _=>kids.length - (intOf i).toNat)
  case atStart=>exact⟨0,rfl,Nat.zero_le _,rfl,zb.refl _ _⟩
  case round=>
   obtain⟨k,rfl,hk,rfl,hkr⟩:=hrel
   have Gb:=qI hkr
   clear hkr
   by_cases hlt:k < kids.length
   ·have hltI:(k:Int) < kids.length:=by omega
    obtain⟨g,o,cap,kd,nm,st,a1,b1,he,q0,q1,q2,q3,q4,hr⟩:=(Ge.o.kept0 Gb.o).at hlt
    simp only [Value.slice.injEq] at he
    obtain⟨rfl,-,rfl⟩:=he
    have CL:=qI (IH.o kids[k] hr (Gf.o _ (List.getElem_mem hlt)))
    have HT:Hid (1 + ((kids.take (k + 1)).map (zt n)).sum=(1 + ((kids.take k).map (zt n)).sum) + zt n kids[k]):=qI (by rw [xw _ _ _ hlt,List.sum_append];simp;omega)
    have hle:(1 + ((kids.take k).map (zt n)).sum) + zt n kids[k]≤20000:=by
     rw [← HT.o]
     have h1:(kids.map (zt n)).sum=((kids.take (k + 1)).map (zt n)).sum + ((kids.drop (k + 1)).map (zt n)).sum:=by
      rw [← List.sum_append,← List.map_append,List.take_append_drop]
     have:=HC.o
     omega
    clear hr
    revert CL hle HT
    generalize zt n kids[k]=D
    generalize 1 + ((kids.take k).map (zt n)).sum=M
    intro CL HT hle
    go_wp2_with (go_at_call 63;refine CL.o.mono ?_;rintro e w2 ⟨rfl,hk2⟩)
    case roundEnd=>
     refine⟨⟨k + 1,by go_num,by omega,?_,Gb.o.then hk2⟩,by simp [intOf];omega⟩
     rw [HT.o]
     go_num
   ·obtain rfl:k=kids.length:=by omega
    rw [List.take_length]
    go_wp2_with fail
    go_ret
    rw [Ga.o]
    exact⟨rfl,Gk.o.then Gb.o⟩
theorem bw:∀ (n:Nat),jt n
 | 0=>fun v {_}{_}{_} h _=>h.elim
 | n + 1=>Kd (bw n)
theorem count_any:∀ (n:Nat) (v:V n) {S:Nat→Prop}{w:World}{cs:List Value},Rep n S w cs v→yk n v →
  Calls Tryz.prog 63 #[.agg cs.toArray] w fun e w'=>e = .returned (.int .i64 (zt n v))∧zb [] w w':=fun n=>bw n
section
variable {P : Program} {ops : Array Oper} {Q : Exit → Act → World → Prop} {md : Region.Mode} {S : World → Prop} {L : Nat}
def zM (P:Program) (md:Region.Mode) (ops:Array Oper) (Q:Exit→Act→World→Prop) (S:World→Prop) (L:Nat):Nat→Array Bool→Act→World→Prop
 | 0,listed,a,w=>Region.ready md ops listed=[]∧Q .normal a w
 | fuel + 1,listed,a,w=>
  (Region.ready md ops listed=[]→Q .normal a w) ∧
  ∀ i ∈ Region.ready md ops listed,wpOp P ops Q i (fun a' w'=>(i=L∨S w')∧zM P md ops Q S L fuel (listed.setIfInBounds i true) a' w') a w
theorem ZE:∀ (fuel:Nat) (listed:Array Bool) (a:Act) (w:World),zM P md ops Q S L fuel listed a w→wpAny P md ops Q fuel listed a w
 | 0,_,_,_,h=>h
 | fuel + 1,_,_,_,h=>⟨h.1,fun i hi=>wpOp_mono (fun a' w' h'=>ZE fuel _ a' w' h'.2) (h.2 i hi)⟩
def waitsFor (md:Region.Mode) (ops:Array Oper) (L i:Nat):Bool:=((ops[L]?).map (·.after.any fun e=>Region.binds md e && e.on == i)).getD false
def late (md:Region.Mode) (ops:Array Oper) (L i:Nat):Bool:=waitsFor md ops L i || decide (ops.size≤L)
theorem zax {i:Nat}{oi:Oper}{v:Value}(hi:ops[i]? = some oi) (hsel:∀ (j:Nat) (o:Oper) cs b,ops[j]? = some o→o.op≠.select cs b)
  (hQ:∀ c a w,Q (.panic c) (a.put oi.dst v) w→Q (.panic c) a w) (hL:late md ops L i=true) :
  ∀ (fuel:Nat) (listed:Array Bool) (a:Act) (w:World),
   (∀ j oj,ops[j]? = some oj→j≠i→listed.getD j true=false→(∀ e ∈ oj.after,Region.binds md e=true→e.on≠i)→oi.apart ops oj=true) →
   i ∈ Region.ready md ops listed→YieldsIf P ops S oi v a→S w →
   zM P md ops Q S L fuel (listed.setIfInBounds i true) (a.put oi.dst v) w→zM P md ops Q S L (fuel + 1) listed a w:=by
 intro fuel
 induction fuel with
 | zero=>
  intro listed a w _ hr hy hS H
  refine⟨fun h=>(by rw [h] at hr;cases hr),fun j hj=>?_⟩
  by_cases hji:j=i
  ·subst hji;exact hy.wpOp hi hS ⟨.inr hS,H⟩
  ·have:=ready_mono hj hji
   rw [H.1] at this
   cases this
 | succ fuel ih=>
  intro listed a w hfree hr hy hS H
  refine⟨fun h=>(by rw [h] at hr;cases hr),fun j hj=>?_⟩
  by_cases hji:j=i
  ·subst hji;exact hy.wpOp hi hS ⟨.inr hS,H⟩
  ·have h1:=H.2 j (ready_mono hj hji)
   obtain⟨hjun,oj,hoj,hall⟩:=mem_ready.1 hj
   have hnot:∀ e ∈ oj.after,Region.binds md e=true→e.on≠i:=fun e he hb heq=>by
    have h1:=hall e he hb
    have h0:=(mem_ready.1 hr).1
    rw [heq] at h1
    rcases Nat.lt_or_ge i listed.size with h' | h'
    ·simp [h'] at h0 h1;rw [h0] at h1;cases h1
    ·simp [Array.getElem?_eq_none h'] at h1
   have hjL:j≠L:=by
    intro e
    subst e
    unfold late at hL
    rw [Bool.or_eq_true] at hL
    rcases hL with hL | hL
    rotate_left
    ·have h1:ops.size≤j:=by simpa using hL
     rw [Array.getElem?_eq_none h1] at hoj
     cases hoj
    unfold waitsFor at hL
    rw [hoj] at hL
    simp only [Option.map_some,Option.getD_some,Array.any_eq_true'] at hL
    obtain⟨e,he,hb⟩:=hL
    simp only [Bool.and_eq_true,beq_iff_eq] at hb
    exact hnot e he hb.1 hb.2
   have h2:=wpOp_putIf hoj (hfree j oj hoj hji hjun hnot) (fun cs b=>hsel i oi cs b hi) (fun cs b=>hsel j oj cs b hoj) hQ hy h1
   have hfree':∀ k ok,ops[k]? = some ok→k≠i→(listed.setIfInBounds j true).getD k true=false →
     (∀ e ∈ ok.after,Region.binds md e=true→e.on≠i)→oi.apart ops ok=true:=fun k ok hk hki hun hno=>by
    refine hfree k ok hk hki ?_ hno
    by_cases hjk:j=k
    ·subst hjk;exact hjun
    ·rw [getD_set_ne true hjk] at hun;exact hun
   refine wpOp_mono (fun a' w' h3=>?_) h2
   have hS':S w':=by
    rcases h3.2.1 with g | g
    ·exact absurd g hjL
    ·exact g
   refine⟨.inr hS',ih (listed.setIfInBounds j true) a' w' hfree' (ready_mono hr (Ne.symm hji)) h3.1 hS' ?_⟩
   rw [Array.setIfInBounds_comm _ _ hji]
   exact h3.2.2
theorem wpAnyT_take {i:Nat}{oi:Oper}{v:Value}{fuel:Nat}{listed:Array Bool}{a:Act}{w:World}(hi:ops[i]? = some oi)
  (hs:Region.noSelect ops=true) (hf:Region.free md ops listed i=true) (hr:(Region.ready md ops listed).contains i=true) (hL:late md ops L i=true)
  (hQ:∀ c a w,Q (.panic c) (a.put oi.dst v) w→Q (.panic c) a w) (hy:YieldsIf P ops S oi v a) (hS:S w)
  (h:zM P md ops Q S L fuel (listed.setIfInBounds i true) (a.put oi.dst v) w):zM P md ops Q S L (fuel + 1) listed a w:=
 zax hi (Region.noSelect_spec hs) hQ hL fuel listed a w (Region.free_spec hi hf) (by simpa using hr) hy hS h
theorem wpAnyT_one {i:Nat}{oi:Oper}{fuel:Nat}{listed:Array Bool}{a:Act}{w:World}(hi:ops[i]? = some oi) (hr:Region.ready md ops listed=[i]) (hw:Region.wanted oi (yielded ops a.tmps)=true)
  (h:∀ K:Act→World→Prop,(∀ a' w',(i=L∨S w')→zM P md ops Q S L fuel (listed.setIfInBounds i true) a' w'→K a' w')→oi.wp P a w K Q):zM P md ops Q S L (fuel + 1) listed a w:=by
 refine⟨fun h0=>(by rw [hr] at h0;cases h0),?_⟩
 rw [hr]
 intro j hj
 have:j=i:=by simpa using hj
 subst this
 unfold wpOp
 rw [hi]
 simp only
 rw [if_pos hw]
 exact .inl (h _ fun a' w' h1 h2=>⟨h1,h2⟩)
theorem wpAnyT_done {listed:Array Bool}{a:Act}{w:World}(hr:Region.ready md ops listed=[]) (h:Q .normal a w) :
  ∀ fuel,zM P md ops Q S L fuel listed a w
 | 0=>⟨hr,h⟩
 | _ + 1=>⟨fun _=>h,by rw [hr];simp⟩
theorem Ka {id:Nat}{a:Act}{w:World}(S:World→Prop) (L:Nat) (hm:P.follows .mixedOrders=true)
  (h:zM P .any ops Q S L ops.size (Array.replicate ops.size false) a { w with drawn:=w.drawn + 1 }):(Code.region id ops true).wp P Q a w:=
 wp_region_any hm (ZE _ _ _ _ h)
theorem zr {id n:Nat}{a:Act}{w:World}(S:World→Prop) (L:Nat) (hn:ops.size=n) (hm:P.follows .mixedOrders=true)
  (h:zM P .any ops Q S L n (Array.replicate n false) a { w with drawn:=w.drawn + 1 }):(Code.region id ops true).wp P Q a w:=by
 subst hn
 exact Ka S L hm h
theorem zG {fuel:Nat}{listed:Array Bool}{a:Act}{w:World}
  (h:∀ O R,O=ops→R=Q→zM P md O R S L fuel listed a w):zM P md ops Q S L fuel listed a w:=h _ _ rfl rfl
theorem qd {O:Array Oper}{i dst:Nat}{oi:Oper}{v:Value}{fuel:Nat}{listed:Array Bool}{a:Act}{w:World}(hO:O=ops) (hi:ops[i]? = some oi) (hd:oi.dst=some dst)
  (hs:Region.noSelect ops=true) (hf:Region.free md ops listed i=true) (hr:(Region.ready md ops listed).contains i=true) (hL:late md ops L i=true)
  (hQ:∀ c a (d:Nat) v w,Q (.panic c) (a.put (some d) v) w→Q (.panic c) a w) (hy:YieldsIf P ops S oi v a) (hS:S w)
  (h:zM P md O Q S L fuel (listed.setIfInBounds i true) (a.put (some dst) v) w):zM P md O Q S L (fuel + 1) listed a w:=by
 subst hO
 exact wpAnyT_take hi hs hf hr hL (fun c a w h=>hQ c a dst v w (by rw [hd] at h;exact h)) hy hS (by rw [hd];exact h)
theorem wpAnyT_one' {O:Array Oper}{i:Nat}{oi:Oper}{fuel:Nat}{listed:Array Bool}{a:Act}{w:World}(hO:O=ops) (hi:ops[i]? = some oi) (hr:Region.ready md ops listed=[i]) (hw:Region.wanted oi (yielded ops a.tmps)=true)
  (h:∀ K:Act→World→Prop,(∀ a' w',(i=L∨S w')→zM P md O Q S L fuel (listed.setIfInBounds i true) a' w'→K a' w')→oi.wp P a w K Q):zM P md O Q S L (fuel + 1) listed a w:=by
 subst hO
 exact wpAnyT_one hi hr hw h
theorem qT (i:Nat) (v:Value) {O:Array Oper}{dst:Nat}{oi:Oper}{fuel:Nat}{listed:Array Bool}{a:Act}{w:World}(hO:O=ops) (hi:ops[i]? = some oi) (hd:oi.dst=some dst)
  (hb:(Region.noSelect ops && (Region.free md ops listed i && ((Region.ready md ops listed).contains i && (late md ops L i && Region.wanted oi (yielded ops a.tmps)))))=true)
  (hQ:∀ c a (d:Nat) v w,Q (.panic c) (a.put (some d) v) w→Q (.panic c) a w) (hy:∀ w,S w→(execOp a.eval oi).run P w = .ok (.value v) w) (hS:S w)
  (h:zM P md O Q S L fuel (listed.setIfInBounds i true) (a.put (some dst) v) w):zM P md O Q S L (fuel + 1) listed a w:=by
 simp only [Bool.and_eq_true] at hb
 exact qd hO hi hd hb.1 hb.2.1 hb.2.2.1 hb.2.2.2.1 hQ (.inl ⟨hb.2.2.2.2,hy⟩) hS h
theorem qO (i:Nat) {O:Array Oper}{oi:Oper}{fuel:Nat}{listed:Array Bool}{a:Act}{w:World}(hO:O=ops) (hi:ops[i]? = some oi) (hb:((Region.ready md ops listed == [i]) && Region.wanted oi (yielded ops a.tmps))=true)
  (h:∀ K:Act→World→Prop,(∀ a' w',(i=L∨S w')→zM P md O Q S L fuel (listed.setIfInBounds i true) a' w'→K a' w')→oi.wp P a w K Q):zM P md O Q S L (fuel + 1) listed a w:=by
 rw [Bool.and_eq_true,beq_iff_eq] at hb
 exact wpAnyT_one' hO hi hb.1 hb.2 h
theorem zE {O:Array Oper}{listed:Array Bool}{a:Act}{w:World}(hO:O=ops) (hr:Region.ready md ops listed=[]) (h:Q .normal a w) (fuel:Nat):zM P md O Q S L fuel listed a w:=by
 subst hO
 exact wpAnyT_done hr h fuel
end
theorem ka {P:Program}{t e size bytes:Nat}{z:Value}(T:yR P t e size bytes z) {w:World}{base:Nat}{v:Value}{n:Nat}{xs:List Value}(hown:w.ownsRow base e size v n xs)
  {vx:Value}{m:Nat}{news:List Value}(hsrc:Slc w size vx m news) (h1:∀ u ∈ news,u.oneCell'=true) (h63:n + m≤maxLen) (hbytes:(n + m) * bytes≤140737488355328) (hbase:base≤w.heap.size)
  {o:Oper}{a:Act}{K:Act→World→Prop}{Q:Exit→Act→World→Prop}(s x:Operand)
  (ho:o.op = .call { callee:=.builtin .append,args:=#[s,x],argTypes:=#[t,t] }) (hs:a.eval s=v) (hx:a.eval x=vx)
  (h:∀ b c w',w'.ownsRow base e size (.slice b (n + m) c) (n + m) (xs ++ news)→zb v.ownBlock.toList w w'→((Value.slice b (n + m) c).ownBlock=v.ownBlock∨(Value.slice b (n + m) c).ownBlock=some w.heap.size)→K (a.put o.dst (.slice b (n + m) c)) w') :
  Oper.wp P o a w K Q:=by
 obtain⟨v',w',hr,h2,h3,h4,h5⟩:=jD T w o.type base v n xs hown vx m news hsrc h1 h63 hbytes hbase
 obtain⟨b,c,rfl,-,-⟩:=(Slc.of_row h2).form
 unfold Oper.wp execOp
 simp only [ho,resolve,invoke,builtin,Sem.run_bind,Sem.run_pure,Result.andThen_ok,List.map_toArray,List.map_cons,List.map_nil,hs,hx,hr]
 exact h b c w' h2 h3 h5
theorem bh {P:Program}{t e size bytes:Nat}{z:Value}(T:yR P t e size bytes z) {w:World}{base:Nat}{v:Value}(hown:w.ownsRow base e size v 0 [])
  {vx:Value}{m:Nat}{news:List Value}(hsrc:Slc w size vx m news) (h1:∀ u ∈ news,u.oneCell'=true) (h63:m≤maxLen) (hbytes:m * bytes≤140737488355328) (hbase:base≤w.heap.size)
  {o:Oper}{a:Act}{K:Act→World→Prop}{Q:Exit→Act→World→Prop}(s x:Operand)
  (ho:o.op = .call { callee:=.builtin .append,args:=#[s,x],argTypes:=#[t,t] }) (hs:a.eval s=v) (hx:a.eval x=vx)
  (h:∀ b c w',w'.ownsRow base e size (.slice b m c) m news→zb v.ownBlock.toList w w'→((Value.slice b m c).ownBlock=v.ownBlock∨(Value.slice b m c).ownBlock=some w.heap.size)→K (a.put o.dst (.slice b m c)) w') :
  Oper.wp P o a w K Q:=by
 refine ka T hown hsrc h1 (by omega) (by rw [Nat.zero_add];exact hbytes) hbase s x ho hs hx ?_
 rw [Nat.zero_add,List.nil_append]
 exact h
theorem setCell_heap {w:World}{b i:Nat}{c:Array Value}{t:Nat}{f:Nat × Nat}(h:w.heap[b]? = some (.cells c t f)) (v:Value):(w.setCell ⟨b,i,none⟩ v).heap[b]? = some (.cells (c.setIfInBounds i v) t f):=by
 simp [World.setCell,Array.getElem?_modify,h]
theorem z7 (g:Nat):∀ (vs:List Value) (o:Nat) (w:World),zb [g] w (w.setCells g o vs)
 | [],o,w=>zb.refl _ _
 | v :: r,o,w=>((zb.refl [g] w).setCell (p:=⟨g,o,none⟩) (.inl (by simp)) v).trans' (z7 g r (o + 1) _)
theorem xx (g:Nat) {e:Nat}{f:Nat × Nat}:∀ (vs:List Value) (o:Nat) (w:World) (cur:Array Value),w.heap[g]? = some (.cells cur e f) →
  ∃ cur',(w.setCells g o vs).heap[g]? = some (.cells cur' e f)∧cur'.size=cur.size∧∀ j,j < cur.size→cur'[j]? = if o≤j∧j < o + vs.length then vs[j - o]? else cur[j]?
 | [],o,w,cur,h=>⟨cur,h,rfl,fun j hj=>by rw [if_neg (by simp)]⟩
 | v :: r,o,w,cur,h=>by
  have h1:(w.setCell ⟨g,o,none⟩ v).heap[g]? = some (.cells (cur.setIfInBounds o v) e f):=by simp [World.setCell,Array.getElem?_modify,h]
  obtain⟨cur',h2,h3,h4⟩:=xx g r (o + 1) _ _ h1
  refine⟨cur',h2,by rw [h3];simp,?_⟩
  intro j hj
  rw [h4 j (by simpa using hj)]
  simp only [List.length_cons]
  by_cases e1:j=o
  ·subst e1
   rw [if_neg (by omega),if_pos (by omega)]
   simp [hj]
  ·by_cases e2:o + 1≤j∧j < o + 1 + r.length
   ·rw [if_pos e2,if_pos (by omega)]
    rw [show j - o=(j - (o + 1)) + 1 by omega]
    rfl
   ·rw [if_neg e2,if_neg (by omega)]
    rw [Array.getElem?_setIfInBounds]
    rw [if_neg (by omega)]
theorem ze {w:World}{b i:Nat}{c:Array Value}{t:Nat}{f:Nat × Nat}{v:Value}(h:w.heap[b]? = some (.cells c t f)) {d:Array Value}(hd:c.setIfInBounds i v=d):(w.setCell ⟨b,i,none⟩ v).heap[b]? = some (.cells d t f):=by
 subst hd;exact setCell_heap h v
theorem zd {w:World}{o:Obj}{g:Nat}(hg:w.heap.size=g):(w.alloc o).heap[g]? = some o:=by
 subst hg;exact heap_alloc_new w o
structure ja (w:World) (g:Nat) (key:ByteArray) (k m:Int) (s:ByteArray) (a b:Value):Prop where
 c0:w.cell? ⟨g,0,none⟩=some (.string key)
 c1:w.cell? ⟨g,1,none⟩=some (.int .i64 k)
 c2:w.cell? ⟨g,2,none⟩=some (.int .i64 m)
 c3:w.cell? ⟨g,3,none⟩=some (.string s)
 c4:w.cell? ⟨g,4,none⟩=some a
 c5:w.cell? ⟨g,5,none⟩=some b
theorem pbox_at {w:World}{g:Nat}(hg:w.heap.size=g) (key:ByteArray) (k m:Int) (s:ByteArray) (a b:Value) (t:Nat):ja (w.alloc (.cells #[.string key,.int .i64 k,.int .i64 m,.string s,a,b] t)) g key k m s a b:=by
 subst hg
 have hb:=heap_alloc_new w (.cells #[.string key,.int .i64 k,.int .i64 m,.string s,a,b] t)
 exact⟨za hb rfl,za hb rfl,za hb rfl,za hb rfl,za hb rfl,za hb rfl⟩
theorem ja.kept {w w':World}{g:Nat}{key:ByteArray}{k m:Int}{s:ByteArray}{a b:Value}(h:ja w g key k m s a b) {X:List Nat}(hk:zb X w w') (hX:g ∉ X):ja w' g key k m s a b:=
 ⟨hk.cell h.c0 hX,hk.cell h.c1 hX,hk.cell h.c2 hX,hk.cell h.c3 hX,hk.cell h.c4 hX,hk.cell h.c5 hX⟩
theorem ja.kept0 {w w':World}{g:Nat}{key:ByteArray}{k m:Int}{s:ByteArray}{a b:Value}(h:ja w g key k m s a b) (hk:zb [] w w'):ja w' g key k m s a b:=h.kept hk (by simp)
theorem Rep.move {n:Nat}{S T:Nat→Prop}{X:List Nat}{w w':World}{cs:List Value}{v:V n}(h:Rep n S w cs v) (hk:zb X w w') (hS:∀ g,g < w.heap.size→S g→g ∉ X∧T g):Rep n T w' cs v:=
 ((h.mono (T:=fun g=>g ∉ X∧T g) hS).kept hk (fun g hx q=>q.1 hx)).mono (fun _ _ q=>q.2)
theorem Rep.sl {n:Nat}{S:Nat→Prop}{w:World}{k m:Int}{s:ByteArray}{a b:Value}{v:V n}(h:Rep n S w [.int .i64 k,.int .i64 m,.string s,a,b] v):∃ p i c q j d,a = .slice p i c∧b = .slice q j d:=by
 match n,v,h with
 | n + 1,v,h=>
  obtain⟨vl,vm,lcs,mcs,h⟩:=h
  obtain⟨p,c,q,d,_,_,e⟩:=h.forms
  simp only [List.cons.injEq] at e
  exact⟨_,_,_,_,_,_,e.2.2.2.1,e.2.2.2.2.1⟩
end Go.Proofs.YtibnfbglanpoiaaGreatDoor

/- Parts of one proof, merged: XII XCU XKF XKK. -/
import Derived.Test.YtibnfbglanpoiaaGreatDoorQbQ
import Derived.Test.YtibnfbglanpoiaaGreatDoorQbM
import Derived.Test.YtibnfbglanpoiaaGreatDoorQbE
import Derived.Deep.DeepCutAuto
import Derived.Deep.CutBlock
import Derived.Test.YtibnfbglanpoiaaGreatDoorQbB
import Derived.Test.YtibnfbglanpoiaaGreatDoorQbC
set_option linter.all false
set_option maxHeartbeats 12800000
set_option maxRecDepth 10000
set_option linter.unusedVariables false
set_option linter.unusedSimpArgs false
set_option linter.unnecessarySimpa false
namespace Go.Proofs.YtibnfbglanpoiaaGreatDoor
open Go.Proofs.Tryz
open Go.RowKit
def jZ (s:ByteArray):Bool:=match xC s with | none=>false | some l=>decide (l.length=32)
theorem isId_any (s:ByteArray) (hs:s.size≤140737488355328) (w:World):Calls Tryz.prog 54 #[.string s] w fun e w'=>e = .returned (.bool (jZ s))∧zb [] w w':=by
 have CU:=bM s hs w
 have HI:Hid (jZ s=match xC s with | none=>false | some l=>decide (l.length=32)):=qI rfl
 clear hs
 rcases hu:xC s with _ | l
 ·rw [hu] at CU HI
  have CU:=qI CU
  clear hu
  go_enter func54,ntmps54
  go_wp2_with (go_at_call 96;refine CU.o.mono ?_;rintro e w1 ⟨rfl,hk⟩;have HK:=qI hk;clear hk)
  go_ret
  exact⟨by rw [HI.o];rfl,HK.o⟩
 ·rw [hu] at CU HI
  have CU:=qI CU
  have HI:Hid (jZ s=decide (l.length=32)):=qI HI.o
  clear hu
  by_cases hl:l.length=32
  ·have f1:=(q8 (a:=(l.length:Int)) (b:=32) (by omega)).1
   rw [decide_eq_true hl] at HI
   clear hl
   go_enter func54,ntmps54
   go_wp2_with (go_at_call 96;refine CU.o.mono ?_;rintro e w1 ⟨⟨a,c,rfl,-,-⟩,hk⟩;have HK:=qI hk;clear hk)
   go_ret
   exact⟨by rw [HI.o];rfl,HK.o⟩
  ·have f1:=(xn (a:=(l.length:Int)) (b:=32) (by omega)).1
   rw [decide_eq_false hl] at HI
   clear hl
   go_enter func54,ntmps54
   go_wp2_with (go_at_call 96;refine CU.o.mono ?_;rintro e w1 ⟨⟨a,c,rfl,-,-⟩,hk⟩;have HK:=qI hk;clear hk)
   go_ret
   exact⟨by rw [HI.o];rfl,HK.o⟩
structure qf where
 keys:List ByteArray
 thr:Int
def jM:List ByteArray→List ByteArray→Bool
 | _,[]=>true
 | seen,k :: t=>!(seen.any (fun x=>decide (x=k))) && jZ k && jM (seen ++ [k]) t
def yX (r:qf):Bool:=decide (r.keys.length≤16) && (decide (1≤r.thr) && (decide (r.thr≤r.keys.length) && jM [] r.keys))
def yy (w:World) (v:Value) (l:List ByteArray):Prop:=Slc w 1 v l.length (l.map Value.string)
theorem yy.kept0 {w w':World}{v:Value}{l:List ByteArray}(h:yy w v l) (k:zb [] w w'):yy w' v l:=Slc.kept0 h k
theorem yy.at {w:World}{a:Option Addr}{c:Nat}{l:List ByteArray}(h:yy w (.slice a l.length c) l) {k:Nat}(hk:k < l.length):∃ g o,a=some ⟨g,o,none⟩∧w.cell? ⟨g,o + k,none⟩=some (.string l[k]):=by
 rcases h.2 with ⟨-,h0⟩ | ⟨h0,-⟩ | ⟨g,o,cap,h1,-,-,hr⟩
 ·omega
 ·omega
 ·simp only [Value.slice.injEq] at h1
  exact⟨g,o,h1.1,by have:=hr.at (j:=k) (by simpa using hk);simpa using this⟩
theorem YL {w:World}{r:qf}{a:Option Addr}{c:Nat}(h:yy w (.slice a r.keys.length c) r.keys) (hz:∀ k,k ∈ r.keys→k.size≤140737488355328) (hlen:r.keys.length≤1000000000000) :
  Calls Tryz.prog 24 #[.agg #[.slice a r.keys.length c,.int .i64 r.thr]] w fun e w'=>e = .returned (.bool (yX r))∧zb [] w w':=by
 obtain⟨W0,Ga⟩:∃ W0,Hid (W0=w.alloc (.cells #[.slice a r.keys.length c,.int .i64 r.thr] 31)):=⟨_,qI rfl⟩
 have Gb:Hid (zb [] w W0):=qI (by rw [Ga.o];exact (zb.refl _ w).alloc _)
 have Gf:Hid (W0.heap[w.heap.size]? = some (.cells #[.slice a r.keys.length c,.int .i64 r.thr] 31 (0,0))):=qI (by rw [Ga.o];exact zd rfl)
 have H:=qI (h.kept0 Gb.o)
 have HZ:=qI hz
 have HM:Hid (yX r=(decide (r.keys.length≤16) && (decide (1≤r.thr) && (decide (r.thr≤r.keys.length) && jM [] r.keys)))):=qI rfl
 have c0:=za (o:=0) (v:=.slice a r.keys.length c) Gf.o rfl
 have c1:=za (o:=1) (v:=.int .i64 r.thr) Gf.o rfl
 have HL:=qI hlen
 clear h hz hlen
 by_cases k1:r.keys.length≤16
 rotate_left
 ·have k1I:(16:Int) < r.keys.length:=by omega
  rw [decide_eq_false k1] at HM
  clear k1
  go_enter func24,ntmps24
  go_upto_region 1 with fail
  rw [← Ga.o]
  go_wp2_with fail
  go_ret
  exact⟨by rw [HM.o];rfl,Gb.o⟩
 have k1I:(r.keys.length:Int)≤16:=by omega
 rw [decide_eq_true k1] at HM
 by_cases k2:1≤r.thr
 rotate_left
 ·have k2I:r.thr < 1:=by omega
  rw [decide_eq_false k2] at HM
  clear k1 k2
  go_enter func24,ntmps24
  go_upto_region 1 with fail
  rw [← Ga.o]
  go_wp2_with fail
  go_ret
  exact⟨by rw [HM.o];rfl,Gb.o⟩
 rw [decide_eq_true k2] at HM
 by_cases k3:r.thr≤r.keys.length
 rotate_left
 ·have k3I:(r.keys.length:Int) < r.thr:=by omega
  rw [decide_eq_false k3] at HM
  clear k1 k3
  go_enter func24,ntmps24
  go_upto_region 1 with fail
  rw [← Ga.o]
  go_wp2_with fail
  go_ret
  exact⟨by rw [HM.o];rfl,Gb.o⟩
 rw [decide_eq_true k3] at HM
 have Gg:Hid (yX r=jM [] r.keys):=qI (by rw [HM.o];simp)
 have Gj:=qI k1
 clear k1
 have hmm:=@run_makeMap Tryz.prog
 obtain⟨W1,Gh⟩:∃ W1,Hid (W1=W0.alloc (.map #[] 0)):=⟨_,qI rfl⟩
 have Gi:Hid (zb [] W0 W1):=qI (by rw [Gh.o];exact (zb.refl _ _).alloc _)
 have Gk:Hid (qt W1 W0.heap.size []):=qI (by rw [Gh.o];exact seen_new rfl)
 have Gp:Hid (W0.heap.size=w.heap.size + 1):=qI (by rw [Ga.o];simp)
 go_enter func24,ntmps24
 go_upto_region 1 with fail
 rw [← Ga.o]
 go_upto_region 4 with fail
 rw [← Gh.o]
 clear c0 c1 hmm
 have c0:=Gi.o.cell (za (o:=0) (v:=.slice a r.keys.length c) Gf.o rfl) (by simp)
 go_wp2_with fail
 clear c0
 go_loopw [5,27] (fun _ i wr=>∃ k:Nat,i = .int .i64 k∧k≤r.keys.length∧qt wr W0.heap.size (r.keys.take k)∧jM (r.keys.take k) (r.keys.drop k)=jM [] r.keys∧zb [] W0 wr) (fun _ i _=>r.keys.length - (intOf i).toNat)
 case atStart=>exact⟨0,rfl,Nat.zero_le _,Gk.o,rfl,Gi.o⟩
 case round=>
  obtain⟨k,rfl,hk,hs,hg,hkr⟩:=hrel
  have HS:=qI hs
  have HG:=qI hg
  have Gd:=qI hkr
  clear hs hg hkr
  by_cases hlt:k < r.keys.length
  ·have hltI:(k:Int) < r.keys.length:=by omega
   obtain⟨g,o,rfl,q0⟩:=(H.o.kept0 Gd.o).at hlt
   have hks:r.keys[k].size≤140737488355328:=HZ.o _ (List.getElem_mem hlt)
   have Ge:Hid (r.keys.take (k + 1)=r.keys.take k ++ [r.keys[k]]):=qI (List.take_succ_eq_append_getElem hlt)
   have HD:Hid (jM (r.keys.take k) (r.keys.drop k)=(!((r.keys.take k).any (fun x=>decide (x=r.keys[k]))) && jZ r.keys[k] && jM (r.keys.take k ++ [r.keys[k]]) (r.keys.drop (k + 1)))):=qI (by
    conv=>lhs;rw [List.drop_eq_getElem_cons hlt]
    rfl)
   have hsl:(r.keys.take k).length≤20000:=by have:=Gj.o;rw [List.length_take];omega
   have CI:=qI (isId_any r.keys[k] hks wr)
   revert q0 hks Ge HD CI
   generalize r.keys[k]=key
   intro q0 hks Ge HD CI
   have hlook:=HS.o.look key (by omega)
   revert hlook HD CI
   generalize (r.keys.take k).any (fun x=>decide (x=key))=b
   generalize jZ key=ok
   intro HD CI hlook
   have Gl:=qI hks
   clear hks
   cases b with
   | true=>
    go_wp2_with fail
    go_ret
    rw [Gg.o,← HG.o,HD.o]
    exact⟨by simp,Gb.o.then Gd.o⟩
   | false=>
    cases ok with
    | false=>
     go_wp2_with (go_at_call 54;refine CI.o.mono ?_;rintro e w2 ⟨rfl,hk2⟩;have Gc:=qI hk2;clear hk2)
     go_ret
     rw [Gg.o,← HG.o,HD.o]
     exact⟨by simp,(Gb.o.then Gd.o).then Gc.o⟩
    | true=>
     go_wp2_with (go_at_call 54;refine CI.o.mono ?_;rintro e w2 ⟨rfl,hk2⟩;have Gc:=qI hk2;obtain⟨w3,hput,hs3,hk3⟩:=(HS.o.kept0 Gc.o).put key (by have:=Gl.o;omega) (by omega);have Gm:=qI hs3;have Gn:=qI hk3;clear hk2 hs3 hk3)
     case roundEnd=>
      refine⟨⟨k + 1,by go_num,by omega,?_,?_,?_⟩,by simp [intOf];omega⟩
      ·rw [Ge.o];exact Gm.o
      ·rw [← HG.o,HD.o,Ge.o];simp
      ·exact (Gd.o.then Gc.o).trans Gn.o (fun i hi=>by simp at hi;subst hi;exact .inr (Nat.le_refl _))
  ·obtain rfl:k=r.keys.length:=by omega
   go_wp2_with fail
   go_ret
   rw [Gg.o,← HG.o,List.drop_length]
   exact⟨rfl,Gb.o.then Gd.o⟩
structure yl where
 id:ByteArray
 sig:ByteArray
deriving Inhabited
def yl.enc (r:yl):List Value:=[.string r.id,.string r.sig]
def vZ (l:List yl):List Value:=l.flatMap yl.enc
def xO (r:yl):Bool:=jZ r.id && ((xC r.sig).isSome && decide (r.sig.size≤1048576))
def yl.small (r:yl):Prop:=r.id.size≤140737488355328∧r.sig.size≤140737488355328
def qu (w:World) (v:Value) (l:List yl):Prop:=Slc w 2 v l.length (vZ l)
theorem qu.kept0 {w w':World}{v:Value}{l:List yl}(h:qu w v l) (k:zb [] w w'):qu w' v l:=Slc.kept0 h k
theorem rowsL_at:∀ (l:List yl) (j:Nat) (hj:j < l.length) (i:Nat) (_:i < 2),(vZ l)[j * 2 + i]? = (l[j].enc)[i]?
 | r :: t,0,_,i,hi=>by
  show (r.enc ++ vZ t)[0 * 2 + i]? = _
  rw [List.getElem?_append_left (by simp [yl.enc];omega),Nat.zero_mul,Nat.zero_add];rfl
 | r :: t,j + 1,hj,i,hi=>by
  show (r.enc ++ vZ t)[(j + 1) * 2 + i]? = _
  rw [List.getElem?_append_right (by simp [yl.enc];omega),show (j + 1) * 2 + i - r.enc.length=j * 2 + i by simp [yl.enc];omega]
  exact rowsL_at t j (by simpa using hj) i hi
theorem qu.cells {w:World}{a:Option Addr}{c:Nat}{l:List yl}(h:qu w (.slice a l.length c) l) (hn:0 < l.length):∃ g o,a=some ⟨g,o,none⟩∧g < w.heap.size∧l.length≤c∧∀ (j:Nat) (hj:j < l.length) (i:Nat) (u:Value),(l[j].enc)[i]? = some u→w.cell? ⟨g,o + j * 2 + i,none⟩=some u:=by
 rcases h.2 with ⟨-,h0⟩ | ⟨h0,-⟩ | ⟨g,o,cap,h1,h2,-,hr⟩
 ·omega
 ·omega
 ·simp only [Value.slice.injEq] at h1
  refine⟨g,o,h1.1,hr.lt,by omega,fun j hj i u hu=>?_⟩
  have hi:i < 2:=(List.getElem?_eq_some_iff.1 hu).1
  rw [Nat.add_assoc]
  exact hr.cells (j * 2 + i) u (by rw [rowsL_at l j hj i hi];exact hu)
theorem isRow_any (r:yl) (hz:r.small) (w:World):Calls Tryz.prog 59 #[.agg r.enc.toArray] w fun e w'=>e = .returned (.bool (xO r))∧zb [] w w':=by
 obtain⟨W0,Ga⟩:∃ W0,Hid (W0=w.alloc (.cells #[.string r.id,.string r.sig] 40)):=⟨_,qI rfl⟩
 have Gb:Hid (zb [] w W0):=qI (by rw [Ga.o];exact (zb.refl _ w).alloc _)
 have HB:Hid (W0.heap[w.heap.size]? = some (.cells #[.string r.id,.string r.sig] 40 (0,0))):=qI (by rw [Ga.o];exact zd rfl)
 have c0:=za (o:=0) HB.o rfl
 have CU:=bM r.id hz.1 W0
 have CV:Hid (∀ w2,zb [] W0 w2→Calls Tryz.prog 96 #[.string r.sig] w2 _):=qI (fun w2 _=>bM r.sig hz.2 w2)
 have HI:Hid (xO r=(jZ r.id && ((xC r.sig).isSome && decide (r.sig.size≤1048576)))):=qI rfl
 have HD:Hid (jZ r.id=match xC r.id with | none=>false | some l=>decide (l.length=32)):=qI rfl
 clear hz
 rcases hu:xC r.id with _ | l
 ·rw [hu] at CU HD
  rw [HD.o] at HI
  have CV2:Hid (∀ w2,zb [] W0 w2→Calls Tryz.prog 96 #[.string r.sig] w2 fun e w'=>(∃ x z,e = .returned (.tuple #[x,.int .i64 z]))∧zb [] w2 w'):=qI (fun w2 hk=>(CV.o w2 hk).mono (fun e w' h=>⟨by
   rcases hv:xC r.sig with _ | m
   ·rw [hv] at h;exact⟨_,_,h.1⟩
   ·rw [hv] at h;obtain⟨⟨a,c,h1,-,-⟩,-⟩:=h;exact⟨_,_,h1⟩,h.2⟩))
  have CU:=qI CU
  clear hu CV HD
  go_enter func59,ntmps59
  go_upto_region 1 with fail
  change Code.wp _ _ _ _ (w.alloc (.cells #[.string r.id,.string r.sig] 40))
  rw [← Ga.o]
  go_upto_region 2 with (go_at_call 96;refine CU.o.mono ?_;rintro e w1 ⟨rfl,hk⟩;have y1:=hk.cell (za (o:=1) HB.o rfl) (by simp);have HK:=qI hk;clear hk)
  go_wp2_with (go_at_call 96;refine (CV2.o _ HK.o).mono ?_;rintro e w2 ⟨⟨x2,z2,rfl⟩,hk⟩;have Gc:=qI hk;clear hk)
  go_ret
  exact⟨by rw [HI.o];rfl,Gb.o.then (HK.o.then Gc.o)⟩
 ·rw [hu] at CU HD
  have HD:Hid (jZ r.id=decide (l.length=32)):=qI HD.o
  rw [HD.o] at HI
  have CU:=qI CU
  rcases hv:xC r.sig with _ | m
  ·rw [hv] at CV HI
   have CV:Hid (∀ w2,zb [] W0 w2→Calls Tryz.prog 96 #[.string r.sig] w2 fun e w'=>e = .returned (.tuple #[.slice none 0 0,.int .i64 10])∧zb [] w2 w'):=CV
   clear hu hv HD
   go_enter func59,ntmps59
   go_upto_region 1 with fail
   change Code.wp _ _ _ _ (w.alloc (.cells #[.string r.id,.string r.sig] 40))
   rw [← Ga.o]
   go_upto_region 2 with (go_at_call 96;refine CU.o.mono ?_;rintro e w1 ⟨⟨a1,c1,rfl,-,-⟩,hk⟩;have y1:=hk.cell (za (o:=1) HB.o rfl) (by simp);have HK:=qI hk;clear hk)
   go_wp2_with (go_at_call 96;refine (CV.o _ HK.o).mono ?_;rintro e w2 ⟨rfl,hk⟩;have Gc:=qI hk;clear hk)
   go_ret
   exact⟨by rw [HI.o];simp,Gb.o.then (HK.o.then Gc.o)⟩
  ·rw [hv] at CV HI
   have CV:Hid (∀ w2,zb [] W0 w2→Calls Tryz.prog 96 #[.string r.sig] w2 fun e w'=>(∃ a c,e = .returned (.tuple #[.slice a m.length c,.int .i64 0]))∧zb [] w2 w'):=qI (fun w2 hk=>(CV.o w2 hk).mono (fun e w' h=>⟨by obtain⟨⟨a,c,h1,-,-⟩,-⟩:=h;exact⟨a,c,h1⟩,h.2⟩))
   clear hu hv HD
   by_cases hl:l.length=32
   ·have f1:=(q8 (a:=(l.length:Int)) (b:=32) (by omega)).1
    rw [decide_eq_true hl] at HI
    clear hl
    go_enter func59,ntmps59
    go_upto_region 1 with fail
    change Code.wp _ _ _ _ (w.alloc (.cells #[.string r.id,.string r.sig] 40))
    rw [← Ga.o]
    go_upto_region 2 with (go_at_call 96;refine CU.o.mono ?_;rintro e w1 ⟨⟨a1,c1,rfl,-,-⟩,hk⟩;have y1:=hk.cell (za (o:=1) HB.o rfl) (by simp);have HK:=qI hk;clear hk)
    go_wp2_with (go_at_call 96;refine (CV.o _ HK.o).mono ?_;rintro e w2 ⟨⟨a2,c2,rfl⟩,hk⟩;have y2:=hk.cell y1 (by simp);have Gc:=qI hk;clear hk)
    go_ret
    exact⟨by rw [HI.o];simp;omega,Gb.o.then (HK.o.then Gc.o)⟩
   ·have f1:=(xn (a:=(l.length:Int)) (b:=32) (by omega)).1
    rw [decide_eq_false hl] at HI
    clear hl
    go_enter func59,ntmps59
    go_upto_region 1 with fail
    change Code.wp _ _ _ _ (w.alloc (.cells #[.string r.id,.string r.sig] 40))
    rw [← Ga.o]
    go_upto_region 2 with (go_at_call 96;refine CU.o.mono ?_;rintro e w1 ⟨⟨a1,c1,rfl,-,-⟩,hk⟩;have y1:=hk.cell (za (o:=1) HB.o rfl) (by simp);have HK:=qI hk;clear hk)
    go_wp2_with (go_at_call 96;refine (CV.o _ HK.o).mono ?_;rintro e w2 ⟨⟨a2,c2,rfl⟩,hk⟩;have Gc:=qI hk;clear hk)
    go_ret
    exact⟨by rw [HI.o];rfl,Gb.o.then (HK.o.then Gc.o)⟩
theorem noRow_any (r:yl) (hz:r.small) (w:World):Calls Tryz.prog 58 #[.agg r.enc.toArray] w fun e w'=>e = .returned (.bool (!xO r))∧zb [] w w':=by
 obtain⟨W0,Ga⟩:∃ W0,Hid (W0=w.alloc (.cells #[.string r.id,.string r.sig] 40)):=⟨_,qI rfl⟩
 have Gb:Hid (zb [] w W0):=qI (by rw [Ga.o];exact (zb.refl _ w).alloc _)
 have HB:Hid (W0.heap[w.heap.size]? = some (.cells #[.string r.id,.string r.sig] 40 (0,0))):=qI (by rw [Ga.o];exact zd rfl)
 have c0:=za (o:=0) HB.o rfl
 have c1:=za (o:=1) HB.o rfl
 have CR:Hid (Calls Tryz.prog 59 #[.agg #[.string r.id,.string r.sig]] W0 fun e w'=>e = .returned (.bool (xO r))∧zb [] W0 w'):=qI (isRow_any r hz W0)
 clear hz
 generalize xO r=b at CR
 go_enter func58,ntmps58
 go_upto_region 1 with fail
 change Code.wp _ _ _ _ (w.alloc (.cells #[.string r.id,.string r.sig] 40))
 rw [← Ga.o]
 go_wp2_with (go_at_call 59;refine CR.o.mono ?_;rintro e w1 ⟨rfl,hk⟩;have HK:=qI hk;clear hk)
 go_ret
 exact⟨rfl,Gb.o.then HK.o⟩
theorem aggSig (w:World):(isAgg (Tryz.shIndexSig_ren.t 23)).run Tryz.prog w = .ok true w:=isAgg40 w
theorem sizeSig (w:World):(Go.sizeOf (Tryz.shIndexSig_ren.t 23)).run Tryz.prog w = .ok 2 w:=sizeOf40 w
theorem enterNoRow:∀ (args:Array Value) (w:World),(callFunc 58 args).run Tryz.prog w = .ok (.enter 58 args) w:=enters_of func58 (by kernel_rfl) rfl
instance:Inhabited {r:yl // r.small}:=⟨⟨⟨⟨#[]⟩,⟨#[]⟩⟩,⟨Nat.zero_le _,Nat.zero_le _⟩⟩⟩
theorem nilSig_any (w:World) (a:Option Addr) (c:Nat):Calls Tryz.prog 98 #[.slice a 0 c,.func (.func 58) #[] #[]] w fun e w'=>e = .returned (.int .i64 (-1))∧zb [] w w':=by
 go_enter func98,ntmps98
 go_wp2_with fail
 go_loopw [5,8] (fun _ i wr=>i = .int .i64 0∧zb [] w wr) (fun _ _ _=>0)
 case atStart=>exact⟨rfl,zb.refl _ _⟩
 case round=>
  obtain⟨rfl,hk⟩:=hrel
  have HK:=qI hk
  clear hk
  go_wp2_with fail
  go_ret
  exact⟨rfl,HK.o⟩
theorem J5 {w:World}{a:Option Addr}{c:Nat}{l:List yl}(h:qu w (.slice a l.length c) l) (hz:∀ r,r ∈ l→r.small) (hl:l.length≤1000000) :
  Calls Tryz.prog 98 #[.slice a l.length c,.func (.func 58) #[] #[]] w fun e w'=>(∃ z:Int,decide (0≤z) = !(l.all xO)∧e = .returned (.int .i64 z))∧zb [] w w':=by
 rcases Nat.eq_zero_or_pos l.length with h0 | h0
 ·have hl0:=List.eq_nil_of_length_eq_zero h0
  subst hl0
  exact (nilSig_any w a c).mono (fun e w' h=>⟨⟨-1,by simp,h.1⟩,h.2⟩)
 ·obtain⟨g,o,rfl,hg,hc,hcell⟩:=h.cells h0
  obtain⟨zs,HZ⟩:∃ zs:List {r:yl // r.small},Hid (zs=l.attach.map fun x=>⟨x.1,hz x.1 x.2⟩):=⟨_,qI rfl⟩
  have hlen:zs.length=l.length:=by rw [HZ.o];simp
  have hget:∀ (j:Nat) (hj:j < l.length),(zs[j]!).1=l[j]:=fun j hj=>by
   rw [getElem!_pos zs j (by omega)]
   simp [HZ.o]
  have hall:zs.any (fun x=>!xO x.1) = !(l.all xO):=by
   rw [HZ.o,List.any_map,List.not_all_eq_any_not]
   conv=>rhs;rw [← List.attach_map_subtype_val l,List.any_map]
   rfl
  refine (AnyQ.slices_IndexFunc Tryz.shIndexSig 2 aggSig sizeSig (fun x:{r:yl // r.small}=>x.1.enc) (fun _=>rfl) (fun x=>!xO x.1) 58 #[] enterNoRow g o l.length c zs w (fun W x hbl=>?_) (by omega) (by omega) hg (fun j hj i u hu=>?_)).mono ?_
  ·refine (noRow_any x.1 x.2 W).mono ?_
   rintro e w' ⟨rfl,hk⟩
   exact⟨rfl,((zb.of_below hbl).then hk).below (Nat.le_refl _) (by simp)⟩
  ·rw [hget j (by omega)] at hu
   exact hcell j (by omega) i u hu
  ·rintro e w' ⟨rfl,hbl⟩
   refine⟨⟨_,?_,rfl⟩,zb.of_below hbl⟩
   rw [List.take_of_length_le (by omega),Lib.idxBy_nonneg_iff,hall]
theorem noRows_any {w:World}{a:Option Addr}{c:Nat}{l:List yl}(h:qu w (.slice a l.length c) l) (hz:∀ r,r ∈ l→r.small) (hl:l.length≤1000000) :
  Calls Tryz.prog 57 #[.slice a l.length c,.func (.func 58) #[] #[]] w fun e w'=>e = .returned (.bool (!(l.all xO)))∧zb [] w w':=by
 have CI:=qI (J5 h hz hl)
 clear h hz hl
 generalize l.all xO=b at CI
 generalize l.length=n at CI
 go_enter func57,ntmps57
 go_wp2_with (go_at_call 98;refine CI.o.mono ?_;rintro e w1 ⟨⟨z,hz,rfl⟩,hk⟩;have HK:=qI hk;have HZ:=qI hz;clear hk hz)
 go_ret
 exact⟨by rw [← HZ.o];rfl,HK.o⟩
theorem JN {n:Nat}{v:V n}{S:Nat→Prop}{w:World}{cs:List Value}(h:Rep n S w cs v) (ht:qo BB n v) :
  Calls Tryz.prog 34 #[.agg cs.toArray] w fun e w'=>e = .returned (.bool (decide (6000 < zw n 0 v)))∧zb [] w w':=by
 obtain⟨kd,nm,st,a1,b1,rfl⟩:=h.five
 obtain⟨p1,i1,d1,p2,i2,d2,rfl,rfl⟩:=h.sl
 obtain⟨W0,Ga⟩:∃ W0,Hid (W0=w.alloc (.cells #[.int .i64 kd,.int .i64 nm,.string st,.slice p1 i1 d1,.slice p2 i2 d2] 25)):=⟨_,qI rfl⟩
 have Gb:Hid (zb [] w W0):=qI (by rw [Ga.o];exact (zb.refl [] w).alloc _)
 have CL:=qI (large_any n v (h.kept0 Gb.o) ht (d:=0) (by omega))
 rw [show ((0:Nat):Int)=0 from rfl] at CL
 have HF:Hid (decide ((6000:Int) < (zw n 0 v:Int))=decide (6000 < zw n 0 v)):=qI (by
  by_cases h:6000 < zw n 0 v
  ·rw [decide_eq_true h,decide_eq_true (by omega)]
  ·rw [decide_eq_false h,decide_eq_false (by omega)])
 clear h ht
 revert CL HF
 generalize zw n 0 v=L
 intro CL HF
 go_enter func34,ntmps34
 go_wp2_with fail
 rw [← Ga.o]
 refine CL.o.mono ?_
 rintro e w2 ⟨rfl,hk2⟩
 have Gc:=qI (Gb.o.then hk2)
 clear hk2
 go_wp2_with fail
 go_ret
 exact⟨ret_bool HF.o,Gc.o⟩
end Go.Proofs.YtibnfbglanpoiaaGreatDoor

/- Parts of one proof, merged: XII XCU XKF XKK. -/
import Derived.Test.YtibnfbglanpoiaaGreatDoorQcQ
import Derived.Test.YtibnfbglanpoiaaGreatDoorQcM
import Derived.Test.YtibnfbglanpoiaaGreatDoorQcE
import Derived.Deep.DeepCutAuto
import Derived.Deep.CutBlock
import Derived.Test.YtibnfbglanpoiaaGreatDoorQcB
import Derived.Test.YtibnfbglanpoiaaGreatDoorQcC
set_option linter.all false
set_option maxHeartbeats 12800000
set_option maxRecDepth 10000
set_option linter.unusedVariables false
set_option linter.unusedSimpArgs false
set_option linter.unnecessarySimpa false
namespace Go.Proofs.YtibnfbglanpoiaaGreatDoor
open Go.Proofs.Tryz
open Go.RowKit
def kv (s:ByteArray):Bool:=match yB s with | none=>false | some l=>decide (l.length=32)
theorem isId_any (s:ByteArray) (hs:s.size≤140737488355328) (w:World):Calls Tryz.prog 54 #[.string s] w fun e w'=>e = .returned (.bool (kv s))∧zb [] w w':=by
 have CU:=Zm s hs w
 have HI:Hid (kv s=match yB s with | none=>false | some l=>decide (l.length=32)):=qI rfl
 clear hs
 rcases hu:yB s with _ | l
 ·rw [hu] at CU HI
  have CU:=qI CU
  clear hu
  go_enter func54,ntmps54
  go_wp2_with (go_at_call 96;refine CU.o.mono ?_;rintro e w1 ⟨rfl,hk⟩;have HK:=qI hk;clear hk)
  go_ret
  exact⟨by rw [HI.o];rfl,HK.o⟩
 ·rw [hu] at CU HI
  have CU:=qI CU
  have HI:Hid (kv s=decide (l.length=32)):=qI HI.o
  clear hu
  by_cases hl:l.length=32
  ·have f1:=(xt (a:=(l.length:Int)) (b:=32) (by omega)).1
   rw [decide_eq_true hl] at HI
   clear hl
   go_enter func54,ntmps54
   go_wp2_with (go_at_call 96;refine CU.o.mono ?_;rintro e w1 ⟨⟨a,c,rfl,-,-⟩,hk⟩;have HK:=qI hk;clear hk)
   go_ret
   exact⟨by rw [HI.o];rfl,HK.o⟩
  ·have f1:=(yx (a:=(l.length:Int)) (b:=32) (by omega)).1
   rw [decide_eq_false hl] at HI
   clear hl
   go_enter func54,ntmps54
   go_wp2_with (go_at_call 96;refine CU.o.mono ?_;rintro e w1 ⟨⟨a,c,rfl,-,-⟩,hk⟩;have HK:=qI hk;clear hk)
   go_ret
   exact⟨by rw [HI.o];rfl,HK.o⟩
structure kf where
 keys:List ByteArray
 thr:Int
def bX:List ByteArray→List ByteArray→Bool
 | _,[]=>true
 | seen,k :: t=>!(seen.any (fun x=>decide (x=k))) && kv k && bX (seen ++ [k]) t
def xo (r:kf):Bool:=decide (r.keys.length≤16) && (decide (1≤r.thr) && (decide (r.thr≤r.keys.length) && bX [] r.keys))
def xg (w:World) (v:Value) (l:List ByteArray):Prop:=Slc w 1 v l.length (l.map Value.string)
theorem xg.kept0 {w w':World}{v:Value}{l:List ByteArray}(h:xg w v l) (k:zb [] w w'):xg w' v l:=Slc.kept0 h k
theorem xg.at {w:World}{a:Option Addr}{c:Nat}{l:List ByteArray}(h:xg w (.slice a l.length c) l) {k:Nat}(hk:k < l.length):∃ g o,a=some ⟨g,o,none⟩∧w.cell? ⟨g,o + k,none⟩=some (.string l[k]):=by
 rcases h.2 with ⟨-,h0⟩ | ⟨h0,-⟩ | ⟨g,o,cap,h1,-,-,hr⟩
 ·omega
 ·omega
 ·simp only [Value.slice.injEq] at h1
  exact⟨g,o,h1.1,by have:=hr.at (j:=k) (by simpa using hk);simpa using this⟩
theorem Qd {w:World}{r:kf}{a:Option Addr}{c:Nat}(h:xg w (.slice a r.keys.length c) r.keys) (hz:∀ k,k ∈ r.keys→k.size≤140737488355328) (hlen:r.keys.length≤1000000000000) :
  Calls Tryz.prog 24 #[.agg #[.slice a r.keys.length c,.int .i64 r.thr]] w fun e w'=>e = .returned (.bool (xo r))∧zb [] w w':=by
 obtain⟨W0,Gc⟩:∃ W0,Hid (W0=w.alloc (.cells #[.slice a r.keys.length c,.int .i64 r.thr] 31)):=⟨_,qI rfl⟩
 have Ga:Hid (zb [] w W0):=qI (by rw [Gc.o];exact (zb.refl _ w).alloc _)
 have Gt:Hid (W0.heap[w.heap.size]? = some (.cells #[.slice a r.keys.length c,.int .i64 r.thr] 31 (0,0))):=qI (by rw [Gc.o];exact zd rfl)
 have H:=qI (h.kept0 Ga.o)
 have HZ:=qI hz
 have HM:Hid (xo r=(decide (r.keys.length≤16) && (decide (1≤r.thr) && (decide (r.thr≤r.keys.length) && bX [] r.keys)))):=qI rfl
 have c0:=za (o:=0) (v:=.slice a r.keys.length c) Gt.o rfl
 have c1:=za (o:=1) (v:=.int .i64 r.thr) Gt.o rfl
 have HL:=qI hlen
 clear h hz hlen
 by_cases k1:r.keys.length≤16
 rotate_left
 ·have k1I:(16:Int) < r.keys.length:=by omega
  rw [decide_eq_false k1] at HM
  clear k1
  go_enter func24,ntmps24
  go_upto_region 1 with fail
  rw [← Gc.o]
  go_wp2_with fail
  go_ret
  exact⟨by rw [HM.o];rfl,Ga.o⟩
 have k1I:(r.keys.length:Int)≤16:=by omega
 rw [decide_eq_true k1] at HM
 by_cases k2:1≤r.thr
 rotate_left
 ·have k2I:r.thr < 1:=by omega
  rw [decide_eq_false k2] at HM
  clear k1 k2
  go_enter func24,ntmps24
  go_upto_region 1 with fail
  rw [← Gc.o]
  go_wp2_with fail
  go_ret
  exact⟨by rw [HM.o];rfl,Ga.o⟩
 rw [decide_eq_true k2] at HM
 by_cases k3:r.thr≤r.keys.length
 rotate_left
 ·have k3I:(r.keys.length:Int) < r.thr:=by omega
  rw [decide_eq_false k3] at HM
  clear k1 k3
  go_enter func24,ntmps24
  go_upto_region 1 with fail
  rw [← Gc.o]
  go_wp2_with fail
  go_ret
  exact⟨by rw [HM.o];rfl,Ga.o⟩
 rw [decide_eq_true k3] at HM
 have Gu:Hid (xo r=bX [] r.keys):=qI (by rw [HM.o];simp)
 have Je:=qI k1
 clear k1
 have hmm:=@run_makeMap Tryz.prog
 obtain⟨W1,Gd⟩:∃ W1,Hid (W1=W0.alloc (.map #[] 0)):=⟨_,qI rfl⟩
 have Jb:Hid (zb [] W0 W1):=qI (by rw [Gd.o];exact (zb.refl _ _).alloc _)
 have Jf:Hid (qF W1 W0.heap.size []):=qI (by rw [Gd.o];exact seen_new rfl)
 have Jg:Hid (W0.heap.size=w.heap.size + 1):=qI (by rw [Gc.o];simp)
 go_enter func24,ntmps24
 go_upto_region 1 with fail
 rw [← Gc.o]
 go_upto_region 4 with fail
 rw [← Gd.o]
 clear c0 c1 hmm
 have c0:=Jb.o.cell (za (o:=0) (v:=.slice a r.keys.length c) Gt.o rfl) (by simp)
 go_wp2_with fail
 clear c0
 go_loopw [5,27] (fun _ i wr=>∃ k:Nat,i = .int .i64 k∧k≤r.keys.length∧qF wr W0.heap.size (r.keys.take k)∧bX (r.keys.take k) (r.keys.drop k)=bX [] r.keys∧zb [] W0 wr) (fun _ i _=>r.keys.length - (intOf i).toNat)
 case atStart=>exact⟨0,rfl,Nat.zero_le _,Jf.o,rfl,Jb.o⟩
 case round=>
  obtain⟨k,rfl,hk,hs,hg,hkr⟩:=hrel
  have HS:=qI hs
  have HG:=qI hg
  have Ge:=qI hkr
  clear hs hg hkr
  by_cases hlt:k < r.keys.length
  ·have hltI:(k:Int) < r.keys.length:=by omega
   obtain⟨g,o,rfl,q0⟩:=(H.o.kept0 Ge.o).at hlt
   have hks:r.keys[k].size≤140737488355328:=HZ.o _ (List.getElem_mem hlt)
   have Gs:Hid (r.keys.take (k + 1)=r.keys.take k ++ [r.keys[k]]):=qI (List.take_succ_eq_append_getElem hlt)
   have HD:Hid (bX (r.keys.take k) (r.keys.drop k)=(!((r.keys.take k).any (fun x=>decide (x=r.keys[k]))) && kv r.keys[k] && bX (r.keys.take k ++ [r.keys[k]]) (r.keys.drop (k + 1)))):=qI (by
    conv=>lhs;rw [List.drop_eq_getElem_cons hlt]
    rfl)
   have hsl:(r.keys.take k).length≤20000:=by have:=Je.o;rw [List.length_take];omega
   have CI:=qI (isId_any r.keys[k] hks wr)
   revert q0 hks Gs HD CI
   generalize r.keys[k]=key
   intro q0 hks Gs HD CI
   have hlook:=HS.o.look key (by omega)
   revert hlook HD CI
   generalize (r.keys.take k).any (fun x=>decide (x=key))=b
   generalize kv key=ok
   intro HD CI hlook
   have Jh:=qI hks
   clear hks
   cases b with
   | true=>
    go_wp2_with fail
    go_ret
    rw [Gu.o,← HG.o,HD.o]
    exact⟨by simp,Ga.o.then Ge.o⟩
   | false=>
    cases ok with
    | false=>
     go_wp2_with (go_at_call 54;refine CI.o.mono ?_;rintro e w2 ⟨rfl,hk2⟩;have Gb:=qI hk2;clear hk2)
     go_ret
     rw [Gu.o,← HG.o,HD.o]
     exact⟨by simp,(Ga.o.then Ge.o).then Gb.o⟩
    | true=>
     go_wp2_with (go_at_call 54;refine CI.o.mono ?_;rintro e w2 ⟨rfl,hk2⟩;have Gb:=qI hk2;obtain⟨w3,hput,hs3,hk3⟩:=(HS.o.kept0 Gb.o).put key (by have:=Jh.o;omega) (by omega);have Ji:=qI hs3;have Gi:=qI hk3;clear hk2 hs3 hk3)
     case roundEnd=>
      refine⟨⟨k + 1,by go_num,by omega,?_,?_,?_⟩,by simp [intOf];omega⟩
      ·rw [Gs.o];exact Ji.o
      ·rw [← HG.o,HD.o,Gs.o];simp
      ·exact (Ge.o.then Gb.o).trans Gi.o (fun i hi=>by simp at hi;subst hi;exact .inr (Nat.le_refl _))
  ·obtain rfl:k=r.keys.length:=by omega
   go_wp2_with fail
   go_ret
   rw [Gu.o,← HG.o,List.drop_length]
   exact⟨rfl,Ga.o.then Ge.o⟩
structure yh where
 id:ByteArray
 sig:ByteArray
deriving Inhabited
def yh.enc (r:yh):List Value:=[.string r.id,.string r.sig]
def xV (l:List yh):List Value:=l.flatMap yh.enc
def yK (r:yh):Bool:=kv r.id && ((yB r.sig).isSome && decide (r.sig.size≤1048576))
def yh.small (r:yh):Prop:=r.id.size≤140737488355328∧r.sig.size≤140737488355328
def xZ (w:World) (v:Value) (l:List yh):Prop:=Slc w 2 v l.length (xV l)
theorem xZ.kept0 {w w':World}{v:Value}{l:List yh}(h:xZ w v l) (k:zb [] w w'):xZ w' v l:=Slc.kept0 h k
theorem rowsL_at:∀ (l:List yh) (j:Nat) (hj:j < l.length) (i:Nat) (_:i < 2),(xV l)[j * 2 + i]? = (l[j].enc)[i]?
 | r :: t,0,_,i,hi=>by
  show (r.enc ++ xV t)[0 * 2 + i]? = _
  rw [List.getElem?_append_left (by simp [yh.enc];omega),Nat.zero_mul,Nat.zero_add];rfl
 | r :: t,j + 1,hj,i,hi=>by
  show (r.enc ++ xV t)[(j + 1) * 2 + i]? = _
  rw [List.getElem?_append_right (by simp [yh.enc];omega),show (j + 1) * 2 + i - r.enc.length=j * 2 + i by simp [yh.enc];omega]
  exact rowsL_at t j (by simpa using hj) i hi
theorem xZ.cells {w:World}{a:Option Addr}{c:Nat}{l:List yh}(h:xZ w (.slice a l.length c) l) (hn:0 < l.length):∃ g o,a=some ⟨g,o,none⟩∧g < w.heap.size∧l.length≤c∧∀ (j:Nat) (hj:j < l.length) (i:Nat) (u:Value),(l[j].enc)[i]? = some u→w.cell? ⟨g,o + j * 2 + i,none⟩=some u:=by
 rcases h.2 with ⟨-,h0⟩ | ⟨h0,-⟩ | ⟨g,o,cap,h1,h2,-,hr⟩
 ·omega
 ·omega
 ·simp only [Value.slice.injEq] at h1
  refine⟨g,o,h1.1,hr.lt,by omega,fun j hj i u hu=>?_⟩
  have hi:i < 2:=(List.getElem?_eq_some_iff.1 hu).1
  rw [Nat.add_assoc]
  exact hr.cells (j * 2 + i) u (by rw [rowsL_at l j hj i hi];exact hu)
theorem isRow_any (r:yh) (hz:r.small) (w:World):Calls Tryz.prog 59 #[.agg r.enc.toArray] w fun e w'=>e = .returned (.bool (yK r))∧zb [] w w':=by
 obtain⟨W0,Gc⟩:∃ W0,Hid (W0=w.alloc (.cells #[.string r.id,.string r.sig] 40)):=⟨_,qI rfl⟩
 have Ga:Hid (zb [] w W0):=qI (by rw [Gc.o];exact (zb.refl _ w).alloc _)
 have HB:Hid (W0.heap[w.heap.size]? = some (.cells #[.string r.id,.string r.sig] 40 (0,0))):=qI (by rw [Gc.o];exact zd rfl)
 have c0:=za (o:=0) HB.o rfl
 have CU:=Zm r.id hz.1 W0
 have CV:Hid (∀ w2,zb [] W0 w2→Calls Tryz.prog 96 #[.string r.sig] w2 _):=qI (fun w2 _=>Zm r.sig hz.2 w2)
 have HI:Hid (yK r=(kv r.id && ((yB r.sig).isSome && decide (r.sig.size≤1048576)))):=qI rfl
 have HD:Hid (kv r.id=match yB r.id with | none=>false | some l=>decide (l.length=32)):=qI rfl
 clear hz
 rcases hu:yB r.id with _ | l
 ·rw [hu] at CU HD
  rw [HD.o] at HI
  have CV2:Hid (∀ w2,zb [] W0 w2→Calls Tryz.prog 96 #[.string r.sig] w2 fun e w'=>(∃ x z,e = .returned (.tuple #[x,.int .i64 z]))∧zb [] w2 w'):=qI (fun w2 hk=>(CV.o w2 hk).mono (fun e w' h=>⟨by
   rcases hv:yB r.sig with _ | m
   ·rw [hv] at h;exact⟨_,_,h.1⟩
   ·rw [hv] at h;obtain⟨⟨a,c,h1,-,-⟩,-⟩:=h;exact⟨_,_,h1⟩,h.2⟩))
  have CU:=qI CU
  clear hu CV HD
  go_enter func59,ntmps59
  go_upto_region 1 with fail
  change Code.wp _ _ _ _ (w.alloc (.cells #[.string r.id,.string r.sig] 40))
  rw [← Gc.o]
  go_upto_region 2 with (go_at_call 96;refine CU.o.mono ?_;rintro e w1 ⟨rfl,hk⟩;have y1:=hk.cell (za (o:=1) HB.o rfl) (by simp);have HK:=qI hk;clear hk)
  go_wp2_with (go_at_call 96;refine (CV2.o _ HK.o).mono ?_;rintro e w2 ⟨⟨x2,z2,rfl⟩,hk⟩;have Gb:=qI hk;clear hk)
  go_ret
  exact⟨by rw [HI.o];rfl,Ga.o.then (HK.o.then Gb.o)⟩
 ·rw [hu] at CU HD
  have HD:Hid (kv r.id=decide (l.length=32)):=qI HD.o
  rw [HD.o] at HI
  have CU:=qI CU
  rcases hv:yB r.sig with _ | m
  ·rw [hv] at CV HI
   have CV:Hid (∀ w2,zb [] W0 w2→Calls Tryz.prog 96 #[.string r.sig] w2 fun e w'=>e = .returned (.tuple #[.slice none 0 0,.int .i64 10])∧zb [] w2 w'):=CV
   clear hu hv HD
   go_enter func59,ntmps59
   go_upto_region 1 with fail
   change Code.wp _ _ _ _ (w.alloc (.cells #[.string r.id,.string r.sig] 40))
   rw [← Gc.o]
   go_upto_region 2 with (go_at_call 96;refine CU.o.mono ?_;rintro e w1 ⟨⟨a1,c1,rfl,-,-⟩,hk⟩;have y1:=hk.cell (za (o:=1) HB.o rfl) (by simp);have HK:=qI hk;clear hk)
   go_wp2_with (go_at_call 96;refine (CV.o _ HK.o).mono ?_;rintro e w2 ⟨rfl,hk⟩;have Gb:=qI hk;clear hk)
   go_ret
   exact⟨by rw [HI.o];simp,Ga.o.then (HK.o.then Gb.o)⟩
  ·rw [hv] at CV HI
   have CV:Hid (∀ w2,zb [] W0 w2→Calls Tryz.prog 96 #[.string r.sig] w2 fun e w'=>(∃ a c,e = .returned (.tuple #[.slice a m.length c,.int .i64 0]))∧zb [] w2 w'):=qI (fun w2 hk=>(CV.o w2 hk).mono (fun e w' h=>⟨by obtain⟨⟨a,c,h1,-,-⟩,-⟩:=h;exact⟨a,c,h1⟩,h.2⟩))
   clear hu hv HD
   by_cases hl:l.length=32
   ·have f1:=(xt (a:=(l.length:Int)) (b:=32) (by omega)).1
    rw [decide_eq_true hl] at HI
    clear hl
    go_enter func59,ntmps59
    go_upto_region 1 with fail
    change Code.wp _ _ _ _ (w.alloc (.cells #[.string r.id,.string r.sig] 40))
    rw [← Gc.o]
    go_upto_region 2 with (go_at_call 96;refine CU.o.mono ?_;rintro e w1 ⟨⟨a1,c1,rfl,-,-⟩,hk⟩;have y1:=hk.cell (za (o:=1) HB.o rfl) (by simp);have HK:=qI hk;clear hk)
    go_wp2_with (go_at_call 96;refine (CV.o _ HK.o).mono ?_;rintro e w2 ⟨⟨a2,c2,rfl⟩,hk⟩;have y2:=hk.cell y1 (by simp);have Gb:=qI hk;clear hk)
    go_ret
    exact⟨by rw [HI.o];simp;omega,Ga.o.then (HK.o.then Gb.o)⟩
   ·have f1:=(yx (a:=(l.length:Int)) (b:=32) (by omega)).1
    rw [decide_eq_false hl] at HI
    clear hl
    go_enter func59,ntmps59
    go_upto_region 1 with fail
    change Code.wp _ _ _ _ (w.alloc (.cells #[.string r.id,.string r.sig] 40))
    rw [← Gc.o]
    go_upto_region 2 with (go_at_call 96;refine CU.o.mono ?_;rintro e w1 ⟨⟨a1,c1,rfl,-,-⟩,hk⟩;have y1:=hk.cell (za (o:=1) HB.o rfl) (by simp);have HK:=qI hk;clear hk)
    go_wp2_with (go_at_call 96;refine (CV.o _ HK.o).mono ?_;rintro e w2 ⟨⟨a2,c2,rfl⟩,hk⟩;have Gb:=qI hk;clear hk)
    go_ret
    exact⟨by rw [HI.o];rfl,Ga.o.then (HK.o.then Gb.o)⟩
theorem noRow_any (r:yh) (hz:r.small) (w:World):Calls Tryz.prog 58 #[.agg r.enc.toArray] w fun e w'=>e = .returned (.bool (!yK r))∧zb [] w w':=by
 obtain⟨W0,Gc⟩:∃ W0,Hid (W0=w.alloc (.cells #[.string r.id,.string r.sig] 40)):=⟨_,qI rfl⟩
 have Ga:Hid (zb [] w W0):=qI (by rw [Gc.o];exact (zb.refl _ w).alloc _)
 have HB:Hid (W0.heap[w.heap.size]? = some (.cells #[.string r.id,.string r.sig] 40 (0,0))):=qI (by rw [Gc.o];exact zd rfl)
 have c0:=za (o:=0) HB.o rfl
 have c1:=za (o:=1) HB.o rfl
 have CR:Hid (Calls Tryz.prog 59 #[.agg #[.string r.id,.string r.sig]] W0 fun e w'=>e = .returned (.bool (yK r))∧zb [] W0 w'):=qI (isRow_any r hz W0)
 clear hz
 generalize yK r=b at CR
 go_enter func58,ntmps58
 go_upto_region 1 with fail
 change Code.wp _ _ _ _ (w.alloc (.cells #[.string r.id,.string r.sig] 40))
 rw [← Gc.o]
 go_wp2_with (go_at_call 59;refine CR.o.mono ?_;rintro e w1 ⟨rfl,hk⟩;have HK:=qI hk;clear hk)
 go_ret
 exact⟨rfl,Ga.o.then HK.o⟩
theorem aggSig (w:World):(isAgg (Tryz.shIndexSig_ren.t 23)).run Tryz.prog w = .ok true w:=isAgg40 w
theorem sizeSig (w:World):(Go.sizeOf (Tryz.shIndexSig_ren.t 23)).run Tryz.prog w = .ok 2 w:=sizeOf40 w
theorem enterNoRow:∀ (args:Array Value) (w:World),(callFunc 58 args).run Tryz.prog w = .ok (.enter 58 args) w:=enters_of func58 (by kernel_rfl) rfl
instance:Inhabited {r:yh // r.small}:=⟨⟨⟨⟨#[]⟩,⟨#[]⟩⟩,⟨Nat.zero_le _,Nat.zero_le _⟩⟩⟩
theorem nilSig_any (w:World) (a:Option Addr) (c:Nat):Calls Tryz.prog 98 #[.slice a 0 c,.func (.func 58) #[] #[]] w fun e w'=>e = .returned (.int .i64 (-1))∧zb [] w w':=by
 go_enter func98,ntmps98
 go_wp2_with fail
 go_loopw [5,8] (fun _ i wr=>i = .int .i64 0∧zb [] w wr) (fun _ _ _=>0)
 case atStart=>exact⟨rfl,zb.refl _ _⟩
 case round=>
  obtain⟨rfl,hk⟩:=hrel
  have HK:=qI hk
  clear hk
  go_wp2_with fail
  go_ret
  exact⟨rfl,HK.o⟩
theorem indexSig_any {w:World}{a:Option Addr}{c:Nat}{l:List yh}(h:xZ w (.slice a l.length c) l) (hz:∀ r,r ∈ l→r.small) (hl:l.length≤1000000) :
  Calls Tryz.prog 98 #[.slice a l.length c,.func (.func 58) #[] #[]] w fun e w'=>(∃ z:Int,decide (0≤z) = !(l.all yK)∧e = .returned (.int .i64 z))∧zb [] w w':=by
 rcases Nat.eq_zero_or_pos l.length with h0 | h0
 ·have hl0:=List.eq_nil_of_length_eq_zero h0
  subst hl0
  exact (nilSig_any w a c).mono (fun e w' h=>⟨⟨-1,by simp,h.1⟩,h.2⟩)
 ·obtain⟨g,o,rfl,hg,hc,hcell⟩:=h.cells h0
  obtain⟨zs,HZ⟩:∃ zs:List {r:yh // r.small},Hid (zs=l.attach.map fun x=>⟨x.1,hz x.1 x.2⟩):=⟨_,qI rfl⟩
  have hlen:zs.length=l.length:=by rw [HZ.o];simp
  have hget:∀ (j:Nat) (hj:j < l.length),(zs[j]!).1=l[j]:=fun j hj=>by
   rw [getElem!_pos zs j (by omega)]
   simp [HZ.o]
  have hall:zs.any (fun x=>!yK x.1) = !(l.all yK):=by
   rw [HZ.o,List.any_map,List.not_all_eq_any_not]
   conv=>rhs;rw [← List.attach_map_subtype_val l,List.any_map]
   rfl
  refine (AnyQ.slices_IndexFunc Tryz.shIndexSig 2 aggSig sizeSig (fun x:{r:yh // r.small}=>x.1.enc) (fun _=>rfl) (fun x=>!yK x.1) 58 #[] enterNoRow g o l.length c zs w (fun W x hbl=>?_) (by omega) (by omega) hg (fun j hj i u hu=>?_)).mono ?_
  ·refine (noRow_any x.1 x.2 W).mono ?_
   rintro e w' ⟨rfl,hk⟩
   exact⟨rfl,((zb.of_below hbl).then hk).below (Nat.le_refl _) (by simp)⟩
  ·rw [hget j (by omega)] at hu
   exact hcell j (by omega) i u hu
  ·rintro e w' ⟨rfl,hbl⟩
   refine⟨⟨_,?_,rfl⟩,zb.of_below hbl⟩
   rw [List.take_of_length_le (by omega),Lib.idxBy_nonneg_iff,hall]
theorem noRows_any {w:World}{a:Option Addr}{c:Nat}{l:List yh}(h:xZ w (.slice a l.length c) l) (hz:∀ r,r ∈ l→r.small) (hl:l.length≤1000000) :
  Calls Tryz.prog 57 #[.slice a l.length c,.func (.func 58) #[] #[]] w fun e w'=>e = .returned (.bool (!(l.all yK)))∧zb [] w w':=by
 have CI:=qI (indexSig_any h hz hl)
 clear h hz hl
 generalize l.all yK=b at CI
 generalize l.length=n at CI
 go_enter func57,ntmps57
 go_wp2_with (go_at_call 98;refine CI.o.mono ?_;rintro e w1 ⟨⟨z,hz,rfl⟩,hk⟩;have HK:=qI hk;have HZ:=qI hz;clear hk hz)
 go_ret
 exact⟨by rw [← HZ.o];rfl,HK.o⟩
theorem all_drop {α:Type}{r:α→Bool}{xs:List α}{k:Nat}(h:k < xs.length):(xs.drop k).all r=(r xs[k] && (xs.drop (k + 1)).all r):=by
 rw [List.drop_eq_getElem_cons h];rfl
theorem v8 {w:World}{g:Nat}(hg:w.heap.size=g) (k m:Int) (s:ByteArray) (a b:Value) (t:Nat):qf (w.alloc (.cells #[.int .i64 k,.int .i64 m,.string s,a,b] t)) g k m s a b:=by
 subst hg;exact yQ w k m s a b t
theorem rightV_other {n:Nat}{v:VS (V n)}(h:¬ (v.kind=1∨v.kind=2∨v.kind=3∨v.kind=4∨v.kind=5∨v.kind=6)):zo (n + 1) v=false:=by
 have e:zo (n + 1) v=(zv v && v.kids.all (zo n)):=rfl
 rw [e]
 have:zv v=false:=by
  unfold zv
  rw [if_neg (by omega),if_neg (by omega),if_neg (by omega),if_neg (by omega),if_neg (by omega),if_neg (by omega)]
 rw [this];rfl
theorem vX {n:Nat}{v:VS (V n)}(h:zv v=false):zo (n + 1) v=false:=by
 have e:zo (n + 1) v=(zv v && v.kids.all (zo n)):=rfl
 rw [e,h];rfl
def kh (n : Nat) : Prop := ∀ (v : V n) {S : Nat → Prop} {w : World} {cs : List Value}, Rep n S w cs v → yk n v →
    Calls Tryz.prog 64 #[.agg cs.toArray] w fun e w'=>e = .returned (.bool (zo n v))∧zb [] w w'
set_option maxRecDepth 100000 in
theorem YK {n:Nat}(known:kh n):kh (n + 1):=fun (v:VS (V n)) {S}{w}{cs} h hs=>by
  have Jj:=qI h
  have Jc:=qI hs
  obtain⟨vl,vm,lcs,mcs,h⟩:=h
  obtain⟨a,c,b,e,rfl,rfl,rfl⟩:=h.forms
  have H:=qI h
  have IH:=qI known
  obtain⟨W1,Gd⟩:∃ W1,Hid (W1=w.alloc (.cells #[.int .i64 v.kind,.int .i64 v.num,.string v.s,.slice a v.l.length c,.slice b v.m.length e] 25)):=⟨_,qI rfl⟩
  have HB:Hid (qf W1 w.heap.size v.kind v.num v.s (.slice a v.l.length c) (.slice b v.m.length e)):=qI (by rw [Gd.o];exact yQ w v.kind v.num v.s (.slice a v.l.length c) (.slice b v.m.length e) 25)
  have Ga:Hid (zb [] w W1):=qI (by rw [Gd.o];exact ((zb.refl [] w).alloc _))
  have Jg:Hid (W1.heap.size=w.heap.size + 1):=qI (by rw [Gd.o];simp)
  have hlv:v.l.length≤20000:=by have:=hs.few;omega
  have hmv:v.m.length≤20000:=by have:=hs.few;omega
  have hsv:(v.s.size:Int)≤400000:=by have:=hs.2;have e:ya (n + 1) v=v.s.size + v.keyBytes + (v.kids.map (ya n)).sum:=rfl;omega
  have Gv:Hid (∀ p,p ∈ v.m→p.1.size≤400000):=qI fun p hp=>Nat.le_trans (key_le hp) hs.2
  obtain⟨c0,c1,c2,c3,c4⟩:=HB.o
  rw [Gd.o] at c0 c1 c2 c3 c4
  clear h hs
  go_enter func64,ntmps64
  go_upto_block 0 with fail
  go_cut [] from 12 to 58 (fun wr=>∃ (m:Int) (s:ByteArray) (l k:Nat) (al am:Option Addr) (cl cm:Nat),zb [] W1 wr∧qf wr (w.heap.size + 1) v.kind m s (.slice al l cl) (.slice am k cm)∧Hid (ve v m s l k))
  case first=>
   by_cases k1:v.kind=1
   ·have f1:=(xt k1).1
    have Gf:Hid (ve v 0 ⟨#[]⟩ 0 0):=qI (.inl ⟨k1,rfl,rfl,rfl,rfl⟩)
    clear k1
    go_wp2_with fail
    go_meet
    exact⟨0,⟨#[]⟩,0,0,_,_,_,_,by rw [Gd.o];exact (zb.refl _ _).alloc _,v8 (by simp) _ _ _ _ _ _,Gf⟩
   have f1:=(yx k1).1
   by_cases k2:v.kind=2
   ·have f2:=(xt k2).1
    by_cases n0:v.num=0
    ·have g0:=xt n0
     have Gf:Hid (ve v v.num ⟨#[]⟩ 0 0):=qI (.inr (.inl ⟨k2,.inl n0,rfl,rfl,rfl,rfl⟩))
     obtain⟨g1,g2⟩:=g0
     clear k1 k2 n0
     go_wp2_with fail
     go_meet
     exact⟨v.num,⟨#[]⟩,0,0,_,_,_,_,by rw [Gd.o];exact (zb.refl _ _).alloc _,v8 (by simp) _ _ _ _ _ _,Gf⟩
    obtain⟨g1,g2⟩:=yx n0
    by_cases n1:v.num=1
    ·obtain⟨g3,g4⟩:=xt n1
     have Gf:Hid (ve v v.num ⟨#[]⟩ 0 0):=qI (.inr (.inl ⟨k2,.inr n1,rfl,rfl,rfl,rfl⟩))
     clear k1 k2 n0 n1
     go_wp2_with fail
     go_meet
     exact⟨v.num,⟨#[]⟩,0,0,_,_,_,_,by rw [Gd.o];exact (zb.refl _ _).alloc _,v8 (by simp) _ _ _ _ _ _,Gf⟩
    ·obtain⟨g3,g4⟩:=yx n1
     have HF:Hid (zo (n + 1) v=false):=qI (vX (by unfold zv;rw [if_neg k1,if_pos k2];simp [n0,n1]))
     clear k1 k2 n0 n1
     go_wp2_with fail
     go_ret
     rw [HF.o]
     exact⟨rfl,by have h1:=Ga.o;rw [Gd.o] at h1;exact h1.alloc _⟩
   have f2:=(yx k2).1
   by_cases k3:v.kind=3
   ·have f3:=(xt k3).1
    by_cases n0:v.num < -9007199254740991
    ·have HF:Hid (zo (n + 1) v=false):=qI (vX (by unfold zv;rw [if_neg k1,if_neg k2,if_pos k3,decide_eq_false (by omega)];simp))
     clear k1 k2 k3
     go_wp2_with fail
     go_ret
     rw [HF.o]
     exact⟨rfl,by have h1:=Ga.o;rw [Gd.o] at h1;exact h1.alloc _⟩
    by_cases n1:9007199254740991 < v.num
    ·have HF:Hid (zo (n + 1) v=false):=qI (vX (by unfold zv;rw [if_neg k1,if_neg k2,if_pos k3,decide_eq_false (by omega)];simp))
     clear k1 k2 k3
     go_wp2_with fail
     go_ret
     rw [HF.o]
     exact⟨rfl,by have h1:=Ga.o;rw [Gd.o] at h1;exact h1.alloc _⟩
    ·have Gf:Hid (ve v v.num ⟨#[]⟩ 0 0):=qI (.inr (.inr (.inl ⟨k3,by omega,rfl,rfl,rfl,rfl⟩)))
     clear k1 k2 k3
     go_wp2_with fail
     go_meet
     exact⟨v.num,⟨#[]⟩,0,0,_,_,_,_,by rw [Gd.o];exact (zb.refl _ _).alloc _,v8 (by simp) _ _ _ _ _ _,Gf⟩
   have f3:=(yx k3).1
   by_cases k4:v.kind=4
   ·have f4:=(xt k4).1
    cases hb:zJ v.s with
    | true=>
     have Gf:Hid (ve v 0 v.s 0 0):=qI (.inr (.inr (.inr (.inl ⟨k4,hb,rfl,rfl,rfl,rfl⟩))))
     have Gw:=qI hb
     clear k1 k2 k3 k4 hb
     go_wp2_with (go_at_call 103;refine (bq v.s (by omega) _).mono ?_;rw [Gw.o];rintro e w2 ⟨rfl,hk2⟩)
     go_meet
     exact⟨0,v.s,0,0,_,_,_,_,by rw [Gd.o];exact ((zb.refl _ _).alloc _).then hk2,(v8 (by simp) _ _ _ _ _ _).kept0 hk2,Gf⟩
    | false=>
     have HF:Hid (zo (n + 1) v=false):=qI (vX (by unfold zv;rw [if_neg k1,if_neg k2,if_neg k3,if_pos k4,hb];simp))
     have Gw:=qI hb
     clear k1 k2 k3 k4 hb
     go_wp2_with (go_at_call 103;refine (bq v.s (by omega) _).mono ?_;rw [Gw.o];rintro e w2 ⟨rfl,hk2⟩)
     go_ret
     rw [HF.o]
     exact⟨rfl,by have h1:=Ga.o;rw [Gd.o] at h1;exact (h1.alloc _).then hk2⟩
   have f4:=(yx k4).1
   by_cases k5:v.kind=5
   ·have f5:=(xt k5).1
    have Gf:Hid (ve v 0 ⟨#[]⟩ v.l.length 0):=qI (.inr (.inr (.inr (.inr (.inl ⟨k5,rfl,rfl,rfl,rfl⟩)))))
    clear k1 k2 k3 k4 k5
    go_wp2_with fail
    go_meet
    exact⟨0,⟨#[]⟩,v.l.length,0,_,_,_,_,by rw [Gd.o];exact (zb.refl _ _).alloc _,v8 (by simp) _ _ _ _ _ _,Gf⟩
   have f5:=(yx k5).1
   by_cases k6:v.kind=6
   ·have f6:=(xt k6).1
    have Gf:Hid (ve v 0 ⟨#[]⟩ 0 v.m.length):=qI (.inr (.inr (.inr (.inr (.inr ⟨k6,rfl,rfl,rfl,rfl⟩)))))
    clear k1 k2 k3 k4 k5 k6
    go_wp2_with fail
    go_meet
    exact⟨0,⟨#[]⟩,0,v.m.length,_,_,_,_,by rw [Gd.o];exact (zb.refl _ _).alloc _,v8 (by simp) _ _ _ _ _ _,Gf⟩
   ·have f6:=(yx k6).1
    have HF:Hid (zo (n + 1) v=false):=qI (rightV_other (by omega))
    clear k1 k2 k3 k4 k5 k6
    go_wp2_with fail
    go_ret
    rw [HF.o]
    exact⟨rfl,by have h1:=Ga.o;rw [Gd.o] at h1;exact h1.alloc _⟩
  case rest=>
   obtain⟨m,s,l,k,al,am,cl,cm,hkr,hb,Gk⟩:=hcut
   have Gl:=qI (right_bare Gk.o)
   have Jm:=qI hkr
   have Gg:=qI (Ga.o.trans' hkr)
   have Gx:=qI (HB.o.kept0 hkr)
   clear c0 c1 c2 c3 c4
   obtain⟨c0,c1,c2,c3,c4⟩:=Gx.o
   obtain⟨d0,d1,d2,d3,d4⟩:=hb
   clear hkr Gk
   by_cases hnum:v.num=m
   rotate_left
   ·obtain⟨f1,f2⟩:=yx hnum
    have HF:Hid (zo (n + 1) v=false):=qI (by rw [Gl.o];simp [hnum])
    clear hnum
    go_wp2_with fail
    go_ret
    rw [HF.o]
    exact⟨rfl,Gg.o⟩
   obtain⟨g1,g2⟩:=xt hnum
   have Hnum:=qI hnum
   clear hnum
   by_cases hstr:v.s=s
   rotate_left
   ·obtain⟨f1,f2⟩:=kF hstr
    have HF:Hid (zo (n + 1) v=false):=qI (by rw [Gl.o];simp [hstr])
    clear hstr
    go_wp2_with fail
    go_ret
    rw [HF.o]
    exact⟨rfl,Gg.o⟩
   obtain⟨g3,g4⟩:=k9 hstr
   have Hstr:=qI hstr
   clear hstr
   by_cases hl:v.l.length=l
   rotate_left
   ·obtain⟨f1,f2⟩:=YW hl
    have HF:Hid (zo (n + 1) v=false):=qI (by rw [Gl.o];simp [hl])
    clear hl
    go_wp2_with fail
    go_ret
    rw [HF.o]
    exact⟨rfl,Gg.o⟩
   obtain⟨g5,g6⟩:=nat_eq hl
   have Hl:=qI hl
   clear hl
   by_cases hm:v.m.length=k
   rotate_left
   ·obtain⟨f1,f2⟩:=YW hm
    have HF:Hid (zo (n + 1) v=false):=qI (by rw [Gl.o];simp [hm])
    clear hm
    go_wp2_with fail
    go_ret
    rw [HF.o]
    exact⟨rfl,Gg.o⟩
   obtain⟨g7,g8⟩:=nat_eq hm
   have Hm:=qI hm
   clear hm
   have Gm:Hid (zo (n + 1) v=(v.l.all (zo n) && qr (zo n) [] v.m)):=qI (by rw [Gl.o];simp [Hnum.o,Hstr.o,Hl.o,Hm.o])
   go_wp2_with fail
   clear c0 c1 c2 c3 c4 d0 d1 d2 d3 d4 g1 g2 g3 g4 g5 g6 g7 g8 Gl Hnum Hstr Hl Hm
   go_loopw [4] (fun i wr=>∃ k:Nat,i = .int .i64 k∧k≤v.l.length∧(v.l.drop k).all (zo n)=v.l.all (zo n)∧zb [] wc wr) (fun i _=>v.l.length - (intOf i).toNat)
   case atStart=>exact⟨0,rfl,Nat.zero_le _,rfl,zb.refl _ _⟩
   case round=>
    obtain⟨k,rfl,hk,hg,hkr⟩:=hrel
    have HG:=qI hg
    have Gn:=qI hkr
    have Ge:=qI (Gg.o.trans' hkr)
    obtain⟨c0,c1,c2,c3,c4⟩:=Gx.o.kept0 hkr
    clear hg hkr
    by_cases hlt:k < v.l.length
    ·have hltI:(k:Int) < v.l.length:=by omega
     obtain⟨g,o,cap,kd,nm,st,a1,b1,he,q0,q1,q2,q3,q4,hr⟩:=H.o.at_l Ge.o k hlt
     simp only [Value.slice.injEq] at he
     obtain⟨rfl,-,rfl⟩:=he
     have CL:=qI (IH.o _ hr (Jc.o.kid (kE (List.getElem_mem hlt))))
     have HD:=qI (all_drop (r:=zo n) hlt)
     clear hr
     revert CL HD
     generalize zo n v.l[k]=r
     intro CL HD
     cases r
     ·go_wp2_with (go_at_call 64;refine CL.o.mono ?_;rintro e w2 ⟨rfl,hk2⟩)
      go_ret
      rw [Gm.o,← HG.o,HD.o]
      exact⟨by simp,Ge.o.then hk2⟩
     ·go_wp2_with (go_at_call 64;refine CL.o.mono ?_;rintro e w2 ⟨rfl,hk2⟩)
      case roundEnd=>
       refine⟨⟨k + 1,by go_num,by omega,?_,Gn.o.then hk2⟩,by simp [intOf];omega⟩
       rw [← HG.o,HD.o]
       simp
    ·obtain rfl:k=v.l.length:=by omega
     have Gj:Hid (zo (n + 1) v=qr (zo n) [] v.m):=qI (by rw [Gm.o,← HG.o,List.drop_length];simp)
     have Gp:=qI Gn.o
     go_wp2_with fail
     clear HG Ge Gn c0 c1 c2 c3 c4
     go_loopw [5] (fun i wr=>∃ k:Nat,i = .int .i64 k∧k≤v.m.length∧qr (zo n) ((v.m.take k).map (fun p=>p.1)) (v.m.drop k)=qr (zo n) [] v.m∧zb [] wc wr) (fun i _=>v.m.length - (intOf i).toNat)
     case atStart=>exact⟨0,rfl,Nat.zero_le _,rfl,Gp.o⟩
     case round=>
      obtain⟨k,rfl,hk,hg,hkr⟩:=hrel
      have HG:=qI hg
      have Gn:=qI hkr
      have Ge:=qI (Gg.o.trans' hkr)
      have Gf:=qI (Gx.o.kept0 hkr)
      obtain⟨c0,c1,c2,c3,c4⟩:=Gf.o
      clear hg hkr Gp
      by_cases hlt:k < v.m.length
      ·have hltI:(k:Int) < v.m.length:=by omega
       obtain⟨g,o,cap,kd,nm,st,a1,b1,he,q0,q1,q2,q3,q4,q5,hr⟩:=H.o.at_m Ge.o k hlt
       simp only [Value.slice.injEq] at he
       obtain⟨rfl,-,rfl⟩:=he
       have hk3:v.m[k].1.size≤281474976710656:=by have:=Gv.o _ (List.getElem_mem hlt);omega
       have CL:Hid (∀ w2,zb [] wr w2→Calls Tryz.prog 64 #[.agg #[.int .i64 kd,.int .i64 nm,.string st,a1,b1]] w2 fun e w'=>e = .returned (.bool (zo n v.m[k].2))∧zb [] w2 w'):=qI fun w2 hk=>IH.o _ (hr.kept0 hk) (Jc.o.kid (kD (List.getElem_mem hlt)))
       have CV:=qI (bq v.m[k].1 hk3 wr)
       have HD:Hid (qr (zo n) ((v.m.take k).map (fun p=>p.1)) (v.m.drop k)=(zJ v.m[k].1 && zo n v.m[k].2 && !(((v.m.take k).map (fun p=>p.1)).any (fun x=>decide (x=v.m[k].1))) && qr (zo n) ((v.m.take (k + 1)).map (fun p=>p.1)) (v.m.drop (k + 1)))):=qI (by
        rw [List.drop_eq_getElem_cons hlt,xw _ _ _ hlt]
        rfl)
       clear hr hk3
       revert CL CV HD
       generalize hkey:v.m[k].1=key at q0
       generalize zo n v.m[k].2=r
       generalize zJ key=ok
       intro CL CV HD
       have Hkey:=qI hkey
       clear hkey
       cases ok with
       | false=>
        go_wp2_with (go_at_call 103;refine CV.o.mono ?_;rintro e w2 ⟨rfl,hk2⟩)
        go_ret
        rw [Gj.o,← HG.o,HD.o]
        exact⟨by simp,Ge.o.then hk2⟩
       | true=>
        cases r with
        | false=>
         go_wp2_with (first
          | (go_at_call 103;refine CV.o.mono ?_;rintro e w2 ⟨rfl,hk2⟩;have Gb:=qI hk2;have e4:=hk2.cell c4 (by simp);have e1:=hk2.cell q1 (by simp);have e2:=hk2.cell q2 (by simp);have e3:=hk2.cell q3 (by simp);have e5:=hk2.cell q4 (by simp);have e6:=hk2.cell q5 (by simp);clear hk2)
          | (go_at_call 64;refine (CL.o _ Gb.o).mono ?_;rintro e w3 ⟨rfl,hk3⟩))
         go_ret
         rw [Gj.o,← HG.o,HD.o]
         exact⟨by simp,(Ge.o.then Gb.o).then hk3⟩
        | true=>
         go_wp2_with (first
          | (go_at_call 103;refine CV.o.mono ?_;rintro e w2 ⟨rfl,hk2⟩;have Gb:=qI hk2;have e4:=hk2.cell c4 (by simp);have e1:=hk2.cell q1 (by simp);have e2:=hk2.cell q2 (by simp);have e3:=hk2.cell q3 (by simp);have e5:=hk2.cell q4 (by simp);have e6:=hk2.cell q5 (by simp);clear hk2)
          | (go_at_call 64;refine (CL.o _ Gb.o).mono ?_;rintro e w3 ⟨rfl,hk3⟩))
         have Gi:=qI (Gb.o.then hk3)
         clear hk3 Gb e1 e2 e3 e4 e5 e6 CL CV
         have Jd:Hid (qr (zo n) ((v.m.take k).map (fun p=>p.1)) (v.m.drop k)=(!(((v.m.take k).map (fun p=>p.1)).any (fun x=>decide (x=key))) && qr (zo n) ((v.m.take (k + 1)).map (fun p=>p.1)) (v.m.drop (k + 1)))):=qI (by rw [HD.o];simp)
         have Gy:Hid (wr.cell? ⟨g,o + k * 6,none⟩=some (.string key)):=qI q0
         clear HD c0 c1 c2 c3 c4 q0 q1 q2 q3 q4 q5
         go_loopw [6] (fun i wr3=>∃ j:Nat,i = .int .i64 j∧j≤k∧((v.m.take j).map (fun p=>p.1)).any (fun x=>decide (x=key))=false∧zb [] wr wr3) (fun i _=>k - (intOf i).toNat)
         case atStart=>exact⟨0,rfl,Nat.zero_le _,rfl,Gi.o⟩
         case round=>
          obtain⟨j,rfl,hj,hany,hkr3⟩:=hrel
          have Gq:=qI hany
          have Gh:=qI hkr3
          clear hany hkr3
          by_cases hjt:j < k
          ·have hjI:(j:Int) < k:=by omega
           have hjm:j < v.m.length:=by omega
           have hjmI:(j:Int) < v.m.length:=by omega
           obtain⟨c0,c1,c2,c3,c4⟩:=Gf.o.kept0 Gh.o
           have q0:=Gh.o.cell Gy.o (by simp)
           obtain⟨g2,o2,cap2,kd2,nm2,st2,a2,b2,he,p0,p1,p2,p3,p4,p5,-⟩:=H.o.at_m (Ge.o.then Gh.o) j hjm
           simp only [Value.slice.injEq,Option.some.injEq,Addr.mk.injEq] at he
           obtain⟨⟨rfl,rfl,-⟩,-,-⟩:=he
           have Gz:Hid (((v.m.take (j + 1)).map (fun p=>p.1)).any (fun x=>decide (x=key))=decide (v.m[j].1=key)):=qI (by rw [xw _ _ _ hjm,List.any_append,Gq.o];simp)
           have Ja:Hid (v.m[j].1=key→((v.m.take k).map (fun p=>p.1)).any (fun x=>decide (x=key))=true):=qI fun e=>List.any_eq_true.2 ⟨key,List.mem_map.2 ⟨v.m[j],List.mem_take_iff_getElem.2 ⟨j,by omega,rfl⟩,e⟩,by simp⟩
           have E0:=zx c4
           have E1:=zx q0
           have E2:=zx p0
           revert E2 Gz Ja
           generalize v.m[j].1=key2
           intro Gz Ja E2
           by_cases hkk:key2=key
           ·obtain⟨f1,f2⟩:=k9 hkk
            have Jk:=qI (Ja.o hkk)
            clear hkk
            go_wp2_with fail
            refine yo wr (by kernel_rfl) (by kernel_rfl) (zb.refl _ _) ?_
            clear c0 c1 c2 c3 c4 q0 p0 p1 p2 p3 p4 p5
            repeat go_big_quiet_step (fail)
            refine wpQuiet_nil ?_
            intro w5 hk5
            go_wp2_with fail
            go_ret
            rw [Gj.o,← HG.o,Jd.o,Jk.o]
            exact⟨by simp,(Ge.o.then Gh.o).then hk5⟩
           ·obtain⟨f1,f2⟩:=kF hkk
            have Jl:Hid (((v.m.take (j + 1)).map (fun p=>p.1)).any (fun x=>decide (x=key))=false):=qI (by rw [Gz.o];exact decide_eq_false hkk)
            clear hkk
            go_wp2_with fail
            refine yo wr (by kernel_rfl) (by kernel_rfl) (zb.refl _ _) ?_
            clear c0 c1 c2 c3 c4 q0 p0 p1 p2 p3 p4 p5
            repeat go_big_quiet_step (fail)
            refine wpQuiet_nil ?_
            intro w5 hk5
            go_wp2_with fail
            case roundEnd=>exact⟨⟨j + 1,by go_num,by omega,Jl.o,Gh.o.then hk5⟩,by simp [intOf];omega⟩
          ·obtain rfl:j=k:=by omega
           go_wp2_with fail
           case roundEnd=>
            refine⟨⟨j + 1,by go_num,by omega,?_,Gn.o.then Gh.o⟩,by simp [intOf];omega⟩
            rw [← HG.o,Jd.o,Gq.o]
            simp
      ·obtain rfl:k=v.m.length:=by omega
       go_wp2_with fail
       go_ret
       rw [Gj.o,← HG.o,List.drop_length]
       exact⟨rfl,Ge.o⟩
theorem jK:∀ (n:Nat),kh n
 | 0=>fun v {_}{_}{_} h _=>h.elim
 | n + 1=>YK (jK n)
theorem refRight_any:∀ (n:Nat) (v:V n) {S:Nat→Prop}{w:World}{cs:List Value},Rep n S w cs v→yk n v →
  Calls Tryz.prog 64 #[.agg cs.toArray] w fun e w'=>e = .returned (.bool (zo n v))∧zb [] w w':=fun n=>jK n
theorem refLarge_any {n:Nat}{v:V n}{S:Nat→Prop}{w:World}{cs:List Value}(h:Rep n S w cs v) (ht:qA BB n v) :
  Calls Tryz.prog 34 #[.agg cs.toArray] w fun e w'=>e = .returned (.bool (decide (6000 < zF n 0 v)))∧zb [] w w':=by
 obtain⟨kd,nm,st,a1,b1,rfl⟩:=h.five
 obtain⟨p1,i1,d1,p2,i2,d2,rfl,rfl⟩:=h.sl
 obtain⟨W0,Gc⟩:∃ W0,Hid (W0=w.alloc (.cells #[.int .i64 kd,.int .i64 nm,.string st,.slice p1 i1 d1,.slice p2 i2 d2] 25)):=⟨_,qI rfl⟩
 have Ga:Hid (zb [] w W0):=qI (by rw [Gc.o];exact (zb.refl [] w).alloc _)
 have CL:=qI (large_any n v (h.kept0 Ga.o) ht (d:=0) (by omega))
 rw [show ((0:Nat):Int)=0 from rfl] at CL
 have HF:Hid (decide ((6000:Int) < (zF n 0 v:Int))=decide (6000 < zF n 0 v)):=qI (by
  by_cases h:6000 < zF n 0 v
  ·rw [decide_eq_true h,decide_eq_true (by omega)]
  ·rw [decide_eq_false h,decide_eq_false (by omega)])
 clear h ht
 revert CL HF
 generalize zF n 0 v=L
 intro CL HF
 go_enter func34,ntmps34
 go_wp2_with fail
 rw [← Gc.o]
 refine CL.o.mono ?_
 rintro e w2 ⟨rfl,hk2⟩
 have Gb:=qI (Ga.o.then hk2)
 clear hk2
 go_wp2_with fail
 go_ret
 exact⟨vT HF.o,Gb.o⟩
theorem refCheck_any {n:Nat}{v:V n}{S:Nat→Prop}{w:World}{cs:List Value}(h:Rep n S w cs v) (hs:yk n v) (hn:n≤100) :
  Calls Tryz.prog 30 #[.agg cs.toArray] w fun e w'=>e = .returned (.int .i64 (yC n v))∧zb [] w w':=by
 obtain⟨kd,nm,st,a1,b1,rfl⟩:=h.five
 obtain⟨p1,i1,d1,p2,i2,d2,rfl,rfl⟩:=h.sl
 obtain⟨W0,Gc⟩:∃ W0,Hid (W0=w.alloc (.cells #[.int .i64 kd,.int .i64 nm,.string st,.slice p1 i1 d1,.slice p2 i2 d2] 25)):=⟨_,qI rfl⟩
 have Ga:Hid (zb [] w W0):=qI (by rw [Gc.o];exact (zb.refl [] w).alloc _)
 have Gr:Hid (qf W0 w.heap.size kd nm st (.slice p1 i1 d1) (.slice p2 i2 d2)):=qI (by rw [Gc.o];exact yQ _ _ _ _ _ _ _)
 have C1:=qI (zam n v (h.kept0 Ga.o) hs hn)
 have C2:Hid (∀ w1,zb [] W0 w1→_):=qI fun w1 (k:zb [] W0 w1)=>count_any n v (h.kept0 (Ga.o.trans' k)) hs
 have C3:Hid (∀ w1,zb [] W0 w1→_):=qI fun w1 (k:zb [] W0 w1)=>refRight_any n v (h.kept0 (Ga.o.trans' k)) hs
 have hct:=hs.1
 have hdt:zy n v≤100:=Nat.le_trans (kb n v) hn
 have HC:Hid (yC n v=if 12 < zy n v then 41 else if 4096 < zt n v then 42 else if zo n v then 0 else 40):=qI rfl
 clear h hs
 revert C1 C2 C3 hct hdt HC
 generalize zy n v=D
 generalize zt n v=C
 generalize zo n v=R
 generalize yC n v=K
 intro C1 C2 C3 hct hdt HC
 by_cases h1:12 < D
 ·have h1I:(12:Int) < D:=by omega
  have HF:Hid (K=41):=qI (by rw [HC.o,if_pos h1])
  go_enter func30,ntmps30
  go_wp2_with fail
  rw [← Gc.o]
  refine C1.o.mono ?_
  rintro e w2 ⟨rfl,hk2⟩
  have Gb:=qI (Ga.o.then hk2)
  clear hk2
  go_wp2_with fail
  go_ret
  rw [HF.o]
  exact⟨rfl,Gb.o⟩
 have h1I:¬ (12:Int) < D:=by omega
 by_cases h2:4096 < C
 ·have h2I:(4096:Int) < C:=by omega
  have HF:Hid (K=42):=qI (by rw [HC.o,if_neg h1,if_pos h2])
  go_enter func30,ntmps30
  go_wp2_with fail
  rw [← Gc.o]
  refine C1.o.mono ?_
  rintro e w2 ⟨rfl,hk2⟩
  have Gb:=qI hk2
  obtain⟨c0,c1,c2,c3,c4⟩:=Gr.o.kept0 hk2
  clear hk2
  go_wp2_with (go_at_call 63;refine (C2.o _ Gb.o).mono ?_;rintro e w3 ⟨rfl,hk3⟩)
  go_ret
  rw [HF.o]
  exact⟨rfl,(Ga.o.then Gb.o).then hk3⟩
 have h2I:¬ (4096:Int) < C:=by omega
 cases R with
 | true=>
  have HF:Hid (K=0):=qI (by rw [HC.o,if_neg h1,if_neg h2,if_pos rfl])
  clear h1 h2
  go_enter func30,ntmps30
  go_wp2_with fail
  rw [← Gc.o]
  refine C1.o.mono ?_
  rintro e w2 ⟨rfl,hk2⟩
  have Gb:=qI hk2
  obtain⟨c0,c1,c2,c3,c4⟩:=Gr.o.kept0 hk2
  clear hk2
  go_wp2_with (first
   | (go_at_call 63;refine (C2.o _ Gb.o).mono ?_;rintro e w3 ⟨rfl,hk3⟩;have Gi:=qI (Gb.o.then hk3);obtain⟨y0,y1,y2,y3,y4⟩:=Gr.o.kept0 Gi.o;clear hk3)
   | (go_at_call 64;refine (C3.o _ Gi.o).mono ?_;rintro e w4 ⟨rfl,hk4⟩))
  go_ret
  rw [HF.o]
  exact⟨rfl,(Ga.o.then Gi.o).then hk4⟩
 | false=>
  have HF:Hid (K=40):=qI (by rw [HC.o,if_neg h1,if_neg h2,if_neg (by simp)])
  clear h1 h2
  go_enter func30,ntmps30
  go_wp2_with fail
  rw [← Gc.o]
  refine C1.o.mono ?_
  rintro e w2 ⟨rfl,hk2⟩
  have Gb:=qI hk2
  obtain⟨c0,c1,c2,c3,c4⟩:=Gr.o.kept0 hk2
  clear hk2
  go_wp2_with (first
   | (go_at_call 63;refine (C2.o _ Gb.o).mono ?_;rintro e w3 ⟨rfl,hk3⟩;have Gi:=qI (Gb.o.then hk3);obtain⟨y0,y1,y2,y3,y4⟩:=Gr.o.kept0 Gi.o;clear hk3)
   | (go_at_call 64;refine (C3.o _ Gi.o).mono ?_;rintro e w4 ⟨rfl,hk4⟩))
  go_ret
  rw [HF.o]
  exact⟨rfl,(Ga.o.then Gi.o).then hk4⟩
end Go.Proofs.YtibnfbglanpoiaaGreatDoor

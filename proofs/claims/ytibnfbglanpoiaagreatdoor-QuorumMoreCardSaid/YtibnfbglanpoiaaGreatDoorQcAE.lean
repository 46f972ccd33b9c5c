/- Parts of one proof, merged: XBW XJU XBU XBG XGK. -/
import Derived.Test.YtibnfbglanpoiaaGreatDoorQcAC
import Derived.Test.YtibnfbglanpoiaaGreatDoorQcAD
import Derived.Test.YtibnfbglanpoiaaGreatDoorQcAA
import Derived.Great.BuildSlice
import Derived.Test.YtibnfbglanpoiaaGreatDoorQcJ
set_option linter.all false
set_option maxHeartbeats 12800000
set_option maxRecDepth 10000
set_option linter.unusedVariables false
set_option linter.unusedSimpArgs false
set_option linter.unnecessarySimpa false
namespace Go.Proofs.YtibnfbglanpoiaaGreatDoor
open Go.Proofs.Tryz
open Go.RowKit
theorem sigQ_code (j:Nat) (hj:j < 2) (m:List UInt8):bH ((xE (yD j m)).take 4)=j∧qu 8 1 (xE (yD j m))=yD j m:=by
 obtain⟨h1,h2,h3,h4,h5,h6⟩:=YT j m
 have ho:(kY (yD j m).one).length=512:=by rw [Y1 h4 h5 (by omega),h1]
 have hw:(yD j m).way.flatten.length=32:=by rw [h6.flat,h3]
 have hp:(qV j 4).length=4:=yN _ _
 have e0:xE (yD j m)=qV j 4 ++ (kY (yD j m).one ++ (yD j m).way.flatten):=by unfold xE;rw [List.append_assoc];rfl
 have e1:(xE (yD j m)).take 4=qV j 4:=by rw [e0,List.take_left' hp]
 have e2:(xE (yD j m)).drop 4=kY (yD j m).one ++ (yD j m).way.flatten:=by rw [e0,List.drop_left' hp]
 have e3:(xE (yD j m)).drop 516=(yD j m).way.flatten:=by
  rw [show 516=4 + 512 from rfl,← List.drop_drop,e2,List.drop_left' ho]
 have hn:bH (qV j 4)=j:=by
  have:j=0∨j=1:=by omega
  rcases this with rfl | rfl <;> decide
 refine⟨by rw [e1,hn],?_⟩
 unfold qu
 have e4:((xE (yD j m)).drop 4).take (64 * 8)=kY (yD j m).one:=by rw [e2,List.take_left' ho]
 have e5:((xE (yD j m)).drop (4 + 64 * 8)).take (32 * 1)=(yD j m).way.flatten:=by
  rw [show 4 + 64 * 8=516 from rfl,e3,List.take_of_length_le (by omega)]
 have e6:=dec_code h4 h5 (by omega)
 rw [h1] at e6
 have e7:=YN 32 (yD j m).way h6
 rw [h3] at e7
 rw [e1,hn,e4,e5,e6,e7]
 rfl
theorem good_sigQ (j:Nat) (hj:j < 2) (m:List UInt8):Kn (k8 xB) m (xE (yD j m))=true:=by
 obtain⟨h1,h2⟩:=sigQ_code j hj m
 have hl:=vz j m
 have e:Kn (k8 xB) m (xE (yD j m))=(zK (k8 xB) && (jS 8 1 (xE (yD j m)) && JA xB m (qu 8 1 (xE (yD j m))))):=rfl
 have hv:JA xB m (yD j m)=true:=by
  unfold JA
  rw [Bool.and_eq_true,decide_eq_true_eq,decide_eq_true_eq]
  refine⟨hj,?_⟩
  have hi:ko m (yD j m).one=kw j:=impl_sign [113] j 8 m
  rw [hi]
  have:j=0∨j=1:=by omega
  rcases this with rfl | rfl <;> rfl
 rw [e,h2,hv,Bool.and_true,Bool.and_eq_true]
 refine⟨rfl,?_⟩
 unfold jS
 rw [hl,h1,Bool.and_eq_true,decide_eq_true_eq,decide_eq_true_eq]
 exact⟨rfl,by omega⟩
theorem Zc {k:zP}(h:zK k=true):kv (yu k)=true:=by
 unfold kv yu
 rw [if_pos h,vE]
 simp [yn]
def vQ:V 1:=(⟨6,0,⟨#[]⟩,[],[]⟩:VS (V 0))
def mQ:List UInt8:=qi 1 vQ []
def idQ:ByteArray:=yu (k8 xB)
def idO:ByteArray:=yu k0
def keysQ:List xT:=[⟨idQ,k8 xB⟩]
def l1Q:List yh:=[Y3 0 mQ]
def l2Q:List yh:=[Y3 0 mQ,Y3 1 mQ]
def QX:kf:=⟨[idQ],1⟩
def twoQ:kf:=⟨[idO,idQ],2⟩
theorem mayQ:zK (k8 xB)=true∧zK k0=true:=⟨rfl,rfl⟩
theorem row_ok (j:Nat) (m:List UInt8):yK (Y3 j m)=true:=by
 unfold yK
 rw [Bool.and_eq_true,Bool.and_eq_true,decide_eq_true_eq]
 refine⟨Zc mayQ.1,?_,?_⟩
 ·show (yB (xU (xE (yD j m)))).isSome=true
  rw [vE];rfl
 ·show (xU (xE (yD j m))).size≤1048576
  rw [qW,vz];decide
theorem env_ok (l:List yh) (hl:l.length≤16) (ha:l.all yK=true):zW 1 vQ l=true:=by
 unfold zW
 rw [ha,decide_eq_true hl]
 rfl
theorem env1:zW 1 vQ l1Q=true:=env_ok _ (by decide) (by simp [l1Q,row_ok])
theorem env2:zW 1 vQ l2Q=true:=env_ok _ (by decide) (by simp [l2Q,row_ok])
theorem body_ok {l:List yh}(h:zW 1 vQ l=true):qi 1 vQ l=mQ:=by
 unfold mQ
 exact JX (by rw [h,env_ok [] (by decide) rfl])
theorem holds_ok {l:List yh}(h:zW 1 vQ l=true) (j:Nat) (hj:j < 2):jc 1 vQ l (Y3 j mQ) (k8 xB)=true:=by
 unfold jc
 rw [h,body_ok h,Bool.true_and,Bool.and_eq_true,decide_eq_true_eq]
 refine⟨rfl,?_⟩
 show Kn _ _ ((yB (xU (xE (yD j mQ)))).getD [])=true
 rw [vE]
 exact good_sigQ j hj mQ
theorem idQ_ne:idQ≠noId:=fun e=>by
 have h:=Zc mayQ.1
 rw [show yu (k8 xB)=noId from e] at h
 exact absurd h (by decide)
theorem find_own (id:ByteArray) (k:zP):jV [⟨id,k⟩] id=some ⟨id,k⟩:=by simp [jV]
theorem find_oth {id o:ByteArray}(k:zP) (h:id≠o):jV [⟨id,k⟩] o=none:=by simp [jV,h]
theorem signs_gen {n:Nat}{v:V n}{l:List yh}{id:ByteArray}{k:zP}(hne:id≠noId) (hid:yu k=id) {r:yh}(hr:r ∈ l) (hri:r.id=id) (hh:jc n v l r k=true):yT n v l [⟨id,k⟩] id=true:=by
 unfold yT
 rw [find_own]
 simp only [Bool.and_eq_true,Bool.not_eq_true',decide_eq_false_iff_not,decide_eq_true_eq,List.any_eq_true]
 refine⟨hne,hid,r,hr,?_⟩
 unfold yV
 rw [hh,Bool.and_true,decide_eq_true_eq]
 exact hri
theorem signs_oth {n:Nat}{v:V n}{l:List yh}{id o:ByteArray}{k:zP}(h:id≠o):yT n v l [⟨id,k⟩] o=false:=by
 unfold yT
 rw [find_oth k h]
theorem rowQ_id (j:Nat) (m:List UInt8):(Y3 j m).id=idQ:=by unfold Y3 idQ;rfl
theorem Kh {l:List yh}(h:zW 1 vQ l=true) (hr:Y3 0 mQ ∈ l):yT 1 vQ l keysQ idQ=true:=
 signs_gen idQ_ne (by unfold idQ;rfl) hr (rowQ_id 0 mQ) (holds_ok h 0 (by decide))
theorem idQ_neO:idQ≠idO:=by unfold idQ idO;exact ids_differ
theorem signs_other (l:List yh):yT 1 vQ l keysQ idO=false:=signs_oth idQ_neO
theorem signs_none (l:List yh) (id:ByteArray):yT 1 vQ l [] id=false:=rfl
theorem role1:xo QX=true:=by
 have h:=Zc mayQ.1
 unfold xo
 simp only [Bool.and_eq_true,decide_eq_true_eq]
 refine⟨by decide,by decide,by decide,(Zn _ _).2 ⟨fun k hk=>⟨?_,by simp⟩,by simp [QX]⟩⟩
 rw [show k=idQ by simpa [QX] using hk]
 exact h
theorem role2:xo twoQ=true:=by
 have h:=Zc mayQ.1
 have h2:=Zc mayQ.2
 unfold xo
 simp only [Bool.and_eq_true,decide_eq_true_eq]
 refine⟨by decide,by decide,by decide,(Zn _ _).2 ⟨fun k hk=>⟨?_,by simp⟩,?_⟩⟩
 ·have hk2:k=idO∨k=idQ:=by simpa [twoQ] using hk
  rcases hk2 with rfl | rfl
  ·exact h2
  ·exact h
 ·simp only [twoQ,List.nodup_cons,List.mem_singleton,List.not_mem_nil,not_false_eq_true,List.nodup_nil,and_self,and_true]
  exact fun e=>idQ_neO e.symm
theorem valid1:zL 1 vQ l1Q QX keysQ=[idQ]:=by
 unfold zL
 rw [if_pos ⟨role1,env1⟩]
 simp [QX,Kh env1 (by simp [l1Q])]
theorem valid2 {l:List yh}(h:zW 1 vQ l=true) (hr:Y3 0 mQ ∈ l):zL 1 vQ l twoQ keysQ=[idQ]:=by
 unfold zL
 rw [if_pos ⟨role2,h⟩]
 simp [twoQ,Kh h hr,signs_other]
theorem valid0:zL 1 vQ l1Q QX []=[]:=by
 unfold zL
 rw [if_pos ⟨role1,env1⟩]
 simp [QX,signs_none]
theorem miss1:je QX 1=0:=by unfold je;rw [if_pos role1];rfl
theorem miss2:je twoQ 1=1:=by unfold je;rw [if_pos role2];rfl
theorem miss0:je QX 0=1:=by unfold je;rw [if_pos role1];rfl
theorem enough1:xF QX 1=0:=by unfold xF;rw [miss1];rfl
theorem enough2:xF twoQ 1=180:=by unfold xF;rw [miss2];rfl
theorem enough0:xF QX 0=180:=by unfold xF;rw [miss0];rfl
theorem list32 {α:Type}(r:List α) (h:r.length=32):∃ x0 x1 x2 x3 x4 x5 x6 x7 x8 x9 x10 x11 x12 x13 x14 x15 x16 x17 x18 x19 x20 x21 x22 x23 x24 x25 x26 x27 x28 x29 x30 x31:α,r=[x0,x1,x2,x3,x4,x5,x6,x7,x8,x9,x10,x11,x12,x13,x14,x15,x16,x17,x18,x19,x20,x21,x22,x23,x24,x25,x26,x27,x28,x29,x30,x31]:=by
 rcases r with _ | ⟨x0,r⟩
 ·simp at h
 rcases r with _ | ⟨x1,r⟩
 ·simp at h
 rcases r with _ | ⟨x2,r⟩
 ·simp at h
 rcases r with _ | ⟨x3,r⟩
 ·simp at h
 rcases r with _ | ⟨x4,r⟩
 ·simp at h
 rcases r with _ | ⟨x5,r⟩
 ·simp at h
 rcases r with _ | ⟨x6,r⟩
 ·simp at h
 rcases r with _ | ⟨x7,r⟩
 ·simp at h
 rcases r with _ | ⟨x8,r⟩
 ·simp at h
 rcases r with _ | ⟨x9,r⟩
 ·simp at h
 rcases r with _ | ⟨x10,r⟩
 ·simp at h
 rcases r with _ | ⟨x11,r⟩
 ·simp at h
 rcases r with _ | ⟨x12,r⟩
 ·simp at h
 rcases r with _ | ⟨x13,r⟩
 ·simp at h
 rcases r with _ | ⟨x14,r⟩
 ·simp at h
 rcases r with _ | ⟨x15,r⟩
 ·simp at h
 rcases r with _ | ⟨x16,r⟩
 ·simp at h
 rcases r with _ | ⟨x17,r⟩
 ·simp at h
 rcases r with _ | ⟨x18,r⟩
 ·simp at h
 rcases r with _ | ⟨x19,r⟩
 ·simp at h
 rcases r with _ | ⟨x20,r⟩
 ·simp at h
 rcases r with _ | ⟨x21,r⟩
 ·simp at h
 rcases r with _ | ⟨x22,r⟩
 ·simp at h
 rcases r with _ | ⟨x23,r⟩
 ·simp at h
 rcases r with _ | ⟨x24,r⟩
 ·simp at h
 rcases r with _ | ⟨x25,r⟩
 ·simp at h
 rcases r with _ | ⟨x26,r⟩
 ·simp at h
 rcases r with _ | ⟨x27,r⟩
 ·simp at h
 rcases r with _ | ⟨x28,r⟩
 ·simp at h
 rcases r with _ | ⟨x29,r⟩
 ·simp at h
 rcases r with _ | ⟨x30,r⟩
 ·simp at h
 rcases r with _ | ⟨x31,r⟩
 ·simp at h
 rcases r with _ | ⟨y,r⟩
 ·exact⟨x0,x1,x2,x3,x4,x5,x6,x7,x8,x9,x10,x11,x12,x13,x14,x15,x16,x17,x18,x19,x20,x21,x22,x23,x24,x25,x26,x27,x28,x29,x30,x31,rfl⟩
 ·simp at h
theorem built_row {id:ByteArray}{k:zP}(h:k.root.length=32):Tryz.prog.built 49 [(0,.string id),(1,.agg (yi k))]=some (qR id k).toArray:=by
 obtain⟨b,hh,r⟩:=k
 obtain⟨x0,x1,x2,x3,x4,x5,x6,x7,x8,x9,x10,x11,x12,x13,x14,x15,x16,x17,x18,x19,x20,x21,x22,x23,x24,x25,x26,x27,x28,x29,x30,x31,rfl⟩:=list32 r h
 kernel_rfl
theorem filled_row {id:ByteArray}{k:zP}(h:k.root.length=32) (z:Value):Instr.fill (fun i=>some (i * 35,35)) ((Array.range (1 * 35)).map (z.cells[· % z.cells.size]!)) [(0,.agg (qR id k).toArray)]=some (qR id k).toArray:=by
 have hs:(qR id k).toArray.size=35:=by simp [xO h]
 obtain⟨r,h1,h2,h3⟩:=Go.Great.fill_dense (s:=35) (by decide) [.agg (qR id k).toArray] 0 ((Array.range (1 * 35)).map (z.cells[· % z.cells.size]!)) (by intro v hv;simp only [List.mem_singleton] at hv;subst hv;exact hs) (by simp)
 refine h1.trans (congrArg some (Array.ext_getElem? fun i=>?_))
 rw [h3 i]
 by_cases hi:i < 35
 ·rw [if_pos (by simp;omega),show i / 35 - 0=0 by omega,show i % 35=i by omega]
  rfl
 ·rw [if_neg (by simp;omega),Array.getElem?_eq_none (by rw [Array.size_map,Array.size_range];omega),Array.getElem?_eq_none (by rw [hs];omega)]
theorem Qx {ops:Array Oper}{rest:List Oper}{op:Oper}{a:Act}{w:World}{Q:Exit→Act→World→Prop}(hgd:op.guard=none) (x y:Operand) (ho:op.op = .build 49 #[(0,x),(1,y)]) {id:ByteArray}{k:zP}(hl:k.root.length=32)
  (hx:a.eval x = .string id) (hy:a.eval y = .agg (yi k)) (h:wpList Tryz.prog ops Q rest (a.put op.dst (.agg (qR id k).toArray)) w):wpList Tryz.prog ops Q (op :: rest) a w:=by
 refine wpList_plain hgd fun K hK=>?_
 unfold Oper.wp execOp
 simp only [ho,Sem.run_bind,List.map_toArray,List.map_cons,List.map_nil,hx,hy]
 rw [run_build w _ _ (qR id k).toArray (built_row hl)]
 exact hK _ _ h
theorem QA {ops:Array Oper}{rest:List Oper}{op:Oper}{a:Act}{w:World}{Q:Exit→Act→World→Prop}(hgd:op.guard=none) (x:Operand) (ho:op.op = .buildSlice 32 1 #[(0,x)]) {id:ByteArray}{k:zP}(hl:k.root.length=32)
  (hx:a.eval x = .agg (qR id k).toArray) (h:wpList Tryz.prog ops Q rest (a.put op.dst (.slice (some ⟨w.heap.size,0,none⟩) 1 1)) (w.alloc (.cells (qR id k).toArray 49))):wpList Tryz.prog ops Q (op :: rest) a w:=by
 obtain⟨ie,hie⟩:∃ ie,Tryz.prog.info? 49=some ie:=Option.isSome_iff_exists.1 (by kernel_rfl)
 have hsz:ie.size=35:=by
  have:=info35
  rw [hie] at this
  simpa using this
 obtain⟨z,hz⟩:∃ z,ie.zero=some z:=by
  have h1:((Tryz.prog.info? 49).bind (·.zero)).isSome=true:=by kernel_rfl
  rw [hie] at h1
  exact Option.isSome_iff_exists.1 h1
 exact wpList_buildSlice hgd _ _ 1 #[(0,x)] ho (qR id k).toArray ie z underlying32 hie hz (by rw [hsz];decide) (by rw [hsz];decide) (by
  have h1:=filled_row (id:=id) hl z
  simp only [List.map_toArray,List.map_cons,List.map_nil,hx,hsz]
  exact h1) h
attribute [local go_sem] Oper.semAt_some
theorem noText_any (w:World) (id:ByteArray):Calls Tryz.prog 52 #[.slice none 0 0,.string id] w fun e w'=>e = .returned (.bool false)∧w=w':=by
 have CI:Calls Tryz.prog 94 #[.slice none 0 0,.string id] w fun e w'=>e = .returned (.int .i64 (-1))∧w=w':=by
  go_enter func94,ntmps94
  go_wp2_with fail
  go_loopw [8] (fun i wr=>i = .int .i64 0∧w=wr) (fun _ _=>0)
  case atStart=>exact⟨rfl,rfl⟩
  case round=>
   obtain⟨rfl,rfl⟩:=hrel
   go_wp2_with fail
   go_ret
   exact⟨rfl,rfl⟩
 go_enter func52,ntmps52
 go_wp2_with (go_at_call 94;refine CI.mono ?_;rintro e w' ⟨rfl,rfl⟩)
 go_ret
 exact⟨rfl,rfl⟩
set_option maxRecDepth 100000 in
theorem zay {n:Nat}{S:Nat→Prop}{w:World}{cs:List Value}{v:V n}{a:Option Addr}{c:Nat}{l:List yh}(h:Env n S w cs v a c l) (ht:ql w) (hks:xz w) {kr:xT}{a2:Option Addr}{c2:Nat}(hk:qo w (.slice a2 1 c2) [kr]) (hs:yT n v l [kr] kr.id=true) :
  Calls Tryz.prog 21 #[.agg (vt cs a l.length c).toArray,.slice a2 1 c2] w fun e w'=>(∃ q d,e = .returned (.slice q 1 d))∧zb [] w w':=by
 obtain⟨kd,nm,st,p1,i1,d1,p2,i2,d2,rfl⟩:=h.rep.conv
 obtain⟨W1,Gb⟩:∃ W1,Hid (W1=w.alloc (.cells #[.int .i64 kd,.int .i64 nm,.string st,.slice p1 i1 d1,.slice p2 i2 d2,.slice a l.length c] 28)):=⟨_,qI rfl⟩
 have Ga:Hid (zb [] w W1):=qI (by rw [Gb.o];exact (zb.refl _ w).alloc _)
 have Gf:Hid (W1.heap[w.heap.size]? = some (.cells #[.int .i64 kd,.int .i64 nm,.string st,.slice p1 i1 d1,.slice p2 i2 d2,.slice a l.length c] 28 (0,0))):=qI (by rw [Gb.o];exact zd rfl)
 have HE:=qI (h.kept0 Ga.o)
 have HT:=qI (ht.kept0 Ga.o)
 have Gl:=qI (hks.kept0 Ga.o)
 have Gg:=qI (hk.kept0 Ga.o)
 have CS:Hid (∀ w2,zb [] W1 w2→Calls Tryz.prog 29 #[.agg #[.int .i64 kd,.int .i64 nm,.string st,.slice p1 i1 d1,.slice p2 i2 d2,.slice a l.length c],.string kr.id,.slice a2 1 c2] w2 fun e w'=>e = .returned (.bool true)∧zb [] w2 w'):=qI (fun w2 hk2=>by
  have h1:=J0 (HE.o.kept0 hk2) (HT.o.kept0 hk2) (Gl.o.kept0 hk2) kr.id (keys:=[kr]) (Gg.o.kept0 hk2)
  rw [hs] at h1
  exact h1)
 obtain⟨g,o,rfl,-,hcell⟩:=qo.cells (l:=[kr]) Gg.o Nat.one_pos
 have Gi:Hid (W1.rangeAt g o (qR kr.id kr.key)):=qI (by have h9:=hcell 0 Nat.one_pos;rw [Nat.zero_mul,Nat.add_zero] at h9;exact h9)
 have Gj:Hid (kr.key.root.length=32):=qI (Gg.o.fine kr (by simp)).1
 have CN:=qI (fun w2=>noText_any w2 kr.id)
 clear h ht hks hk hs hcell HE HT Gl Gg
 generalize l.length=m at Gb Gf CS ⊢
 generalize kr.id=id at CS Gi CN
 generalize kr.key=key at Gi Gj
 have c0:=za (o:=0) Gf.o rfl
 have c1:=za (o:=1) Gf.o rfl
 have c2':=za (o:=2) Gf.o rfl
 have c3:=za (o:=3) Gf.o rfl
 have c4:=za (o:=4) Gf.o rfl
 have c5:=za (o:=5) Gf.o rfl
 have Gp:Hid (yg.root.length=32):=qI (by rfl)
 show Calls _ _ #[.agg #[.int .i64 kd,.int .i64 nm,.string st,.slice p1 i1 d1,.slice p2 i2 d2,.slice a m c],.slice (some ⟨g,o,none⟩) 1 c2] _ _
 go_enter func21,ntmps21
 go_upto_region 1 with fail
 change Code.wp _ _ _ _ (w.alloc (.cells #[.int .i64 kd,.int .i64 nm,.string st,.slice p1 i1 d1,.slice p2 i2 d2,.slice a m c] 28))
 rw [← Gb.o]
 go_wp2_with fail
 go_loopw [5,10] (fun t5 i wr=>(i = .int .i64 0∧t5 = .slice none 0 0∧W1=wr)∨(i = .int .i64 1∧∃ q d,t5 = .slice q 1 d∧Hid (zb [] W1 wr))) (fun _ i _=>1 - (intOf i).toNat)
 case atStart=>exact .inl ⟨rfl,rfl,rfl⟩
 case round=>
  rcases hrel with ⟨rfl,rfl,rfl⟩ | ⟨rfl,q,d,rfl,Gq⟩
  ·go_upto_region 5 with first
    | (refine JR (by rfl) _ rfl Gi.o Gj.o (by rfl) ?_)
    | (refine KH (by rfl) (.tmp 7) (.tmp 13) (by rfl) (g:=W1.heap.size) (id:=id) (id0:=⟨#[]⟩) (k:=key) (k0:=yg) (zd rfl) Gp.o Gj.o (by rfl) (by rfl) ?_;intro w4 h4 hk4;have Gm:=qI h4;have Gc:Hid (zb [] W1 w4):=qI (((zb.refl [] W1).alloc _).trans hk4 (by intro i hi;simp at hi;subst hi;exact .inr (Nat.le_refl _)));clear h4 hk4;simp only [Act.put])
   have y0:=Gc.o.cell c0 (by simp)
   have y1:=Gc.o.cell c1 (by simp)
   have y2:=Gc.o.cell c2' (by simp)
   have y3:=Gc.o.cell c3 (by simp)
   have y4:=Gc.o.cell c4 (by simp)
   have y5:=Gc.o.cell c5 (by simp)
   have z0:=Gm.o.c0
   clear c0 c1 c2' c3 c4 c5
   go_upto_region 6 with first
    | (go_at_call 52;refine (CN.o _).mono ?_;rintro e w' ⟨rfl,rfl⟩)
    | (go_at_call 29;refine (CS.o _ Gc.o).mono ?_;rintro e w5 ⟨rfl,hk5⟩;have Gr:=qI hk5;have z1:=(Gm.o.kept0 hk5).c0;clear hk5 y0 y1 y2 y3 y4 y5 z0)
   go_wp2_with (at_builtin;refine zj tyTexts (base:=w5.heap.size) (v:=.slice none 0 0) (n:=0) (m:=1) (news:=[.string id]) (xs:=[]) (World.ownsRow_nil _ _ _ _) (zV w5 [.string id] 1 1 _ _ rfl rfl (by decide)) (by simp [Value.oneCell']) (by decide) (by decide) (by simp) (by rfl) _ _ rfl rfl rfl ?_;intro v6 w6 hown hk6 _ _;obtain⟨a6,c6,rfl,-,-⟩:=(Slc.of_row hown).form;have Gs:=qI (((zb.refl [] w5).alloc (.cells #[.string id] 9)).trans hk6 (by intro b hb;simp [Value.ownBlock] at hb));clear hown hk6)
   case roundEnd=>exact⟨.inr ⟨by go_num,a6,c6,rfl,qI (Gc.o.then (Gr.o.then Gs.o))⟩,by simp [intOf]⟩
  ·go_wp2_with fail
   go_ret
   exact⟨⟨q,d,rfl⟩,Ga.o.then Gq.o⟩
def bothZ (x y:Int):Int:=if x=0 then y else x
theorem both_any {n:Nat}{S:Nat→Prop}{w:World}{cs:List Value}{v:V n}{a:Option Addr}{c:Nat}{l:List yh}(h:Env n S w cs v a c l) (ht:ql w) (hks:xz w) {r:kf}{ra:Option Addr}{rc:Nat}(hr:jA w ra rc r) {q:kf}{qa:Option Addr}{qc:Nat}(hq:jA w qa qc q)
  {a2:Option Addr}{c2:Nat}{keys:List xT}(hk:qo w (.slice a2 keys.length c2) keys) {a3:Option Addr}{c3:Nat}{under:List xT}(hu:qo w (.slice a3 under.length c3) under) :
  Calls Tryz.prog 10 #[.agg (vt cs a l.length c).toArray,.agg #[.slice ra r.keys.length rc,.int .i64 r.thr],.agg #[.slice qa q.keys.length qc,.int .i64 q.thr],.slice a2 keys.length c2,.slice a3 under.length c3] w fun e w'=>e = .returned (.int .i64 (bothZ (xF r (zL n v l r keys).length) (xF q (zL n v l q under).length)))∧zb [] w w':=by
 obtain⟨kd,nm,st,p1,i1,d1,p2,i2,d2,rfl⟩:=h.rep.conv
 obtain⟨W1,Gb⟩:∃ W1,Hid (W1=((w.alloc (.cells #[.int .i64 kd,.int .i64 nm,.string st,.slice p1 i1 d1,.slice p2 i2 d2,.slice a l.length c] 28)).alloc (.cells #[.slice ra r.keys.length rc,.int .i64 r.thr] 31)).alloc (.cells #[.slice qa q.keys.length qc,.int .i64 q.thr] 31)):=⟨_,qI rfl⟩
 have Ga:Hid (zb [] w W1):=qI (by rw [Gb.o];exact (((zb.refl _ w).alloc _).alloc _).alloc _)
 have Gd:Hid (W1.heap[w.heap.size]? = some (.cells #[.int .i64 kd,.int .i64 nm,.string st,.slice p1 i1 d1,.slice p2 i2 d2,.slice a l.length c] 28 (0,0))):=qI (by rw [Gb.o];exact (((zb.refl [] _).alloc _).alloc _).heap (zd rfl) (by simp))
 have Gh:Hid (W1.heap[w.heap.size + 1]? = some (.cells #[.slice ra r.keys.length rc,.int .i64 r.thr] 31 (0,0))):=qI (by rw [Gb.o];exact ((zb.refl [] _).alloc _).heap (zd (by simp)) (by simp))
 have Gk:Hid (W1.heap[w.heap.size + 2]? = some (.cells #[.slice qa q.keys.length qc,.int .i64 q.thr] 31 (0,0))):=qI (by rw [Gb.o];exact zd (by simp))
 have CA:Hid (Calls Tryz.prog 15 #[.agg #[.int .i64 kd,.int .i64 nm,.string st,.slice p1 i1 d1,.slice p2 i2 d2,.slice a l.length c],.agg #[.slice ra r.keys.length rc,.int .i64 r.thr],.slice a2 keys.length c2] W1 fun e w'=>e = .returned (.int .i64 (xF r (zL n v l r keys).length))∧zb [] W1 w'):=qI (by
  have h1:=jG (h.kept0 Ga.o) (ht.kept0 Ga.o) (hks.kept0 Ga.o) (hr.kept0 Ga.o) (hk.kept0 Ga.o)
  exact h1)
 have CB:Hid (∀ w2,zb [] W1 w2→Calls Tryz.prog 15 #[.agg #[.int .i64 kd,.int .i64 nm,.string st,.slice p1 i1 d1,.slice p2 i2 d2,.slice a l.length c],.agg #[.slice qa q.keys.length qc,.int .i64 q.thr],.slice a3 under.length c3] w2 fun e w'=>e = .returned (.int .i64 (xF q (zL n v l q under).length))∧zb [] w2 w'):=qI (fun w2 hk2=>by
  have h1:=jG ((h.kept0 Ga.o).kept0 hk2) ((ht.kept0 Ga.o).kept0 hk2) ((hks.kept0 Ga.o).kept0 hk2) ((hq.kept0 Ga.o).kept0 hk2) ((hu.kept0 Ga.o).kept0 hk2)
  exact h1)
 clear h ht hks hr hq hk hu
 generalize xF r (zL n v l r keys).length=x at CA ⊢
 generalize xF q (zL n v l q under).length=y at CB ⊢
 have HZ:Hid (bothZ x y=if x=0 then y else x):=qI rfl
 generalize bothZ x y=res at HZ ⊢
 generalize l.length=m at Gb Gd CA CB ⊢
 generalize keys.length=kn at CA ⊢
 generalize under.length=un at CB ⊢
 generalize r.keys.length=rn at Gb Gh CA ⊢
 generalize r.thr=th at Gb Gh CA ⊢
 generalize q.keys.length=qn at Gb Gk CB ⊢
 generalize q.thr=tq at Gb Gk CB ⊢
 have c0:=za (o:=0) Gd.o rfl
 have c1:=za (o:=1) Gd.o rfl
 have c2':=za (o:=2) Gd.o rfl
 have c3':=za (o:=3) Gd.o rfl
 have c4:=za (o:=4) Gd.o rfl
 have c5:=za (o:=5) Gd.o rfl
 have r0:=za (o:=0) Gh.o rfl
 have r1:=za (o:=1) Gh.o rfl
 show Calls _ _ #[.agg #[.int .i64 kd,.int .i64 nm,.string st,.slice p1 i1 d1,.slice p2 i2 d2,.slice a m c],.agg #[.slice ra rn rc,.int .i64 th],.agg #[.slice qa qn qc,.int .i64 tq],.slice a2 kn c2,.slice a3 un c3] _ _
 by_cases hx:x=0
 ·have HR:Hid (res=y):=qI (by rw [HZ.o,if_pos hx])
  obtain⟨f1,f2⟩:=xt hx
  clear HZ hx
  go_enter func10,ntmps10
  go_upto_region 1 with fail
  change Code.wp _ _ _ _ (((w.alloc (.cells #[.int .i64 kd,.int .i64 nm,.string st,.slice p1 i1 d1,.slice p2 i2 d2,.slice a m c] 28)).alloc (.cells #[.slice ra rn rc,.int .i64 th] 31)).alloc (.cells #[.slice qa qn qc,.int .i64 tq] 31))
  rw [← Gb.o]
  go_upto_region 2 with (go_at_call 15;refine CA.o.mono ?_;rintro e w2 ⟨rfl,hk2⟩;have Ge:=qI hk2;clear hk2 c0 c1 c2' c3' c4 c5 r0 r1)
  have hB1:=Ge.o.heap Gd.o (by simp)
  have hB3:=Ge.o.heap Gk.o (by simp)
  have y0:=za (o:=0) hB1 rfl
  have y1:=za (o:=1) hB1 rfl
  have y2:=za (o:=2) hB1 rfl
  have y3:=za (o:=3) hB1 rfl
  have y4:=za (o:=4) hB1 rfl
  have y5:=za (o:=5) hB1 rfl
  have z0:=za (o:=0) hB3 rfl
  have z1:=za (o:=1) hB3 rfl
  clear hB1 hB3
  go_wp2_with (go_at_call 15;refine (CB.o _ Ge.o).mono ?_;rintro e w3 ⟨rfl,hk3⟩;have Gt:=qI hk3;clear hk3)
  go_ret
  rw [HR.o]
  exact⟨rfl,Ga.o.then (Ge.o.then Gt.o)⟩
 ·have HR:Hid (res=x):=qI (by rw [HZ.o,if_neg hx])
  obtain⟨f1,f2⟩:=yx hx
  clear HZ hx
  go_enter func10,ntmps10
  go_upto_region 1 with fail
  change Code.wp _ _ _ _ (((w.alloc (.cells #[.int .i64 kd,.int .i64 nm,.string st,.slice p1 i1 d1,.slice p2 i2 d2,.slice a m c] 28)).alloc (.cells #[.slice ra rn rc,.int .i64 th] 31)).alloc (.cells #[.slice qa qn qc,.int .i64 tq] 31))
  rw [← Gb.o]
  go_wp2_with (go_at_call 15;refine CA.o.mono ?_;rintro e w2 ⟨rfl,hk2⟩;have Ge:=qI hk2;clear hk2)
  go_ret
  rw [HR.o]
  exact⟨rfl,Ga.o.then Ge.o⟩
theorem or_comm32 (x y:Int):bits .or .u32 x y=bits .or .u32 y x:=by
 unfold bits
 simp only [BitVec.or_comm]
theorem JK {P:Program}{ops:Array Oper}{rest:List Oper}{op:Oper}{a:Act}{w:World}{Q:Exit→Act→World→Prop}(hgd:op.guard=none) {t:TypeId}{parts:Array (Nat × Operand)}(ho:op.op = .build t parts) (cells:Array Value)
  (hb:P.built t (parts.map fun p=>(p.1,a.eval p.2)).toList=some cells) (h:wpList P ops Q rest (a.put op.dst (.agg cells)) w):wpList P ops Q (op :: rest) a w:=by
 refine wpList_plain hgd fun K hK=>?_
 unfold Oper.wp execOp
 simp only [ho,Sem.run_bind]
 rw [run_build w t _ cells hb]
 exact hK _ _ h
theorem qJ (x:Int) (k up down:Int) (h:xP k up down) (w:World) :
  Calls Tryz.prog 120 #[.int .u32 x,.int .u64 k] w fun e w'=>e = .returned (.int .u32 (yj up down x))∧w=w':=by
 have HC:Hid (yj up down x=bits .or .u32 (x / down) (x * up % 4294967296)):=qI (or_comm32 _ _)
 unfold xP at h
 rcases h with ⟨rfl,rfl,rfl⟩ | ⟨rfl,rfl,rfl⟩ | ⟨rfl,rfl,rfl⟩ | ⟨rfl,rfl,rfl⟩ | ⟨rfl,rfl,rfl⟩ | ⟨rfl,rfl,rfl⟩ | ⟨rfl,rfl,rfl⟩ | ⟨rfl,rfl,rfl⟩ | ⟨rfl,rfl,rfl⟩ | ⟨rfl,rfl,rfl⟩
 all_goals
  go_enter func120,ntmps120
  go_wp2_with fail
  go_ret
  exact⟨by rw [HC.o];rfl,rfl⟩
theorem first_any (w:World):Calls Tryz.prog 87 #[] w fun e w'=>e = .returned (.agg #[.int .u32 zw.a,.int .u32 zw.b,.int .u32 zw.c,.int .u32 zw.d,.int .u32 zw.e,.int .u32 zw.f,.int .u32 zw.g,.int .u32 zw.h])∧zb [] w w':=by
 go_enter func87,ntmps87
 go_wp2_with fail
 exact bodyPost_ret (v:=.agg #[.int .u32 zw.a,.int .u32 zw.b,.int .u32 zw.c,.int .u32 zw.d,.int .u32 zw.e,.int .u32 zw.f,.int .u32 zw.g,.int .u32 zw.h]) (by simp [results,results87,go_sem,zw]) rfl ⟨rfl,(zb.refl _ _).alloc _⟩
set_option maxRecDepth 100000 in
theorem round_any (t:Nat) (ht:t < 64) (w:World):Calls Tryz.prog 121 #[.int .i64 t] w fun e w'=>e = .returned (.int .u32 (KS.getD t 0))∧zb [] w w':=by
 have HT:=qI ht
 have htI:(t:Int) < 64:=by omega
 clear ht
 go_enter func121,ntmps121
 obtain⟨CC,hCC⟩:∃ CC,CC=(zO KS 0).toArray:=⟨_,rfl⟩
 have hsz:CC.size=64:=by rw [hCC];rfl
 have hi2:((Tryz.prog).info? 169).map (·.size)=some CC.size:=by rw [hsz];kernel_rfl
 have hth:(w.alloc (.cells (zO [] 64).toArray 169)).there w.heap.size 0 CC.size:=by have h:=Qc w;rwa [hsz]
 have hone:CC.all (·.oneCell')=true:=by rw [hCC];kernel_rfl
 go_upto_region 1 with fail
 refine wp_region_list ?_
 change wpList _ _ _ [_,_,_] _ _
 refine JK (by rfl) (by rfl) CC (by rw [hCC];kernel_rfl) ?_
 have Gu:=qI hCC
 clear hCC hsz
 try simp only [zA,zN,zB,zC,zD]
 go_upto_region 2 with (refine wpList_store_mid (by rfl) 169 (.tmp 3) (.tmp 4) (by rfl) w.heap.size 0 CC (by rfl) (by rfl) hth hi2 hone ?_)
 try simp only [zA,zN,zB,zC,zD]
 have hra:((w.alloc (.cells (zO [] 64).toArray 169)).setCells w.heap.size 0 CC.toList).rangeAt w.heap.size 0 CC.toList:=World.rangeAt_setCells_same _ _ _ _ (by simpa using hth)
 have hk2:zb [] w ((w.alloc (.cells (zO [] 64).toArray 169)).setCells w.heap.size 0 CC.toList):=jz (((zb.refl [w.heap.size] w).alloc _).trans' (z7 _ _ _ _)) (by simp)
 change Code.wp _ _ _ _ ((w.alloc (.cells (zO [] 64).toArray 169)).setCells w.heap.size 0 CC.toList)
 revert hra hk2
 generalize (w.alloc (.cells (zO [] 64).toArray 169)).setCells w.heap.size 0 CC.toList=W2
 intro hra hk2
 have c0:W2.cell? ⟨w.heap.size,t,none⟩=some (.int .u32 (KS.getD t 0)):=by
  have h9:=hra t (.int .u32 (KS.getD t 0)) (by rw [Gu.o,List.toList_toArray];exact Zk KS 0 t (by rw [ks_len];exact HT.o))
  rwa [Nat.zero_add] at h9
 have Ge:=qI hk2
 clear hra hk2 hth hi2 hone
 obtain⟨kt,Gn⟩:∃ kt,Hid (kt=KS.getD t 0):=⟨_,qI rfl⟩
 rw [← Gn.o] at c0
 go_wp2_with fail
 go_ret
 exact⟨by rw [← Gn.o];rfl,Ge.o⟩
end Go.Proofs.YtibnfbglanpoiaaGreatDoor

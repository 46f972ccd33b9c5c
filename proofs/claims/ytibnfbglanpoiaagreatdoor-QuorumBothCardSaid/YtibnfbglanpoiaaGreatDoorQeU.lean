/- Parts of one proof, merged: XGK. -/
import Derived.Test.YtibnfbglanpoiaaGreatDoorQeM
set_option linter.all false
set_option maxHeartbeats 12800000
set_option maxRecDepth 100000
namespace Go.Proofs.YtibnfbglanpoiaaGreatDoor
open Go.Proofs.Tryz
open Go.RowKit
theorem or_comm32 (x y:Int):bits .or .u32 x y=bits .or .u32 y x:=by
 unfold bits
 simp only [BitVec.or_comm]
theorem wpList_buildK {P:Program}{ops:Array Oper}{rest:List Oper}{op:Oper}{a:Act}{w:World}{Q:Exit→Act→World→Prop}(hgd:op.guard=none) {t:TypeId}{parts:Array (Nat×Operand)}(ho:op.op = .build t parts) (cells:Array Value)
  (hb:P.built t (parts.map fun p=>(p.1,a.eval p.2)).toList=some cells) (h:wpList P ops Q rest (a.put op.dst (.agg cells)) w):wpList P ops Q (op::rest) a w:=by
 refine wpList_plain hgd fun K hK=>?_
 unfold Oper.wp execOp
 simp only [ho,Sem.run_bind]
 rw [run_build w t _ cells hb]
 exact hK _ _ h
theorem kg (x:Int) (k up down:Int) (h:qi k up down) (w:World) :
  Calls Tryz.prog 120 #[.int .u32 x,.int .u64 k] w fun e w'=>e = .returned (.int .u32 (yy up down x))∧w=w':=by
 have HC:Hid (yy up down x=bits .or .u32 (x/down) (x*up%4294967296)):=qI (or_comm32 _ _)
 unfold qi at h
 rcases h with ⟨rfl,rfl,rfl⟩ | ⟨rfl,rfl,rfl⟩ | ⟨rfl,rfl,rfl⟩ | ⟨rfl,rfl,rfl⟩ | ⟨rfl,rfl,rfl⟩ | ⟨rfl,rfl,rfl⟩ | ⟨rfl,rfl,rfl⟩ | ⟨rfl,rfl,rfl⟩ | ⟨rfl,rfl,rfl⟩ | ⟨rfl,rfl,rfl⟩
 all_goals
  go_enter func120,ntmps120
  go_wp2_with fail
  go_ret
  exact⟨by rw [HC.o];rfl,rfl⟩
theorem first_any (w:World):CL w 87 #[] (.agg #[.int .u32 zu.a,.int .u32 zu.b,.int .u32 zu.c,.int .u32 zu.d,.int .u32 zu.e,.int .u32 zu.f,.int .u32 zu.g,.int .u32 zu.h]):=by
 go_enter func87,ntmps87
 go_wp2_with fail
 exact bodyPost_ret (v:=.agg #[.int .u32 zu.a,.int .u32 zu.b,.int .u32 zu.c,.int .u32 zu.d,.int .u32 zu.e,.int .u32 zu.f,.int .u32 zu.g,.int .u32 zu.h]) (by simp [results,results87,go_sem,zu]) rfl ⟨rfl,Wd.alloc _⟩
theorem round_any (t:Nat) (ht:t<64) (w:World):CL w 121 #[.int .i64 t] (.int .u32 (KS.getD t 0)):=by
 have HT:=qI ht
 have htI:(t:Int)<64:=Ws
 clear ht
 go_enter func121,ntmps121
 obtain⟨CC,hCC⟩:∃ CC,CC=(yg KS 0).toArray:=⟨_,rfl⟩
 have hsz:CC.size=64:=by rw [hCC];rfl
 have hi2:((Tryz.prog).info? 169).map (·.size)=some CC.size:=by rw [hsz];kernel_rfl
 have hth:(w.alloc (.cells (yg [] 64).toArray 169)).there w.heap.size 0 CC.size:=by have h:=QZ w;rwa [hsz]
 have hone:CC.all (·.oneCell')=true:=by rw [hCC];kernel_rfl
 go_upto_region 1 with fail
 refine wp_region_list ?_
 change wpList _ _ _ [_,_,_] _ _
 refine wpList_buildK Wk Wk CC (by rw [hCC];kernel_rfl) ?_
 have Gb:=qI hCC
 clear hCC hsz
 try simp only [zA,zN,zB,zC,zD]
 go_upto_region 2 with (refine wpList_store_mid Wk 169 (.tmp 3) (.tmp 4) Wk w.heap.size 0 CC Wk Wk hth hi2 hone ?_)
 try simp only [zA,zN,zB,zC,zD]
 have hra:((w.alloc (.cells (yg [] 64).toArray 169)).setCells w.heap.size 0 CC.toList).rangeAt w.heap.size 0 CC.toList:=World.rangeAt_setCells_same _ _ _ _ (by simpa using hth)
 have hk2:zb [] w ((w.alloc (.cells (yg [] 64).toArray 169)).setCells w.heap.size 0 CC.toList):=vt (((zb.refl [w.heap.size] w).alloc _).trans' (yo _ _ _ _)) Wz
 change Code.wp _ _ _ _ ((w.alloc (.cells (yg [] 64).toArray 169)).setCells w.heap.size 0 CC.toList)
 revert hra hk2
 generalize (w.alloc (.cells (yg [] 64).toArray 169)).setCells w.heap.size 0 CC.toList=W2
 intro hra hk2
 have c0:W2.cell? ⟨w.heap.size,t,none⟩=some (.int .u32 (KS.getD t 0)):=by
  have h9:=hra t (.int .u32 (KS.getD t 0)) (by rw [Gb.o,List.toList_toArray];exact ZR KS 0 t (by rw [ks_len];exact HT.o))
  rwa [Nat.zero_add] at h9
 have Gc:=qI hk2
 clear hra hk2 hth hi2 hone
 obtain⟨kt,Ga⟩:∃ kt,Hid (kt=KS.getD t 0):=⟨_,qI rfl⟩
 rw [← Ga.o] at c0
 go_wp2_with fail
 go_ret
 exact⟨by rw [← Ga.o];rfl,Gc.o⟩
end Go.Proofs.YtibnfbglanpoiaaGreatDoor

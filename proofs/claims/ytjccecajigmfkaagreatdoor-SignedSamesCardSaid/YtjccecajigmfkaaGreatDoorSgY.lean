/- Parts of one proof, merged: XCK XCL XCM XCN XCP XCQ XCR. -/
import Derived.Test.YtjccecajigmfkaaGreatDoorSgX
import Derived.Laws.BitsAllLaws
import Derived.Deep.QuietTactic
import Derived.RangeFuncLeaves
import Derived.Shelf.Abstract
import Derived.TacticsInMore
import Derived.LoopNIn
import Derived.LoopIn
set_option linter.all false
set_option maxHeartbeats 12800000
set_option maxRecDepth 100000
namespace Go.Proofs.YtjccecajigmfkaaGreatDoor
open Go.Proofs.Tryz
open Go.RowKit
variable {Bn Bs N:Nat}{W W':World}{a:Option Addr}{b i k:Nat}{l:List UInt8}{lf:Int}{m:List UInt8}{n off p:Nat}{ps:List (List UInt8)}{w w':World}{x:List UInt8}
theorem node_any (w:World)(l r:List UInt8)(F:l.length=32)(B:r.length=32)(h:qK w) : zJ w 164 #[.agg (l.map bv).toArray,.agg (r.map bv).toArray] (.agg ((j8 l r).map bv).toArray):=by
 obtain⟨p,j⟩:=XE (((w.alloc (.cells (l.map bv).toArray 49)).alloc (.cells (r.map bv).toArray 49)).alloc (.cells z32 49));have y:Hid (zb [] w p):=qI (kA3 j.o);have z:Hid (yy p w.heap.size l):=qI (by rw [j.o];exact (((zb.refl [] _).alloc _).alloc _).heap (ze rfl) Wz);have A:Hid (yy p (w.heap.size+1) r):=qI (by rw [j.o];exact ((zb.refl [] _).alloc _).heap (ze Wz) Wz);have O:Hid (yy p (w.heap.size+2) (qS ya 0)):=qI (by rw [j.o];exact ze Wz);have G:Hid (∀ w2,zb [] p w2→∀ f,Slc w2 1 (.slice (some ⟨f,0,none⟩) 2 2) 2 [.slice (some ⟨w.heap.size,0,none⟩) 32 32,.slice (some ⟨w.heap.size+1,0,none⟩) 32 32]→Calls prog 135 #[.string ⟨#[109,101,114,107,108,101,32,110,111,100,101]⟩,.slice (some ⟨f,0,none⟩) 2 2] w2 fun e w'=>e = .returned (.agg ((j8 l r).map bv).toArray)∧zb [] w2 w'):=qI (fun w2 k f d=>by
  have t:zp w2 (.slice (some ⟨w.heap.size,0,none⟩) 32 32) l:=⟨Wz,.inr (.inr ⟨_,0,32,by rw [F],Ws,Wo,⟨(z.o.k0 k).range,(z.o.k0 k).lt⟩⟩)⟩;have u:zp w2 (.slice (some ⟨w.heap.size+1,0,none⟩) 32 32) r:=⟨Wz,.inr (.inr ⟨_,0,32,by rw [B],Ws,Wo,⟨(A.o.k0 k).range,(A.o.k0 k).lt⟩⟩)⟩;exact zaH ⟨#[109,101,114,107,108,101,32,110,111,100,101]⟩ w2 (some ⟨f,0,none⟩) 2 [.slice (some ⟨w.heap.size,0,none⟩) 32 32,.slice (some ⟨w.heap.size+1,0,none⟩) 32 32] [l,r] d (zM.cons (R:=zp _) t (zM.cons (R:=zp _) u (zM.nil _))) (fun x C=>by
   simp only [List.mem_cons,List.not_mem_nil,or_false] at C;rcases C with rfl | rfl <;> omega) Wo (Nat.le_of_ble_eq_true rfl) ((h.k0 y.o).k0 k))
 have E:Hid ((j8 l r).length=32):=qI (Qs l r);clear F B h;go_enter func164,ntmps164;go_upto_region 1 with fail;refine xg j.o ?_
 refine yz (n:=9) 4 [fI (.slice (some ⟨w.heap.size,0,none⟩) 32 32),
  fI (.slice (some ⟨w.heap.size+1,0,none⟩) 32 32),
  kP [.slice (some ⟨w.heap.size,0,none⟩) 32 32,.slice (some ⟨w.heap.size+1,0,none⟩) 32 32] 2 1,
  fI (.agg ((j8 l r).map bv).toArray)] Wr rfl Wr (fun x=>qm) ?_ ?_
 ·refine⟨?_,?_,?_,?_,trivial⟩ <;> intro x w2 a b hd;·exact zi
  ·exact zi
  ·have W:x 0=_:=hd 0 Wr;have Q:x 1=_:=hd 1 Wr;go_wp2;exact⟨⟨w2.heap.size,rfl,XA,Wz,yv w2 [.slice (some ⟨w.heap.size,0,none⟩) 32 32,.slice (some ⟨w.heap.size+1,0,none⟩) 32 32] 1 2 _ _ rfl rfl Wo⟩,Wd.alloc _⟩
  ·obtain⟨f,P,-,-,d⟩:=hd 2 Wr;have L:=G.o w2 a f d;clear d;go_wp2_with (go_at_call 135;refine L.mh ?_;rintro e M rfl I);exact⟨rfl,I.o⟩
 ·intro x X a U hd q;have J:x 3=_:=hd 3 Wo;have N:=qI a;have H:=qI (O.o.k0 a);clear hd q a;change wpList _ _ _ [_] _ _;refine zL Wk (.tmp 4) (.tmp 8) Wk H.o (yu _ _) E.o Wk J ?_;intro M K s;refine wpList_nil ?_;go_wp2_with fail;have m:=K.var E.o;refine bodyPost_ret (v:=.agg ((j8 l r).map bv).toArray) (by simp only [results,results164];simp [m,Sem.run_bind,asAddr,Act.put]) rfl ⟨rfl,?_⟩;exact (y.o.then N.o).trans s (by intro i D;simp at D;subst D;exact .inr Ws)
theorem climb_any (hx:x.length=32)(i:Nat)(b:i≤1073741824){way:List (List UInt8)}(I:yT way){c:Nat}(hn:way.length=n)(af:n≤6)(X:Slc w 32 (.slice a n c) n (way.flatten.map bv))(C:qK w) : Calls prog 112 #[.agg (x.map bv).toArray,.int .i64 i,.slice a n c] w fun e w'=>((i<2 ^ n∧e = .returned (.tuple #[.agg ((jW x i way).map bv).toArray,.int .i64 0]))∨(¬ i<2 ^ n∧e = .returned (.tuple #[.agg z32,.int .i64 1])))∧zb [] w w':=by
 obtain⟨U,G⟩:=XE ((w.alloc (.cells (x.map bv).toArray 49)).alloc (.cells z32 49));have O:Hid (zb [] w U):=qI (kA2 G.o);have Jm:Hid (yy U w.heap.size x):=qI (by rw [G.o];exact ((zb.refl [] _).alloc _).heap (ze rfl) Wz);have Jg:Hid (yy U (w.heap.size+1) (qS ya 0)):=qI (by rw [G.o];exact ze Wz);have Ja:=qI (X.k0 O.o);have Mm:Hid (∀ g,yx (.slice a n c)=some g→g<w.heap.size):=qI (fun g h=>X.lt h);have Mb:=qI (C.k0 O.o);have Mc:Hid (0 ∉ [w.heap.size]):=qI (by have:=KG C;simp;omega);have ah:(i:Int)≤1073741824:=Ws;have ai:(n:Int)≤6:=Ws;have N:=qI I;have HN:=qI hn;have Y:wrap64 ((2:Int) ^ n)=(2:Int) ^ n:=by have:n=0∨n=1∨n=2∨n=3∨n=4∨n=5∨n=6:=Ws;rcases this with rfl | rfl | rfl | rfl | rfl | rfl | rfl <;> decide +kernel
 have Gy:=qI hx;clear I hn X C hx;have aa:decide ((6:Int)<(n:Int))=false:=decide_eq_false Ws;have Mn:=O;rcases Nat.lt_or_ge i (2 ^ n) with hlt | hlt
 rotate_left;·have J:decide ((2:Int) ^ n≤(i:Int))=true:=decide_eq_true (by exact_mod_cast hlt);go_enter func112,ntmps112;go_upto_region 1 with fail;refine xg G.o ?_;go_wp2_with (refine zL Wk (.tmp 6) (.tmp 24) Wk (l:=List.replicate 32 0) Jg.o (yu _ _) Wk Wk Wk ?_;intro Z Q d;have H5:=qI Q;have p:=qI d;clear Q d);have f:=H5.o.var Wk;refine bodyPost_ret (v:=.tuple #[.agg z32,.int .i64 1]) (by simp only [results,results112];simp [f,Sem.run_bind,asAddr,Act.put];rfl) rfl ⟨.inr ⟨Ws,rfl⟩,?_⟩;exact O.o.trans p.o (by intro i b;simp at b;subst b;exact .inr Ws)
 have J:decide ((2:Int) ^ n≤(i:Int))=false:=by
  have h1:(i:Int)<(2:Int) ^ n:=by exact_mod_cast hlt
  exact decide_eq_false (Int.not_le.2 h1)
 have Gp:=qI hlt;have Mo:=qI b;clear b hlt;go_enter func112,ntmps112;go_upto_region 1 with fail;refine xg G.o ?_;go_wp2_with fail;go_loopw [1,9,27] (fun iv _ u wr=>∃ (k j:Nat) (y:List UInt8),iv = .int .i64 j∧u = .int .i64 k∧k≤n∧j≤1073741824∧y.length=32∧yy wr w.heap.size y∧jW x i way=jW y j (way.drop k)∧zb [w.heap.size] U wr) (fun _ _ u _=>n-(intOf u).toNat);case atStart=>exact⟨0,i,x,rfl,rfl,XB,Mo.o,Gy.o,Jm.o,rfl,Wd⟩
 case round=>
  obtain⟨k,j,y,rfl,rfl,hk,hj,hy,t,L,R⟩:=hrel;have q:=qI hy;have K:=qI t;have Md:=qI L;have D:=qI R;have HJ:=qI hj;have ag:(j:Int)≤1073741824:=Ws;clear hy t L R hj aa J Y;rcases Nat.lt_or_ge k n with hlt | hlt
  ·have ae:(k:Int)<n:=by omega
   obtain⟨g,o,rfl,-,r⟩:=jC Ja.o Ws;have B:k<way.length:=by rw [HN.o];exact hlt
   have Gi:Hid (w.heap.size≠g):=qI (fun e=>by have h1:=Mm.o g (ZK Ws);omega);have Gz:Hid (wr.rangeAt g (o+k*32) (way[k].map bv)):=qI (row32 (r.kept D.o (by simp;exact fun e=>Gi.o e.symm)) N.o k B);have A:Hid (way[k].length=32):=qI (N.o _ (List.getElem_mem _));have E:Hid (jW x i way=jW (if j%2=0 then j8 y way[k] else j8 way[k] y) (j/2) (way.drop (k+1))):=qI (by
    rw [Md.o,List.drop_eq_getElem_cons B];rfl)
   generalize way[k]=z at Gz A E;have W:=qI hlt;clear B hlt r;go_upto_region 6 with first
    | (refine yC Wk _ rfl (g:=g) (of:=o+k*32) Gz.o A.o Wk ?_)
    | (refine zL Wk (.tmp 9) (.tmp 30) Wk (g:=wr.heap.size) (l0:=qS ya 0) (ze rfl) (yu _ _) A.o Wk Wk ?_;intro M h4 P;have Me:=qI h4;have s:Hid (zb [] wr M):=qI (((zb.refl [] wr).alloc _).trans P (by intro i b;simp at b;subst b;exact .inr (XA)));clear h4 P;simp only [Act.put])
   have ab:j%2=0∨j%2=1:=Ws;rcases ab with h2 | h2
   ·rw [if_pos h2] at E;have ad:(j:Int)%2=0:=Ws;clear h2;have H:Hid (zJ M 164 #[.agg (y.map bv).toArray,.agg (z.map bv).toArray] (.agg ((j8 y z).map bv).toArray)):=qI (node_any M y z q.o A.o ((Mb.o.keptX D.o Mc.o).k0 s.o));have F:Hid ((j8 y z).length=32):=qI (Qs _ _);generalize j8 y z=nd at H F E;go_wp2_with first
     | (refine yY Wk (.tmp 3) Wk (K.o.k0 s.o) q.o Wk ?_)
     | (refine yY Wk (.tmp 9) Wk Me.o A.o Wk ?_)
     | (go_at_call 164;refine H.o.mh ?_;rintro e Z rfl p)
     | (refine zL Wk (.tmp 3) (.tmp 36) Wk (K.o.k0 (s.o.then p.o)) q.o F.o Wk Wk ?_;intro w6 h6 m;have H6:=qI h6;have Jc:=qI m;clear h6 m)
    case roundEnd=>exact⟨⟨k+1,j/2,nd,by go_num,by go_num,by have:=W.o;omega,by have:=HJ.o;omega,F.o,H6.o,E.o,(D.o.then (s.o.then p.o)).trans' Jc.o⟩,by have:=W.o;simp [intOf];omega⟩
   ·rw [if_neg Ws] at E;have ad:(j:Int)%2=1:=Ws;clear h2;have H:Hid (zJ M 164 #[.agg (z.map bv).toArray,.agg (y.map bv).toArray] (.agg ((j8 z y).map bv).toArray)):=qI (node_any M z y A.o q.o ((Mb.o.keptX D.o Mc.o).k0 s.o));have F:Hid ((j8 z y).length=32):=qI (Qs _ _);generalize j8 z y=nd at H F E;go_wp2_with first
     | (refine yY Wk (.tmp 3) Wk (K.o.k0 s.o) q.o Wk ?_)
     | (refine yY Wk (.tmp 9) Wk Me.o A.o Wk ?_)
     | (go_at_call 164;refine H.o.mh ?_;rintro e Z rfl p)
     | (refine zL Wk (.tmp 3) (.tmp 39) Wk (K.o.k0 (s.o.then p.o)) q.o F.o Wk Wk ?_;intro w6 h6 m;have H6:=qI h6;have Jc:=qI m;clear h6 m)
    case roundEnd=>exact⟨⟨k+1,j/2,nd,by go_num,by go_num,by have:=W.o;omega,by have:=HJ.o;omega,F.o,H6.o,E.o,(D.o.then (s.o.then p.o)).trans' Jc.o⟩,by have:=W.o;simp [intOf];omega⟩
  ·obtain rfl:k=n:=by omega
   have Mp:Hid (jW x i way=y):=qI (by rw [Md.o,← HN.o,List.drop_length];rfl);have Mq:=qI (Jg.o.kept D.o Wz);go_wp2_with first
    | (refine yY Wk (.tmp 3) Wk K.o q.o Wk ?_)
    | (refine zL Wk (.tmp 6) (.tmp 43) Wk Mq.o (yu _ _) q.o Wk Wk ?_;intro Z Q d;have H5:=qI Q;have p:=qI d;clear Q d)
   have f:=H5.o.var q.o;refine bodyPost_ret (v:=.tuple #[.agg (y.map bv).toArray,.int .i64 0]) (by simp only [results,results112];simp [f,Sem.run_bind,asAddr,Act.put]) rfl ⟨.inl ⟨Gp.o,by rw [Mp.o]⟩,?_⟩;exact (O.o.trans D.o (by intro i b;simp at b;subst b;exact .inr (XA))).trans p.o (by intro i b;simp at b;subst b;exact .inr Ws)
theorem xor_zero_iff (a b:Nat):a ^^^ b=0↔a=b:=by
 refine⟨fun h=>?_,fun h=>by rw [h,Nat.xor_self]⟩;have d:(a ^^^ b) ^^^ b=a:=by rw [Nat.xor_assoc,Nat.xor_self,Nat.xor_zero]
 rw [h,Nat.zero_xor] at d;exact d.symm
theorem take_eq_snoc (a:k<l.length)(hm:k<m.length):l.take (k+1)=m.take (k+1)↔l.take k=m.take k∧l[k]=m[k]:=by
 rw [List.take_succ_eq_append_getElem a,List.take_succ_eq_append_getElem hm];constructor;·intro h;have h2:=List.append_inj' h rfl;exact⟨h2.1,by simpa using h2.2⟩
 ·rintro ⟨b,h2⟩;rw [b,h2]
theorem octSame_any {z B O gb y W:Nat}(K:l.length=32)(hm:m.length=32)(I:w.rangeAt z B (l.map bv))(D:w.rangeAt gb y (m.map bv)) : zJ w 113 #[.slice (some ⟨z,B,none⟩) 32 O,.slice (some ⟨gb,y,none⟩) 32 W] (.bool (decide (l=m))):=by
 have C:=qI K;have M:=qI hm;have Q:=qI I;have P:=qI D;clear K hm I D;go_enter func113,ntmps113;go_wp2_with fail;go_loopw [5,6,14] (fun U _ i wr=>∃ k o:Nat,U = .int .u8 o∧i = .int .i64 k∧k≤32∧o<256∧(o=0↔l.take k=m.take k)∧zb [] w wr) (fun _ _ i _=>32-(intOf i).toNat);case atStart=>exact⟨0,0,rfl,rfl,XB,Wo,Wz,Wd⟩
 case round=>
  obtain⟨k,o,rfl,rfl,X,H,u,r⟩:=hrel;have J:=qI H;have F:=qI u;have v:=qI r;clear H u r;rcases Nat.lt_or_ge k 32 with h32 | h32
  ·have N:(k:Int)<32:=by omega
   have b:k<l.length:=by rw [C.o];exact h32
   have f:k<m.length:=by rw [M.o];exact h32
   have c0:wr.cell? ⟨z,B+k,none⟩=some (.int .u8 l[k].toNat):=v.o.cell (Q.o k _ (by rw [List.getElem?_map,List.getElem?_eq_getElem b];rfl)) Wz;have c1:wr.cell? ⟨gb,y+k,none⟩=some (.int .u8 m[k].toNat):=v.o.cell (P.o k _ (by rw [List.getElem?_map,List.getElem?_eq_getElem f];rfl)) Wz;have E:=qI (take_eq_snoc b f);have A:=u8_xor_nat l[k].toNat m[k].toNat (UInt8.toNat_lt _) (UInt8.toNat_lt _);have d:l[k].toNat ^^^ m[k].toNat<256:=Nat.xor_lt_two_pow (n:=8) (UInt8.toNat_lt _) (UInt8.toNat_lt _);have a:=u8_or_nat o (l[k].toNat ^^^ m[k].toNat) J.o d;have j:Hid (o ||| (l[k].toNat ^^^ m[k].toNat)<256):=qI (Nat.or_lt_two_pow (n:=8) J.o d);have h:Hid (o ||| (l[k].toNat ^^^ m[k].toNat)=0↔l.take (k+1)=m.take (k+1)):=qI (by
    rw [Nat.or_eq_zero_iff,xor_zero_iff,UInt8.toNat_inj,E.o,F.o])
   have G:=qI h32;generalize l[k].toNat=p at c0 A a j h;generalize m[k].toNat=q at c1 A a j h;generalize p ^^^ q=s at A a j h;generalize o ||| s=t at a j h
   clear d h32 E;clear b f;go_wp2_with fail;go_quiet (fail);go_wp2;case roundEnd=>exact⟨⟨k+1,t,by go_num,by go_num,by have:=G.o;omega,j.o,h.o,v.o.drewN _⟩,by have:=G.o;simp [intOf];omega⟩
  ·obtain rfl:k=32:=by omega
   have R:Hid (decide (l=m)=decide (o=0)):=qI (by
    have x:=F.o;rw [List.take_of_length_le (by rw [C.o];omega),List.take_of_length_le (by rw [M.o];omega)] at x;by_cases h2:o=0;·rw [decide_eq_true h2,decide_eq_true (x.1 h2)]
    ·rw [decide_eq_false h2,decide_eq_false (fun e=>h2 (x.2 e))])
   go_wp2;go_ret;refine⟨?_,v.o⟩;rw [R.o];by_cases L:o=0;·subst L;simp
   ·have x:(o:Int)≠0:=by omega
    simp [L]
structure vH (w:World)(p:Nat)(l:List UInt8)(bad:Bool):Prop where
 val:∃ a c,w.heap[p]? = some (.cells #[.slice a l.length c,.bool bad] 199 (0,0))∧zp w (.slice a l.length c) l∧∀ g,yx (.slice a l.length c)=some g→g≠p
theorem vH.k0 {w w':World}{p:Nat}{l:List UInt8}{bad:Bool}(h:vH w p l bad)(k:zb [] w w'):vH w' p l bad:=by
 obtain⟨a,c,b,h2,h3⟩:=h.val;exact⟨a,c,k.heap b Wz,h2.k0 k,h3⟩
theorem vH.lt {bad:Bool}(h:vH w p l bad):p<w.heap.size:=by
 obtain⟨a,c,b,-,-⟩:=h.val;exact lt_of_block b
theorem from_any {c:Nat}(h:zp w (.slice a l.length c) l)(m:l.length≤lim) : Calls prog 105 #[.slice a l.length c] w fun e w'=>(∃ p,w.heap.size≤p∧e = .returned (.pointer (some ⟨p,0,none⟩))∧vH w' p l false)∧zb [] w w':=by
 have k:=qI (bj _ _ w h m);clear h m;go_enter func105,ntmps105;generalize q:l.length=n at k;go_wp2_with (go_at_call 45;refine k.o.mono ?_;rintro e w2 ⟨v,rfl,b,d⟩;obtain⟨a2,c2,rfl,-,-⟩:=b.1.form;have i:=qI b;have j:=qI d;clear b d);go_ret;have f:=(zb.refl [] w2).alloc (.cells #[.slice a2 n c2,.bool false] 199);subst q;refine⟨⟨w2.heap.size,j.o.size,rfl,⟨a2,c2,ze rfl,i.o.1.k0 f,fun g r=>?_⟩⟩,j.o.then f⟩;have:=i.o.1.lt r;omega
theorem QU {bad:Bool}(h:vH w p l bad) : Calls prog 158 #[.pointer (some ⟨p,0,none⟩)] w fun e w'=>e = .returned (.int .i64 l.length)∧w=w':=by
 obtain⟨a,c,b,-,-⟩:=h.val;have c0:=za (o:=0) b rfl;clear h b;go_enter func158,ntmps158;go_wp2;go_ret;exact⟨rfl,rfl⟩
theorem rdBad_any {bad:Bool}(h:vH w p l bad) : Calls prog 160 #[.pointer (some ⟨p,0,none⟩)] w fun e w'=>e = .returned (.bool bad)∧w=w':=by
 obtain⟨a,c,b,-,-⟩:=h.val;have c1:=za (o:=1) b rfl;clear h b;go_enter func160,ntmps160;go_wp2;go_ret;exact⟨rfl,rfl⟩
theorem zaf {bad:Bool}(h:vH w p l bad) : Calls prog 159 #[.pointer (some ⟨p,0,none⟩)] w fun e w'=>e = .returned (.tuple #[])∧vH w' p [] true∧zb [p] w w':=by
 obtain⟨a,c,b,-,-⟩:=h.val;have c0:=za (o:=0) b rfl;have c1:=za (o:=1) b rfl;have f:=fun o=>zh (o:=o) b
 have j:=qI b;clear h b;go_enter func159,ntmps159;go_wp2_with fail;go_end0;have h2:=zd (i:=0) (v:=.slice none 0 0) (d:=#[.slice none 0 0,.bool bad]) j.o rfl;have h3:=zd (i:=1) (v:=.bool true) (d:=#[.slice none 0 0,.bool true]) h2 rfl;exact⟨rfl,⟨none,0,h3,xX _ _,fun g k=>by simp [yx] at k⟩,((zb.refl [p] w).setCell (.inl Wz) _).setCell (.inl Wz) _⟩
theorem rdDone_any {bad:Bool}(h:vH w p l bad) : Calls prog 108 #[.pointer (some ⟨p,0,none⟩)] w fun e w'=>e = .returned (.int .i64 (if bad=false∧l=[] then 0 else 11))∧w=w':=by
 have d:=qI (QU h);have a:=qI (rdBad_any h);have f:Hid (l=[]↔l.length=0):=qI (by rw [List.length_eq_zero_iff]);generalize l.length=n at d f;clear h;generalize hd:(if bad=false∧l=[] then (0:Int) else 11)=D;have b:=qI hd;clear hd;cases bad with
 | true=>go_enter func108,ntmps108;go_wp2_with (go_at_call 160;refine a.o.mono ?_;rintro e w' ⟨rfl,rfl⟩);go_ret;exact⟨by rw [← b.o];simp,rfl⟩
 | false=>
  by_cases i:n=0
  ·have j:l=[]:=f.o.2 i;subst i;go_enter func108,ntmps108;go_wp2_with first
    | (go_at_call 160;refine a.o.mono ?_;rintro e w' ⟨rfl,rfl⟩)
    | (go_at_call 158;refine d.o.mono ?_;rintro e w' ⟨rfl,rfl⟩)
   go_ret;exact⟨by rw [← b.o];simp [j],rfl⟩
  ·have j:¬ l=[]:=fun e=>i (f.o.1 e);have k:(0:Int)<n:=Ws;go_enter func108,ntmps108;go_wp2_with first
    | (go_at_call 160;refine a.o.mono ?_;rintro e w' ⟨rfl,rfl⟩)
    | (go_at_call 158;refine d.o.mono ?_;rintro e w' ⟨rfl,rfl⟩)
   go_ret;exact⟨by rw [← b.o];simp [j],rfl⟩
def rdB (n:Nat)(l:List UInt8)(bad:Bool):List UInt8×List UInt8×Bool:=if n≤l.length∧bad=false then (l.take n,l.drop n,false) else ([],[],true)
theorem zp.tail2 {c:Nat}(h:zp w (.slice a l.length c) l)(k:Nat)(f:k≤l.length)(hc:c≠k):zp w (.slice (a.map fun x=>x.add k) (l.length-k) (c-k)) (l.drop k)∧∀ g,yx (.slice (a.map fun x=>x.add k) (l.length-k) (c-k))=some g→yx (.slice a l.length c)=some g:=by
 have b:=h.tail k f;rw [if_neg hc] at b;rcases Nat.eq_zero_or_pos (l.length - k) with h0 | h0
 ·refine⟨?_,fun g d=>by rw [h0] at d;simp [yx] at d⟩;have h2:=b.1;unfold zp at h2 ⊢;rw [List.length_drop,h0] at h2 ⊢;have hm:c-k≤maxLen:=by obtain⟨i,m,h3,-,j⟩:=h2.form;simp only [Value.slice.injEq] at h3;omega
  refine⟨h2.1,?_⟩;cases a with
  | none=>
   rcases h2.2 with h3 | ⟨-,i,cap,h3,-⟩ | ⟨g,o,cap,h3,-⟩;·exact .inl h3
   ·simp at h3
   ·simp at h3
  | some x=>exact .inr (.inl ⟨rfl,_,_,rfl,hm⟩)
 ·obtain⟨g,o,rfl,-,-⟩:=jC h Ws;have e:(some (⟨g,o,none⟩:Addr)).map (fun x=>x.add k)=(some (⟨g,o,none⟩:Addr)).map fun x=>⟨x.block,x.off+k,none⟩:=by simp [bQ]
  rw [e];exact b
theorem rdB_end {w2:World}{c d:Nat}{f a2:Option Addr}{c2:Nat}(q:w.heap[p]? = some (.cells #[.slice a l.length c,.bool false] 199 (0,0)))(r:zp w (.slice f (l.length-n) d) (l.drop n))(j:∀ g,yx (.slice f (l.length-n) d)=some g→g≠p)(i:qs w w2 (.slice a2 n c2) (l.take n))(m:zb [] w w2) : zp (w2.setCell ⟨p,0,none⟩ (.slice f (l.length-n) d)) (.slice a2 n c2) (l.take n)∧(∀ g,yx (.slice a2 n c2)=some g→w.heap.size≤g)∧vH (w2.setCell ⟨p,0,none⟩ (.slice f (l.length-n) d)) p (l.drop n) false∧zb [p] w (w2.setCell ⟨p,0,none⟩ (.slice f (l.length-n) d)):=by
 have b:zb [p] w2 (w2.setCell ⟨p,0,none⟩ (.slice f (l.length-n) d)):=Wd.setCell (.inl Wz) _;have s:=lt_of_block q;have e:(l.drop n).length=l.length-n:=List.length_drop;refine⟨i.1.kept b (fun g j k=>?_),fun g j=>(i.2 g j).1,⟨f,d,?_,?_,?_⟩,(m.mono Wz).trans' b⟩;·have:=(i.2 g j).1;simp at k;omega
 ·rw [e];exact zd (m.heap q Wz) rfl
 ·rw [e];exact (r.k0 m).kept b (fun g h k=>by simp at k;exact j g h k)
 ·intro g h;rw [e] at h;exact j g h
theorem YS {bad:Bool}(h:vH w p l bad)(n:Nat)(hn:n≤1000000)(B:l.length≤lim) : Calls prog 107 #[.pointer (some ⟨p,0,none⟩),.int .i64 n] w fun e w'=>(∃ a c,e = .returned (.slice a (rdB n l bad).1.length c)∧zp w' (.slice a (rdB n l bad).1.length c) (rdB n l bad).1∧(∀ g,yx (.slice a (rdB n l bad).1.length c)=some g→w.heap.size≤g))∧vH w' p (rdB n l bad).2.1 (rdB n l bad).2.2∧zb [p] w w':=by
 have t:=qI (QU h);have H:=qI (rdBad_any h);have F:=qI (zaf h);obtain⟨a,c,r,h2,h3⟩:=h.val;have Z:(n:Int)≤1000000:=Ws;by_cases j:n≤l.length∧bad=false
 ·obtain⟨i,rfl⟩:=j;have C:Hid (rdB n l false=(l.take n,l.drop n,false)):=qI (by unfold rdB;rw [if_pos ⟨i,rfl⟩]);have y:Hid ((l.take n).length=n):=qI (by rw [List.length_take];omega);have Q:Hid (Calls prog 45 #[.slice a n c] w fun e w'=>∃ v',e = .returned v'∧qs w w' v' (l.take n)∧zb [] w w'):=qI (bj _ _ w (h2.head n i) (XC y.o));have R:=h2.capL;have f:(n:Int)≤l.length:=Ws;have P:=qI r;have c0:=za (o:=0) r rfl;have U:(n:Int)≤(c:Int):=Ws;have O:(l.length:Int)≤(c:Int):=Ws;by_cases m:c=n
  ·obtain⟨u,x⟩:=h2.tail n i;rw [if_pos m] at u x;have J:=qI (fun w2 a2 c2 d G=>rdB_end (w2:=w2) (a2:=a2) (c2:=c2) r u (fun g h=>h3 g (x g h)) d G);have E:=m.symm;clear h r h2 h3 u x m;subst E;go_enter func107,ntmps107;go_wp2_with first
    | (go_at_call 158;refine t.o.mono ?_;rintro e w' ⟨rfl,rfl⟩)
    | (go_at_call 160;refine H.o.mono ?_;rintro e w' ⟨rfl,rfl⟩)
    | (go_at_call 45;refine Q.o.mono ?_;rintro e w2 ⟨v,rfl,d,b⟩;obtain⟨a2,c2,rfl,-,-⟩:=d.1.form;rw [y.o] at d ⊢;have z:=qI (b.heap P.o Wz);have Y:=za (o:=0) z.o rfl;have X:=zh (o:=0) z.o;have M:=qI d;have s:=qI b;clear d b)
   go_ret;have q:=J.o _ _ _ M.o s.o;have W:l.length-n=0:=Ws;rw [W,Nat.sub_self] at q;rw [C.o];dsimp only;rw [y.o];exact⟨⟨_,_,rfl,q.1,q.2.1⟩,q.2.2⟩
  ·obtain⟨u,x⟩:=h2.tail2 n i m;have J:=qI (fun w2 a2 c2 d G=>rdB_end (w2:=w2) (a2:=a2) (c2:=c2) r u (fun g h=>h3 g (x g h)) d G);clear h r h2 h3 u x;go_enter func107,ntmps107;go_wp2_with first
    | (go_at_call 158;refine t.o.mono ?_;rintro e w' ⟨rfl,rfl⟩)
    | (go_at_call 160;refine H.o.mono ?_;rintro e w' ⟨rfl,rfl⟩)
    | (go_at_call 45;refine Q.o.mono ?_;rintro e w2 ⟨v,rfl,d,b⟩;obtain⟨a2,c2,rfl,-,-⟩:=d.1.form;rw [y.o] at d ⊢;have z:=qI (b.heap P.o Wz);have Y:=za (o:=0) z.o rfl;have X:=zh (o:=0) z.o;have M:=qI d;have s:=qI b;clear d b)
   go_ret;have q:=J.o _ _ _ M.o s.o;rw [C.o];dsimp only;rw [y.o];exact⟨⟨_,_,rfl,q.1,q.2.1⟩,q.2.2⟩
 ·have C:Hid (rdB n l bad=([],[],true)):=qI (by unfold rdB;rw [if_neg j]);have A:Hid (Calls prog 159 #[.pointer (some ⟨p,0,none⟩)] w fun e w'=>e = .returned (.tuple #[])∧vH w' p [] true∧zb [p] w w'):=F;by_cases i:n≤l.length
  ·have N:bad=true:=by
    cases bad with
    | true=>rfl
    | false=>exact absurd ⟨i,rfl⟩ j
   subst N;have f:(n:Int)≤l.length:=Ws;clear r h2 h3 h j F;generalize l.length=L at t f B;go_enter func107,ntmps107;go_wp2_with first
    | (go_at_call 158;refine t.o.mono ?_;rintro e w' ⟨rfl,rfl⟩)
    | (go_at_call 160;refine H.o.mono ?_;rintro e w' ⟨rfl,rfl⟩)
    | (go_at_call 159;refine A.o.mono ?_;rintro e w2 ⟨rfl,k,b⟩;have I:=qI k;have s:=qI b;clear k b)
   go_ret;rw [C.o];exact⟨⟨none,0,rfl,xX _ _,fun g K=>by simp [yx] at K⟩,I.o,s.o⟩
  ·have f:¬ ((n:Int)≤l.length):=by omega
   have D:(l.length:Int)<n:=Ws;clear r h2 h3 h j F;generalize l.length=L at t f D B;go_enter func107,ntmps107;go_wp2_with first
    | (go_at_call 158;refine t.o.mono ?_;rintro e w' ⟨rfl,rfl⟩)
    | (go_at_call 159;refine A.o.mono ?_;rintro e w2 ⟨rfl,k,b⟩;have I:=qI k;have s:=qI b;clear k b)
   go_ret;rw [C.o];exact⟨⟨none,0,rfl,xX _ _,fun g K=>by simp [yx] at K⟩,I.o,s.o⟩
theorem numF_lt:∀ (l:List UInt8) (n:Nat),l.foldl (fun n c=>n*256+c.toNat) n<(n+1)*256 ^ l.length
 | [],n=>by simp
 | c::t,n=>by have h1:=numF_lt t (n*256+c.toNat);have h2:=UInt8.toNat_lt c;rw [List.foldl_cons,List.length_cons,Nat.pow_succ,Nat.mul_comm (256 ^ t.length) 256,← Nat.mul_assoc];exact Nat.lt_of_lt_of_le h1 (Nat.mul_le_mul_right _ Ws)
theorem numB_lt (l:List UInt8):YO l<256 ^ l.length:=by
 have h:=numF_lt l 0;rw [Nat.zero_add,Nat.one_mul] at h;exact h
theorem or_byte (n c:Nat)(a:n<16777216)(hc:c<256):bits .or .i64 ((n:Int)*256) (c:Int)=((n*256+c:Nat):Int):=by
 rw [bits_join .i64 32 Wo (fun n b d=>by rw [IntKind.wrap_i64];omega) 8 _ _ Ws Ws Ws Ws Ws Ws];omega
def rdN (l:List UInt8):Nat×List UInt8×Bool:=if 4≤l.length then (YO (l.take 4),l.drop 4,false) else (0,[],true)
theorem rdInt_any (h:vH w p l false)(d:l.length≤lim) : Calls prog 106 #[.pointer (some ⟨p,0,none⟩),.int .i64 4] w fun e w'=>e = .returned (.int .i64 (rdN l).1)∧vH w' p (rdN l).2.1 (rdN l).2.2∧zb [p] w w':=by
 have A:=qI (QU h);have I:=qI (zaf h);have E:=qI (YS h 4 Wo d);have t:l.length≤140737488351232:=d;rcases Nat.lt_or_ge l.length 4 with h4 | h4
 ·have D:Hid (rdN l=(0,[],true)):=qI (by unfold rdN;rw [if_neg Ws]);have r:(l.length:Int)<4:=Ws;clear h d E h4;generalize l.length=L at A r t;go_enter func106,ntmps106;go_wp2_with first
   | (go_at_call 158;refine A.o.mono ?_;rintro e w' ⟨rfl,rfl⟩)
   | (go_at_call 159;refine I.o.mono ?_;rintro e w2 ⟨rfl,a,b⟩;have F:=qI a;have H:=qI b;clear a b)
  go_ret;rw [D.o];exact⟨rfl,F.o,H.o⟩
 ·have D:Hid (rdN l=(YO (l.take 4),l.drop 4,false)):=qI (by unfold rdN;rw [if_pos Ws]);have K:rdB 4 l false=(l.take 4,l.drop 4,false):=by unfold rdB;rw [if_pos ⟨h4,rfl⟩]
  have B:Hid ((l.take 4).length=4):=qI (by rw [List.length_take];omega);rw [K] at E;have r:(4:Int)≤(l.length:Int):=Ws;clear h d h4 K I;generalize O:l.length=L at A r t;clear O;go_enter func106,ntmps106;go_wp2_with first
   | (go_at_call 158;refine A.o.mono ?_;rintro e w' ⟨rfl,rfl⟩)
   | (go_at_call 107;refine E.o.mono ?_;rintro e w2 ⟨⟨a2,c2,rfl,f,-⟩,a,b⟩;dsimp only at f a ⊢;rw [B.o] at f ⊢;have M:=qI f;have F:=qI a;have H:=qI b;clear f a b)
  go_loopw [5,7,39] (fun U _ i wr=>∃ k:Nat,U = .int .i64 (YO ((l.take 4).take k))∧i = .int .i64 k∧k≤4∧wr=w2) (fun _ _ i _=>4-(intOf i).toNat);case atStart=>exact⟨0,rfl,rfl,XB,rfl⟩
  case round=>
   obtain⟨k,rfl,rfl,X,rfl⟩:=hrel;rcases Nat.lt_or_ge k 4 with h4 | h4
   ·have N:(k:Int)<4:=by omega
    have q:k<(l.take 4).length:=by rw [B.o];exact h4
    obtain⟨g,o,rfl,R,m⟩:=jC (size:=1) (n:=4) (by have C:=M.o;unfold zp at C;rw [B.o] at C;exact C) Wo;have c0:=m.at (j:=k) (by rw [List.length_map];exact q);rw [List.getElem_map] at c0;have G:Hid (YO ((l.take 4).take (k+1))=YO ((l.take 4).take k)*256+(l.take 4)[k].toNat):=qI (by
     rw [List.take_succ_eq_append_getElem q,numB_snoc])
    have s:YO ((l.take 4).take k)<16777216:=by have P:=numB_lt ((l.take 4).take k);rw [List.length_take,Nat.min_eq_left Ws] at P;have h2:256 ^ k≤256 ^ 3:=Nat.pow_le_pow_right Wo Ws;have h3:(256:Nat) ^ 3=16777216:=Wo;omega
    have u:=UInt8.toNat_lt (l.take 4)[k];have v:=or_byte _ _ s u;unfold bv at c0;have J:=qI h4;generalize (l.take 4)[k].toNat=x at c0 G u v;generalize YO ((l.take 4).take k)=y at G s v;clear q m h4;go_wp2;case roundEnd=>exact⟨⟨k+1,by rw [G.o];go_num,by go_num,by have:=J.o;omega,trivial⟩,by have:=J.o;simp [intOf];omega⟩
   ·obtain rfl:k=4:=by omega
    have Q:Hid ((l.take 4).take 4=l.take 4):=qI (List.take_of_length_le (by rw [B.o];decide));rw [Q.o];generalize z:YO (l.take 4)=nb;have W:=qI z;clear z;go_wp2;go_ret;rw [D.o];exact⟨by rw [W.o];rfl,F.o,H.o⟩
attribute [local go_sem] Oper.semAt_some
def bO (N k:Nat):List (Fin N):=(List.finRange N).take k
theorem firsts_len (h:k≤N):(bO N k).length=k:=by simp [bO];omega
theorem firsts_succ (h:k<N):bO N (k+1)=bO N k++[⟨k,h⟩]:=by
 unfold bO;rw [List.take_succ_eq_append_getElem (by simpa using h),List.getElem_finRange];rfl
theorem firsts_all (N:Nat):bO N N=List.finRange N:=by unfold bO;rw [List.take_of_length_le Wz]
def KpB (Bs Bn:Nat)(W W':World):Prop:=W'.heap[Bs]? = W.heap[Bs]? ∧ W'.heap[Bn]? = W.heap[Bn]?
theorem KpB.c0 (h:KpB Bs Bn W W'):W'.cell? ⟨Bs,0,none⟩=W.cell? ⟨Bs,0,none⟩:=World.cell?_of_block h.1
theorem KpB.c1 (h:KpB Bs Bn W W'):W'.cell? ⟨Bn,0,none⟩=W.cell? ⟨Bn,0,none⟩:=World.cell?_of_block h.2
theorem chunkB_in (n l Bs Bn N z:Nat)(hn:1≤n)(hz:1≤z)(aa:z≤64)(hN:N≤256)(a:Option Addr)(b off cap:Nat)(ha:0<N→a=some ⟨b,off,none⟩)(s:z*N≤cap)(m:cap≤maxLen)(J y:List (Fin N)→World→Prop)(D:∀ pre W q,J pre W→J pre (World.drewN W q))(O:∀ pre x W,J pre W→pre.length<N→YieldAt Fence.wide (n-1) prog l #[.slice (some ⟨b,off+z*x.val,none⟩) z z] W fun e W'=> (e = .returned (.bool true)∧J (pre++[x]) W'∧KpB Bs Bn W W')∨(e = .returned (.bool false)∧y (pre++[x]) W'))(W:World)(F:W.cell? ⟨Bs,0,none⟩=some (.slice a (z*N) cap))(C:W.cell? ⟨Bn,0,none⟩=some (.int .i64 z))(h0:J [] W) : CallsIn Fence.wide n prog 161 #[.func (.yield l) #[] #[],.pointer (some ⟨Bs,0,none⟩),.pointer (some ⟨Bn,0,none⟩)] W fun e W'=>(∃ v,e = .returned v)∧((∃ ys,ys=List.finRange N∧J ys W')∨(∃ pre,True∧y pre W')):=by
 refine callsIn_of_wp func161 rfl trivial ?_ rfl;simp only [ntmps161,List.size_toArray,List.length_cons,List.length_nil,Nat.reduceAdd,Nat.reduceSub,Array.replicate_succ,Array.replicate_zero,List.push_toArray,List.append_toArray,List.nil_append,List.cons_append]
 gi_wp2
 gi_loopw [4,5] (fun i _ wr=>∃ k:Nat,k≤N∧i = .int .i64 (z*k:Nat)∧J (bO N k) wr∧wr.cell? ⟨Bs,0,none⟩=some (.slice a (z*N) cap)∧wr.cell? ⟨Bn,0,none⟩=some (.int .i64 z))
  (fun i _ _=>z*N-(intOf i).toNat)
 case atStart=>exact⟨0,XB,Wz,h0,F,C⟩
 case round=>
  obtain⟨k,t,rfl,j,c0,c1⟩:=hrel;have f:z*k+(if k<N then z else 0)≤z*N∧(k=N→z*k=z*N):=by
   refine⟨?_,fun e=>by rw [e]⟩;split;·rename_i h;have r:z*(k+1)≤z*N:=Nat.mul_le_mul_left z h;rw [Nat.mul_add,Nat.mul_one] at r;exact r
   ·have r:z*k≤z*N:=Nat.mul_le_mul_left z t;omega
  by_cases d:k<N
  ·have H:=qI O;rw [if_pos d] at f;have X:=qI d;have A:=ha Ws;subst A;have M:Hid (z*(k+1)=z*k+z):=qI (by rw [Nat.mul_add,Nat.mul_one]);have Mv:=qI j;have P:=qI c0;have K:Hid (∀ q,YieldAt Fence.wide (n-1) prog l #[.slice (some ⟨b,off+z*k,none⟩) z z] (World.drewN wr q) fun e W'=>(e = .returned (.bool true)∧J (bO N (k+1)) W'∧KpB Bs Bn (World.drewN wr q) W')∨(e = .returned (.bool false)∧y (bO N (k+1)) W')):=qI (fun q=>by
    have r:=H.o _ ⟨k,d⟩ _ (D _ _ q j) (by rw [firsts_len t];exact d);rw [← firsts_succ d] at r;exact r)
   generalize E:z*k=p at f M K;generalize B:z*N=L at c0 f s;have Jo:=qI B;have Mw:=qI t;clear j d t E O H;have ab:(p:Int)+(z:Int)≤(L:Int):=Ws;have U:(L:Int)≤(cap:Int):=Ws;have Z:¬ cap=p:=Ws;have R:(1:Int)≤(z:Int):=Ws;have ae:(z:Int)≤64:=Ws;have ad:(cap:Int)≤9223372036854775807:=by have:=m;simp only [maxLen] at this;omega
   have I:min (z:Int) ((L-p:Nat):Int)=(z:Int):=Ws;clear f
   gi_wp2
   refine wpIn_wide.2 ?_;go_quiet (fail);obtain⟨fn,tmps,u,G,hy,Q⟩:=K.o nq
   gi_wp2
   refine Q.mono ?_;rintro e W3 (⟨rfl,hJ3,hk3⟩ | ⟨rfl,hJx3⟩)
   ·have w:=hk3.c1.trans (show (World.drewN wr nq).cell? ⟨Bn,0,none⟩=_ from c1);have Y:=qI (hk3.c0.trans (show (World.drewN wr nq).cell? ⟨Bs,0,none⟩=_ from P.o))
    gi_wp2
    go_roundw;case rel=>exact⟨k+1,by have:=X.o;omega,by rw [M.o];go_num,hJ3,by rw [← Jo.o];exact Y.o,w⟩
    case measure=>simp [intOf];omega
   ·gi_wp2
    refine bodyPost_ret (results_none rfl _ _ _) rfl ?_;exact⟨⟨_,rfl⟩,.inr ⟨_,trivial,hJx3⟩⟩
  ·obtain rfl:k=N:=by omega
   rw [firsts_all] at j;generalize z*k=p at c0 f
   gi_wp2
   go_end0;exact⟨⟨_,rfl⟩,.inl j⟩
theorem grown_drewN (W:World)(q:Nat):W.grownBy (World.drewN W q) none:=⟨rfl,rfl,rfl,XA,fun _ _ _=>rfl⟩
theorem KL (n Bs Bn N z:Nat)(t:1≤n)(u:1≤z)(k:z≤64)(v:N≤256)(a:Option Addr)(b off cap:Nat)(y:0<N→a=some ⟨b,off,none⟩)(f:z*N≤cap)(d:cap≤maxLen)(w:World)(j:w.cell? ⟨Bs,0,none⟩=some (.slice a (z*N) cap))(i:w.cell? ⟨Bn,0,none⟩=some (.int .i64 z)) : SeqStopsK Fence.wide n prog 161 #[.pointer (some ⟨Bs,0,none⟩),.pointer (some ⟨Bn,0,none⟩)] (fun x:Fin N=>#[.slice (some ⟨b,off+z*x.val,none⟩) z z]) (KpB Bs Bn) (fun ys=>ys=List.finRange N) (fun _=>True) N w:=fun l J s W m B _ A C=>
 chunkB_in n l Bs Bn N z t u k v a b off cap y f d J s (fun pre W q h=>B pre W _ none h (grown_drewN W q) (fun r e=>nomatch e)) A W
  ((m.cell (p:=⟨Bs,0,none⟩) (World.block_lt_of_cell? w _ j)).trans j) ((m.cell (p:=⟨Bn,0,none⟩) (World.block_lt_of_cell? w _ i)).trans i) C
theorem za9 (a:Option Addr)(L cap z:Nat)(d:1≤z)(b:z≤64)(w:World) : Calls prog 109 #[.slice a L cap,.int .i64 z] w fun e w'=>e = .returned (.func (.func 161) #[] #[.pointer (some ⟨w.heap.size,0,none⟩),.pointer (some ⟨w.heap.size+1,0,none⟩)])∧(w.alloc (.cells #[.slice a L cap] 32)).alloc (.cells #[.int .i64 z] 3)=w':=by
 have h:(1:Int)≤(z:Int):=Ws;have f:(z:Int)≤64:=Ws;clear d b;go_enter func109,ntmps109;go_wp2;go_ret;exact⟨rfl,rfl⟩
attribute [local go_sem] Oper.semAt_some
def ckA (l:List UInt8)(i:Nat):List UInt8:=((l.drop (64*i)).take 64).take 32
def ckB (l:List UInt8)(i:Nat):List UInt8:=((l.drop (64*i)).take 64).drop 32
theorem ck_len (h:l.length=64*N)(a:i<N):(ckA l i).length=32∧(ckB l i).length=32:=by
 have b:64*(i+1)≤64*N:=Nat.mul_le_mul_left 64 a;unfold ckA ckB;rw [List.length_take,List.length_drop,List.length_take,List.length_drop];omega
theorem ck_row (h:Row w b off (l.map bv))(d:l.length=64*N)(a:i<N):w.rangeAt b (off+64*i) ((ckA l i).map bv)∧w.rangeAt b (off+64*i+32) ((ckB l i).map bv):=by
 have f:64*(i+1)≤64*N:=Nat.mul_le_mul_left 64 a;refine⟨fun j v hv=>?_,fun j v hv=>?_⟩
 ·have e:j<32:=by have:=(List.getElem?_eq_some_iff.1 hv).1;rw [List.length_map,(ck_len d a).1] at this;exact this
  rw [Nat.add_assoc];refine h.cells (64*i+j) v ?_;rw [List.getElem?_map] at hv ⊢;unfold ckA at hv;rw [List.getElem?_take,if_pos e,List.getElem?_take,if_pos Ws,List.getElem?_drop] at hv;exact hv
 ·have e:j<32:=by have:=(List.getElem?_eq_some_iff.1 hv).1;rw [List.length_map,(ck_len d a).2] at this;exact this
  rw [Nat.add_assoc,Nat.add_assoc];refine h.cells (64*i+(32+j)) v ?_;rw [List.getElem?_map] at hv ⊢;unfold ckB at hv;rw [List.getElem?_drop,List.getElem?_take,if_pos Ws,List.getElem?_drop] at hv;exact hv
theorem ck_all (l:List UInt8)(N:Nat):(List.finRange N).map (fun i=>ckA l i.val)=(QR N l).rev∧(List.finRange N).map (fun i=>ckB l i.val)=(QR N l).oth:=by
 have h:∀ f:Nat→List UInt8,(List.finRange N).map (fun i=>f i.val)=(List.range N).map f:=fun f=>by
  apply List.ext_getElem;·simp
  ·intro i a h2;simp
 refine⟨?_,?_⟩;·rw [h (ckA l)];unfold QR Qv ckA;simp only [List.map_map];rfl
 ·rw [h (ckB l)];unfold QR Qv ckB;simp only [List.map_map];rfl
theorem jJ.grown {W w w':World}{g:Nat}{n:Option Addr}{c1:Nat}{a2:Option Addr}{c2:Nat}{r o:List (List UInt8)}{row:Option Nat}(h:jJ W g w n c1 a2 c2 r o)(u:w.grownBy w' row)(p:∀ k,row=some k→W.heap.size≤k∧∃ ob:Obj,w.heap[k]? = some ob∧ob.isCells=false):jJ W g w' n c1 a2 c2 r o:=by
 have d:zb row.toList w w':=(zb.refl _ w).grown u (fun k e=>.inl (by simp [e]));have j:∀ k c t f,w.heap[k]? = some (.cells c t f)→k ∉ row.toList:=fun k c t f hc hm=>by obtain⟨ob,q,h2⟩:=(p k (XD hm)).2;rw [hc] at q;cases q;cases h2
 refine⟨h.kept.trans d (fun i s=>.inr (p i (XD s)).1),h.new_,d.heap h.box (j _ _ _ _ h.box),zk h.rev d (fun b e=>?_),zk h.oth d (fun b e=>?_),h.apart⟩
 ·rcases h.rev.2 with ⟨a,_⟩ | ⟨v,cap,l,a,_,m,_⟩;·rw [a] at e;cases e
  ·rw [a] at e;cases e;exact j _ _ _ _ m
 ·rcases h.oth.2 with ⟨a,_⟩ | ⟨v,cap,l,a,_,m,_⟩;·rw [a] at e;cases e
  ·rw [a] at e;cases e;exact j _ _ _ _ m
theorem KeepsFrom.of_kept {B:Nat}{X:List Nat}(h:zb X w w')(d:∀ k,k∈X→∃ c t f,w.heap[k]? = some (.cells c t f)):KeepsFrom B w w':=
 ⟨h.size,fun k o _ a e=>h.heap a (fun hm=>by
  obtain⟨c,t,f,b⟩:=d k hm;rw [a] at b;cases b;cases e)⟩
theorem Zd {base e size:Nat}{v:Value}{xs:List Value}(h:w.ownsRow base e size v n xs)(a:v.ownBlock=some b):∃ c t f,w.heap[b]? = some (.cells c t f):=by
 rcases h.2 with ⟨d,_⟩ | ⟨k,cap,i,d,_,j,_⟩;·rw [d] at a;cases a
 ·rw [d] at a;cases a;exact⟨_,_,_,j⟩
structure DecR (N:Nat)(l:List UInt8)(W0:World)(gb:Nat)(pre:List (Fin N))(W:World):Prop where
 val:∃ a1 c1 a2 c2,jJ W0 gb W a1 c1 a2 c2 (pre.map fun i=>ckA l i.val) (pre.map fun i=>ckB l i.val)
 box0:∃ c f,W.heap[gb+1]? = some (.cells c 32 f)
 box1:∃ c f,W.heap[gb+2]? = some (.cells c 3 f)
theorem lamDecode_any {c:Nat}(hb:zp w (.slice a l.length c) l)(hN:l.length=64*N)(R:xu N=true) : Calls prog 110 #[.slice a l.length c] w fun e w'=>(∃ a1 c1 a2 c2,e = .returned (.tuple #[.agg #[.slice a1 N c1,.slice a2 N c2],.int .i64 0])∧Slc w' 32 (.slice a1 N c1) N ((QR N l).rev.flatten.map bv)∧Slc w' 32 (.slice a2 N c2) N ((QR N l).oth.flatten.map bv)∧(∀ g,yx (.slice a1 N c1)=some g→w.heap.size≤g)∧(∀ g,yx (.slice a2 N c2)=some g→w.heap.size≤g))∧zb [] w w':=by
 have az:8≤N∧N≤256:=by unfold xu at R;simp only [Bool.and_eq_true,decide_eq_true_eq] at R;omega
 obtain⟨u,off,rfl,X,U⟩:=jC (size:=1) hb Ws;have aj:c≤maxLen:=by obtain⟨a',c',h3,-,h4⟩:=hb.form;simp only [Value.slice.injEq] at h3;omega
 obtain⟨C,Ga⟩:=XE (w.alloc (.cells #[.slice none 0 0,.slice none 0 0] 85));have Gd:Hid (zb [] w C):=qI (kA1 Ga.o);have Jf:Hid (C.heap[w.heap.size]? = some (.cells #[.slice none 0 0,.slice none 0 0] 85 (0,0))):=qI (by rw [Ga.o];exact ze rfl);have ar:C.heap.size=w.heap.size+1:=by rw [Ga.o];simp
 have CM:Hid (Calls prog 85 #[.int .i64 N] C fun e w'=>e = .returned (.bool true)∧C=w'):=qI (by have h1:=vR N Ws Ws C;rw [R] at h1;exact h1);obtain⟨W3,Jq⟩:=XE (C.alloc (.cells #[.slice none 0 0,.slice none 0 0] 85));have Mi:Hid (jJ C C.heap.size W3 none 0 none 0 [] []):=qI (by rw [Jq.o];exact out_new C);have a8:W3.heap.size=C.heap.size+1:=by rw [Jq.o];simp
 have CH:=qI (za9 (some ⟨u,off,none⟩) l.length c 64 Wo Wo W3);have Jd:=qI U;have HN:=qI hN;have Mj:=qI az;have HC:=qI (And.intro X aj);have aq:((l.length:Int)%64)=0:=Ws;have ap:((l.length:Int)/64)=(N:Int):=Ws;clear hb U R X aj;refine callsIn_wide.1 (callsIn_of_wp_marks (F:=Fence.wide) (n:=3) func110 rfl trivial ?_ rfl);refine wpIn_wide.2 ?_;simp only [ntmps110,List.size_toArray,List.length_cons,List.length_nil,Nat.reduceAdd,Nat.reduceSub,Array.replicate_succ,Array.replicate_zero,List.push_toArray,List.append_toArray,List.nil_append,List.cons_append];generalize hL:l.length=L at CH aq ap;have Jo:=qI hL;clear hL;go_upto_region 1 with fail;rw [← Ga.o];go_upto_region 4 with (go_at_call 85;refine CM.o.mono ?_;rintro e w' ⟨rfl,rfl⟩);rw [← Jq.o];go_wp2_with (go_at_call 109;refine CH.o.mono ?_;rintro e w' ⟨rfl,rfl⟩);rw [ar] at Mi;obtain⟨W4,Gv⟩:=XE ((W3.alloc (.cells #[.slice (some ⟨u,off,none⟩) L c] 32)).alloc (.cells #[.int .i64 64] 3));have a9:W4.heap.size=w.heap.size+4:=by rw [Gv.o];simp;omega
 have Ms:Hid (W4.heap[w.heap.size+1+1]? = some (.cells #[.slice (some ⟨u,off,none⟩) L c] 32 (0,0))):=qI (by
  rw [Gv.o];exact ((zb.refl [] _).alloc _).heap (ze Ws) Wz)
 have Jm:Hid (W4.heap[w.heap.size+1+2]? = some (.cells #[.int .i64 64] 3 (0,0))):=qI (by
  rw [Gv.o];exact ze (by rw [World.size_alloc];omega))
 have au:W4.cell? ⟨w.heap.size+1+1,0,none⟩=some (.slice (some ⟨u,off,none⟩) (64*N) c):=by rw [Gv.o,← HN.o,Jo.o];exact ((zb.refl [] _).alloc _).cell (za (ze Ws) rfl) Wz
 have a0:W4.cell? ⟨w.heap.size+1+1+1,0,none⟩=some (.int .i64 64):=by rw [Gv.o];exact za (ze (by rw [World.size_alloc];omega)) rfl
 have Mt:Hid (jJ C (w.heap.size+1) W4 none 0 none 0 [] []):=qI (Mi.o.k0 (kA2 Gv.o));rw [← Gv.o];refine (wpIn_wide (n:=3)).1 ?_
 refine wpIn_rangeFunc_ownG (F:=Fence.wide) (n:=3) rfl Wo (gf:=161) (lb:=#[.pointer (some ⟨w.heap.size+1+1,0,none⟩),.pointer (some ⟨w.heap.size+1+1+1,0,none⟩)]) rfl trivial (enters_of func161 Wr rfl)
  (KL 2 (w.heap.size+1+1) (w.heap.size+1+1+1) N 64 Wo Wo Wo Mj.o.2 (some ⟨u,off,none⟩) u off c (fun _=>rfl) (by rw [← HN.o];exact HC.o.1) HC.o.2 W4 au a0)
  (fun h k=>⟨k.1.trans h.1,k.2.trans h.2⟩) (fun W l o o' hl _ _ _=>⟨World.putObj_heap_other Ws,World.putObj_heap_other Ws⟩) (Below.refl _ _) (fun _=>rfl)
  (fun pre W=>DecR N l C (w.heap.size+1) pre W) (fun _ _ _=>False)
  (fun pre A B row hs E hr=>by
   obtain⟨a1,c1,a2,c2,h⟩:=hs.val;have al:∀ k c t f,A.heap[k]? = some (Obj.cells c t f)→B.heap[k]? = some (Obj.cells c t f):=fun k c t f hc=>(E.block k (lt_of_block hc) (fun e=>by
    obtain⟨ob,h1,h2⟩:=(hr k e.symm).2;rw [hc] at h1;cases h1;cases h2)).trans hc
   obtain⟨d0,f0,e0⟩:=hs.box0;obtain⟨d1,f1,e1⟩:=hs.box1;exact⟨⟨a1,c1,a2,c2,h.grown E (fun k e=>⟨by have:=(hr k e).1;omega,(hr k e).2⟩)⟩,⟨d0,f0,al _ _ _ _ e0⟩,⟨d1,f1,al _ _ _ _ e1⟩⟩)
  (fun _ _ _ _ _ hs _ _=>hs)
  ⟨⟨none,0,none,0,Mt.o⟩,⟨_,_,Ms.o⟩,⟨_,_,Jm.o⟩⟩
  (fun x=>{ tmps:=#[.slice (some ⟨u,off,none⟩) L c,undef,.pointer (some ⟨w.heap.size,0,none⟩),.int .i64 0,.pointer (some ⟨w.heap.size+1,0,none⟩),.slice (some ⟨u,off+64*x.val,none⟩) 64 64,.slice (some ⟨u,off,none⟩) L c,.int .i64 L,.int .i64 0,.bool false,.bool false,.slice (some ⟨u,off,none⟩) L c,.int .i64 L,.int .i64 N,.bool true,.bool false,.bool false,undef,.slice (some ⟨u,off,none⟩) L c,.func (.func 161) #[] #[.pointer (some ⟨w.heap.size+1+1,0,none⟩),.pointer (some ⟨w.heap.size+1+1+1,0,none⟩)],.slice (some ⟨u,off+64*x.val,none⟩) 64 64,undef,undef,undef,undef,undef,undef,undef,undef,undef,undef,undef,undef,undef,undef,undef,undef,undef,undef,undef],defers:=[] }) ?assign ?body ?done ?stop
 case assign=>
  intro l' x W K Z
  gi_wp2
  exact Z
 case body=>
  rintro l' pre G W ⟨⟨a1,c1,a2,c2,r⟩,⟨d0,e0,ak⟩,⟨a4,e1,Y⟩⟩ hlen;have Jr:=qI ak;have Js:=qI Y;have H:=qI r;obtain⟨ag,ai⟩:=ck_len HN.o G.isLt;obtain⟨am,av⟩:=ck_row (i:=G.val) (Jd.o.kept (Gd.o.then r.kept) Wz) HN.o G.isLt;have Gy:=qI ag;have Jh:=qI ai;have Gz:=qI am;have Gw:Hid (C.rangeAt u (off+64*G.val+32) ((ckB l G.val).map bv)):=qI (ck_row (i:=G.val) (Jd.o.kept Gd.o Wz) HN.o G.isLt).2;have O:Hid ((pre.map fun i=>ckA l i.val).length=pre.length):=qI Wz;have P:Hid ((pre.map fun i=>ckB l i.val).length=pre.length):=qI Wz;have f0:W.cell? ⟨w.heap.size+1,0,none⟩=some (.slice a1 pre.length c1):=by have I:=za (o:=0) (v:=.slice a1 (pre.map fun i=>ckA l i.val).length c1) r.box rfl;rw [O.o] at I;exact I
  have Mx:=qI hlen;have Jt:Hid (((pre++[G]).map fun i=>ckA l i.val)=(pre.map fun i=>ckA l i.val)++[ckA l G.val]):=qI Wz;have Ju:Hid (((pre++[G]).map fun i=>ckB l i.val)=(pre.map fun i=>ckB l i.val)++[ckB l G.val]):=qI Wz;generalize ckA l G.val=x1 at Gy Gz Jt;generalize ckB l G.val=x2 at Jh Gw Ju;have Je:Hid (pre.length≤256):=qI (XC Mj.o);generalize (pre.map fun i=>ckA l i.val)=rv at H O Jt;generalize (pre.map fun i=>ckB l i.val)=ot at H P Ju;generalize pre.length=m at f0 O P Je;generalize off+64*G.val=q at Gz Gw;clear r ag ai am av hlen ak Y
  gi_wp2
  refine Y2 (k:=40) 7 [fI (.pointer (some ⟨w.heap.size+1,0,none⟩)),
   fI (.slice a1 m c1),
   fI (.slice (some ⟨u,q,none⟩) 64 64),
   fI (.slice (some ⟨u,q,none⟩) 32 64),
   fI (.pointer (some ⟨u,q,none⟩)),
   fI (.agg (x1.map bv).toArray),
   kP (x1.map bv) 1 32] Wr Wr (fun⟨_,_,h⟩=>h) rfl Wr (fun x=>qm) ?_ ?_
  ·refine⟨?_,?_,?_,?_,?_,?_,?_,trivial⟩ <;> intro x w2 p b hd;·exact zi
   ·have d0:x 0=_:=hd 0 Wr;have y0:=p.cell f0 Wz;exact zi
   ·exact zi
   ·have d2:x 2=_:=hd 2 Wr;exact zi
   ·have d3:x 3=_:=hd 3 Wr;have d3:x 3=_:=hd 3 Wr;go_wp2_with fail;rename_i Z;exact Z _ _ ⟨rfl,_,by simp only [Nat.zero_add,Nat.reduceAdd,d3],rfl,Wd⟩
   ·have d4:x 4=_:=hd 4 Wr;have d4:x 4=_:=hd 4 Wr;change wpList _ _ _ [_] _ _;refine yC Wk _ rfl (g:=u) (of:=q) (fun j v hv=>p.cell (Gz.o j v hv) Wz) Gy.o d4 ?_;exact⟨rfl,_,rfl,rfl,Wd⟩
   ·have d5:x 5=_:=hd 5 Wr;have d5:x 5=_:=hd 5 Wr;change wpList _ _ _ [_] _ _;refine qL underlying78 kG JW Wo Wo Wk _ rfl (cs:=x1.map bv) (by simp [Gy.o]) d5 ?_;exact⟨rfl,_,rfl,⟨w2.heap.size,rfl,XA,Wz,yv w2 (x1.map bv) 32 1 _ _ rfl (by simp [Gy.o]) Wo⟩,Wd.alloc _⟩
  ·intro x w7 p b7 hd M;have d1:x 1=_:=hd 1 Wo;obtain⟨g9,d6,-,-,J⟩:=hd 6 Wo;have Ja:=qI J;have Jv:=qI (H.o.k0 p);have Jl:=qI p;clear hd M p J;change wpList _ _ _ [_,_,_] _ _;go_wp2_with (at_builtin;refine zG ty32 (v:=.slice a1 m c1) (n:=m) (xs:=rv.flatten.map bv) (by have I:=Jv.o.rev;rw [O.o] at I;exact I) Ja.o (qE _) (by have:=Je.o;simp only [maxLen];omega) (XC Je.o) Jv.o.kept.size rfl _ _ rfl d1 d6 ?_;intro v5 w8 s aa _ ah;obtain⟨a5,c5,rfl,-,-⟩:=(Slc.of_row s).form;have Gc:=qI aa;obtain⟨u0,uf,ho8⟩:=Jv.o.push0 (x:=x1) (a5:=a5) (c5:=c5) (by rw [O.o];exact s) (by rw [O.o];exact aa) (by rw [O.o];exact ah);rw [O.o] at u0 ho8;rw [← Jt.o] at ho8;have Ji:=qI ho8;clear s aa ah ho8);have Mk:Hid (zb ((w.heap.size+1)::(Value.slice a1 m c1).ownBlock.toList) W (w8.setCell ⟨w.heap.size+1,0,none⟩ (.slice a5 (m+1) c5))):=qI ((((Jl.o.mono Wz).trans' (Gc.o.mono (fun k h=>List.mem_cons_of_mem _ h)))).setCell (.inl Wz) _);generalize w8.setCell ⟨w.heap.size+1,0,none⟩ (.slice a5 (m+1) c5)=w9 at Ji Mk;have f1:=za (o:=1) Ji.o.box rfl;rw [P.o] at f1;have Mu:Hid (w9.rangeAt u (q+32) (x2.map bv)):=qI (fun j v hv=>(Ji.o.kept).cell (Gw.o j v hv) Wz)
   gi_wp2
   refine Y2 (k:=40) 7 [fI (.pointer (some ⟨w.heap.size+1,1,none⟩)),
    fI (.slice a2 m c2),
    fI (.slice (some ⟨u,q,none⟩) 64 64),
    fI (.slice (some ⟨u,q+32,none⟩) 32 32),
    fI (.pointer (some ⟨u,q+32,none⟩)),
    fI (.agg (x2.map bv).toArray),
    kP (x2.map bv) 1 32] Wr Wr (fun⟨_,_,h⟩=>h) rfl Wr (fun x=>qm) ?_ ?_
   ·refine⟨?_,?_,?_,?_,?_,?_,?_,trivial⟩ <;> intro x w2 p b hd;·exact zi
    ·have d0:x 0=_:=hd 0 Wr;have y0:=p.cell f1 Wz;exact zi
    ·exact zi
    ·have d2:x 2=_:=hd 2 Wr;exact zi
    ·have d3:x 3=_:=hd 3 Wr;have d3:x 3=_:=hd 3 Wr;go_wp2_with fail;rename_i Z;exact Z _ _ ⟨rfl,_,by simp only [Nat.zero_add,Nat.reduceAdd,d3],rfl,Wd⟩
    ·have d4:x 4=_:=hd 4 Wr;have d4:x 4=_:=hd 4 Wr;change wpList _ _ _ [_] _ _;refine yC Wk _ rfl (g:=u) (of:=q+32) (fun j v hv=>p.cell (Mu.o j v hv) Wz) Jh.o d4 ?_;exact⟨rfl,_,rfl,rfl,Wd⟩
    ·have d5:x 5=_:=hd 5 Wr;have d5:x 5=_:=hd 5 Wr;change wpList _ _ _ [_] _ _;refine qL underlying78 kG JW Wo Wo Wk _ rfl (cs:=x2.map bv) (by simp [Jh.o]) d5 ?_;exact⟨rfl,_,rfl,⟨w2.heap.size,rfl,XA,Wz,yv w2 (x2.map bv) 32 1 _ _ rfl (by simp [Jh.o]) Wo⟩,Wd.alloc _⟩
   ·intro x a7 p a3 hd M;have d1:x 1=_:=hd 1 Wo;obtain⟨g9,d6,-,-,J⟩:=hd 6 Wo;have Ja:=qI J;have Gx:=qI (Ji.o.k0 p);have Jw:=qI p;clear hd M p J;change wpList _ _ _ [_,_,_] _ _;go_wp2_with (at_builtin;refine zG ty32 (v:=.slice a2 m c2) (n:=m) (xs:=ot.flatten.map bv) (by have I:=Gx.o.oth;rw [P.o] at I;exact I) Ja.o (qE _) (by have:=Je.o;simp only [maxLen];omega) (XC Je.o) Gx.o.kept.size rfl _ _ rfl d1 d6 ?_;intro v6 aw s ab _ an;obtain⟨a6,c6,rfl,-,-⟩:=(Slc.of_row s).form;have Jc:=qI ab;obtain⟨u0,uf,ho18⟩:=Gx.o.push1 (x:=x2) (a5:=a6) (c5:=c6) (by rw [P.o];exact s) (by rw [P.o];exact ab) (by rw [P.o];exact an);rw [P.o] at u0 ho18;rw [← Ju.o] at ho18;have Jy:=qI ho18;clear s ab an ho18);have Q:zb ((w.heap.size+1)::((Value.slice a1 m c1).ownBlock.toList++(Value.slice a2 m c2).ownBlock.toList)) W (aw.setCell ⟨w.heap.size+1,1,none⟩ (.slice a6 (m+1) c6)):=
     ((((Mk.o.mono (fun k h=>(List.mem_cons.1 h).elim (fun h=>by rw [h];simp) (fun h=>List.mem_cons_of_mem _ (List.mem_append_left _ h)))).then Jw.o).trans' (Jc.o.mono (fun k h=>List.mem_cons_of_mem _ (List.mem_append_right _ h))))).setCell (.inl Wz) _
    have ay:∀ k,k∈(w.heap.size+1)::((Value.slice a1 m c1).ownBlock.toList++(Value.slice a2 m c2).ownBlock.toList)→∃ c t f,W.heap[k]? = some (.cells c t f):=fun k y=>by
     rcases List.mem_cons.1 y with rfl | y;·exact⟨_,_,_,H.o.box⟩
     rcases List.mem_append.1 y with y | y;·exact Zd H.o.rev (by rw [O.o];exact XD y)
     ·exact Zd H.o.oth (by rw [P.o];exact XD y)
    have ae:∀ k d t e,W.heap[k]? = some (.cells d t e)→t≠49→k≠w.heap.size+1→k ∉ (w.heap.size+1)::((Value.slice a1 m c1).ownBlock.toList++(Value.slice a2 m c2).ownBlock.toList):=fun k d t e h1 h2 h3 y=>by
     rcases List.mem_cons.1 y with y | y;·exact h3 y
     rcases List.mem_append.1 y with y | y;·have h4:=yA H.o.rev (by rw [O.o];exact XD y);rw [zU h1] at h4;exact h2 (Nat.add_right_cancel h4)
     ·have h4:=yA H.o.oth (by rw [P.o];exact XD y);rw [zU h1] at h4;exact h2 (Nat.add_right_cancel h4)
    have h8:=ae _ _ _ _ Jr.o Wo Ws;have I:=ae _ _ _ _ Js.o Wo Ws;exact⟨KeepsFrom.of_kept Q ay,⟨Q.block _ (lt_of_block Jr.o) h8,Q.block _ (lt_of_block Js.o) I⟩,⟨⟨a5,c5,a6,c6,Jy.o⟩,⟨_,_,Q.heap Jr.o h8⟩,⟨_,_,Q.heap Js.o I⟩⟩⟩
 case done=>
  rintro D xs W hD rfl ⟨⟨a1,c1,a2,c2,r⟩,-,-⟩ Z;rw [(ck_all l N).1,(ck_all l N).2] at r;obtain⟨af,ad⟩:=zbL N l;have H:=qI r;have f0:=za (o:=0) r.box rfl;have f1:=za (o:=1) r.box rfl;rw [af] at f0;rw [ad] at f1;have Jj:=qI (r.kept.heap Jf.o Wz);have r0:=za (o:=0) Jj.o rfl;have r1:=za (o:=1) Jj.o rfl;have z:∀ j,W.frozen? ⟨w.heap.size,j,none⟩=false:=fun j=>zh Jj.o
  clear r
  gi_wp2
  go_wp2_with fail;change bodyPostM _ _ _ _ _ _ _ (put2 W w.heap.size (.slice a1 N c1) (.slice a2 N c2));have Q:=Zr W w.heap.size (.slice a1 N c1) (.slice a2 N c2);have Gk:=put2_at Jj.o (.slice a1 N c1) (.slice a2 N c2);have ao:=Q.heap Z (by simp;omega);generalize put2 W w.heap.size (.slice a1 N c1) (.slice a2 N c2)=WF at Q Gk ao;have Jk:zb [D] WF (WF.putObj D (.deferred none)):=Wd.grown (grownBy_putObj' WF D (.deferred none)) (fun k e=>by cases e;exact .inl Wz);refine⟨Wz,.inl ⟨_,_,rfl,run_takeDeferred ao,?_⟩⟩;have Jz:=Jk.heap Gk (by simp;omega);generalize WF.putObj D (.deferred none)=WZ at Jk Jz;have y0:=za (o:=0) Jz rfl;have y1:=za (o:=1) Jz rfl;have e1:=H.o.rev;have e2:=H.o.oth;rw [af] at e1;rw [ad] at e2;have ax:∀ g,kind W g=49+2→g≠D:=fun g E e=>by subst e;simp [Go.Proofs.YtjccecajigmfkaaGreatDoor.kind,Z] at E
  have hr:∀ {v:Value}{xs:List Value},W.ownsRow C.heap.size 49 32 v N xs→Slc WZ 32 v N xs∧∀ g,v.ownBlock=some g→w.heap.size≤g:=fun {v xs} h=>by refine⟨Slc.of_row (zk (zk h Q (fun g E hx=>by have h3:=(h.lt g E).1;simp at hx;omega)) Jk (fun g E hx=>by simp at hx;exact ax g (yA h E) hx)),fun g E=>?_⟩;have:=(h.lt g E).1;omega
  refine⟨.tuple #[.agg #[.slice a1 N c1,.slice a2 N c2],.int .i64 0],by simp [results,results110,go_sem,y0,y1],⟨a1,c1,a2,c2,rfl,(hr e1).1,(hr e2).1,fun g E=>(hr e1).2 g (yI E),fun g E=>(hr e2).2 g (yI E)⟩,?_⟩;exact ((Gd.o.then H.o.kept).trans Q (by intro i hi;simp at hi;subst hi;exact .inr (XA))).trans Jk (by intro i hi;simp at hi;subst hi;exact .inr Ws)
 case stop=>rintro D c' pre W _ _ h _;exact h.elim
attribute [local go_sem] Oper.semAt_some
theorem rd_chain (a d:Nat)(b:List UInt8):((rdB d (rdB a (rdN b).2.1 (rdN b).2.2).2.1 (rdB a (rdN b).2.1 (rdN b).2.2).2.2).2.2=false∧(rdB d (rdB a (rdN b).2.1 (rdN b).2.2).2.1 (rdB a (rdN b).2.1 (rdN b).2.2).2.2).2.1=[])↔b.length=4+a+d:=by
 unfold rdN;by_cases i:4≤b.length
 ·rw [if_pos i];unfold rdB;by_cases f:a≤(b.drop 4).length∧false=false
  ·rw [if_pos f];dsimp only;by_cases h2:d≤((b.drop 4).drop a).length∧false=false;·rw [if_pos h2];dsimp only;have h3:=h2.1;have e:=f.1;simp only [List.length_drop] at h3 e;rw [← List.length_eq_zero_iff];simp only [List.length_drop,true_and];omega
   ·rw [if_neg h2];dsimp only;have h3:¬ d≤((b.drop 4).drop a).length:=fun h=>h2 ⟨h,rfl⟩;have e:=f.1;simp only [List.length_drop] at h3 e;simp only [Bool.true_eq_false,false_and,false_iff];omega
  ·rw [if_neg f];dsimp only;have e:¬ a≤(b.drop 4).length:=fun h=>f ⟨h,rfl⟩;simp only [List.length_drop] at e;have h6:(if d≤([]:List UInt8).length∧true=false then (([]:List UInt8).take d,([]:List UInt8).drop d,false) else ([],[],true))=([],[],true):=if_neg (fun h=>by cases h.2);rw [h6];simp only [Bool.true_eq_false,false_and,false_iff];omega
 ·rw [if_neg i];unfold rdB;dsimp only;have h6:∀ n,(if n≤([]:List UInt8).length∧true=false then (([]:List UInt8).take n,([]:List UInt8).drop n,false) else ([],[],true))=([],[],true):=fun n=>if_neg (fun h=>by cases h.2);rw [h6 a];dsimp only;rw [h6 d];simp only [Bool.true_eq_false,false_and,false_iff];omega
theorem rd_vals (a d:Nat)(b:List UInt8)(h:b.length=4+a+d):(rdN b).1=YO (b.take 4)∧(rdB a (rdN b).2.1 (rdN b).2.2).1=(b.drop 4).take a∧(rdB d (rdB a (rdN b).2.1 (rdN b).2.2).2.1 (rdB a (rdN b).2.1 (rdN b).2.2).2.2).1=(b.drop (4+a)).take d:=by
 unfold rdN;rw [if_pos Ws];unfold rdB;dsimp only;rw [if_pos ⟨by rw [List.length_drop];omega,rfl⟩];dsimp only;rw [if_pos ⟨by rw [List.length_drop,List.length_drop];omega,rfl⟩];refine⟨rfl,rfl,?_⟩;rw [List.drop_drop]
structure bc (W:World)(g:Nat)(w:World)(lf:Int)(a:Option Addr)(c:Nat)(ps:List (List UInt8)):Prop where
 kept:zb [g] W w
 box:w.heap[g]? = some (.cells #[.int .i64 lf,.slice none 0 0,.slice none 0 0,.slice a ps.length c] 87 (0,0))
 row:w.ownsRow W.heap.size 49 32 (.slice a ps.length c) ps.length (ps.flatten.map bv)
theorem bc.k0 {g:Nat}{c:Nat}(h:bc W g w lf a c ps)(k:zb [] w w'):bc W g w' lf a c ps:=
 ⟨h.kept.then k,k.heap h.box Wz,zk h.row k Wz⟩
theorem bc.push {g:Nat}{c:Nat}(h:bc W g w lf a c ps){a5:Option Addr}{c5:Nat}(f:w'.ownsRow W.heap.size 49 32 (.slice a5 (ps.length+1) c5) (ps.length+1) (ps.flatten.map bv++x.map bv))(p:zb (Value.slice a ps.length c).ownBlock.toList w w') : w'.cell? ⟨g,3,none⟩=some (.slice a ps.length c)∧w'.frozen? ⟨g,3,none⟩=false∧bc W g (w'.setCell ⟨g,3,none⟩ (.slice a5 (ps.length+1) c5)) lf a5 c5 (ps++[x]):=by
 have n:g ∉ (Value.slice a ps.length c).ownBlock.toList:=fun k=>xM (yA h.row (XD k)) (zU h.box) Wo rfl;have d:=p.heap h.box n;have l:zb [g] w' (w'.setCell ⟨g,3,none⟩ (.slice a5 (ps.length+1) c5)):=Wd.setCell (.inl Wz) _;have j:(ps++[x]).length=ps.length+1:=Wz;have m:((ps++[x]).flatten).map bv=ps.flatten.map bv++x.map bv:=Wz;refine⟨za d rfl,zh d,⟨?_,?_,?_⟩⟩;·exact ((h.kept.trans p (fun i q=>.inr (h.row.lt i (XD q)).1))).setCell (.inl Wz) _
 ·rw [j];exact zd d rfl
 ·rw [j,m];exact zk f l (fun b e k=>by
   simp at k;subst k;exact xM (yA f e) (zU d) Wo rfl)
theorem bc.grown {W w w':World}{g:Nat}{lf:Int}{a:Option Addr}{c:Nat}{ps:List (List UInt8)}{row:Option Nat}(h:bc W g w lf a c ps)(p:w.grownBy w' row)(m:∀ k,row=some k→W.heap.size≤k∧∃ ob:Obj,w.heap[k]? = some ob∧ob.isCells=false):bc W g w' lf a c ps:=by
 have j:zb row.toList w w':=(zb.refl _ w).grown p (fun k e=>.inl (by simp [e]));have l:∀ k c t f,w.heap[k]? = some (.cells c t f)→k ∉ row.toList:=fun k c t f hc hm=>by obtain⟨ob,d,h2⟩:=(m k (XD hm)).2;rw [hc] at d;cases d;cases h2
 refine⟨h.kept.trans j (fun i n=>.inr (m i (XD n)).1),j.heap h.box (l _ _ _ _ h.box),zk h.row j (fun b e=>?_)⟩;obtain⟨c,t,f,d⟩:=Zd h.row e;exact l _ _ _ _ d
theorem cut_row (h:Row w b off (l.map bv))(f:l.length=n*N)(a:i<N):w.rangeAt b (off+n*i) (((l.drop (n*i)).take n).map bv)∧((l.drop (n*i)).take n).length=n:=by
 have e:n*(i+1)≤n*N:=Nat.mul_le_mul_left n a;rw [Nat.mul_add] at e;refine⟨fun j v hv=>?_,by rw [List.length_take,List.length_drop];omega⟩;have d:j<n:=by have:=(List.getElem?_eq_some_iff.1 hv).1;rw [List.length_map,List.length_take] at this;omega
 rw [Nat.add_assoc];refine h.cells (n*i+j) v ?_;rw [List.getElem?_map] at hv ⊢;rw [List.getElem?_take,if_pos d,List.getElem?_drop] at hv;exact hv
theorem cut_all (n N:Nat)(l:List UInt8):(List.finRange N).map (fun i=>(l.drop (n*i.val)).take n)=Qv n N l:=by
 unfold Qv;apply List.ext_getElem;·simp
 ·intro i a h2;simp
structure WayR (N:Nat)(l:List UInt8)(W0:World)(gs:Nat)(lf:Int)(B:Nat)(pre:List (Fin N))(W:World):Prop where
 val:∃ a c,bc W0 gs W lf a c (pre.map fun i=>(l.drop (32*i.val)).take 32)
 box0:∃ c f,W.heap[B]? = some (.cells c 32 f)
 box1:∃ c f,W.heap[B+1]? = some (.cells c 3 f)
def K7 (w w':World)(e:Ending)(k:yX)(b:List UInt8):Prop:=
 if yr k=true∧bE k.bits.toNat k.height.toNat b=true then
  ∃ a1 c1 a2 c2 a3 c3,e = .returned (.tuple #[.agg #[.int .i64 (ki k.bits.toNat k.height.toNat b).leaf,.slice a1 k.bits.toNat c1,.slice a2 k.bits.toNat c2,.slice a3 k.height.toNat c3],.int .i64 0]) ∧
   Slc w' 32 (.slice a1 k.bits.toNat c1) k.bits.toNat ((ki k.bits.toNat k.height.toNat b).one.rev.flatten.map bv)∧Slc w' 32 (.slice a2 k.bits.toNat c2) k.bits.toNat ((ki k.bits.toNat k.height.toNat b).one.oth.flatten.map bv)∧Slc w' 32 (.slice a3 k.height.toNat c3) k.height.toNat ((ki k.bits.toNat k.height.toNat b).way.flatten.map bv)
 else ∃ z:Int,z≠0∧-1000≤z∧z≤1000∧e = .returned (.tuple #[.agg #[.int .i64 0,.slice none 0 0,.slice none 0 0,.slice none 0 0],.int .i64 z])
end Go.Proofs.YtjccecajigmfkaaGreatDoor

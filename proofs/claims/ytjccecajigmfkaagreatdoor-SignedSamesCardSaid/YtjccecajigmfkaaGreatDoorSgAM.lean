/- Parts of one proof, merged: XPM XPN XPO XPQ XPR XPS XPT. -/
import Derived.Test.YtjccecajigmfkaaGreatDoorSgAL
set_option linter.all false
set_option maxHeartbeats 12800000
set_option maxRecDepth 100000
namespace Go.Proofs.YtjccecajigmfkaaGreatDoor
open Go.Proofs.Tryz
open Go.RowKit
variable {B:Nat}{w':World}
theorem listStep_st {d:Nat}:∀ (s:List UInt8) (c:Nat) (acc acc':List (V d)) (r:List UInt8) (c':Nat),c≤4096→yq (zy d) s c acc = .inr (acc',r,c')→r.length≤s.length∧c'≤4096∧(acc.length≤c→acc'.length≤c'):=by
 intro s c acc acc' r c' hc h;obtain⟨b,h2⟩:=listStep_le h;refine⟨b,h2,fun l=>?_⟩;unfold yq at h;cases hv:zy d s c with
 | inl e=>rw [hv] at h;cases h
 | inr y=>
  obtain⟨v,a,c0⟩:=y;rw [hv] at h;simp only at h;injection h with h;injection h with h3 h4;injection h4 with h4 h5;subst h3;subst h5;obtain⟨k,j,i,f⟩:=ZM d s c v a c0 hv;have:1≤zq d v:=by
   rcases QS (v:=v) with q | q;·subst q;exact nomatch v
   ·exact q
  rw [List.length_append,List.length_singleton];omega
theorem pairStep_st {d:Nat}:∀ (s:List UInt8) (c:Nat) (acc acc':List (ByteArray×V d)) (r:List UInt8) (c':Nat),c≤4096→yl (zy d) s c acc = .inr (acc',r,c')→r.length≤s.length∧c'≤4096∧(acc.length≤c→acc'.length≤c'):=by
 intro s c acc acc' r c' hc h;obtain⟨b,h2⟩:=pairStep_le h;refine⟨b,h2,fun k=>?_⟩;unfold yl at h;split at h;·cases h
 split at h;·cases h
 split at h
 ·split at h;·cases h
  ·rename_i v a c1 hv;injection h with h;injection h with h3 h4;injection h4 with h4 h5;subst h3;subst h5;obtain⟨j,i,f,e⟩:=ZM d _ c v a c1 hv;have:1≤zq d v:=by
    rcases QS (v:=v) with q | q;·subst q;exact nomatch v
    ·exact q
   rw [List.length_append,List.length_singleton];omega
 ·cases h
def qH (d:Nat)(R:Sum Int (VS (V d)×List UInt8×Nat))(p:Nat)(S:ByteArray)(w:World)(e:Ending)(w':World):Prop:=
 ∃ cs:List Value,e = .returned (.agg cs.toArray)∧Z6 cs∧zb [p] w w' ∧
  match R with
  | .inl x=>PS w' p S 4097 (.inl x)
  | .inr (v,r,c')=>PS w' p S 4097 (.inr (r,c'))∧xU (d+1) w.heap.size w' cs v
def zbb {d:Nat}:Sum Int (List (V d)×List UInt8×Nat)→Sum Int (VS (V d)×List UInt8×Nat) | .inl e=>.inl e | .inr (l,r,c)=>.inr (⟨5,0,⟨#[]⟩,l,[]⟩,r,c)
def asMap {d:Nat}:Sum Int (List (ByteArray×V d)×List UInt8×Nat)→Sum Int (VS (V d)×List UInt8×Nat) | .inl e=>.inl e | .inr (l,r,c)=>.inr (⟨6,0,⟨#[]⟩,[],l⟩,r,c)
theorem br {d p:Nat}{R:Sum Int (VS (V d)×List UInt8×Nat)}{S:ByteArray}{w:World}{cs:List Value}{x:Int}(h:R = .inl x)(a:Z6 cs)(h2:zb [p] w w')(h3:PS w' p S 4097 (.inl x)):qH d R p S w (.returned (.agg cs.toArray)) w':=⟨cs,rfl,a,h2,by rw [h];exact h3⟩
theorem vQ {d p:Nat}{R:Sum Int (VS (V d)×List UInt8×Nat)}{S:ByteArray}{w:World}{cs:List Value}{v:VS (V d)}{r:List UInt8}{a:Nat}(h:R = .inr (v,r,a))(e:Z6 cs)(h2:zb [p] w w')(h3:PS w' p S 4097 (.inr (r,a)))(b:xU (d+1) w.heap.size w' cs v):qH d R p S w (.returned (.agg cs.toArray)) w':=⟨cs,rfl,e,h2,by rw [h];exact⟨h3,b⟩⟩
section
variable {w : World} {p d : Nat} {S : ByteArray} {s : List UInt8} {c f : Nat}
theorem Zk.g {W w':World}{bv b2 b3:Nat}{acc:List (V d)}(h:Zk W bv b2 b3 p d S s c acc w'):GAns (yq (zy d)) p S (fun acc w'=>∃ vl lcs,LJ W bv b2 b3 p d acc w' vl lcs) (LBad W bv b2 b3 p d) s c acc w':=by
 unfold Zk at h;unfold GAns;cases e:yq (zy d) s c acc with
 | inl x=>rw [e] at h;exact h
 | inr y=>obtain⟨a,b,q⟩:=y;rw [e] at h;exact h
theorem Qh.g {W w':World}{bv b2 b3 i f:Nat}{acc:List (ByteArray×V d)}(h:Qh W bv b2 b3 i f p d S s c acc w'):GAns (yl (zy d)) p S (fun acc w'=>∃ vm mcs,MJ W bv b2 b3 i f p d (acc.map (fun q=>q.1)) acc w' vm mcs) (MBad W bv b2 b3 i f p d) s c acc w':=by
 unfold Qh at h;unfold GAns;cases e:yl (zy d) s c acc with
 | inl x=>rw [e] at h;exact h
 | inr y=>obtain⟨a,b,q⟩:=y;rw [e] at h;exact h
theorem plist_any (H:qt d)(O:PS w p S 4097 (.inr (s,c)))(hc:c≤4096)(hS:S.size≤262144)(hT:qA p w)(hf:s.length<f) : Calls prog 177 #[.pointer (some ⟨p,0,none⟩),.int .i64 d] w fun e w'=>qH d (zbb (yP (yq (zy d)) 93 f s c [])) p S w e w':=by
 obtain⟨m,B⟩:=XE ((((w.alloc (.cells #[.pointer (some ⟨p,0,none⟩)] 107)).alloc (.cells #[.int .i64 d] 3)).alloc (.cells #[.int .i64 0,.int .i64 0,.string ⟨#[]⟩,.slice none 0 0,.slice none 0 0] 25)).alloc (.cells #[.int .i64 5,.int .i64 0,.string ⟨#[]⟩,.slice none 0 0,.slice none 0 0] 25));have Gp:Hid (m.heap.size=w.heap.size+4):=qI (by rw [B.o];simp);have L:Hid (zb [] w m):=qI (by rw [B.o];exact ((((zb.refl [] w).alloc _).alloc _).alloc _).alloc _);have Gd:Hid (p<w.heap.size):=qI O.lt;have Jg:Hid (m.heap[w.heap.size]? = some (.cells #[.pointer (some ⟨p,0,none⟩)] 107 (0,0))):=qI (by
  rw [B.o];exact ((((zb.refl [] _).alloc _).alloc _).alloc _).heap (ze rfl) Wz)
 have Gy:Hid (m.heap[w.heap.size+1]? = some (.cells #[.int .i64 d] 3 (0,0))):=qI (by
  rw [B.o];exact (((zb.refl [] _).alloc _).alloc _).heap (ze Wz) Wz)
 have Gg:Hid (kD m (w.heap.size+1+1)):=qI (by
  rw [B.o];exact ((zb.refl [] _).alloc _).heap (ze Wz) Wz)
 have Js:Hid (m.heap[w.heap.size+1+1+1]? = some (.cells (kh 5 0 ⟨#[]⟩ (.slice none 0 0) (.slice none 0 0)) 25 (0,0))):=qI (by
  rw [B.o];exact ze Wz)
 have N:Hid (LPos m (w.heap.size+1+1+1) w.heap.size (w.heap.size+1) p):=qI (by
  have h1:=Gd.o;have h2:=Gp.o;constructor <;> omega)
 have Jt:Hid (LJ m (w.heap.size+1+1+1) w.heap.size (w.heap.size+1) p d [] m (.slice none 0 0) []):=qI ⟨⟨Jg.o,Gy.o,Wd⟩,Js.o,World.ownsRow_nil _ _ _ _,zM.nil _⟩;have Gw:=qI (O.k0 L.o);have Gu:=qI (hT.step (L.o.mono Wz));have M:=za (o:=0) (v:=.pointer (some ⟨p,0,none⟩)) Jg.o rfl;rw [B.o] at M
 have CI:=qI (items1_any (step:=yq (zy d)) (stop:=93) (p:=p) (S:=S) (w:=m) (GJ:=fun acc w'=>∃ E lcs,LJ m (w.heap.size+1+1+1) w.heap.size (w.heap.size+1) p d acc w' E lcs) (GB:=LBad m (w.heap.size+1+1+1) w.heap.size (w.heap.size+1) p d) (len:=List.length) hS
  (fun s c acc D h1 h2 h3 ⟨E,lcs,h4⟩=>(list1_any (by exact @H) N.o h4 h1 h2 hS Gu.o Ws).mono fun e w2 ⟨q1,q2⟩=>⟨q1,q2.g⟩)
  (fun acc D w2 ⟨E,lcs,h4⟩ k=>⟨E,lcs,h4.step N.o k⟩) (fun D w2 h k=>h.step N.o k) (fun acc D ⟨E,lcs,h4⟩=>h4.bad) listStep_st Gw.o hc (XB) ⟨_,_,Jt.o⟩ hf)
 clear O hc hT hf H;go_enter func177,ntmps177;go_wp2_with fail;rw [← B.o];refine CI.o.mono ?_;rintro e D ⟨rfl,b⟩;clear M;have hz:=Gp.o;have aa:=Gd.o;unfold GFin at b;cases F:yP (yq (zy d)) 93 f s c [] with
 | inl x=>
  rw [F] at b;obtain⟨u,t,a,n,z,j⟩:=b;have U:=qI u;have Gz:=qI t;have x0:=za (o:=0) (v:=.int .i64 5) j rfl;have x1:=za (o:=1) (v:=.int .i64 0) j rfl;have x2:=za (o:=2) (v:=.string ⟨#[]⟩) j rfl;have x3:=za (o:=3) (v:=.slice a n z) j rfl;have x4:=za (o:=4) (v:=.slice none 0 0) j rfl;have G:=qI (Gg.o.kept t.kept (by simp;omega));obtain⟨⟨d0,d1,d2,d3,d4⟩,f0,f1,M,f3,f4⟩:=G.o.facts;have Z:Hid (zbb (yP (yq (zy d)) 93 f s c []) = .inl x):=qI (by rw [F];rfl);clear u t j F;go_wp2_with fail;obtain⟨WF,e⟩:=XF (yw D (w.heap.size+1+1) (.int .i64 5) (.int .i64 0) (.string ⟨#[]⟩) (.slice a n z) (.slice none 0 0));obtain⟨C,W,R,y2,P,X⟩:=G.o.stored e;unfold yw at e;rw [← e]
  exact bodyPost_ret (v:=.agg #[.int .i64 5,.int .i64 0,.string ⟨#[]⟩,.slice a n z,.slice none 0 0]) (by simp [results,results177,go_sem,W,R,y2,P,X]) rfl
   (br (cs:=[.int .i64 5,.int .i64 0,.string ⟨#[]⟩,.slice a n z,.slice none 0 0]) Z.o ⟨_,_,_,_,_,_,_,_,_,rfl⟩ (((L.o.mono (Y:=[p]) Wz).trans Gz.o.kept (fun i A=>by simp at A;rcases A with h | h;exact .inl (by simp [h]);exact .inr Ws)).trans C (fun i A=>by simp at A;exact .inr Ws)) (U.o.kept C (by simp;omega)))
 | inr y=>
  obtain⟨l,r,c'⟩:=y;rw [F] at b;obtain⟨u,⟨E,lcs,K⟩,-⟩:=b;obtain⟨a,z,rfl,-,-⟩:=(Slc.of_row K.row).form;have U:=qI u;have J:=qI K;have j:=K.blk;have x0:=za (o:=0) (v:=.int .i64 5) j rfl;have x1:=za (o:=1) (v:=.int .i64 0) j rfl;have x2:=za (o:=2) (v:=.string ⟨#[]⟩) j rfl;have x3:=za (o:=3) (v:=.slice a l.length z) j rfl;have x4:=za (o:=4) (v:=.slice none 0 0) j rfl;have G:=qI (Gg.o.kept K.cap.kept (by simp;omega));obtain⟨⟨d0,d1,d2,d3,d4⟩,f0,f1,M,f3,f4⟩:=G.o.facts;have Z:Hid (zbb (yP (yq (zy d)) 93 f s c []) = .inr ((⟨5,0,⟨#[]⟩,l,[]⟩:VS (V d)),r,c')):=qI (by rw [F];rfl);clear u K j F;go_wp2_with fail;obtain⟨WF,e⟩:=XF (yw D (w.heap.size+1+1) (.int .i64 5) (.int .i64 0) (.string ⟨#[]⟩) (.slice a l.length z) (.slice none 0 0));obtain⟨C,W,R,y2,P,X⟩:=G.o.stored e;unfold yw at e;rw [← e];have I:xU (d+1) w.heap.size WF [.int .i64 5,.int .i64 0,.string ⟨#[]⟩,.slice a l.length z,.slice none 0 0] (⟨5,0,⟨#[]⟩,l,[]⟩:VS (V d)):=by
   refine⟨_,_,lcs,[],rfl,?_,?_,World.ownsRow_nil _ _ _ _,zM.nil _,rfl,rfl⟩;·exact qi (zk J.o.row C (fun g hg Q=>by simp at Q;have:=(J.o.row.lt g hg).1;omega)) (fun g hg=>by have:=(J.o.row.lt g hg).1;omega)
   ·exact J.o.all.mono fun _ _ _ q=>q.move C (fun g _ h=>⟨fun Q=>by simp at Q;omega,Ws,h.2,by simp [Value.ownBlock]⟩)
  exact bodyPost_ret (v:=.agg #[.int .i64 5,.int .i64 0,.string ⟨#[]⟩,.slice a l.length z,.slice none 0 0]) (by simp [results,results177,go_sem,W,R,y2,P,X]) rfl
   (vQ (cs:=[.int .i64 5,.int .i64 0,.string ⟨#[]⟩,.slice a l.length z,.slice none 0 0]) Z.o ⟨_,_,_,_,_,_,_,_,_,rfl⟩ (((L.o.mono (Y:=[p]) Wz).trans J.o.cap.kept (fun i A=>by simp at A;rcases A with h | h;exact .inl (by simp [h]);exact .inr Ws)).trans C (fun i A=>by simp at A;exact .inr Ws)) (U.o.kept C (by simp;omega)) I)
end
section
variable {w : World} {p d : Nat} {S : ByteArray} {s : List UInt8} {c f : Nat}
theorem pmap_any (G:qt d)(O:PS w p S 4097 (.inr (s,c)))(hc:c≤4096)(hS:S.size≤262144)(hT:qA p w)(hf:s.length<f) : Calls prog 178 #[.pointer (some ⟨p,0,none⟩),.int .i64 d] w fun e w'=>qH d (asMap (yP (yl (zy d)) 125 f s c [])) p S w e w':=by
 obtain⟨j,z⟩:=XE ((((((w.alloc (.cells #[.pointer (some ⟨p,0,none⟩)] 107)).alloc (.cells #[.int .i64 d] 3)).alloc (.cells #[.int .i64 0,.int .i64 0,.string ⟨#[]⟩,.slice none 0 0,.slice none 0 0] 25)).alloc (.cells #[.int .i64 6,.int .i64 0,.string ⟨#[]⟩,.slice none 0 0,.slice none 0 0] 25)).alloc (.map #[] 0)).alloc (.cells #[.map (some (w.heap.size+1+1+1+1))] 255));have Gp:Hid (j.heap.size=w.heap.size+6):=qI (by rw [z.o];simp);have L:Hid (zb [] w j):=qI (by rw [z.o];exact ((((((zb.refl [] w).alloc _).alloc _).alloc _).alloc _).alloc _).alloc _);have Gd:Hid (p<w.heap.size):=qI O.lt;have Jg:Hid (j.heap[w.heap.size]? = some (.cells #[.pointer (some ⟨p,0,none⟩)] 107 (0,0))):=qI (by
  rw [z.o];exact ((((((zb.refl [] _).alloc _).alloc _).alloc _).alloc _).alloc _).heap (ze rfl) Wz)
 have Gy:Hid (j.heap[w.heap.size+1]? = some (.cells #[.int .i64 d] 3 (0,0))):=qI (by
  rw [z.o];exact (((((zb.refl [] _).alloc _).alloc _).alloc _).alloc _).heap (ze Wz) Wz)
 have Gg:Hid (kD j (w.heap.size+1+1)):=qI (by
  rw [z.o];exact ((((zb.refl [] _).alloc _).alloc _).alloc _).heap (ze Wz) Wz)
 have Js:Hid (j.heap[w.heap.size+1+1+1]? = some (.cells (kh 6 0 ⟨#[]⟩ (.slice none 0 0) (.slice none 0 0)) 25 (0,0))):=qI (by
  rw [z.o];exact (((zb.refl [] _).alloc _).alloc _).heap (ze Wz) Wz)
 have Mh:Hid (qY j (w.heap.size+1+1+1+1) []):=qI (by
  rw [z.o];exact (seen_new Wz).k0 ((zb.refl [] _).alloc _))
 have Mi:Hid (j.heap[w.heap.size+1+1+1+1+1]? = some (.cells #[.map (some (w.heap.size+1+1+1+1))] 255 (0,0))):=qI (by
  rw [z.o];exact ze Wz)
 have N:Hid (MPos j (w.heap.size+1+1+1) w.heap.size (w.heap.size+1) (w.heap.size+1+1+1+1+1) (w.heap.size+1+1+1+1) p):=qI (by
  have h1:=Gd.o;have h2:=Gp.o;constructor <;> omega)
 have Jt:Hid (MJ j (w.heap.size+1+1+1) w.heap.size (w.heap.size+1) (w.heap.size+1+1+1+1+1) (w.heap.size+1+1+1+1) p d [] [] j (.slice none 0 0) []):=qI ⟨⟨Jg.o,Gy.o,Mi.o,Wd⟩,Mh.o,Js.o,World.ownsRow_nil _ _ _ _,zM.nil _⟩;have Gw:=qI (O.k0 L.o);have Gu:=qI (hT.step (L.o.mono Wz));have M:=za (o:=0) (v:=.pointer (some ⟨p,0,none⟩)) Jg.o rfl;rw [z.o] at M
 have CI:=qI (items2_any (acc:=([]:List (ByteArray×V d))) (step:=yl (zy d)) (stop:=125) (p:=p) (S:=S) (w:=j) (GJ:=fun acc w'=>∃ vm mcs,MJ j (w.heap.size+1+1+1) w.heap.size (w.heap.size+1) (w.heap.size+1+1+1+1+1) (w.heap.size+1+1+1+1) p d (acc.map (fun q=>q.1)) acc w' vm mcs) (GB:=MBad j (w.heap.size+1+1+1) w.heap.size (w.heap.size+1) (w.heap.size+1+1+1+1+1) (w.heap.size+1+1+1+1) p d) (len:=List.length) hS
  (fun s c acc D h1 h2 h3 ⟨K,lcs,h4⟩=>(pairs1_any (by exact @G) N.o h4 h1 h2 hS Gu.o Ws).mono fun e w2 ⟨q1,q2⟩=>⟨q1,q2.g⟩)
  (fun acc D w2 ⟨K,lcs,h4⟩ k=>⟨K,lcs,h4.step N.o k⟩) (fun D w2 h k=>h.step N.o k) (fun acc D ⟨K,lcs,h4⟩=>h4.bad) pairStep_st Gw.o hc (XB) ⟨_,_,Jt.o⟩ hf)
 clear O hc hT hf G;go_enter func178,ntmps178;have Q:=@run_makeMap prog;go_wp2_with fail;clear Q;rw [← z.o];refine CI.o.mono ?_;rintro e D ⟨rfl,b⟩;clear M;have hz:=Gp.o;have aa:=Gd.o;unfold GFin at b;cases E:yP (yl (zy d)) 125 f s c [] with
 | inl x=>
  rw [E] at b;obtain⟨u,t,a,n,A,m⟩:=b;have W:=qI u;have Gz:=qI t;have x0:=za (o:=0) (v:=.int .i64 6) m rfl;have x1:=za (o:=1) (v:=.int .i64 0) m rfl;have x2:=za (o:=2) (v:=.string ⟨#[]⟩) m rfl;have x3:=za (o:=3) (v:=.slice none 0 0) m rfl;have x4:=za (o:=4) (v:=.slice a n A) m rfl;have F:=qI (Gg.o.kept t.kept (by simp;omega));obtain⟨⟨d0,d1,d2,d3,d4⟩,f0,f1,M,f3,f4⟩:=F.o.facts;have Gq:Hid (asMap (yP (yl (zy d)) 125 f s c []) = .inl x):=qI (by rw [E];rfl);clear u t m E;go_wp2_with fail;obtain⟨WF,e⟩:=XF (yw D (w.heap.size+1+1) (.int .i64 6) (.int .i64 0) (.string ⟨#[]⟩) (.slice none 0 0) (.slice a n A));obtain⟨C,X,U,y2,P,Z⟩:=F.o.stored e;unfold yw at e;rw [← e]
  exact bodyPost_ret (v:=.agg #[.int .i64 6,.int .i64 0,.string ⟨#[]⟩,.slice none 0 0,.slice a n A]) (by simp [results,results178,go_sem,X,U,y2,P,Z]) rfl
   (br (cs:=[.int .i64 6,.int .i64 0,.string ⟨#[]⟩,.slice none 0 0,.slice a n A]) Gq.o ⟨_,_,_,_,_,_,_,_,_,rfl⟩ (((L.o.mono (Y:=[p]) Wz).trans Gz.o.kept (fun i B=>by simp at B;rcases B with h | h | h;exact .inl (by simp [h]);exact .inr Ws;exact .inr Ws)).trans C (fun i B=>by simp at B;exact .inr Ws)) (W.o.kept C (by simp;omega)))
 | inr y=>
  obtain⟨l,r,c'⟩:=y;rw [E] at b;obtain⟨u,⟨K,lcs,J⟩,-⟩:=b;obtain⟨a,A,rfl,-,-⟩:=(Slc.of_row J.row).form;have W:=qI u;have I:=qI J;have m:=J.blk;have x0:=za (o:=0) (v:=.int .i64 6) m rfl;have x1:=za (o:=1) (v:=.int .i64 0) m rfl;have x2:=za (o:=2) (v:=.string ⟨#[]⟩) m rfl;have x3:=za (o:=3) (v:=.slice none 0 0) m rfl;have x4:=za (o:=4) (v:=.slice a l.length A) m rfl;have F:=qI (Gg.o.kept J.cap.kept (by simp;omega));obtain⟨⟨d0,d1,d2,d3,d4⟩,f0,f1,M,f3,f4⟩:=F.o.facts;have Gq:Hid (asMap (yP (yl (zy d)) 125 f s c []) = .inr ((⟨6,0,⟨#[]⟩,[],l⟩:VS (V d)),r,c')):=qI (by rw [E];rfl);clear u J m E;go_wp2_with fail;obtain⟨WF,e⟩:=XF (yw D (w.heap.size+1+1) (.int .i64 6) (.int .i64 0) (.string ⟨#[]⟩) (.slice none 0 0) (.slice a l.length A));obtain⟨C,X,U,y2,P,Z⟩:=F.o.stored e;unfold yw at e;rw [← e];have H:xU (d+1) w.heap.size WF [.int .i64 6,.int .i64 0,.string ⟨#[]⟩,.slice none 0 0,.slice a l.length A] (⟨6,0,⟨#[]⟩,[],l⟩:VS (V d)):=by
   refine⟨_,_,[],lcs,rfl,World.ownsRow_nil _ _ _ _,zM.nil _,?_,?_,rfl,rfl⟩;·exact qi (zk I.o.row C (fun g hg R=>by simp at R;have:=(I.o.row.lt g hg).1;omega)) (fun g hg=>by have:=(I.o.row.lt g hg).1;omega)
   ·exact I.o.all.mono fun _ _ _ q=>⟨q.1,q.2.move C (fun g _ h=>⟨fun R=>by simp at R;omega,Ws,by simp [Value.ownBlock],h.2⟩)⟩
  exact bodyPost_ret (v:=.agg #[.int .i64 6,.int .i64 0,.string ⟨#[]⟩,.slice none 0 0,.slice a l.length A]) (by simp [results,results178,go_sem,X,U,y2,P,Z]) rfl
   (vQ (cs:=[.int .i64 6,.int .i64 0,.string ⟨#[]⟩,.slice none 0 0,.slice a l.length A]) Gq.o ⟨_,_,_,_,_,_,_,_,_,rfl⟩ (((L.o.mono (Y:=[p]) Wz).trans I.o.cap.kept (fun i B=>by simp at B;rcases B with h | h | h;exact .inl (by simp [h]);exact .inr Ws;exact .inr Ws)).trans C (fun i B=>by simp at B;exact .inr Ws)) (W.o.kept C (by simp;omega)) H)
end
section
variable {α : Type} {sub : List UInt8 → Nat → Sum Int (α × List UInt8 × Nat)} {s : List UInt8} {c : Nat}
theorem read_word {k n:Int}(h:qQ s=some (k,n)):xA sub s c = .inr (leaf k n ⟨#[]⟩,s.drop (if k=2∧n=0 then 5 else 4),c)∧(if k=2∧n=0 then 5 else 4)≤s.length∧((k=1∧n=0)∨(k=2∧n=1)∨(k=2∧n=0)):=by
 unfold qQ at h;unfold xA;split at h;·rename_i a;injection h with h;injection h with h2 h3;subst h2;subst h3;rw [if_pos a];exact⟨rfl,Ky a,.inl ⟨rfl,rfl⟩⟩
 rename_i a;rw [if_neg a];split at h;·rename_i h2;injection h with h;injection h with h3 h4;subst h3;subst h4;rw [if_pos h2];exact⟨rfl,Ky h2,.inr (.inl ⟨rfl,rfl⟩)⟩
 rename_i h2;rw [if_neg h2];split at h;·rename_i h3;injection h with h;injection h with h4 h5;subst h4;subst h5;rw [if_pos h3];exact⟨rfl,Ky h3,.inr (.inr ⟨rfl,rfl⟩)⟩
 ·cases h
theorem read_not (h:qQ s=none):xA sub s c=if s.head? = some 34 then (match kH s with | .inl e=>.inl e | .inr (t,r)=>.inr (leaf 4 0 (zx t),r,c)) else if s.head? = some 91 then (match yP (yq sub) 93 (s.length+1) s.tail c [] with | .inl e=>.inl e | .inr (l,r,c')=>.inr (⟨5,0,⟨#[]⟩,l,[]⟩,r,c')) else if s.head? = some 123 then (match yP (yl sub) 125 (s.length+1) s.tail c [] with | .inl e=>.inl e | .inr (l,r,c')=>.inr (⟨6,0,⟨#[]⟩,[],l⟩,r,c')) else match jE s with | .inl e=>.inl e | .inr (n,r)=>.inr (leaf 3 n ⟨#[]⟩,r,c):=by
 by_cases a:s.head? = some 91
 ·rw [if_neg (by rw [a];decide),if_pos a,pRead_items sub s c a];cases yP (yq sub) 93 (s.length+1) s.tail c [] with
  | inl e=>rfl
  | inr y=>obtain⟨l,r,c'⟩:=y;rfl
 by_cases h6:s.head? = some 123
 ·rw [if_neg (by rw [h6];decide),if_neg a,if_pos h6,pRead_map sub s c h6];cases yP (yl sub) 125 (s.length+1) s.tail c [] with
  | inl e=>rfl
  | inr y=>obtain⟨l,r,c'⟩:=y;rfl
 rw [if_neg a,if_neg h6];unfold qQ at h;unfold xA;split at h;·cases h
 split at h;·cases h
 split at h;·cases h
 rename_i d h2 h3;rw [if_neg d,if_neg h2,if_neg h3,if_neg a,if_neg h6];by_cases b:s.head? = some 34
 ·rw [if_pos b,if_pos b];cases kH s with
  | inl e=>rfl
  | inr y=>obtain⟨t,r⟩:=y;rfl
 ·rw [if_neg b,if_neg b];cases jE s with
  | inl e=>rfl
  | inr y=>obtain⟨t,r⟩:=y;rfl
end
section
variable {w : World} {p d : Nat} {S : ByteArray} {s : List UInt8} {c : Nat}
theorem YB {d B:Nat}{w:World}{k n:Int}{s:ByteArray}(a:(Lit.int .i64 k).wf=true)(h2:(Lit.int .i64 n).wf=true):xU (d+1) B w [.int .i64 k,.int .i64 n,.string s,.slice none 0 0,.slice none 0 0] (leaf k n s:VS (V d)):=
 ⟨_,_,[],[],rfl,World.ownsRow_nil _ _ _ _,zM.nil _,World.ownsRow_nil _ _ _ _,zM.nil _,a,h2⟩
theorem pread_word (E:PS w p S 4097 (.inr (s,c)))(hS:S.size≤262144){k n:Int}(I:qQ s=some (k,n)) : Calls prog 125 #[.pointer (some ⟨p,0,none⟩),.int .i64 ((d:Int)+1)] w fun e w'=>qH d (xA (zy d) s c) p S w e w':=by
 obtain⟨z,F⟩:=XE (w.alloc (.cells #[.int .i64 0,.int .i64 0,.string ⟨#[]⟩,.slice none 0 0,.slice none 0 0] 25));have Gb:Hid (zb [] w z):=qI (kA1 F.o);have Gp:Hid (z.heap.size=w.heap.size+1):=qI (by rw [F.o];simp);have Gg:Hid (kD z w.heap.size):=qI (by rw [F.o];exact qu w);have Q:Hid (p<w.heap.size):=qI E.lt;have CW:=qI (JQ (E.k0 Gb.o) hS);obtain⟨r1,r2,Z⟩:=read_word (sub:=zy d) (c:=c) I;obtain⟨i,M,G,hc,J⟩:=E.open_ok;have hl:=yO J G;have Mb:=qI r1;have Mc:=qI Z;have Je:=qI I;have A:Hid (∀ w',_):=qI (fun w'=>pletters_any k n Z w');obtain⟨L,X⟩:∃ L:Nat,L=(if k=2∧n=0 then 5 else 4):=⟨_,rfl⟩;have D:(if k=2∧n=0 then (5:Int) else 4)=(L:Int):=by rw [X];split <;> rfl
 rw [D] at A;rw [← X] at Mb r2;have Mj:Hid (S.data.toList.drop (i+L)=s.drop L):=qI (by rw [← J,List.drop_drop]);have C:i+L≤S.size:=Ws;have Mk:=qI C;have aa:(i:Int)+L≤262144:=Ws;have H1:=qI (Gb.o.heap M Wz);have HC:=qI hc;clear E I r1 r2 Z M G hc J hl X D C;go_enter func125,ntmps125;go_wp2_with fail;rw [← F.o];refine CW.o.mono ?_;rintro e u ⟨ha,x⟩;unfold kx at ha;rw [Je.o] at ha;subst ha;unfold yE;obtain⟨l,H⟩:=XE (u.alloc (.cells #[.int .i64 k,.int .i64 n,.string ⟨#[]⟩,.slice none 0 0,.slice none 0 0] 25));have Gh:=qI x;have Ge:Hid (zb [] u l):=qI (kA1 H.o);have Ml:Hid (yZ l u.heap.size k n ⟨#[]⟩ (.slice none 0 0) (.slice none 0 0)):=qI (by rw [H.o];exact xr _ _ _ _ _ _ _);have Mm:Hid (PAt l p S i c 0):=qI ((Gh.o.then Ge.o).heap H1.o Wz);have Ju:Hid (z.heap.size≤u.heap.size):=qI x.size;clear x;go_wp2_with fail;rw [← H.o];refine zt (n:=10) (fun w':World=>PAt w' p S i c 0∧yZ w' u.heap.size k n ⟨#[]⟩ (.slice none 0 0) (.slice none 0 0)) 9 Wr Wr ?_;change zS _ _ _ _ _ _ _ _ _ l.drew;have a:(fun w':World=>PAt w' p S i c 0∧yZ w' u.heap.size k n ⟨#[]⟩ (.slice none 0 0) (.slice none 0 0)) l.drew:=⟨(zb.refl [] l).drew.heap Mm.o Wz,Ml.o.k0 (zb.refl [] l).drew⟩;have Jv:Hid (zb [] l l.drew):=qI (zb.refl [] l).drew;revert a Jv;generalize l.drew=WD;intro a Jv;refine zF ?_;intro O R j hR;have f:kI R:=by subst hR;exact fun _ _ _ _ _ h=>h
 refine qT 0 ?_ j rfl rfl Wr f (fun w b=>?_) a ?_;rotate_left;·exact zg
 try simp only [XI]
 refine qT 1 ?_ j rfl rfl Wr f (fun w b=>?_) a ?_;rotate_left;·exact zg
 try simp only [XI]
 refine qT 2 ?_ j rfl rfl Wr f (fun w b=>?_) a ?_;rotate_left;·exact zg
 try simp only [XI]
 refine qT 3 ?_ j rfl rfl Wr f (fun w b=>?_) a ?_;rotate_left;·obtain⟨U,W,P,s3,s4⟩:=b.1.cells;exact zg
 try simp only [XI]
 refine qT 4 ?_ j rfl rfl Wr f (fun w b=>?_) a ?_;rotate_left;·obtain⟨U,W,P,s3,s4⟩:=b.2;exact zg
 try simp only [XI]
 refine qO 5 j rfl Wr (fun K t=>?_);go_simp;refine Calls.mono (A.o _) ?_;rintro e N ⟨rfl,r⟩;have Gf:=qI (Jv.o.then r);have y:(fun w':World=>PAt w' p S i c 0∧yZ w' u.heap.size k n ⟨#[]⟩ (.slice none 0 0) (.slice none 0 0)) N:=⟨r.heap a.1 Wz,a.2.k0 r⟩;refine t _ _ (.inr y) ?_;clear t K;try simp only [XI]
 clear a r;have a:=y;clear y;refine qT 6 ?_ j rfl rfl Wr f (fun w b=>?_) a ?_;rotate_left;·exact zg
 try simp only [XI]
 refine qO 7 j rfl Wr (fun K t=>?_);go_simp;refine t _ _ (.inr a) ?_;clear t K;try simp only [XI]
 refine qT 8 ?_ j rfl rfl Wr f (fun w b=>?_) a ?_;rotate_left;·exact zg
 try simp only [XI]
 have Gk:=qI a.1;have Gy:=qI a.2;obtain⟨U,W,P,s3,fz⟩:=a.1.cells;have f1:=fz 1;clear fz;refine qO 9 j rfl Wr (fun K t=>?_);go_simp;refine t _ _ (.inl rfl) ?_;clear t K;try simp only [XI]
 refine zz j Wr ?_ _;subst hR;try clear f j O
 clear U W P s3 f1 a;rw [show IntKind.i64.wrap ((i:Int)+(L:Int))=((i+L:Nat):Int) by rw [IntKind.wrap_i64];omega];have q:=Gk.o.set1 (i+L);have m:=zW N p 1 (.int .i64 ((i+L:Nat)));revert q m;generalize N.setCell ⟨p,1,none⟩ (.int .i64 ((i+L:Nat)))=w4;intro q m;have Gn:=qI q;have Gi:Hid (zb [p] z w4):=qI (((((Gh.o.then Ge.o).then Gf.o)).mono Wz).trans' m);obtain⟨b0,b1,b2,b3,b4⟩:=Gy.o.kept m (by have M:=Q.o;have h2:=Gp.o;have h3:=Ju.o;simp;omega);have Gc:=qI (Gg.o.kept Gi.o (by have:=Q.o;simp;omega));obtain⟨⟨d0,d1,d2,d3,d4⟩,f0,f1,f2,f3,f4⟩:=Gc.o.facts;clear q m;go_wp2_with fail;obtain⟨WF,e⟩:=XF (yw w4 w.heap.size (.int .i64 k) (.int .i64 n) (.string ⟨#[]⟩) (.slice none 0 0) (.slice none 0 0));obtain⟨KF,y0,y1,y2,y3,y4⟩:=Gc.o.stored e;unfold yw at e;rw [← e];have B:=PS.good (show PAt WF p S (i+L) c 0 from KF.heap Gn.o (by have:=Q.o;simp;omega)) Mk.o HC.o;rw [Mj.o] at B
 exact bodyPost_ret (v:=.agg #[.int .i64 k,.int .i64 n,.string ⟨#[]⟩,.slice none 0 0,.slice none 0 0]) (by simp [results,results125,go_sem,y0,y1,y2,y3,y4]) rfl
  (vQ (cs:=[.int .i64 k,.int .i64 n,.string ⟨#[]⟩,.slice none 0 0,.slice none 0 0]) Mb.o ⟨_,_,_,_,_,_,_,_,_,rfl⟩ (((Gb.o.mono (Y:=[p]) Wz).trans' Gi.o).trans KF (fun i G=>by simp at G;exact .inr Ws)) B (YB (by rcases Mc.o with ⟨rfl,rfl⟩ | ⟨rfl,rfl⟩ | ⟨rfl,rfl⟩ <;> rfl) (by rcases Mc.o with ⟨rfl,rfl⟩ | ⟨rfl,rfl⟩ | ⟨rfl,rfl⟩ <;> rfl)))
end
section
variable {w : World} {p d : Nat} {S : ByteArray} {s : List UInt8} {c : Nat}
theorem qH.move {d p:Nat}{R:Sum Int (VS (V d)×List UInt8×Nat)}{S:ByteArray}{w f w' l:World}{e:Ending}{r:Nat}{n k b2 b3 m:Value}(h:qH d R p S f (.returned (.agg #[n,k,b2,b3,m])) w')(k0:zb [p] w f)(a:zb [r] w' l)(C:w.heap.size≤r)(z:r<f.heap.size)(hp:p<w.heap.size):qH d R p S w (.returned (.agg #[n,k,b2,b3,m])) l:=by
 obtain⟨cs,s,u,t,b⟩:=h;refine⟨cs,s,u,(k0.trans t (fun i j=>.inl j)).trans a (fun i j=>by simp at j;exact .inr Ws),?_⟩;cases R with
 | inl x=>exact PS.kept b a (by simp;omega)
 | inr y=>obtain⟨v,q,B⟩:=y;exact⟨PS.kept b.1 a (by simp;omega),b.2.move a (fun g A=>by simp at A;omega) (XC k0.size)⟩
theorem pread_not (hd:d≤100)(ad:qt d)(hs:PS w p S 4097 (.inr (s,c)))(hc:c≤4096)(N:S.size≤262144)(hT:qA p w)(hw:qQ s=none)(hb:xN s=true) : Calls prog 125 #[.pointer (some ⟨p,0,none⟩),.int .i64 ((d:Int)+1)] w fun e w'=>qH d (xA (zy d) s c) p S w e w':=by
 obtain⟨W0,Ga⟩:=XE (w.alloc (.cells #[.int .i64 0,.int .i64 0,.string ⟨#[]⟩,.slice none 0 0,.slice none 0 0] 25));have Gb:Hid (zb [] w W0):=qI (kA1 Ga.o);have Gp:Hid (W0.heap.size=w.heap.size+1):=qI (by rw [Ga.o];simp);have Gg:Hid (kD W0 w.heap.size):=qI (by rw [Ga.o];exact qu w);have P:Hid (p<w.heap.size):=qI hs.lt;have CW:=qI (JQ (hs.k0 Gb.o) N);have Gw:=qI (hs.k0 Gb.o);have Gu:=qI (hT.step (Gb.o.mono Wz));have Jo:=qI (read_not (sub:=zy d) (c:=c) hw);have Je:=qI hw;have HC:=qI hc;have af:(d:Int)≤100:=Ws;clear hd;have Jp:=@qI (qt d) (by exact @ad);clear hs hc hT hw ad;cases s with
 | nil=>exact absurd hb Wo
 | cons a t=>
  have ab:0<(zx (a::t)).size:=by rw [yd];simp
  have h0:(zx (a::t))[0]'ab=a:=rfl;have aa:(0:Int)<(zx (a::t)).size:=Ws;have CR:Hid (∀ w',zb [] W0 w'→Calls prog 75 #[.pointer (some ⟨p,0,none⟩)] w' fun e w2=>e = .returned (.string (zx (a::t)))∧zb [] w' w2):=qI (fun w' k=>Zq (Gw.o.k0 k) N);have G:Hid ((a::t).head? = some a):=qI rfl;clear hb;revert CR ab h0 aa;generalize zx (a::t)=T;intro ab h0 aa CR;by_cases F:a=34
  ·subst F;have Jh:Hid (xA (zy d) (34::t) c=(match kH (34::t) with | .inl e=>.inl e | .inr (t,r)=>.inr (leaf 4 0 (zx t),r,c))):=qI (by rw [Jo.o];exact if_pos rfl);have Gm:Hid (∀ (X:World),PS X p S 4097 (Q6 (.inr (34::t,c)))→zb [p] w X→qH d (xA (zy d) (34::t) c) p S w (.returned (.agg #[.int .i64 4,.int .i64 0,.string (zx (JN (.inr (34::t,c)))),.slice none 0 0,.slice none 0 0])) X):=qI (fun X h1 h2=>by
    cases hu:kH (34::t) with
    | inl e=>rw [(YQ hu).1] at h1;exact br (by rw [Jh.o,hu]) ⟨_,_,_,_,_,_,_,_,_,rfl⟩ h2 h1
    | inr y=>obtain⟨q,r⟩:=y;rw [(Qo hu).1] at h1;rw [(Qo hu).2];exact vQ (by rw [Jh.o,hu]) ⟨_,_,_,_,_,_,_,_,_,rfl⟩ h2 h1 (YB rfl rfl))
   go_enter func125,ntmps125;go_wp2_with fail;rw [← Ga.o];refine CW.o.mono ?_;rintro e w1 ⟨I,u⟩;unfold kx at I;rw [Je.o] at I;subst I;unfold yE;have O:=qI (u.alloc (.cells #[.int .i64 0,.int .i64 0,.string ⟨#[]⟩,.slice none 0 0,.slice none 0 0] 25));clear u;go_wp2_with fail;refine (CR.o _ O.o).mono ?_;rintro e w2 ⟨rfl,z⟩;have H:=qI (O.o.then z);have Jb:=qI (Gw.o.k0 H.o);have Jc:=qI (Gu.o.step (H.o.mono (Y:=[p]) Wz));clear z;go_wp2_with fail;refine (Ka Jb.o Jc.o N).mono ?_;rintro e w3 ⟨rfl,A,j⟩;have Gk:=qI A;have Gf:=qI ((H.o.mono (Y:=[p]) Wz).trans' j);clear A j;go_wp2_with fail;refine (vtext_any _ _).mono ?_;rintro e w4 ⟨rfl,C⟩;unfold yE;have Gn:=qI (Gk.o.k0 C);have Gi:=qI (Gf.o.then C);clear C;have J:=qI (Gg.o.kept Gi.o (by have:=P.o;simp;omega));obtain⟨⟨d0,d1,d2,d3,d4⟩,f0,f1,f2,f3,f4⟩:=J.o.facts;go_wp2_with fail;obtain⟨X,e⟩:=XF (yw w4 w.heap.size (.int .i64 4) (.int .i64 0) (.string (zx (JN (.inr (34::t,c))))) (.slice none 0 0) (.slice none 0 0));obtain⟨K,U,R,Z,Q,W⟩:=J.o.stored e;unfold yw at e;rw [← e];exact bodyPost_ret (v:=.agg #[.int .i64 4,.int .i64 0,.string (zx (JN (.inr (34::t,c)))),.slice none 0 0,.slice none 0 0]) (by simp [results,results125,go_sem,U,R,Z,Q,W]) rfl (Gm.o _ (Gn.o.kept K (by have:=P.o;simp;omega)) (((Gb.o.mono (Y:=[p]) Wz).trans' Gi.o).trans K (fun i hi=>by simp at hi;exact .inr Ws)))
  have ae:a.toNat≠34:=fun q=>F (UInt8.toNat_inj.1 q);obtain⟨j1,j2⟩:=zR (a:=(a.toNat:Int)) (b:=34) Ws;by_cases E:a=91
  ·have Jf:Hid (xA (zy d) (a::t) c=zbb (yP (yq (zy d)) 93 ((a::t).length+1) t c [])):=qI (by
    rw [Jo.o,if_neg (by rw [G.o];exact fun q=>F (by injection q)),if_pos (by rw [G.o,E]),List.tail_cons];cases yP (yq (zy d)) 93 ((a::t).length+1) t c [] with
    | inl e=>rfl
    | inr y=>obtain⟨l,r,c'⟩:=y;rfl)
   rw [Jf.o];have HA:=qI E;have Mn:=qI F;clear F E;go_enter func125,ntmps125;go_wp2_with fail;rw [← Ga.o];refine CW.o.mono ?_;rintro e w1 ⟨I,u⟩;unfold kx at I;rw [Je.o] at I;subst I;unfold yE;have O:=qI (u.alloc (.cells #[.int .i64 0,.int .i64 0,.string ⟨#[]⟩,.slice none 0 0,.slice none 0 0] 25));clear u;go_wp2_with fail;refine (CR.o _ O.o).mono ?_;rintro e w2 ⟨rfl,z⟩;have H:=qI (O.o.then z);have Jb:=qI (Gw.o.k0 H.o);have Jc:=qI (Gu.o.step (H.o.mono (Y:=[p]) Wz));clear z;go_wp2_with fail;have C3:=qI (xV Jb.o N ⟨#[91]⟩);rw [show (⟨#[91]⟩:ByteArray).data.toList=[91] from rfl,(yi 91 (a::t) c).1,decide_eq_true (by rw [G.o,HA.o]),(yi 91 (a::t) c).2.1 (by rw [G.o,HA.o]),List.tail_cons] at C3;refine C3.o.mono ?_;rintro e w3 ⟨rfl,A,j⟩;have Gk:=qI A;have Gf:=qI ((H.o.mono (Y:=[p]) Wz).trans' j);have Jq:=qI (Jc.o.step j);clear A j;go_wp2_with fail;refine (plist_any (d:=d) (by exact @Jp.o) Gk.o HC.o N Jq.o (f:=(a::t).length+1) (by simp only [List.length_cons];omega)).mono ?_;rintro e w5 h;obtain⟨cs,rfl,⟨k5,m5,s5,p5,i5,c5,q5,j5,d5,rfl⟩,B,m⟩:=h;have Gm:Hid (qH d (zbb (yP (yq (zy d)) 93 ((a::t).length+1) t c [])) p S w3 (.returned (.agg #[.int .i64 k5,.int .i64 m5,.string s5,.slice p5 i5 c5,.slice q5 j5 d5])) w5):=qI ⟨_,rfl,⟨_,_,_,_,_,_,_,_,_,rfl⟩,B,m⟩;have Gr:=qI (Gf.o.trans' B);have Jw:Hid (w.heap.size<w3.heap.size):=qI (by have h1:=Gf.o.size;have h2:=Gp.o;omega);clear B m;have J:=qI (Gg.o.kept Gr.o (by have:=P.o;simp;omega));obtain⟨⟨d0,d1,d2,d3,d4⟩,f0,f1,f2,f3,f4⟩:=J.o.facts;go_wp2_with fail;obtain⟨X,e⟩:=XF (yw w5 w.heap.size (.int .i64 k5) (.int .i64 m5) (.string s5) (.slice p5 i5 c5) (.slice q5 j5 d5));obtain⟨K,U,R,Z,Q,W⟩:=J.o.stored e;unfold yw at e;rw [← e];exact bodyPost_ret (v:=.agg #[.int .i64 k5,.int .i64 m5,.string s5,.slice p5 i5 c5,.slice q5 j5 d5]) (by simp [results,results125,go_sem,U,R,Z,Q,W]) rfl (Gm.o.move (e:=.panicked []) ((Gb.o.mono (Y:=[p]) Wz).trans' Gf.o) K (XA) Jw.o P.o)
  by_cases D:a=123
  ·have Jf:Hid (xA (zy d) (a::t) c=asMap (yP (yl (zy d)) 125 ((a::t).length+1) t c [])):=qI (by
    rw [Jo.o,if_neg (by rw [G.o];exact fun q=>F (by injection q)),if_neg (by rw [G.o];exact fun q=>E (by injection q)),if_pos (by rw [G.o,D]),List.tail_cons];cases yP (yl (zy d)) 125 ((a::t).length+1) t c [] with
    | inl e=>rfl
    | inr y=>obtain⟨l,r,c'⟩:=y;rfl)
   rw [Jf.o];have HA:=qI D;have Gs:=qI E;clear F E D;go_enter func125,ntmps125;go_wp2_with fail;rw [← Ga.o];refine CW.o.mono ?_;rintro e w1 ⟨I,u⟩;unfold kx at I;rw [Je.o] at I;subst I;unfold yE;have O:=qI (u.alloc (.cells #[.int .i64 0,.int .i64 0,.string ⟨#[]⟩,.slice none 0 0,.slice none 0 0] 25));clear u;go_wp2_with fail;refine (CR.o _ O.o).mono ?_;rintro e w2 ⟨rfl,z⟩;have H:=qI (O.o.then z);have Jb:=qI (Gw.o.k0 H.o);have Jc:=qI (Gu.o.step (H.o.mono (Y:=[p]) Wz));clear z;go_wp2_with fail;have C3:=qI (xV Jb.o N ⟨#[91]⟩);rw [show (⟨#[91]⟩:ByteArray).data.toList=[91] from rfl,(yi 91 (a::t) c).1,decide_eq_false (by rw [G.o];exact fun q=>Gs.o (by injection q)),(yi 91 (a::t) c).2.2 (by rw [G.o];exact fun q=>Gs.o (by injection q))] at C3;refine C3.o.mono ?_;rintro e w3 ⟨rfl,A,j⟩;have Gk:=qI A;have Gf:=qI ((H.o.mono (Y:=[p]) Wz).trans' j);have Jq:=qI (Jc.o.step j);clear A j;go_wp2_with fail;have C4:=qI (xV Gk.o N ⟨#[123]⟩);rw [show (⟨#[123]⟩:ByteArray).data.toList=[123] from rfl,(yi 123 (a::t) c).1,decide_eq_true (by rw [G.o,HA.o]),(yi 123 (a::t) c).2.1 (by rw [G.o,HA.o]),List.tail_cons] at C4;refine C4.o.mono ?_;rintro e w4 ⟨rfl,L,C⟩;have Gn:=qI L;have Gi:=qI (Gf.o.trans' C);have Mo:=qI (Jq.o.step C);clear L C;go_wp2_with fail;refine (pmap_any (d:=d) (by exact @Jp.o) Gn.o HC.o N Mo.o (f:=(a::t).length+1) (by simp only [List.length_cons];omega)).mono ?_;rintro e w5 h;obtain⟨cs,rfl,⟨k5,m5,s5,p5,i5,c5,q5,j5,d5,rfl⟩,B,m⟩:=h;have Gm:Hid (qH d (asMap (yP (yl (zy d)) 125 ((a::t).length+1) t c [])) p S w4 (.returned (.agg #[.int .i64 k5,.int .i64 m5,.string s5,.slice p5 i5 c5,.slice q5 j5 d5])) w5):=qI ⟨_,rfl,⟨_,_,_,_,_,_,_,_,_,rfl⟩,B,m⟩;have Gr:=qI (Gi.o.trans' B);have Jw:Hid (w.heap.size<w4.heap.size):=qI (by have h1:=Gi.o.size;have h2:=Gp.o;omega);clear B m;have J:=qI (Gg.o.kept Gr.o (by have:=P.o;simp;omega));obtain⟨⟨d0,d1,d2,d3,d4⟩,f0,f1,f2,f3,f4⟩:=J.o.facts;go_wp2_with fail;obtain⟨X,e⟩:=XF (yw w5 w.heap.size (.int .i64 k5) (.int .i64 m5) (.string s5) (.slice p5 i5 c5) (.slice q5 j5 d5));obtain⟨K,U,R,Z,Q,W⟩:=J.o.stored e;unfold yw at e;rw [← e];exact bodyPost_ret (v:=.agg #[.int .i64 k5,.int .i64 m5,.string s5,.slice p5 i5 c5,.slice q5 j5 d5]) (by simp [results,results125,go_sem,U,R,Z,Q,W]) rfl (Gm.o.move (e:=.panicked []) ((Gb.o.mono (Y:=[p]) Wz).trans' Gi.o) K (XA) Jw.o P.o)
  have Jf:Hid (xA (zy d) (a::t) c=match jE (a::t) with | .inl e=>.inl e | .inr (n,r)=>.inr (leaf 3 n ⟨#[]⟩,r,c)):=qI (by
    rw [Jo.o,if_neg (by rw [G.o];exact fun q=>F (by injection q)),if_neg (by rw [G.o];exact fun q=>E (by injection q)),if_neg (by rw [G.o];exact fun q=>D (by injection q))];first
    | done
    | (cases jE (a::t) with
     | inl e=>rfl
     | inr y=>cases y;rfl))
  have Gx:=qI D;have Gs:=qI E;clear F E D;go_enter func125,ntmps125;go_wp2_with fail;rw [← Ga.o];refine CW.o.mono ?_;rintro e w1 ⟨I,u⟩;unfold kx at I;rw [Je.o] at I;subst I;unfold yE;have O:=qI (u.alloc (.cells #[.int .i64 0,.int .i64 0,.string ⟨#[]⟩,.slice none 0 0,.slice none 0 0] 25));clear u;go_wp2_with fail;refine (CR.o _ O.o).mono ?_;rintro e w2 ⟨rfl,z⟩;have H:=qI (O.o.then z);have Jb:=qI (Gw.o.k0 H.o);have Jc:=qI (Gu.o.step (H.o.mono (Y:=[p]) Wz));clear z;go_wp2_with fail;have C3:=qI (xV Jb.o N ⟨#[91]⟩);rw [show (⟨#[91]⟩:ByteArray).data.toList=[91] from rfl,(yi 91 (a::t) c).1,decide_eq_false (by rw [G.o];exact fun q=>Gs.o (by injection q)),(yi 91 (a::t) c).2.2 (by rw [G.o];exact fun q=>Gs.o (by injection q))] at C3;refine C3.o.mono ?_;rintro e w3 ⟨rfl,A,j⟩;have Gk:=qI A;have Gf:=qI ((H.o.mono (Y:=[p]) Wz).trans' j);have Jq:=qI (Jc.o.step j);clear A j;go_wp2_with fail;have C4:=qI (xV Gk.o N ⟨#[123]⟩);rw [show (⟨#[123]⟩:ByteArray).data.toList=[123] from rfl,(yi 123 (a::t) c).1,decide_eq_false (by rw [G.o];exact fun q=>Gx.o (by injection q)),(yi 123 (a::t) c).2.2 (by rw [G.o];exact fun q=>Gx.o (by injection q))] at C4;refine C4.o.mono ?_;rintro e w4 ⟨rfl,L,C⟩;have Gn:=qI L;have Gi:=qI (Gf.o.trans' C);clear L C;go_wp2_with fail;refine (pnumber_any Gn.o N).mono ?_;rintro e w5 ⟨h,B⟩;have Gr:=qI (Gi.o.trans' B);clear B;unfold JG at h;cases hn:jE (a::t) with
  | inl x=>rw [hn] at h;obtain⟨rfl,M⟩:=h;unfold yE;have Ji:=qI M;have Gq:Hid (xA (zy d) (a::t) c = .inl x):=qI (by rw [Jf.o,hn]);clear M hn;have J:=qI (Gg.o.kept Gr.o (by have:=P.o;simp;omega));obtain⟨⟨d0,d1,d2,d3,d4⟩,f0,f1,f2,f3,f4⟩:=J.o.facts;go_wp2_with fail;obtain⟨X,e⟩:=XF (yw w5 w.heap.size (.int .i64 0) (.int .i64 0) (.string ⟨#[]⟩) (.slice none 0 0) (.slice none 0 0));obtain⟨K,U,R,Z,Q,W⟩:=J.o.stored e;unfold yw at e;rw [← e];exact bodyPost_ret (v:=.agg #[.int .i64 0,.int .i64 0,.string ⟨#[]⟩,.slice none 0 0,.slice none 0 0]) (by simp [results,results125,go_sem,U,R,Z,Q,W]) rfl (br (cs:=[.int .i64 0,.int .i64 0,.string ⟨#[]⟩,.slice none 0 0,.slice none 0 0]) Gq.o ⟨_,_,_,_,_,_,_,_,_,rfl⟩ (((Gb.o.mono (Y:=[p]) Wz).trans' Gr.o).trans K (fun i hi=>by simp at hi;exact .inr Ws)) (Ji.o.kept K (by have:=P.o;simp;omega)))
  | inr y=>obtain⟨n,r⟩:=y;rw [hn] at h;obtain⟨rfl,M⟩:=h;unfold yE;have Ji:=qI M;have Md:=qI (num_facts hn).1;have Gq:Hid (xA (zy d) (a::t) c = .inr (leaf 3 n ⟨#[]⟩,r,c)):=qI (by rw [Jf.o,hn]);clear M hn;have J:=qI (Gg.o.kept Gr.o (by have:=P.o;simp;omega));obtain⟨⟨d0,d1,d2,d3,d4⟩,f0,f1,f2,f3,f4⟩:=J.o.facts;go_wp2_with fail;obtain⟨X,e⟩:=XF (yw w5 w.heap.size (.int .i64 3) (.int .i64 n) (.string ⟨#[]⟩) (.slice none 0 0) (.slice none 0 0));obtain⟨K,U,R,Z,Q,W⟩:=J.o.stored e;unfold yw at e;rw [← e];exact bodyPost_ret (v:=.agg #[.int .i64 3,.int .i64 n,.string ⟨#[]⟩,.slice none 0 0,.slice none 0 0]) (by simp [results,results125,go_sem,U,R,Z,Q,W]) rfl (vQ (cs:=[.int .i64 3,.int .i64 n,.string ⟨#[]⟩,.slice none 0 0,.slice none 0 0]) Gq.o ⟨_,_,_,_,_,_,_,_,_,rfl⟩ (((Gb.o.mono (Y:=[p]) Wz).trans' Gr.o).trans K (fun i hi=>by simp at hi;exact .inr Ws)) (Ji.o.kept K (by have:=P.o;simp;omega)) (YB rfl (zbo (XC Md.o) (XC Md.o))))
end
theorem Zs {d p:Nat}{X:PX}{S:ByteArray}{w:World}{x:Int}(h:X = .inl x∨∃ s c,X = .inr (s,c)∧zy d s c = .inl x)(h2:zb [p] w w')(h3:PS w' p S 4097 (.inl x)):kq d X p S w (.returned (.agg #[.int .i64 0,.int .i64 0,.string ⟨#[]⟩,.slice none 0 0,.slice none 0 0])) w':=by
 refine⟨ZL,rfl,⟨_,_,_,_,_,_,_,_,_,rfl⟩,h2,?_⟩;rcases h with rfl | ⟨s,c,rfl,h⟩
 ·exact h3
 ·show (match zy d s c with | .inl x=>_ | .inr (v,r,c')=>_);rw [h];exact h3
section
variable {w : World} {p d : Nat} {S : ByteArray} {s : List UInt8} {c : Nat} {x : Int}
theorem pread_any (hd:d≤100)(a:qt d)(h:PS w p S 4097 (.inr (s,c)))(hc:c≤4096)(f:S.size≤262144)(j:qA p w)(i:xN s=true) : Calls prog 125 #[.pointer (some ⟨p,0,none⟩),.int .i64 ((d:Int)+1)] w fun e w'=>qH d (xA (zy d) s c) p S w e w':=by
 cases b:qQ s with
 | some q=>obtain⟨k,n⟩:=q;exact pread_word h f b
 | none=>exact pread_not hd (by exact @a) h hc f j b i
theorem value_dull (h:xN (zu s)=false):zy d s c = .inl 50:=by
 cases d with
 | zero=>unfold zy;rw [if_pos h]
 | succ d=>unfold zy;rw [if_pos h]
theorem value_many (h:xN (zu s)=true)(hc:4096<c+1):zy d s c = .inl 42:=by
 cases d with
 | zero=>unfold zy;rw [if_neg (by rw [h];decide),if_pos hc]
 | succ d=>unfold zy;rw [if_neg (by rw [h];decide),if_pos hc]
theorem value_deep (h:xN (zu s)=true)(hc:¬ 4096<c+1):zy 0 s c = .inl 41:=by
 unfold zy;rw [if_neg (by rw [h];decide),if_neg hc]
theorem KN (hd:d≤100)(l:PS w p S 4097 (.inl x))(K:S.size≤262144) : Calls prog 74 #[.pointer (some ⟨p,0,none⟩),.int .i64 d] w fun e w'=>kq d (.inl x) p S w e w':=by
 obtain⟨z,m⟩:=XE (w.alloc (.cells #[.int .i64 0,.int .i64 0,.string ⟨#[]⟩,.slice none 0 0,.slice none 0 0] 25));have A:Hid (zb [] w z):=qI (kA1 m.o);have O:Hid (kD z w.heap.size):=qI (by rw [m.o];exact qu w);have q:Hid (p<w.heap.size):=qI l.lt;have C:=qI (qv (l.k0 A.o) K);have M:(d:Int)≤100:=Ws;clear hd;clear l;go_enter func74,ntmps74;go_wp2_with fail;rw [← m.o];refine C.o.mono ?_;rintro e E ⟨rfl,k,f⟩;have r:Hid (PS E p S 4097 (.inl x)):=qI k;obtain⟨i,c,s,n,hc,Q,B⟩:=r.o.open_bad;obtain⟨c0,c1,c2,c3,N⟩:=s.cells;obtain⟨g1,U⟩:=zR (a:=x) (b:=0) Ws;have P:=qI f;have I:=qI (yJ r.o i 50 n Ws Ws);clear k f s N c0 c2;go_wp2_with fail;refine I.o.mono ?_;rintro e w2 ⟨rfl,j,h⟩;have G:Hid (PS w2 p S 4097 (.inl x)):=qI j;have t:=qI (P.o.trans' h);clear j h c1 c3;have u:=qI (O.o.kept t.o (by have:=q.o;simp;omega));obtain⟨⟨d0,d1,X,d3,d4⟩,W,R,f2,f3,f4⟩:=u.o.facts;go_wp2_with fail;obtain⟨Z,e⟩:=XF (yw w2 w.heap.size (.int .i64 0) (.int .i64 0) (.string ⟨#[]⟩) (.slice none 0 0) (.slice none 0 0));obtain⟨y,F,D,L,J,H⟩:=u.o.stored e;unfold yw at e;rw [← e]
 exact bodyPost_ret (v:=.agg #[.int .i64 0,.int .i64 0,.string ⟨#[]⟩,.slice none 0 0,.slice none 0 0]) (by simp [results,results74,go_sem,F,D,L,J,H]) rfl
  (Zs (.inl rfl) (((A.o.mono (Y:=[p]) Wz).trans' t.o).trans y (fun i n=>by simp at n;exact .inr Ws)) (PS.kept G.o y (by have:=q.o;simp;omega)))
theorem zag (hd:d≤100)(H:xN (zu s)=false)(n:PS w p S 4097 (.inr (s,c)))(E:S.size≤262144) : Calls prog 74 #[.pointer (some ⟨p,0,none⟩),.int .i64 d] w fun e w'=>kq d (.inr (s,c)) p S w e w':=by
 obtain⟨D,r⟩:=XE (w.alloc (.cells #[.int .i64 0,.int .i64 0,.string ⟨#[]⟩,.slice none 0 0,.slice none 0 0] 25));have I:Hid (zb [] w D):=qI (kA1 r.o);have Gg:Hid (kD D w.heap.size):=qI (by rw [r.o];exact qu w);have t:Hid (p<w.heap.size):=qI n.lt;have J:=qI (qv (n.k0 I.o) E);have aa:(d:Int)≤100:=Ws;have B:=qI H;clear hd H;clear n;go_enter func74,ntmps74;go_wp2_with fail;rw [← r.o];refine J.o.mono ?_;rintro e O ⟨rfl,j,b⟩;have u:Hid (PS O p S 4097 (.inr (zu s,c))):=qI j;have Gh:=qI b;obtain⟨i,q,k,m,A⟩:=u.o.open_ok;have R:=qI q;have K:=qI A;obtain⟨c0,c1,c2,c3,l⟩:=q.cells;have U:=qI (bC u.o E);clear j b q l c0 c1 c2 A;go_wp2_with fail;refine U.o.mono ?_;rintro e w2 ⟨rfl,a⟩;rw [B.o];have z:Hid (PAt w2 p S i c 0):=qI (a.heap R.o Wz);have N:=qI (Gh.o.then a);obtain⟨c0,c1,c2,k3,l⟩:=z.o.cells;have M:=l 2;clear l c3 a;have Z:=qI (yJ (x:=.inr (zu s,c)) ⟨i,c,0,z.o,k,m,rfl,K.o,rfl⟩ i 50 k Ws Ws);clear c0 c2 k3 M;go_wp2_with fail;refine Z.o.mono ?_;rintro e F ⟨rfl,h,f⟩;have Q:Hid (PS F p S 4097 (.inl 50)):=qI h;have G:=qI (N.o.trans' f);clear h f c1;have y:=qI (Gg.o.kept G.o (by have:=t.o;simp;omega));obtain⟨⟨d0,d1,d2,d3,d4⟩,f0,f1,f2,f3,f4⟩:=y.o.facts;go_wp2_with fail;obtain⟨WF,e⟩:=XF (yw F w.heap.size (.int .i64 0) (.int .i64 0) (.string ⟨#[]⟩) (.slice none 0 0) (.slice none 0 0));obtain⟨C,P,L,y2,X,W⟩:=y.o.stored e;unfold yw at e;rw [← e]
 exact bodyPost_ret (v:=.agg #[.int .i64 0,.int .i64 0,.string ⟨#[]⟩,.slice none 0 0,.slice none 0 0]) (by simp [results,results74,go_sem,P,L,y2,X,W]) rfl
  (Zs (.inr ⟨_,_,rfl,value_dull B.o⟩) (((I.o.mono (Y:=[p]) Wz).trans' G.o).trans C (fun i k=>by simp at k;exact .inr Ws)) (PS.kept Q.o C (by have:=t.o;simp;omega)))
theorem zae (hd:d≤100)(A:xN (zu s)=true)(hm:4096<c+1)(hc:c≤4096)(m:PS w p S 4097 (.inr (s,c)))(I:S.size≤262144) : Calls prog 74 #[.pointer (some ⟨p,0,none⟩),.int .i64 d] w fun e w'=>kq d (.inr (s,c)) p S w e w':=by
 obtain⟨r,q⟩:=XE (w.alloc (.cells #[.int .i64 0,.int .i64 0,.string ⟨#[]⟩,.slice none 0 0,.slice none 0 0] 25));have J:Hid (zb [] w r):=qI (kA1 q.o);have Gg:Hid (kD r w.heap.size):=qI (by rw [q.o];exact qu w);have E:Hid (p<w.heap.size):=qI m.lt;have K:=qI (qv (m.k0 J.o) I);have U:(d:Int)≤100:=Ws;have M:(4096:Int)<(c:Int)+1:=Ws;have Z:(c:Int)≤4096:=Ws;have B:=qI A;have HM:=qI hm;have Q:=qI hc;clear hd A hm hc;clear m;go_enter func74,ntmps74;go_wp2_with fail;rw [← q.o];refine K.o.mono ?_;rintro e N ⟨rfl,j,b⟩;have F:Hid (PS N p S 4097 (.inr (zu s,c))):=qI j;have Gh:=qI b;obtain⟨i,n,k,L,z⟩:=F.o.open_ok;have Q1:=qI n;have W:=qI z;obtain⟨c0,c1,c2,c3,l⟩:=n.cells;have CB:=qI (bC F.o I);clear j b n l c0 c1 c2 z;go_wp2_with fail;refine CB.o.mono ?_;rintro e w2 ⟨rfl,a⟩;rw [B.o];have y:Hid (PAt w2 p S i c 0):=qI (a.heap Q1.o Wz);have Ge:=qI (Gh.o.then a);obtain⟨c0,c1,c2,R,l⟩:=y.o.cells;have z2:=l 2;clear l c3 a;obtain⟨G,t⟩:=XE (w2.setCell ⟨p,2,none⟩ (.int .i64 ((c:Int)+1)));have Q3:Hid (PAt G p S i (c+1) 0):=qI (by rw [t.o];exact y.o.set2 (c+1));have Gf:Hid (zb [p] r G):=qI (by rw [t.o];exact Ge.o.trans' (zW _ _ _ _));have P:=qI (yJ (x:=.inr (zu s,c+1)) ⟨i,c+1,0,Q3.o,k,(by have:=Q.o;omega:c+1≤4097),rfl,W.o,rfl⟩ i 42 k Ws Ws);clear c0 R;go_wp2_with fail;rw [← t.o];refine P.o.mono ?_;rintro e C ⟨rfl,h,f⟩;have Gv:Hid (PS C p S 4097 (.inl 42)):=qI h;have D:=qI (Gf.o.trans' f);clear h f c1 c2 z2;have u:=qI (Gg.o.kept D.o (by have:=E.o;simp;omega));obtain⟨⟨d0,d1,d2,d3,d4⟩,f0,f1,f2,f3,f4⟩:=u.o.facts;go_wp2_with fail;obtain⟨WF,e⟩:=XF (yw C w.heap.size (.int .i64 0) (.int .i64 0) (.string ⟨#[]⟩) (.slice none 0 0) (.slice none 0 0));obtain⟨H,y0,X,y2,O,y4⟩:=u.o.stored e;unfold yw at e;rw [← e]
 exact bodyPost_ret (v:=.agg #[.int .i64 0,.int .i64 0,.string ⟨#[]⟩,.slice none 0 0,.slice none 0 0]) (by simp [results,results74,go_sem,y0,X,y2,O,y4]) rfl
  (Zs (.inr ⟨_,_,rfl,value_many B.o HM.o⟩) (((J.o.mono (Y:=[p]) Wz).trans' D.o).trans H (fun i k=>by simp at k;exact .inr Ws)) (PS.kept Gv.o H (by have:=E.o;simp;omega)))
end
section
variable {w : World} {p d : Nat} {S : ByteArray} {s : List UInt8} {c : Nat} {x : Int}
theorem za5 (h:xN (zu s)=true)(hc:¬ 4096<c+1):zy (d+1) s c=match xA (zy d) (zu s) (c+1) with | .inl e=>.inl e | .inr (v,r,c')=>.inr (v,zu r,c'):=by
 rw [zy,if_neg (by rw [h];decide),if_neg hc];cases xA (zy d) (zu s) (c+1) with
 | inl e=>rfl
 | inr y=>rfl
theorem pvalue_deep (H:xN (zu s)=true)(hm:¬ 4096<c+1)(hc:c≤4096)(l:PS w p S 4097 (.inr (s,c)))(E:S.size≤262144) : Calls prog 74 #[.pointer (some ⟨p,0,none⟩),.int .i64 0] w fun e w'=>kq 0 (.inr (s,c)) p S w e w':=by
 obtain⟨q,n⟩:=XE (w.alloc (.cells #[.int .i64 0,.int .i64 0,.string ⟨#[]⟩,.slice none 0 0,.slice none 0 0] 25));have I:Hid (zb [] w q):=qI (kA1 n.o);have Gg:Hid (kD q w.heap.size):=qI (by rw [n.o];exact qu w);have t:Hid (p<w.heap.size):=qI l.lt;have J:=qI (qv (l.k0 I.o) E);have M:(c:Int)≤4095:=Ws;have B:=qI H;have HM:=qI hm;have HC:=qI hc;clear H hm hc;clear l;go_enter func74,ntmps74;go_wp2_with fail;rw [← n.o];refine J.o.mono ?_;rintro e R ⟨rfl,h,b⟩;have u:Hid (PS R p S 4097 (.inr (zu s,c))):=qI h;have Gh:=qI b;obtain⟨i,m,j,L,A⟩:=u.o.open_ok;have X:=qI m;have K:=qI A;obtain⟨c0,c1,c2,c3,k⟩:=m.cells;have Z:=qI (bC u.o E);clear h b m k c0 c1 c2 A;go_wp2_with fail;refine Z.o.mono ?_;rintro e w2 ⟨rfl,a⟩;rw [B.o];have z:Hid (PAt w2 p S i c 0):=qI (a.heap X.o Wz);have P:=qI (Gh.o.then a);obtain⟨c0,c1,c2,k3,k⟩:=z.o.cells;have O:=k 2;clear k c3 a;obtain⟨C,r⟩:=XE (w2.setCell ⟨p,2,none⟩ (.int .i64 ((c:Int)+1)));have Q:Hid (PAt C p S i (c+1) 0):=qI (by rw [r.o];exact z.o.set2 (c+1));have Gf:Hid (zb [p] q C):=qI (by rw [r.o];exact P.o.trans' (zW _ _ _ _));have CF:=qI (yJ (x:=.inr (zu s,c+1)) ⟨i,c+1,0,Q.o,j,(by have:=HC.o;omega:c+1≤4097),rfl,K.o,rfl⟩ i 41 j Ws Ws);clear c0 k3;go_wp2_with fail;rw [← r.o];refine CF.o.mono ?_;rintro e F ⟨rfl,f,d⟩;have U:Hid (PS F p S 4097 (.inl 41)):=qI f;have G:=qI (Gf.o.trans' d);clear f d c1 c2 O;have y:=qI (Gg.o.kept G.o (by have:=t.o;simp;omega));obtain⟨⟨d0,d1,d2,d3,d4⟩,f0,f1,f2,f3,f4⟩:=y.o.facts;go_wp2_with fail;obtain⟨WF,e⟩:=XF (yw F w.heap.size (.int .i64 0) (.int .i64 0) (.string ⟨#[]⟩) (.slice none 0 0) (.slice none 0 0));obtain⟨D,W,N,y2,y3,y4⟩:=y.o.stored e;unfold yw at e;rw [← e]
 exact bodyPost_ret (v:=.agg #[.int .i64 0,.int .i64 0,.string ⟨#[]⟩,.slice none 0 0,.slice none 0 0]) (by simp [results,results74,go_sem,W,N,y2,y3,y4]) rfl
  (Zs (.inr ⟨_,_,rfl,value_deep B.o HM.o⟩) (((I.o.mono (Y:=[p]) Wz).trans' G.o).trans D (fun i j=>by simp at j;exact .inr Ws)) (PS.kept U.o D (by have:=t.o;simp;omega)))
theorem valAns_read {j l:World}{r:Nat}{B n b2 b3 z:Value}(u:xN (zu s)=true)(hm:¬ 4096<c+1)(h:qH d (xA (zy d) (zu s) (c+1)) p S j (.returned (.agg #[B,n,b2,b3,z])) l)(k0:zb [p] w j)(F:p<w.heap.size)(H:w.heap.size≤r)(C:r<j.heap.size):∃ X,PS l p S 4097 X∧∀ WF,PS WF p S 4097 (kL X)→zb [p,r] l WF→kq (d+1) (.inr (s,c)) p S w (.returned (.agg #[B,n,b2,b3,z])) WF:=by
 obtain⟨cs,t,A,k,b⟩:=h;have I:=k0.size;have G:=k.size;cases f:xA (zy d) (zu s) (c+1) with
 | inl x=>rw [f] at b;refine⟨.inl x,b,fun WF m e=>⟨cs,t,A,(k0.trans k (fun i a=>.inl a)).trans e (fun i a=>by simp at a;rcases a with h | h;exact .inl (by simp [h]);exact .inr Ws),?_⟩⟩;dsimp only;rw [za5 u hm,f];exact m
 | inr y=>obtain⟨v,q,D⟩:=y;rw [f] at b;refine⟨.inr (q,D),b.1,fun WF m e=>⟨cs,t,A,(k0.trans k (fun i a=>.inl a)).trans e (fun i a=>by simp at a;rcases a with h | h;exact .inl (by simp [h]);exact .inr Ws),?_⟩⟩;dsimp only;rw [za5 u hm,f];exact⟨m,b.2.move e (fun g E=>by simp at E;omega) Ws⟩
theorem pvalue_read (hd:d≤100)(A:qt d)(hT:qA p w)(hb:xN (zu s)=true)(hm:¬ 4096<c+1)(hc:c≤4096)(O:PS w p S 4097 (.inr (s,c)))(M:S.size≤262144) : Calls prog 74 #[.pointer (some ⟨p,0,none⟩),.int .i64 ((d:Int)+1)] w fun e w'=>kq (d+1) (.inr (s,c)) p S w e w':=by
 obtain⟨I,H⟩:=XE (w.alloc (.cells #[.int .i64 0,.int .i64 0,.string ⟨#[]⟩,.slice none 0 0,.slice none 0 0] 25));have Gb:Hid (zb [] w I):=qI (kA1 H.o);have Gg:Hid (kD I w.heap.size):=qI (by rw [H.o];exact qu w);have Z:Hid (p<w.heap.size):=qI O.lt;have CS:=qI (qv (O.k0 Gb.o) M);have Gp:Hid (I.heap.size=w.heap.size+1):=qI (by rw [H.o];simp);have ab:(d:Int)≤100:=Ws;have ad:(c:Int)≤4095:=Ws;have U:=qI hb;have HM:=qI hm;have Gu:=qI (hT.step (Gb.o.mono Wz));have HD:=qI hd;obtain⟨j1,j2⟩:=zR (a:=(d:Int)+1) (b:=0) Ws;have Jp:=@qI (qt d) (by exact @A);clear hb hm hc hd A hT;clear O;go_enter func74,ntmps74;go_wp2_with fail;rw [← H.o];refine CS.o.mono ?_;rintro e w1 ⟨rfl,F,B⟩;have Gj:Hid (PS w1 p S 4097 (.inr (zu s,c))):=qI F;have Gh:=qI B;obtain⟨i,P,J,aa,hr⟩:=Gj.o.open_ok;have Q1:=qI P;have HR:=qI hr;obtain⟨c0,c1,c2,c3,K⟩:=P.cells;have CB:=qI (bC Gj.o M);clear F B P K c0 c1 c2 hr;go_wp2_with fail;refine CB.o.mono ?_;rintro e w2 ⟨rfl,k⟩;rw [U.o];have Q2:Hid (PAt w2 p S i c 0):=qI (k.heap Q1.o Wz);have Ge:=qI (Gh.o.then k);obtain⟨c0,c1,c2,k3,K⟩:=Q2.o.cells;have z2:=K 2;clear K c3 k;obtain⟨L,X⟩:=XE (w2.setCell ⟨p,2,none⟩ (.int .i64 ((c:Int)+1)));have Q3:Hid (PAt L p S i (c+1) 0):=qI (by rw [X.o];exact Q2.o.set2 (c+1));have N:Hid (zb [p] I L):=qI (by rw [X.o];exact Ge.o.trans' (zW _ _ _ _));have Gk:Hid (PS L p S 4097 (.inr (zu s,c+1))):=qI ⟨i,c+1,0,Q3.o,J,(by have:=HM.o;omega:c+1≤4097),rfl,HR.o,rfl⟩;have CV:=qI (pread_any (d:=d) HD.o (by exact @Jp.o) Gk.o (XC HM.o) M (Gu.o.step N.o) U.o);clear c0 k3;go_wp2_with fail;rw [← X.o];refine CV.o.mono ?_;rintro e l z;obtain⟨cs,rfl,⟨E,D,q,t,u,c5,m,G,n,rfl⟩,f,j⟩:=z;have Gm:Hid (qH d (xA (zy d) (zu s) (c+1)) p S L (.returned (.agg #[.int .i64 E,.int .i64 D,.string q,.slice t u c5,.slice m G n])) l):=qI ⟨_,rfl,⟨_,_,_,_,_,_,_,_,_,rfl⟩,f,j⟩;have Gi:=qI (N.o.trans' f);clear f j c1 c2 z2;obtain⟨X4,y,h⟩:=valAns_read (r:=w.heap.size) U.o HM.o Gm.o ((Gb.o.mono (Y:=[p]) Wz).trans' N.o) Z.o (XA) (by have h1:=N.o.size;have h2:=Gp.o;omega);have Gn:=qI y;have Jj:=qI h;obtain⟨W4,Q⟩:=XE (l.alloc (.cells #[.int .i64 E,.int .i64 D,.string q,.slice t u c5,.slice m G n] 25));have Jd:Hid (W4.heap[l.heap.size]? = some (.cells #[.int .i64 E,.int .i64 D,.string q,.slice t u c5,.slice m G n] 25 (0,0))):=qI (by rw [Q.o];exact ze rfl);have Gr:Hid (zb [] l W4):=qI (kA1 Q.o);have R:=qI (qv (Gn.o.k0 Gr.o) M);have W:p<l.heap.size:=Gn.o.lt;clear y h;go_wp2_with fail;rw [← Q.o];refine R.o.mono ?_;rintro e w5 ⟨rfl,C,f⟩;have Ji:=qI C;have x:=qI (f.heap Jd.o (by simp;omega));have Me:Hid (zb [p] l w5):=qI ((Gr.o.mono (Y:=[p]) Wz).trans' f);have Mp:=qI (Gi.o.trans' Me.o);have l0:=za (o:=0) x.o rfl;have l1:=za (o:=1) x.o rfl;have l2:=za (o:=2) x.o rfl;have l3:=za (o:=3) x.o rfl;have l4:=za (o:=4) x.o rfl;clear C f;have Gc:=qI (Gg.o.kept Mp.o (by have:=Z.o;simp;omega));obtain⟨⟨d0,d1,d2,d3,d4⟩,f0,f1,f2,f3,f4⟩:=Gc.o.facts;go_wp2_with fail;obtain⟨WF,e⟩:=XF (yw w5 w.heap.size (.int .i64 E) (.int .i64 D) (.string q) (.slice t u c5) (.slice m G n));obtain⟨KF,y0,y1,y2,y3,y4⟩:=Gc.o.stored e;unfold yw at e;rw [← e];exact bodyPost_ret (v:=.agg #[.int .i64 E,.int .i64 D,.string q,.slice t u c5,.slice m G n]) (by simp [results,results74,go_sem,y0,y1,y2,y3,y4]) rfl (Jj.o _ (Ji.o.kept KF (by have:=Z.o;simp;omega)) ((Me.o.mono (Y:=[p,w.heap.size]) Wz).trans KF (fun i J=>by simp at J;exact .inl (by simp [J]))))
end
theorem pvalue_known:∀ (d:Nat),d≤100→qt d:=by
 intro d;induction d with
 | zero=>
  intro hd w p S X b hc a f;cases X with
  | inl x=>exact KN hd b a
  | inr y=>
   obtain⟨s,c⟩:=y;by_cases e:xN (zu s)=true
   ·by_cases hm:4096<c+1;·exact zae hd e hm hc b a
    ·exact pvalue_deep e hm hc b a
   ·exact zag hd (by simpa using e) b a
 | succ d IH=>
  intro hd w p S X b hc a f;cases X with
  | inl x=>exact KN hd b a
  | inr y=>
   obtain⟨s,c⟩:=y;by_cases e:xN (zu s)=true
   ·by_cases hm:4096<c+1;·exact zae hd e hm hc b a
    ·rw [show ((d+1:Nat):Int)=(d:Int)+1 from by omega];exact pvalue_read Ws (by exact @IH Ws) f e hm hc b a
   ·exact zag hd (by simpa using e) b a
theorem jA {w:World}{r o:Nat}{c:Array Value}{t:Nat}{f:Nat×Nat}{v:Value}(h:w.heap[r]? = some (.cells c t f))(hv:c[o]? = some v):w.setCell ⟨r,o,none⟩ v=w:=by
 have hc:c.setIfInBounds o v=c:=by
  apply Array.ext_getElem?;intro i;rw [Array.getElem?_setIfInBounds];split
  ·rename_i e;subst e;split;·exact hv.symm
   ·rename_i k;rw [Array.getElem?_eq_none Ws] at hv;cases hv
  ·rfl
 have d:(w.setCell ⟨r,o,none⟩ v).heap=w.heap:=by
  apply Array.ext_getElem?;intro i;by_cases a:i=r;·subst a;rw [KH h v,hc,h]
  ·by_cases b:i<w.heap.size;·exact ((zb.refl [r] w).setCell (p:=⟨r,o,none⟩) (.inl Wz) v).block i b (by simp [a])
   ·have j:(w.setCell ⟨r,o,none⟩ v).heap.size=w.heap.size:=by unfold World.setCell;simp
    rw [Array.getElem?_eq_none Ws,Array.getElem?_eq_none Ws]
 show ({ w with heap:=(w.setCell ⟨r,o,none⟩ v).heap }:World)=w;rw [d]
theorem zb.fresh {X:List Nat}{w:World}(h:zb X w w')(d:∀ k,k∈X→w.heap.size≤k):zb [] w w':=
 ⟨h.os,h.tape,h.output,h.size,fun k b _=>h.block k b (fun a=>by have:=d k a;omega)⟩
def j0 (l:List UInt8)(B:Nat)(e:Ending)(w':World):Prop:=
 match xI l with
 | .inl x=>(0<x∧x≤1000)∧∃ n:Nat,n≤262144∧e = .returned (.tuple #[.agg zeroA,.int .i64 n,.int .i64 x])
 | .inr v=>∃ cs:List Value,Z6 cs∧e = .returned (.tuple #[.agg cs.toArray,.int .i64 l.length,.int .i64 0])∧xU 12 B w' cs v
theorem Kq {l:List UInt8}{x:Int}{n:Nat}(h:xI l = .inl x)(a:0<x∧x≤1000)(b:n≤262144):j0 l B (.returned (.tuple #[.agg #[.int .i64 0,.int .i64 0,.string ⟨#[]⟩,.slice none 0 0,.slice none 0 0],.int .i64 n,.int .i64 x])) w':=by
 unfold j0;rw [h];exact⟨a,n,b,rfl⟩
theorem parseAns_ok {l:List UInt8}{cs:List Value}{v:V 12}(h:xI l = .inr v)(hc:Z6 cs)(a:xU 12 B w' cs v):j0 l B (.returned (.tuple #[.agg cs.toArray,.int .i64 l.length,.int .i64 0])) w':=by
 unfold j0;rw [h];exact⟨cs,hc,rfl,a⟩
section
variable {w : World} {a : Option Addr} {c : Nat} {l : List UInt8}
theorem parse_long (f:262144<l.length):Calls prog 30 #[.slice a l.length c] w fun e w'=>j0 l w.heap.size e w'∧zb [] w w':=by
 obtain⟨d,b⟩:=XE (w.alloc (.cells #[.int .i64 0,.int .i64 0,.string ⟨#[]⟩,.slice none 0 0,.slice none 0 0] 25));have k:Hid (zb [] w d):=qI (kA1 b.o);have j:Hid (kD d w.heap.size):=qI (by rw [b.o];exact qu w);have r:(262144:Int)<l.length:=Ws;have h:Hid (xI l = .inl 3):=qI (by unfold xI;rw [if_pos f]);clear f;go_enter func30,ntmps30;go_wp2_with fail;rw [← b.o];obtain⟨⟨m,p,i,s,q⟩,-⟩:=j.o.facts;exact bodyPost_ret (v:=.tuple #[.agg #[.int .i64 0,.int .i64 0,.string ⟨#[]⟩,.slice none 0 0,.slice none 0 0],.int .i64 0,.int .i64 3]) (by simp [results,results30,go_sem,m,p,i,s,q]) rfl ⟨Kq (n:=0) h.o Wo Wo,k.o⟩
theorem parse_eq (a:l.length≤262144):xI l=match zy 12 l 0 with | .inl e=>.inl e | .inr (v,r,_)=>if r=[] then .inr v else .inl 50:=by
 unfold xI;rw [if_neg Ws];cases zy 12 l 0 with
 | inl e=>rfl
 | inr y=>rfl
theorem parse_short (hb:zp w (.slice a l.length c) l)(ht:xH w)(hl:l.length≤262144):Calls prog 30 #[.slice a l.length c] w fun e w'=>j0 l w.heap.size e w'∧zb [] w w':=by
 obtain⟨M,Ga⟩:=XE (w.alloc (.cells #[.int .i64 0,.int .i64 0,.string ⟨#[]⟩,.slice none 0 0,.slice none 0 0] 25));have Gb:Hid (zb [] w M):=qI (kA1 Ga.o);have Mf:Hid (M.heap.size=w.heap.size+1):=qI (by rw [Ga.o];simp);have Gg:Hid (kD M w.heap.size):=qI (by rw [Ga.o];exact qu w);obtain⟨W1,Ja⟩:=XE (M.alloc (.cells #[.string (zx l),.int .i64 0,.int .i64 0,.int .i64 0] 109));have Gh:Hid (zb [] M W1):=qI (kA1 Ja.o);have Mg:Hid (PS W1 (w.heap.size+1) (zx l) 4097 (.inr (l,0))):=qI ⟨0,0,0,by unfold PAt;rw [Ja.o];exact ze Mf.o,XB,XB,rfl,by rw [zK];rfl,rfl⟩;have hS:(zx l).size≤262144:=by rw [yd];exact hl
 have Mq:Hid (qA (w.heap.size+1) W1):=qI ⟨w,ht,Gb.o.then Gh.o,Ws⟩;have CV:Hid (Calls prog 74 #[.pointer (some ⟨w.heap.size+1,0,none⟩),.int .i64 12] W1 fun e w'=>kq 12 (.inr (l,0)) (w.heap.size+1) (zx l) W1 e w'):=qI (pvalue_known 12 Wo Mg.o (XB) hS Mq.o);have aa:=zp.toStr (hb.k0 Gb.o);rw [Ga.o] at aa;have ai:(l.length:Int)≤262144:=Ws;have Gv:=qI (parse_eq hl);have Jr:=qI hS;clear hb ht hl hS;go_enter func30,ntmps30;go_wp2_with fail;rw [← Ga.o,← Ja.o];clear aa;refine CV.o.mono ?_;rintro e w2 ⟨cs,rfl,⟨U,R,N,O,P,c5,I,W,J,rfl⟩,B,d⟩;obtain⟨G,Jl⟩:=XE (w2.alloc (.cells #[.int .i64 U,.int .i64 R,.string N,.slice O P c5,.slice I W J] 25));have Gy:Hid (G.heap[w2.heap.size]? = some (.cells #[.int .i64 U,.int .i64 R,.string N,.slice O P c5,.slice I W J] 25 (0,0))):=qI (by rw [Jl.o];exact ze rfl);have Gf:Hid (zb [] w2 G):=qI (kA1 Jl.o);have Ge:=qI B;have Jy:Hid (zb [w.heap.size+1] M G):=qI (((Gh.o.mono Wz).trans' B).then Gf.o);have Mt:Hid (w.heap.size+1<w2.heap.size):=qI (by have h1:=B.size;have h2:=Mg.o.lt;omega);dsimp only at d;clear B;have f:=Gv.o;clear Gv;have C:(∃ x,zy 12 l 0 = .inl x)∨(∃ v r p,zy 12 l 0 = .inr (v,r,p)∧r≠[])∨∃ v p,zy 12 l 0 = .inr (v,[],p):=by
  cases A:zy 12 l 0 with
  | inl x=>exact .inl ⟨x,rfl⟩
  | inr y=>
   obtain⟨v,r,p⟩:=y;by_cases L:r=[];·subst L;exact .inr (.inr ⟨v,p,rfl⟩)
   ·exact .inr (.inl ⟨v,r,p,rfl,L⟩)
 rcases C with ⟨x,A⟩ | ⟨v,r,p,A,L⟩ | ⟨v,p,A⟩;rotate_left 2
 ·rw [A] at d f;replace f:xI l = .inr v:=f.trans (if_pos rfl);have HX:=qI f;have F:=qI (PS.k0 d.1 Gf.o);have HO:=qI d.2;have D:Hid (Calls prog 75 #[.pointer (some ⟨w.heap.size+1,0,none⟩)] G fun r w'=>r = .returned (.string ⟨#[]⟩)∧zb [] G w'):=qI (ji F.o Jr.o);clear d f A;go_wp2_with fail;rw [← Jl.o];refine D.o.mono ?_;rintro e u ⟨rfl,j⟩;have Q:=qI (Jy.o.then j);have Jd:=qI (j.heap Gy.o Wz);have Jz:=qI (Gf.o.then j);obtain⟨i,t,E,Z,-⟩:=(F.o.k0 j).open_ok;have c3:=t.cells.2.2.2.1;have x0:=za (o:=0) (v:=.int .i64 U) Jd.o rfl;have x1:=za (o:=1) (v:=.int .i64 R) Jd.o rfl;have x2:=za (o:=2) (v:=.string N) Jd.o rfl;have x3:=za (o:=3) (v:=.slice O P c5) Jd.o rfl;have x4:=za (o:=4) (v:=.slice I W J) Jd.o rfl;have Jm:=qI (Gg.o.kept Q.o Wz);obtain⟨⟨d0,d1,d2,d3,d4⟩,f0,f1,f2,f3,f4⟩:=Jm.o.facts;clear t j E Z;go_wp2_with fail;obtain⟨WF,e⟩:=XF (yw u w.heap.size (.int .i64 U) (.int .i64 R) (.string N) (.slice O P c5) (.slice I W J));obtain⟨KF,y0,y1,y2,y3,y4⟩:=Jm.o.stored e;unfold yw at e;rw [← e];have ak:=Mf.o;have aj:=Gh.o.size
  exact bodyPost_ret (v:=.tuple #[.agg #[.int .i64 U,.int .i64 R,.string N,.slice O P c5,.slice I W J],.int .i64 l.length,.int .i64 0]) (by simp [results,results30,go_sem,y0,y1,y2,y3,y4]) rfl
   ⟨parseAns_ok (cs:=[.int .i64 U,.int .i64 R,.string N,.slice O P c5,.slice I W J]) HX.o ⟨_,_,_,_,_,_,_,_,_,rfl⟩ (HO.o.move ((Jz.o.mono Wz).trans' KF) (fun g hg=>by simp at hg;omega) Ws),(Gb.o.mono (Y:=[w.heap.size+1,w.heap.size]) Wz).trans' ((Q.o.mono Wz).trans' (KF.mono Wz)) |>.fresh Wz⟩
 case' inl=>rw [A] at d f;have HX:Hid (xI l = .inl x):=qI f;have F:=qI (PS.k0 d Gf.o);have D:Hid (Calls prog 75 #[.pointer (some ⟨w.heap.size+1,0,none⟩)] G fun r w'=>r = .returned (.string ⟨#[]⟩)∧zb [] G w'):=qI (ji F.o Jr.o);clear d f A;go_wp2_with fail;rw [← Jl.o];refine D.o.mono ?_;rintro e u ⟨rfl,j⟩;have Q:=qI (Jy.o.then j);have Gn:=qI (F.o.k0 j);clear j
 case' inr.inl=>
  rw [A] at d f;replace f:xI l = .inl 50:=f.trans (if_neg L);obtain⟨x,hx⟩:∃ x:Int,50=x:=⟨_,rfl⟩;rw [hx] at f;have HX:Hid (xI l = .inl x):=qI f;have F:=qI (PS.k0 d.1 Gf.o);have D:=qI (ji F.o Jr.o);rw [show jI (.inr (r,p))=r from rfl] at D;have ad:zx r≠⟨#[]⟩:=fun e=>L (by have h9:=congrArg (fun s:ByteArray=>s.data.toList) e;simpa only [zK] using h9);obtain⟨g1,g2⟩:=vd ad;have CF:Hid (∀ w1,PS w1 (w.heap.size+1) (zx l) 4097 (.inr (r,p))→∀ i:Nat,i≤(zx l).size→Calls prog 76 #[.pointer (some ⟨w.heap.size+1,0,none⟩),.int .i64 i,.int .i64 50] w1 fun e w2=>e = .returned (.bool false)∧PS w2 (w.heap.size+1) (zx l) 4097 (.inl x)∧zb [w.heap.size+1] w1 w2):=qI (fun w1 h i E=>by
   have h9:=yJ h i 50 E Wo Wo;rw [← hx];exact h9)
  have Mr:=qI hx;clear d f A L ad hx;revert D g1 g2;generalize zx r=T;intro D g1 g2;go_wp2_with fail;rw [← Jl.o];refine D.o.mono ?_;rintro e w3 ⟨rfl,H⟩;have Ma:=qI (Jy.o.then H);have Jn:=qI (F.o.k0 H);obtain⟨i,t,E,Z,-⟩:=Jn.o.open_ok;have c1:=t.cells.2.1;have ah:=qI E;clear t H E Z;go_wp2_with fail;refine (CF.o _ Jn.o i ah.o).mono ?_;rintro e u ⟨rfl,ab,j⟩;have Q:=qI (Ma.o.trans' j);have Gn:=qI ab;clear ab j c1 g1 g2
 all_goals
  obtain⟨i,n,t,E,Z,af,ae⟩:=Gn.o.open_bad;have ag:=Jr.o;have HI:Hid (i≤262144):=qI Ws;have Ms:Hid (0<x∧x≤1000):=qI ⟨af,ae⟩;have e1:=zv t.cells.2.1;have e3:=zv t.cells.2.2.2.1;have c3:=t.cells.2.2.2.1;obtain⟨g1,g2⟩:=zR (a:=x) (b:=0) Ws;have m:=Gg.o.kept Q.o Wz;have s0:∀ z:Ext u,z.w.setCell ⟨w.heap.size,0,none⟩ (.int .i64 0)=z.w:=fun z=>jA (z.k.heap m Wz) rfl
  have s1:∀ z:Ext u,z.w.setCell ⟨w.heap.size,1,none⟩ (.int .i64 0)=z.w:=fun z=>jA (z.k.heap m Wz) rfl;have s2:∀ z:Ext u,z.w.setCell ⟨w.heap.size,2,none⟩ (.string ⟨#[]⟩)=z.w:=fun z=>jA (z.k.heap m Wz) rfl;have s3:∀ z:Ext u,z.w.setCell ⟨w.heap.size,3,none⟩ (.slice none 0 0)=z.w:=fun z=>jA (z.k.heap m Wz) rfl;have s4:∀ z:Ext u,z.w.setCell ⟨w.heap.size,4,none⟩ (.slice none 0 0)=z.w:=fun z=>jA (z.k.heap m Wz) rfl;have Jm:=qI m;clear m t ag E Z af ae;go_wp2_with fail;refine yg u Wr Wr Wd ?_;clear c3;repeat go_big_quiet_step (fail)
  refine wpQuiet_step (fun K hK=>?_);rw [if_pos Wr];refine⟨undef,?_,hK _ ?_⟩;·rintro _ ⟨z,rfl⟩;have q:=z.k.heap Jm.o Wz;have x0:=za (o:=0) (v:=.int .i64 0) q rfl;have y0:=zh (o:=0) q;have x1:=za (o:=1) (v:=.int .i64 0) q rfl;have y1:=zh (o:=1) q;have x2:=za (o:=2) (v:=.string ⟨#[]⟩) q rfl;have y2:=zh (o:=2) q;have x3:=za (o:=3) (v:=.slice none 0 0) q rfl;have y3:=zh (o:=3) q;have x4:=za (o:=4) (v:=.slice none 0 0) q rfl;have y4:=zh (o:=4) q;unfold Oper.quietAt;go_simp
  clear hK K;dsimp only [Act.put];repeat go_big_quiet_step (fail)
  refine wpQuiet_nil ?_;intro w5 X;clear s0 s1 s2 s3 s4 e1 e3;go_wp2_with fail;obtain⟨y0,y1,y2,y3,y4⟩:=(Jm.o.kept X Wz).facts.1
  exact bodyPost_ret (v:=.tuple #[.agg #[.int .i64 0,.int .i64 0,.string ⟨#[]⟩,.slice none 0 0,.slice none 0 0],.int .i64 i,.int .i64 x]) (by simp [results,results30,go_sem,y0,y1,y2,y3,y4]) rfl
   ⟨Kq HX.o Ms.o HI.o,(Gb.o.mono (Y:=[w.heap.size+1]) Wz).trans' (Q.o.then X) |>.fresh Wz⟩
theorem parse_any (b:zp w (.slice a l.length c) l)(d:xH w):Calls prog 30 #[.slice a l.length c] w fun e w'=>j0 l w.heap.size e w'∧zb [] w w':=by
 by_cases h:l.length≤262144;·exact parse_short b d h
 ·exact parse_long Ws
end
end Go.Proofs.YtjccecajigmfkaaGreatDoor

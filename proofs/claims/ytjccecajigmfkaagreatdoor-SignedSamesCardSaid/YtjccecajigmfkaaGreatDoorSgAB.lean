/- Parts of one proof, merged: XCW XCY XGA XGB XGC XGE XPI XPJ XPL XTb. -/
import Derived.Test.YtjccecajigmfkaaGreatDoorSgW
import Derived.Test.YtjccecajigmfkaaGreatDoorRows
import Derived.LaidMore
import Derived.Stop.LaidErr
import Derived.MakeChecks
import Derived.Lib.LaidTab
import Derived.Lib.LaidU8T
import Derived.Lib.LaidCase
import Derived.PinnedBridge
set_option linter.all false
set_option maxHeartbeats 12800000
set_option maxRecDepth 10000
namespace Go.Proofs.YtjccecajigmfkaaGreatDoor
open Go.Proofs.Tryz
open Go.RowKit
variable {B:Nat}{a:Option Addr}{l:List yh}
theorem qF {n:Nat}{S:Nat→Prop}{w:World}{cs:List Value}{v:V n}{c:Nat}(h:Env n S w cs v a c l)(U:xH w) : zJ w 21 #[.agg (YJ cs a l.length c).toArray] (.bool (yf n v l)):=by
 obtain⟨kd,B,st,C,s,x,p2,z,r,rfl⟩:=h.rep.conv;obtain⟨t,j⟩:=XE (w.alloc (.cells #[.int .i64 kd,.int .i64 B,.string st,.slice C s x,.slice p2 z r,.slice a l.length c] 28));have k:Hid (zb [] w t):=qI (kA1 j.o);have W:Hid (t.heap[w.heap.size]? = some (.cells #[.int .i64 kd,.int .i64 B,.string st,.slice C s x,.slice p2 z r,.slice a l.length c] 28 (0,0))):=qI (by rw [j.o];exact ze rfl);have i:=qI (h.k0 k.o);have Q:=qI (U.k0 k.o);have u:Hid (yL t 62 #[.agg #[.int .i64 kd,.int .i64 B,.string st,.slice C s x,.slice p2 z r]] (.int .i64 (zY n v))):=qI (fun w2 b=>Zi (i.o.rep.k0 b) i.o.small i.o.deep (Q.o.k0 b));have G:Hid (yL t 63 #[.agg #[.int .i64 kd,.int .i64 B,.string st,.slice C s x,.slice p2 z r]] (.int .i64 (zH n v))):=qI (fun w2 b=>valDepth_any (i.o.rep.k0 b) i.o.small i.o.deep (Q.o.k0 b));have N:Hid (yL t 64 #[.slice a l.length c,.func (.func 65) #[] #[]] (.bool (!(l.all xn)))):=qI (fun w2 b=>noRows_any (i.o.rows.k0 b) i.o.texts i.o.few);have d:Hid (yf n v l=(decide (kd=6)&&(decide (zY n v=0)&&(decide (zH n v<12)&&(decide (l.length≤16)&&l.all xn))))):=qI (by unfold yf;rw [← i.o.rep.kindE]);have P:zH n v≤100:=Nat.le_trans (jb n v) h.deep;have O:=h.few;clear h U;generalize yf n v l=M at d;generalize zY n v=K at u d;generalize zH n v=D at G d P;generalize l.all xn=R at N d;generalize l.length=m at j W N d O ⊢;have aa:(D:Int)≤100:=Ws;have Y:(m:Int)≤1000000:=Ws;obtain⟨c0,c1,c2,c3,c4,c5⟩:=yS W.o;show Calls _ _ #[.agg #[.int .i64 kd,.int .i64 B,.string st,.slice C s x,.slice p2 z r,.slice a m c]] _ _;by_cases h6:kd=6;rotate_left;·obtain⟨X,f2⟩:=zR h6;rw [decide_eq_false h6] at d;clear h6;go_enter func21,ntmps21;go_upto_region 1 with fail;refine xg j.o ?_;go_wp2;go_ret;exact⟨by rw [d.o];rfl,k.o⟩
 rw [decide_eq_true h6] at d;subst h6;by_cases hc:K=0;rotate_left;·obtain⟨X,f2⟩:=zR hc;rw [decide_eq_false hc] at d;clear hc;go_enter func21,ntmps21;go_upto_region 1 with fail;refine xg j.o ?_;go_wp2_with (go_at_call 62;refine (u.o _ Wd).mh ?_;rintro e L rfl f);go_ret;exact⟨by rw [d.o];rfl,k.o.then f.o⟩
 rw [decide_eq_true hc] at d;subst hc;by_cases hd:D<12;rotate_left
 ·have q:(12:Int)≤D:=by omega
  rw [decide_eq_false hd] at d;clear hd;go_enter func21,ntmps21;go_upto_region 1 with fail;refine xg j.o ?_;go_upto_region 3 with (go_at_call 62;refine (u.o _ Wd).mono ?_;rintro e L ⟨rfl,b⟩;have F:=b.cell c0 Wz;have E:=b.cell c1 Wz;have J:=b.cell c2 Wz;have I:=b.cell c3 Wz;have H:=b.cell c4 Wz;have f:=qI b;clear b c0 c1 c2 c3 c4 c5);go_wp2_with (go_at_call 63;refine (G.o _ f.o).mh ?_;rintro e w2 rfl p);go_ret;exact⟨by rw [d.o];rfl,k.o.then (f.o.then p.o)⟩
 have q:(D:Int)<12:=Ws;rw [decide_eq_true hd] at d;clear hd;by_cases hm:m≤16;rotate_left
 ·have A:(16:Int)<m:=by omega
  rw [decide_eq_false hm] at d;clear hm;go_enter func21,ntmps21;go_upto_region 1 with fail;refine xg j.o ?_;go_upto_region 3 with (go_at_call 62;refine (u.o _ Wd).mono ?_;rintro e L ⟨rfl,b⟩;have F:=b.cell c0 Wz;have E:=b.cell c1 Wz;have J:=b.cell c2 Wz;have I:=b.cell c3 Wz;have H:=b.cell c4 Wz;have y:=b.cell c5 Wz;have f:=qI b;clear b c0 c1 c2 c3 c4 c5);go_wp2_with (go_at_call 63;refine (G.o _ f.o).mono ?_;rintro e w2 ⟨rfl,b⟩;have Z:=b.cell y Wz;have p:=qI b;clear b F E J I H y);go_ret;exact⟨by rw [d.o];rfl,k.o.then (f.o.then p.o)⟩
 have A:(m:Int)≤16:=Ws;rw [decide_eq_true hm] at d;clear hm;go_enter func21,ntmps21;go_upto_region 1 with fail;refine xg j.o ?_;go_upto_region 3 with (go_at_call 62;refine (u.o _ Wd).mono ?_;rintro e L ⟨rfl,b⟩;have F:=b.cell c0 Wz;have E:=b.cell c1 Wz;have J:=b.cell c2 Wz;have I:=b.cell c3 Wz;have H:=b.cell c4 Wz;have y:=b.cell c5 Wz;have f:=qI b;clear b c0 c1 c2 c3 c4 c5);go_upto_region 5 with (go_at_call 63;refine (G.o _ f.o).mono ?_;rintro e w2 ⟨rfl,b⟩;have Z:=b.cell y Wz;have p:=qI (f.o.then b);clear b F E J I H y);go_wp2_with (go_at_call 64;refine (N.o _ p.o).mh ?_;rintro e w3 rfl Jm);go_ret;exact⟨by rw [d.o];cases R <;> rfl,k.o.then (p.o.then Jm.o)⟩
theorem zaU {n:Nat}{S:Nat→Prop}{w:World}{cs:List Value}{v:V n}{c:Nat}(h:Env n S w cs v a c l)(G:xH w) : Calls prog 20 #[.agg (YJ cs a l.length c).toArray] w fun e w'=>(∃ q d,e = .returned (.slice q (kE n v l).length d)∧zp w' (.slice q (kE n v l).length d) (kE n v l))∧zb [] w w':=by
 obtain⟨kd,r,st,t,j,k,p2,p,i,rfl⟩:=h.rep.conv;obtain⟨x,s⟩:=XE (w.alloc (.cells #[.int .i64 kd,.int .i64 r,.string st,.slice t j k,.slice p2 p i,.slice a l.length c] 28));have A:Hid (zb [] w x):=qI (kA1 s.o);have H:Hid (x.heap[w.heap.size]? = some (.cells #[.int .i64 kd,.int .i64 r,.string st,.slice t j k,.slice p2 p i,.slice a l.length c] 28 (0,0))):=qI (by rw [s.o];exact ze rfl);have y:=qI (h.k0 A.o);have F:=qI (G.k0 A.o);have z:Hid (zJ x 21 #[.agg #[.int .i64 kd,.int .i64 r,.string st,.slice t j k,.slice p2 p i,.slice a l.length c]] (.bool (yf n v l))):=qI (by have L:=qF y.o F.o;exact L);have C:Hid (∀ w2,zb [] x w2→Calls prog 56 #[.agg #[.int .i64 kd,.int .i64 r,.string st,.slice t j k,.slice p2 p i]] w2 fun e w'=>(∃ a c,e = .returned (.tuple #[.slice a (xR n v).1.length c,.int .i64 (xR n v).2])∧zp w' (.slice a (xR n v).1.length c) (xR n v).1)∧zb [] w2 w'):=qI (fun w2 b=>ZU (y.o.rep.k0 b) y.o.small y.o.deep (F.o.k0 b));have f:Hid (kE n v l=if yf n v l=true then (xR n v).1 else []):=qI (by unfold kE;rfl);clear h G;generalize yf n v l=M at z f;generalize kE n v l=B at f ⊢;generalize (xR n v).1=E at C f;generalize (xR n v).2=Z at C;generalize l.length=m at s H z ⊢;obtain⟨c0,c1,c2,c3,c4,c5⟩:=yS H.o;show Calls _ _ #[.agg #[.int .i64 kd,.int .i64 r,.string st,.slice t j k,.slice p2 p i,.slice a m c]] _ _;cases M with
 | false=>go_enter func20,ntmps20;go_upto_region 1 with fail;refine xg s.o ?_;go_wp2_with (go_at_call 21;refine z.o.mh ?_;rintro e J rfl u);go_ret;rw [f.o];exact⟨⟨_,_,rfl,xX _ _⟩,A.o.then u.o⟩
 | true=>go_enter func20,ntmps20;go_upto_region 1 with fail;refine xg s.o ?_;go_upto_region 3 with (go_at_call 21;refine z.o.mono ?_;rintro e J ⟨rfl,b⟩;have O:=b.cell c0 Wz;have N:=b.cell c1 Wz;have R:=b.cell c2 Wz;have Q:=b.cell c3 Wz;have P:=b.cell c4 Wz;have u:=qI b;clear b c0 c1 c2 c3 c4 c5);go_wp2_with (go_at_call 56;refine (C.o _ u.o).mono ?_;rintro e w2 ⟨⟨q,d,rfl,D⟩,b⟩;have K:=qI b;have I:=qI D;clear b D);go_ret;rw [f.o];exact⟨⟨_,_,rfl,I.o⟩,A.o.then (u.o.then K.o)⟩
section
variable {n : Nat} {v : VS (V n)} {S : Nat → Prop} {w : World} {cs : List Value}
end
section
variable {n : Nat} {w : World} {g : Nat} {v : VS (V n)} {bad : Bool}
end
section
variable {n : Nat} {w : World} {g : Nat} {v : VS (V n)} {bad : Bool}
end
section
variable {n : Nat} {w : World} {g : Nat} {v : VS (V (n + 1))} {bad : Bool}
end
section
variable {n : Nat} {w : World} {g : Nat} {v : VS (V n)} {bad : Bool}
end
theorem refId_any (s:ByteArray)(m:s.size≤140737488355328)(w:World):zJ w 29 #[.string s] (.bool (b8 s)):=by
 have d:=Kd s m w;have f:Hid (b8 s=match xo s with | none=>false | some l=>decide (l.length=32)):=qI rfl;clear m;rcases hu:xo s with _ | l
 ·rw [hu] at d f;have d:=qI d;clear hu;go_enter func29,ntmps29;go_wp2_with (go_at_call 28;refine d.o.mono ?_;rintro e k ⟨n,h⟩;change e=_ at n;subst n;have i:=qI h;clear h);go_ret;exact⟨by rw [f.o];rfl,i.o⟩
 ·rw [hu] at d f;have d:=qI d;have f:Hid (b8 s=decide (l.length=32)):=qI f.o;clear hu;by_cases j:l.length=32;·have p:=(xw (a:=(l.length:Int)) (b:=32) Ws).1;rw [decide_eq_true j] at f;clear j;go_enter func29,ntmps29;go_wp2_with (go_at_call 28;refine d.o.mono ?_;rintro e k ⟨⟨a,c,rfl,-,-⟩,h⟩;have i:=qI h;clear h);go_ret;exact⟨by rw [f.o];rfl,i.o⟩
  ·have p:=(zR (a:=(l.length:Int)) (b:=32) Ws).1;rw [decide_eq_false j] at f;clear j;go_enter func29,ntmps29;go_wp2_with (go_at_call 28;refine d.o.mono ?_;rintro e k ⟨⟨a,c,rfl,-,-⟩,h⟩;have i:=qI h;clear h);go_ret;exact⟨by rw [f.o];rfl,i.o⟩
section
variable {W w : World} {bv b2 b3 p d : Nat} {S : ByteArray} {s : List UInt8} {c : Nat} {acc : List (V d)} {vl : Value} {lcs : List (List Value)}
theorem list1_any (an:qt d)(hp:LPos W bv b2 b3 p)(hj:LJ W bv b2 b3 p d acc w vl lcs)(hs:PS w p S 4097 (.inr (s,c)))(hc:c≤4096)(hS:S.size≤262144)(hT:qA p W)(hn:acc.length≤5000) : Calls prog 223 #[.pointer (some ⟨bv,0,none⟩),.pointer (some ⟨b2,0,none⟩),.pointer (some ⟨b3,0,none⟩)] w fun e w'=>e = .returned (.tuple #[])∧Zk W bv b2 b3 p d S s c acc w':=by
 obtain⟨U,X,rfl,-,-⟩:=(Slc.of_row hj.row).form;have HJ:=qI hj;have A:=qI hp;have Q:Hid (∀ g,(Value.slice U acc.length X).ownBlock=some g→W.heap.size≤g∧g<w.heap.size):=qI (fun g hg=>hj.row.lt g hg);have Gn:Hid (W.heap.size≤w.heap.size):=qI hj.cap.kept.size;have Jl:Hid (lcs.length=acc.length):=qI hj.all.1;have Mg:Hid (∀ x,x∈lcs→x.length=5):=qI (fun x a=>by
  obtain⟨j,ao,rfl⟩:=List.getElem_of_mem a;exact (hj.all.2 j _ _ (List.getElem?_eq_getElem ao) (List.getElem?_eq_getElem (by rw [← hj.all.1];exact ao))).len)
 have CV:Hid (∀ w',zb [] w w'→Calls prog 74 #[.pointer (some ⟨p,0,none⟩),.int .i64 d] w' fun e w2=>kq d (.inr (s,c)) p S w' e w2):=qI (fun w' k=>an (hs.k0 k) hc hS ((hj.cap.tabs hp hT).step (k.mono Wz)));have f3:=za (o:=3) (v:=.slice U acc.length X) hj.blk rfl;have f2:=za (o:=0) (v:=.pointer (some ⟨p,0,none⟩)) hj.cap.ptr rfl;have f1:=za (o:=0) (v:=.int .i64 d) hj.cap.dep rfl;have HN:=qI hn;clear hj hs an hc hn hT hp;go_enter func223,ntmps223;go_wp2_with fail;refine YI (n:=12) (fun w':World=>w'.cell? ⟨bv,3,none⟩=some (.slice U acc.length X)∧w'.cell? ⟨b2,0,none⟩=some (.pointer (some ⟨p,0,none⟩))∧w'.cell? ⟨b3,0,none⟩=some (.int .i64 d)) 7 Wr Wr ?_;change yF _ _ _ _ _ _ _ _ _ w.drew;have l:(fun w':World=>w'.cell? ⟨bv,3,none⟩=some (.slice U acc.length X)∧w'.cell? ⟨b2,0,none⟩=some (.pointer (some ⟨p,0,none⟩))∧w'.cell? ⟨b3,0,none⟩=some (.int .i64 d)) w.drew:=⟨f3,f2,f1⟩;have Je:Hid (zb [] w w.drew):=qI Wd.drew;clear f1 f2 f3;revert l Je;generalize w.drew=WD;intro l Je;refine ZN ?_;intro O R F hR;have G:kI R:=by subst hR;exact fun _ _ _ _ _ h=>h
 refine qU 0 ?_ F rfl rfl Wr G (fun w ab=>?_) l ?_;rotate_left;·exact zg
 try simp only [XI]
 refine qU 1 ?_ F rfl rfl Wr G (fun w ab=>?_) l ?_;rotate_left;·obtain⟨s0,s1,s2⟩:=ab;exact zg
 try simp only [XI]
 refine qU 2 ?_ F rfl rfl Wr G (fun w ab=>?_) l ?_;rotate_left;·obtain⟨s0,s1,s2⟩:=ab;exact zg
 try simp only [XI]
 refine qU 3 ?_ F rfl rfl Wr G (fun w ab=>?_) l ?_;rotate_left;·obtain⟨s0,s1,s2⟩:=ab;exact zg
 try simp only [XI]
 refine qU 5 ?_ F rfl rfl Wr G (fun w ab=>?_) l ?_;rotate_left;·exact zg
 try simp only [XI]
 refine ql (i:=4) (j:=6) F rfl rfl Wr Wr Wr (fun K t=>?_) (fun K t=>?_)
 ·go_simp;refine Calls.mono (CV.o _ Je.o) ?_;rintro e w3 aa;obtain⟨B,rfl,al,H,aj⟩:=aa.said;have Ge:=qI al;have Mh:=qI H;have Jm:=qI ((Je.o.mono (Y:=[p]) Wz).trans' H);have Jn:=qI aj;have Gp:Hid (w.heap.size≤WD.heap.size):=qI Je.o.size;have ag:(fun w':World=>w'.cell? ⟨bv,3,none⟩=some (.slice U acc.length X)∧w'.cell? ⟨b2,0,none⟩=some (.pointer (some ⟨p,0,none⟩))∧w'.cell? ⟨b3,0,none⟩=some (.int .i64 d)) w3:=⟨H.cell l.1 (by simpa using A.o.pv.symm),H.cell l.2.1 (by simpa using A.o.p2.symm),H.cell l.2.2 (by simpa using A.o.p3.symm)⟩;clear aa al H aj;refine t _ _ (.inr (.inr ag)) ?_;clear t K;try simp only [XI]
  clear l;have l:=ag;clear ag;refine qV 6 F rfl Wr (fun K t=>?_);go_simp;have Gi:Hid (zb [] w3 (w3.alloc (.cells #[.int .i64 0,.int .i64 0,.string ⟨#[]⟩,.slice none 0 0,.slice none 0 0] 25))):=qI ((zb.refl [] w3).alloc _);have Gb:=qI (yv w3 [.int .i64 0,.int .i64 0,.string ⟨#[]⟩,.slice none 0 0,.slice none 0 0] 5 1 25 w3.heap.size rfl rfl Wo);have ah:(fun w':World=>w'.cell? ⟨bv,3,none⟩=some (.slice U acc.length X)∧w'.cell? ⟨b2,0,none⟩=some (.pointer (some ⟨p,0,none⟩))∧w'.cell? ⟨b3,0,none⟩=some (.int .i64 d)) (w3.alloc (.cells #[.int .i64 0,.int .i64 0,.string ⟨#[]⟩,.slice none 0 0,.slice none 0 0] 25)):=⟨Gi.o.cell l.1 Wz,Gi.o.cell l.2.1 Wz,Gi.o.cell l.2.2 Wz⟩;refine t _ _ (.inr (.inr ah)) ?_;clear t K;try simp only [XI]
  clear l;have l:=ah;clear ah;revert l Gi Gb;generalize w3.alloc (.cells #[.int .i64 0,.int .i64 0,.string ⟨#[]⟩,.slice none 0 0,.slice none 0 0] 25)=w5;intro Gi Gb l;have J:=qI (Jm.o.then Gi.o);have Gd:=qI (Jn.o.k0 Gi.o);clear Jn;have Jv:=qI l;have L:=zk HJ.o.row J.o (fun i f a=>by simp at a;have:=(Q.o i f).1;have:=A.o.hp;omega);refine qV 7 F rfl Wr (fun K t=>?_);refine xa QQ L Gb.o (by intro u hu;simp only [List.mem_cons,List.not_mem_nil,or_false] at hu;rcases hu with rfl | rfl | rfl | rfl | rfl <;> rfl) (by have:=HN.o;simp only [maxLen];omega) (XC HN.o) (XH J.o.size Gn.o) (.tmp 4) (.tmp 9) rfl rfl rfl ?_;intro b6 d6 w6 z ae ai;obtain⟨m,rfl⟩:∃ m,b6=some ⟨m,0,none⟩:=by
   rcases z.2 with ⟨h,h1⟩ | ⟨g,cap,ap,hv,_⟩;·omega
   ·simp only [Value.slice.injEq] at hv;exact⟨g,hv.1⟩
  have Gq:=qI z;have Gj:=qI ae;have Gk:Hid ((Value.slice U acc.length X).ownBlock=some m∨m=w5.heap.size):=qI (by
   rcases ai with h | h;·exact .inl (by rw [← h];rfl)
   ·exact .inr (by simpa [Value.ownBlock] using h))
  have Jf:Hid (W.heap.size≤m∧m<w6.heap.size):=qI (z.lt m rfl);have Gl:Hid (w6.heap[bv]? = some (.cells (kh 5 0 ⟨#[]⟩ (.slice U acc.length X) (.slice none 0 0)) 25 (0,0))):=qI (ae.heap (J.o.heap HJ.o.blk (by simpa using A.o.pv.symm)) (fun a=>by have:=(Q.o _ (XD a)).1;have:=A.o.hv;omega));have Ja:Hid (bv≠m):=qI (XH Jf.o.1 A.o.hv);clear L z ae ai l;refine t _ _ (.inl rfl) ?_;clear t K;try simp only [XI]
  have aq:(acc.length:Int)<(acc.length:Int)+1:=Ws;refine qW 8 ?_ F rfl rfl Wr G (fun w _=>?_) ?_;rotate_left;·exact zg
  try simp only [XI]
  refine qW 10 ?_ F rfl rfl Wr G (fun w _=>?_) ?_;rotate_left;·exact zg
  try simp only [XI]
  have Z:∀ x,x∈lcs++[ZL]→x.length=5:=fun x a=>by
   rcases List.mem_append.1 a with a | a;·exact Mg.o x a
   ·simp at a;subst a;rfl
  have N:w6.ownsRow W.heap.size 25 5 (.slice (some ⟨m,0,none⟩) (acc.length+1) d6) (acc.length+1) (lcs++[ZL]).flatten:=by have b:=Gq.o;rw [List.flatten_append];simp only [List.flatten_cons,List.flatten_nil,List.append_nil];exact b
  have Jo:=qI N;have Gr:Hid ((lcs++[ZL]).set acc.length B=lcs++[B]):=qI (by
   rw [List.set_append_right _ _ (XC Jl.o),Jl.o,Nat.sub_self];rfl)
  have Gs:=qI Z;have Gt:Hid ((lcs++[ZL]).length=acc.length+1):=qI (by rw [List.length_append,Jl.o];rfl);clear Z N;refine ql (i:=9) (j:=11) F rfl rfl Wr Wr Wr (fun K t=>?_) (fun K t=>?_)
  ·obtain⟨C,P,M⟩:=xt (i:=acc.length) (g:=m) (c:=B) Jo.o Gs.o rfl Gt.o (Nat.lt_succ_self _) Ge.o.len;rw [Gr.o] at C;have Jg:=qI C;have Gu:=qI M;clear C M;refine wp_store_mid 25 (.tmp 11) (.tmp 7) rfl m (acc.length*5) B.toArray rfl rfl (by rw [List.size_toArray,Ge.o.len];exact P) (by rw [List.size_toArray,Ge.o.len];kernel_rfl) (all_oneCell_toArray Ge.o.one) ?_;refine t _ _ (.inr (.inl Wr)) ?_;clear t K;try simp only [XI]
   have E:=Gu.o.heap Gl.o (by simpa using Ja.o);have Gv:=qI E;have c3:=za (o:=3) (v:=.slice U acc.length X) E rfl;have z3:=zh (o:=3) E;clear E;refine qV 11 F rfl Wr (fun K t=>?_);go_simp;refine t _ _ (.inr (.inl Wr)) ?_;clear t K;try simp only [XI]
   refine yQ F Wr ?_ _;subst hR;try clear G F O
   clear c3 z3 P;have y:=zd (i:=3) (v:=.slice (some ⟨m,0,none⟩) (acc.length+1) d6) Gv.o rfl;have q:=((Gu.o.mono (Y:=[bv,m]) Wz).setCell (p:=⟨bv,3,none⟩) (.inl Wz) (.slice (some ⟨m,0,none⟩) (acc.length+1) d6));have D:=zk Jg.o (zW _ bv 3 (.slice (some ⟨m,0,none⟩) (acc.length+1) d6)) (fun i f a=>by simp [Value.ownBlock] at f a;exact Ja.o (by rw [← a,← f]));revert y q D;generalize World.setCell _ ⟨bv,3,none⟩ (.slice (some ⟨m,0,none⟩) (acc.length+1) d6)=wF;intro y q D;have Gw:zal W bv b2 b3 p d wF:=(HJ.o.cap.step A.o ((J.o.mono (Y:=p::bv::m::(Value.slice U acc.length X).ownBlock.toList) Wz).trans' ((Gj.o.mono (fun i f=>by simp at f ⊢;exact .inr (.inr (.inr f)))).trans' (q.mono (fun i f=>by simp at f ⊢;rcases f with h | h;exact .inr (.inl h);exact .inr (.inr (.inl h)))))) (fun i f=>by
    have b:=Gk.o;have af:=Gn.o;have ad:=J.o.size;rcases List.mem_cons.1 f with h | f
    ·exact .inl h
    rcases List.mem_cons.1 f with h | f;·exact .inr (.inl h)
    rcases List.mem_cons.1 f with h | f
    ·subst h;rcases b with b | b
     ·exact .inr (.inr (Q.o _ b).1)
     ·exact .inr (.inr Ws)
    ·exact .inr (.inr (Q.o _ (XD f)).1)))
   have Gx:Hid (∀ x,PS w5 p S 4097 x→PS wF p S 4097 x):=qI (fun x h=>(h.kept Gj.o (fun a=>by have:=(Q.o _ (XD a)).1;have:=A.o.hp;omega)).kept q (fun a=>by
    have b:=Gk.o;have af:=Gn.o;have ad:=J.o.size;have am:=A.o.hp;simp at a;rcases a with a | a
    ·exact A.o.pv a
    ·subst a;rcases b with b | b
     ·have:=(Q.o _ b).1;omega
     ·omega))
   go_wp2_with fail;go_end0;refine⟨rfl,ZW (fun x a=>?_) (fun v r c' a=>?_)⟩;·have b:=Gd.o;unfold qf at b;rw [a] at b;exact⟨Gx.o _ b,Gw,_,_,_,y⟩
   ·have b:=Gd.o;unfold qf at b;rw [a] at b;exact⟨Gx.o _ b.1,_,_,HJ.o.snoc A.o Gw y J.o Gj.o q rfl Gk.o D b.2 (Gp.o)⟩
  ·have c3:=za (o:=3) (v:=.slice U acc.length X) Gl.o rfl;have z3:=zh (o:=3) Gl.o;go_simp;refine t _ _ (.inr (.inl Wr)) ?_;clear t K;try simp only [XI]
   clear c3 z3;have E:=zd (i:=3) (v:=.slice (some ⟨m,0,none⟩) (acc.length+1) d6) Gl.o rfl;have Gv:=qI E;have Jb:=qI (zW w6 bv 3 (.slice (some ⟨m,0,none⟩) (acc.length+1) d6));clear E;revert Gv Jb;generalize w6.setCell ⟨bv,3,none⟩ (.slice (some ⟨m,0,none⟩) (acc.length+1) d6)=w7;intro Gv Jb;have I:=zk Jo.o Jb.o (fun i f a=>by simp [Value.ownBlock] at f a;exact Ja.o (by rw [← a,← f]));obtain⟨C,P,M⟩:=xt (i:=acc.length) (g:=m) (c:=B) I Gs.o rfl Gt.o (Nat.lt_succ_self _) Ge.o.len;rw [Gr.o] at C;have Jg:=qI C;have Gu:=qI M;clear C M I;refine qV 9 F rfl Wr (fun K t=>?_);refine wp_store_mid 25 (.tmp 11) (.tmp 7) rfl m (acc.length*5) B.toArray rfl rfl (by rw [List.size_toArray,Ge.o.len];exact P) (by rw [List.size_toArray,Ge.o.len];kernel_rfl) (all_oneCell_toArray Ge.o.one) ?_;refine t _ _ (.inr (.inl Wr)) ?_;clear t K;try simp only [XI]
   refine yQ F Wr ?_ _;subst hR;try clear G F O
   clear P;have y:=Gu.o.heap Gv.o (by simpa using Ja.o);have q:=((Jb.o.mono (Y:=[bv,m]) Wz).trans' (Gu.o.mono (Y:=[bv,m]) Wz));have D:=Jg.o;revert y q D;generalize World.setCells _ m (acc.length*5) B.toArray.toList=wF;intro y q D;have Gw:zal W bv b2 b3 p d wF:=(HJ.o.cap.step A.o ((J.o.mono (Y:=p::bv::m::(Value.slice U acc.length X).ownBlock.toList) Wz).trans' ((Gj.o.mono (fun i f=>by simp at f ⊢;exact .inr (.inr (.inr f)))).trans' (q.mono (fun i f=>by simp at f ⊢;rcases f with h | h;exact .inr (.inl h);exact .inr (.inr (.inl h)))))) (fun i f=>by
    have b:=Gk.o;have af:=Gn.o;have ad:=J.o.size;rcases List.mem_cons.1 f with h | f
    ·exact .inl h
    rcases List.mem_cons.1 f with h | f;·exact .inr (.inl h)
    rcases List.mem_cons.1 f with h | f
    ·subst h;rcases b with b | b
     ·exact .inr (.inr (Q.o _ b).1)
     ·exact .inr (.inr Ws)
    ·exact .inr (.inr (Q.o _ (XD f)).1)))
   have Gx:Hid (∀ x,PS w5 p S 4097 x→PS wF p S 4097 x):=qI (fun x h=>(h.kept Gj.o (fun a=>by have:=(Q.o _ (XD a)).1;have:=A.o.hp;omega)).kept q (fun a=>by
    have b:=Gk.o;have af:=Gn.o;have ad:=J.o.size;have am:=A.o.hp;simp at a;rcases a with a | a
    ·exact A.o.pv a
    ·subst a;rcases b with b | b
     ·have:=(Q.o _ b).1;omega
     ·omega))
   go_wp2_with fail;go_end0;refine⟨rfl,ZW (fun x a=>?_) (fun v r c' a=>?_)⟩;·have b:=Gd.o;unfold qf at b;rw [a] at b;exact⟨Gx.o _ b,Gw,_,_,_,y⟩
   ·have b:=Gd.o;unfold qf at b;rw [a] at b;exact⟨Gx.o _ b.1,_,_,HJ.o.snoc A.o Gw y J.o Gj.o q rfl Gk.o D b.2 (Gp.o)⟩
 ·go_simp;have Gi:Hid (zb [] WD (WD.alloc (.cells #[.int .i64 0,.int .i64 0,.string ⟨#[]⟩,.slice none 0 0,.slice none 0 0] 25))):=qI ((zb.refl [] WD).alloc _);have Gb:=qI (yv WD [.int .i64 0,.int .i64 0,.string ⟨#[]⟩,.slice none 0 0,.slice none 0 0] 5 1 25 WD.heap.size rfl rfl Wo);have ah:(fun w':World=>w'.cell? ⟨bv,3,none⟩=some (.slice U acc.length X)∧w'.cell? ⟨b2,0,none⟩=some (.pointer (some ⟨p,0,none⟩))∧w'.cell? ⟨b3,0,none⟩=some (.int .i64 d)) (WD.alloc (.cells #[.int .i64 0,.int .i64 0,.string ⟨#[]⟩,.slice none 0 0,.slice none 0 0] 25)):=⟨Gi.o.cell l.1 Wz,Gi.o.cell l.2.1 Wz,Gi.o.cell l.2.2 Wz⟩;refine t _ _ (.inr (.inr ah)) ?_;clear t K;try simp only [XI]
  clear l;have l:=ah;clear ah;revert l Gi Gb;generalize WD.alloc (.cells #[.int .i64 0,.int .i64 0,.string ⟨#[]⟩,.slice none 0 0,.slice none 0 0] 25)=w4;intro Gi Gb l;have Jw:=qI (Je.o.then Gi.o);refine qV 4 F rfl Wr (fun K t=>?_);go_simp;refine Calls.mono (CV.o _ Jw.o) ?_;rintro e w5 aa;obtain⟨B,rfl,al,H,aj⟩:=aa.said;have Ge:=qI al;have Mh:=qI H;have Jm:=qI ((Jw.o.mono (Y:=[p]) Wz).trans' H);have Jn:=qI aj;have Gp:Hid (w.heap.size≤w4.heap.size):=qI Jw.o.size;have ag:(fun w':World=>w'.cell? ⟨bv,3,none⟩=some (.slice U acc.length X)∧w'.cell? ⟨b2,0,none⟩=some (.pointer (some ⟨p,0,none⟩))∧w'.cell? ⟨b3,0,none⟩=some (.int .i64 d)) w5:=⟨H.cell l.1 (by simpa using A.o.pv.symm),H.cell l.2.1 (by simpa using A.o.p2.symm),H.cell l.2.2 (by simpa using A.o.p3.symm)⟩;clear aa al H aj;refine t _ _ (.inr (.inr ag)) ?_;clear t K;try simp only [XI]
  clear l;have l:=ag;clear ag;have J:=qI Jm.o;have Gd:=qI Jn.o;have Jp:=qI Gb.o;clear Gb;have Gb:=qI (Jp.o.kept Mh.o (fun i f a=>by simp [yx] at f a;have:=Je.o.size;have:=Gn.o;have:=A.o.hp;omega));clear Jn;have Jv:=qI l;have L:=zk HJ.o.row J.o (fun i f a=>by simp at a;have:=(Q.o i f).1;have:=A.o.hp;omega);refine qV 7 F rfl Wr (fun K t=>?_);refine xa QQ L Gb.o (by intro u hu;simp only [List.mem_cons,List.not_mem_nil,or_false] at hu;rcases hu with rfl | rfl | rfl | rfl | rfl <;> rfl) (by have:=HN.o;simp only [maxLen];omega) (XC HN.o) (XH J.o.size Gn.o) (.tmp 4) (.tmp 9) rfl rfl rfl ?_;intro b6 d6 w6 z ae ai;obtain⟨m,rfl⟩:∃ m,b6=some ⟨m,0,none⟩:=by
   rcases z.2 with ⟨h,h1⟩ | ⟨g,cap,ap,hv,_⟩;·omega
   ·simp only [Value.slice.injEq] at hv;exact⟨g,hv.1⟩
  have Gq:=qI z;have Gj:=qI ae;have Gk:Hid ((Value.slice U acc.length X).ownBlock=some m∨m=w5.heap.size):=qI (by
   rcases ai with h | h;·exact .inl (by rw [← h];rfl)
   ·exact .inr (by simpa [Value.ownBlock] using h))
  have Jf:Hid (W.heap.size≤m∧m<w6.heap.size):=qI (z.lt m rfl);have Gl:Hid (w6.heap[bv]? = some (.cells (kh 5 0 ⟨#[]⟩ (.slice U acc.length X) (.slice none 0 0)) 25 (0,0))):=qI (ae.heap (J.o.heap HJ.o.blk (by simpa using A.o.pv.symm)) (fun a=>by have:=(Q.o _ (XD a)).1;have:=A.o.hv;omega));have Ja:Hid (bv≠m):=qI (XH Jf.o.1 A.o.hv);clear L z ae ai l;refine t _ _ (.inl rfl) ?_;clear t K;try simp only [XI]
  have aq:(acc.length:Int)<(acc.length:Int)+1:=Ws;refine qW 8 ?_ F rfl rfl Wr G (fun w _=>?_) ?_;rotate_left;·exact zg
  try simp only [XI]
  refine qW 10 ?_ F rfl rfl Wr G (fun w _=>?_) ?_;rotate_left;·exact zg
  try simp only [XI]
  have Z:∀ x,x∈lcs++[ZL]→x.length=5:=fun x a=>by
   rcases List.mem_append.1 a with a | a;·exact Mg.o x a
   ·simp at a;subst a;rfl
  have N:w6.ownsRow W.heap.size 25 5 (.slice (some ⟨m,0,none⟩) (acc.length+1) d6) (acc.length+1) (lcs++[ZL]).flatten:=by have b:=Gq.o;rw [List.flatten_append];simp only [List.flatten_cons,List.flatten_nil,List.append_nil];exact b
  have Jo:=qI N;have Gr:Hid ((lcs++[ZL]).set acc.length B=lcs++[B]):=qI (by
   rw [List.set_append_right _ _ (XC Jl.o),Jl.o,Nat.sub_self];rfl)
  have Gs:=qI Z;have Gt:Hid ((lcs++[ZL]).length=acc.length+1):=qI (by rw [List.length_append,Jl.o];rfl);clear Z N;refine ql (i:=9) (j:=11) F rfl rfl Wr Wr Wr (fun K t=>?_) (fun K t=>?_)
  ·obtain⟨C,P,M⟩:=xt (i:=acc.length) (g:=m) (c:=B) Jo.o Gs.o rfl Gt.o (Nat.lt_succ_self _) Ge.o.len;rw [Gr.o] at C;have Jg:=qI C;have Gu:=qI M;clear C M;refine wp_store_mid 25 (.tmp 11) (.tmp 7) rfl m (acc.length*5) B.toArray rfl rfl (by rw [List.size_toArray,Ge.o.len];exact P) (by rw [List.size_toArray,Ge.o.len];kernel_rfl) (all_oneCell_toArray Ge.o.one) ?_;refine t _ _ (.inr (.inl Wr)) ?_;clear t K;try simp only [XI]
   have E:=Gu.o.heap Gl.o (by simpa using Ja.o);have Gv:=qI E;have c3:=za (o:=3) (v:=.slice U acc.length X) E rfl;have z3:=zh (o:=3) E;clear E;refine qV 11 F rfl Wr (fun K t=>?_);go_simp;refine t _ _ (.inr (.inl Wr)) ?_;clear t K;try simp only [XI]
   refine yQ F Wr ?_ _;subst hR;try clear G F O
   clear c3 z3 P;have y:=zd (i:=3) (v:=.slice (some ⟨m,0,none⟩) (acc.length+1) d6) Gv.o rfl;have q:=((Gu.o.mono (Y:=[bv,m]) Wz).setCell (p:=⟨bv,3,none⟩) (.inl Wz) (.slice (some ⟨m,0,none⟩) (acc.length+1) d6));have D:=zk Jg.o (zW _ bv 3 (.slice (some ⟨m,0,none⟩) (acc.length+1) d6)) (fun i f a=>by simp [Value.ownBlock] at f a;exact Ja.o (by rw [← a,← f]));revert y q D;generalize World.setCell _ ⟨bv,3,none⟩ (.slice (some ⟨m,0,none⟩) (acc.length+1) d6)=wF;intro y q D;have Gw:zal W bv b2 b3 p d wF:=(HJ.o.cap.step A.o ((J.o.mono (Y:=p::bv::m::(Value.slice U acc.length X).ownBlock.toList) Wz).trans' ((Gj.o.mono (fun i f=>by simp at f ⊢;exact .inr (.inr (.inr f)))).trans' (q.mono (fun i f=>by simp at f ⊢;rcases f with h | h;exact .inr (.inl h);exact .inr (.inr (.inl h)))))) (fun i f=>by
    have b:=Gk.o;have af:=Gn.o;have ad:=J.o.size;rcases List.mem_cons.1 f with h | f
    ·exact .inl h
    rcases List.mem_cons.1 f with h | f;·exact .inr (.inl h)
    rcases List.mem_cons.1 f with h | f
    ·subst h;rcases b with b | b
     ·exact .inr (.inr (Q.o _ b).1)
     ·exact .inr (.inr Ws)
    ·exact .inr (.inr (Q.o _ (XD f)).1)))
   have Gx:Hid (∀ x,PS w5 p S 4097 x→PS wF p S 4097 x):=qI (fun x h=>(h.kept Gj.o (fun a=>by have:=(Q.o _ (XD a)).1;have:=A.o.hp;omega)).kept q (fun a=>by
    have b:=Gk.o;have af:=Gn.o;have ad:=J.o.size;have am:=A.o.hp;simp at a;rcases a with a | a
    ·exact A.o.pv a
    ·subst a;rcases b with b | b
     ·have:=(Q.o _ b).1;omega
     ·omega))
   go_wp2_with fail;go_end0;refine⟨rfl,ZW (fun x a=>?_) (fun v r c' a=>?_)⟩;·have b:=Gd.o;unfold qf at b;rw [a] at b;exact⟨Gx.o _ b,Gw,_,_,_,y⟩
   ·have b:=Gd.o;unfold qf at b;rw [a] at b;exact⟨Gx.o _ b.1,_,_,HJ.o.snoc A.o Gw y J.o Gj.o q rfl Gk.o D b.2 (Gp.o)⟩
  ·have c3:=za (o:=3) (v:=.slice U acc.length X) Gl.o rfl;have z3:=zh (o:=3) Gl.o;go_simp;refine t _ _ (.inr (.inl Wr)) ?_;clear t K;try simp only [XI]
   clear c3 z3;have E:=zd (i:=3) (v:=.slice (some ⟨m,0,none⟩) (acc.length+1) d6) Gl.o rfl;have Gv:=qI E;have Jb:=qI (zW w6 bv 3 (.slice (some ⟨m,0,none⟩) (acc.length+1) d6));clear E;revert Gv Jb;generalize w6.setCell ⟨bv,3,none⟩ (.slice (some ⟨m,0,none⟩) (acc.length+1) d6)=w7;intro Gv Jb;have I:=zk Jo.o Jb.o (fun i f a=>by simp [Value.ownBlock] at f a;exact Ja.o (by rw [← a,← f]));obtain⟨C,P,M⟩:=xt (i:=acc.length) (g:=m) (c:=B) I Gs.o rfl Gt.o (Nat.lt_succ_self _) Ge.o.len;rw [Gr.o] at C;have Jg:=qI C;have Gu:=qI M;clear C M I;refine qV 9 F rfl Wr (fun K t=>?_);refine wp_store_mid 25 (.tmp 11) (.tmp 7) rfl m (acc.length*5) B.toArray rfl rfl (by rw [List.size_toArray,Ge.o.len];exact P) (by rw [List.size_toArray,Ge.o.len];kernel_rfl) (all_oneCell_toArray Ge.o.one) ?_;refine t _ _ (.inr (.inl Wr)) ?_;clear t K;try simp only [XI]
   refine yQ F Wr ?_ _;subst hR;try clear G F O
   clear P;have y:=Gu.o.heap Gv.o (by simpa using Ja.o);have q:=((Jb.o.mono (Y:=[bv,m]) Wz).trans' (Gu.o.mono (Y:=[bv,m]) Wz));have D:=Jg.o;revert y q D;generalize World.setCells _ m (acc.length*5) B.toArray.toList=wF;intro y q D;have Gw:zal W bv b2 b3 p d wF:=(HJ.o.cap.step A.o ((J.o.mono (Y:=p::bv::m::(Value.slice U acc.length X).ownBlock.toList) Wz).trans' ((Gj.o.mono (fun i f=>by simp at f ⊢;exact .inr (.inr (.inr f)))).trans' (q.mono (fun i f=>by simp at f ⊢;rcases f with h | h;exact .inr (.inl h);exact .inr (.inr (.inl h)))))) (fun i f=>by
    have b:=Gk.o;have af:=Gn.o;have ad:=J.o.size;rcases List.mem_cons.1 f with h | f
    ·exact .inl h
    rcases List.mem_cons.1 f with h | f;·exact .inr (.inl h)
    rcases List.mem_cons.1 f with h | f
    ·subst h;rcases b with b | b
     ·exact .inr (.inr (Q.o _ b).1)
     ·exact .inr (.inr Ws)
    ·exact .inr (.inr (Q.o _ (XD f)).1)))
   have Gx:Hid (∀ x,PS w5 p S 4097 x→PS wF p S 4097 x):=qI (fun x h=>(h.kept Gj.o (fun a=>by have:=(Q.o _ (XD a)).1;have:=A.o.hp;omega)).kept q (fun a=>by
    have b:=Gk.o;have af:=Gn.o;have ad:=J.o.size;have am:=A.o.hp;simp at a;rcases a with a | a
    ·exact A.o.pv a
    ·subst a;rcases b with b | b
     ·have:=(Q.o _ b).1;omega
     ·omega))
   go_wp2_with fail;go_end0;refine⟨rfl,ZW (fun x a=>?_) (fun v r c' a=>?_)⟩;·have b:=Gd.o;unfold qf at b;rw [a] at b;exact⟨Gx.o _ b,Gw,_,_,_,y⟩
   ·have b:=Gd.o;unfold qf at b;rw [a] at b;exact⟨Gx.o _ b.1,_,_,HJ.o.snoc A.o Gw y J.o Gj.o q rfl Gk.o D b.2 (Gp.o)⟩
end
def vw:List Value:=[.string ⟨#[]⟩,.int .i64 0,.int .i64 0,.string ⟨#[]⟩,.slice none 0 0,.slice none 0 0]
structure Qx (W:World)(bv b2 b3 b6 bm p d:Nat)(w:World):Prop where
 ptr:w.heap[b2]? = some (.cells #[.pointer (some ⟨p,0,none⟩)] 107 (0,0))
 dep:w.heap[b3]? = some (.cells #[.int .i64 d] 3 (0,0))
 box:w.heap[b6]? = some (.cells #[.map (some bm)] 255 (0,0))
 kept:zb [p,bv,bm] W w
structure MPos (W:World)(bv b2 b3 b6 bm p:Nat):Prop where
 hp:p<W.heap.size
 hv:bv<W.heap.size
 hm:bm<W.heap.size
 h2:b2<W.heap.size
 h3:b3<W.heap.size
 h6:b6<W.heap.size
 ltv:p<bv
 ltm:p<bm
 p2:b2≠p
 p3:b3≠p
 p6:b6≠p
 v2:b2≠bv
 v3:b3≠bv
 v6:b6≠bv
 m2:b2≠bm
 m3:b3≠bm
 m6:b6≠bm
 vm:bv≠bm
structure MJ (W:World)(bv b2 b3 b6 bm p d:Nat)(seen:List ByteArray)(acc:List (ByteArray×V d))(w:World)(vm:Value)(mcs:List (ByteArray×List Value)):Prop where
 cap:Qx W bv b2 b3 b6 bm p d w
 saw:qY w bm seen
 blk:w.heap[bv]? = some (.cells (kh 6 0 ⟨#[]⟩ (.slice none 0 0) vm) 25 (0,0))
 row:w.ownsRow W.heap.size 41 6 vm acc.length (zZ mcs)
 all:zM (bh (Rep d (fun g=>W.heap.size≤g∧vm.ownBlock≠some g) w)) mcs acc
structure MBad (W:World)(bv b2 b3 b6 bm p d:Nat)(w:World):Prop where
 cap:Qx W bv b2 b3 b6 bm p d w
 blk:∃ a n c,w.heap[bv]? = some (.cells (kh 6 0 ⟨#[]⟩ (.slice none 0 0) (.slice a n c)) 25 (0,0))
section
variable {W w w' : World} {bv b2 b3 b6 bm p d : Nat}
theorem Qx.step (h:Qx W bv b2 b3 b6 bm p d w)(hp:MPos W bv b2 b3 b6 bm p){X:List Nat}(k:zb X w w')(f:∀ g,g∈X→g=p∨g=bv∨g=bm∨W.heap.size≤g):Qx W bv b2 b3 b6 bm p d w':=by
 have m:=h.kept.size;have a:∀ b,b<W.heap.size→b≠p→b≠bv→b≠bm→b ∉ X:=fun b n h2 h3 j i=>by
  rcases f _ i with e | e | e | e;·exact h2 e
  ·exact h3 e
  ·exact j e
  ·omega
 refine⟨k.heap h.ptr (a _ hp.h2 hp.p2 hp.v2 hp.m2),k.heap h.dep (a _ hp.h3 hp.p3 hp.v3 hp.m3),k.heap h.box (a _ hp.h6 hp.p6 hp.v6 hp.m6),h.kept.trans k ?_⟩;intro g l;rcases f _ l with e | e | e | e
 ·exact .inl (by simp [e])
 ·exact .inl (by simp [e])
 ·exact .inl (by simp [e])
 ·exact .inr e
theorem Qx.tabs (h:Qx W bv b2 b3 b6 bm p d w)(hp:MPos W bv b2 b3 b6 bm p)(a:qA p W):qA p w:=by
 obtain⟨b,f,h2,h3⟩:=a;have:=hp.ltv;have:=hp.ltm;exact⟨b,f,h2.trans h.kept (fun i e=>by simp at e;exact .inr Ws),h3⟩
theorem MJ.step {a:List ByteArray}{acc:List (ByteArray×V d)}{vm:Value}{mcs:List (ByteArray×List Value)}(h:MJ W bv b2 b3 b6 bm p d a acc w vm mcs)(hp:MPos W bv b2 b3 b6 bm p)(k:zb [p] w w'):MJ W bv b2 b3 b6 bm p d a acc w' vm mcs:=
 ⟨h.cap.step hp k (fun g b=>by simp at b;exact .inl b),h.saw.kept k (by have:=hp.ltm;simp;omega),k.heap h.blk (by have:=hp.ltv;simp;omega),zk h.row k (fun g b e=>by simp at e;have:=(h.row.lt g b).1;have:=hp.hp;omega),h.all.mono fun _ _ _ r=>⟨r.1,r.2.move k (fun g _ q=>⟨fun e=>by simp at e;have:=hp.hp;omega,q⟩)⟩⟩
theorem MJ.put {b a:List ByteArray}{acc:List (ByteArray×V d)}{vm:Value}{mcs:List (ByteArray×List Value)}(h:MJ W bv b2 b3 b6 bm p d b acc w vm mcs)(hp:MPos W bv b2 b3 b6 bm p)(k:zb [bm] w w')(i:qY w' bm a):MJ W bv b2 b3 b6 bm p d a acc w' vm mcs:=
 ⟨h.cap.step hp k (fun g e=>by simp at e;exact .inr (.inr (.inl e))),i,k.heap h.blk (by simpa using hp.vm),zk h.row k (fun g e f=>by simp at f;have:=(h.row.lt g e).1;have:=hp.hm;omega),h.all.mono fun _ _ _ r=>⟨r.1,r.2.move k (fun g _ q=>⟨fun f=>by simp at f;have:=hp.hm;omega,q⟩)⟩⟩
theorem MBad.step (h:MBad W bv b2 b3 b6 bm p d w)(hp:MPos W bv b2 b3 b6 bm p)(k:zb [p] w w'):MBad W bv b2 b3 b6 bm p d w':=by
 obtain⟨a,n,c,e⟩:=h.blk;exact⟨h.cap.step hp k (fun g b=>by simp at b;exact .inl b),a,n,c,k.heap e (by have:=hp.ltv;simp;omega)⟩
theorem MJ.bad {b:List ByteArray}{acc:List (ByteArray×V d)}{vm:Value}{mcs:List (ByteArray×List Value)}(h:MJ W bv b2 b3 b6 bm p d b acc w vm mcs):MBad W bv b2 b3 b6 bm p d w:=by
 obtain⟨a,c,rfl,-,-⟩:=(Slc.of_row h.row).form;exact⟨h.cap,_,_,_,h.blk⟩
theorem MJ.snoc {e:List ByteArray}{acc:List (ByteArray×V d)}{vm f:Value}{mcs:List (ByteArray×List Value)}{u D k:World}{cs:List Value}{key:ByteArray}{v:V d}{g z:Nat}(h:MJ W bv b2 b3 b6 bm p d e acc w vm mcs)(hp:MPos W bv b2 b3 b6 bm p)(x:Qx W bv b2 b3 b6 bm p d k)(m:qY k bm e)(t:k.heap[bv]? = some (.cells (kh 6 0 ⟨#[]⟩ (.slice none 0 0) f) 25 (0,0)))(C:zb [p] w u)(B:zb vm.ownBlock.toList u D)(A:zb [bv,g] D k)(j:f.ownBlock=some g)(b:vm.ownBlock=some g∨g=u.heap.size)(n:k.ownsRow W.heap.size 41 6 f (acc.length+1) (zZ (mcs++[(key,cs)])))(s:Rep d (fun i=>z≤i) u cs v)(H:w.heap.size≤z):MJ W bv b2 b3 b6 bm p d e (acc++[(key,v)]) k f (mcs++[(key,cs)]):=by
 have G:=hp.hp;have E:=hp.hv;have I:=h.cap.kept.size;have F:=C.size;refine⟨x,m,t,by rw [List.length_append];exact n,zM.snoc (h.all.mono fun c y _ r=>⟨r.1,?_⟩) ⟨rfl,?_⟩⟩
 ·refine ((r.2.move (T:=fun i=>W.heap.size≤i∧vm.ownBlock≠some i∧i<w.heap.size) C (fun i l q=>⟨fun a=>by simp at a;omega,q.1,q.2,l⟩)).move (T:=fun i=>W.heap.size≤i∧vm.ownBlock≠some i∧i<w.heap.size) B (fun i l q=>⟨fun a=>q.2.1 (XD a),q⟩)).move A (fun i l q=>⟨fun a=>?_,q.1,fun a=>?_⟩)
  ·simp at a;rcases a with a | a
   ·omega
   ·rcases b with b | b;·exact q.2.1 (by rw [b,a])
    ·omega
  ·rw [j] at a;injection a with a;rcases b with b | b
   ·exact q.2.1 (by rw [b,a])
   ·omega
 ·refine (s.move (T:=fun i=>z≤i∧i<u.heap.size∧vm.ownBlock≠some i) B (fun i l q=>⟨fun a=>?_,q,l,fun a=>?_⟩)).move A (fun i l q=>⟨fun a=>?_,Ws,fun a=>?_⟩);·have:=(h.row.lt i (XD a)).2;omega
  ·have:=(h.row.lt i a).2;omega
  ·simp at a;rcases a with a | a
   ·omega
   ·rcases b with b | b;·exact q.2.2 (by rw [b,a])
    ·omega
  ·rw [j] at a;injection a with a;rcases b with b | b
   ·exact q.2.2 (by rw [b,a])
   ·omega
def vy (seen:List ByteArray)(x:PX):PX:=Z3 [58] (kL (if seen.any (fun k=>decide (k=zx (JN (kL x))))=true then zbk 53 (Q6 (kL x)) else Q6 (kL x)))
def Yy (x:PX):ByteArray:=zx (JN (kL x))
theorem head_eat (r:List UInt8)(c:Nat):Z3 [58] (.inr (r,c))=if r.head? = some 58 then .inr (r.tail,c) else .inl 50:=by
 unfold Z3;rw [bA];by_cases h:r.head? = some 58;·rw [decide_eq_true h,if_pos rfl,if_pos h];show (Sum.inr (r.drop 1,c):PX)=_;rw [List.drop_one]
 ·rw [decide_eq_false h,if_neg Wo,if_neg h];rfl
theorem pairStep_eq {d:Nat}(s:List UInt8)(c:Nat)(acc:List (ByteArray×V d)):yl (zy d) s c acc=match vy (acc.map (fun q=>q.1)) (.inr (s,c)) with
  | .inl e=>.inl e
  | .inr (s',c')=>match zy d s' c' with
   | .inl e=>.inl e
   | .inr (v,r,c'')=>.inr (acc++[(Yy (.inr (s,c)),v)],r,c''):=by
 have j:∀ k:List UInt8,(acc.map (fun q=>q.1)).any (fun x=>decide (x=zx k))=acc.any (fun q=>decide (q.1=zx k)):=fun k=>by rw [List.any_map];rfl
 unfold yl vy Yy;have i:kL (.inr (s,c)) = .inr (zu s,c):=rfl;rw [i];cases a:kH (zu s) with
 | inl e=>
  rw [(YQ a).1,(YQ a).2];simp only;have h:∀ b:Bool,(if b=true then zbk 53 (Sum.inl e:PX) else Sum.inl e)=Sum.inl e:=fun b=>by cases b <;> rfl
  rw [h];rfl
 | inr y=>
  obtain⟨k,r⟩:=y;rw [(Qo a).1,(Qo a).2,j];simp only;by_cases f:acc.any (fun q=>decide (q.1=zx k))=true;·rw [if_pos f,if_pos f];rfl
  ·rw [if_neg f,if_neg f];have h2:kL (.inr (r,c)) = .inr (zu r,c):=rfl;rw [h2,head_eat];by_cases h3:(zu r).head? = some 58
   ·rw [if_pos h3,if_pos h3];simp only;cases zy d (zu r).tail c with
    | inl e=>rfl
    | inr z=>obtain⟨v,q,c2⟩:=z;rfl
   ·rw [if_neg h3,if_neg h3]
theorem pairX_cnt (a:List ByteArray)(s:List UInt8)(c:Nat)(hc:c≤4096):J7 (vy a (.inr (s,c))):=by
 unfold vy;have d:∀ x,J7 x→J7 (kL x):=fun x h=>by cases x with | inl e=>exact h | inr q=>exact h
 have h2:∀ x,J7 x→J7 (Z3 [58] x):=fun x h=>by
  cases x with
  | inl e=>exact trivial
  | inr q=>obtain⟨r,c⟩:=q;rw [head_eat];split;exact h;exact trivial
 have h3:∀ x,J7 x→J7 (Q6 x):=fun x h=>by
  cases x with
  | inl e=>exact h
  | inr q=>
   obtain⟨r,c⟩:=q;unfold Q6;simp only;split;·exact trivial
   ·exact h
 refine h2 _ (d _ ?_);have b:=h3 _ (d (.inr (s,c)) hc);split
 ·revert b;cases Q6 (kL (.inr (s,c))) with
  | inl e=>exact fun _=>trivial
  | inr q=>exact fun _=>trivial
 ·exact b
def Qh (W:World)(bv b2 b3 b6 bm p d:Nat)(S:ByteArray)(s:List UInt8)(c:Nat)(acc:List (ByteArray×V d))(w':World):Prop:=
 match yl (zy d) s c acc with
 | .inl x=>PS w' p S 4097 (.inl x)∧MBad W bv b2 b3 b6 bm p d w'
 | .inr (acc',r,c')=>PS w' p S 4097 (.inr (r,c'))∧∃ vm mcs,MJ W bv b2 b3 b6 bm p d (acc'.map (fun q=>q.1)) acc' w' vm mcs
def Zl (d:Nat)(X:PX)(p:Nat)(S:ByteArray)(Bc:Nat)(cs:List Value)(w':World):Prop:=
 match X with
 | .inl x=>PS w' p S 4097 (.inl x)
 | .inr (s,c)=>qf d s c p S Bc cs w'
theorem Zl.k0 {X:PX}{a:Nat}{S:ByteArray}{cs:List Value}(h:Zl d X p S a cs w)(k:zb [] w w'):Zl d X p S a cs w':=by
 cases X with
 | inl x=>exact PS.k0 h k
 | inr y=>obtain⟨s,c⟩:=y;exact qf.k0 h k
theorem kq.saidX {X:PX}{S:ByteArray}{e:Ending}(h:kq d X p S w e w'):∃ cs:List Value,e = .returned (.agg cs.toArray)∧Z6 cs∧zb [p] w w'∧Zl d X p S w.heap.size cs w':=by
 cases X with
 | inl x=>obtain⟨cs,b,h2,h3,a⟩:=h;exact⟨cs,b,h2,h3,a⟩
 | inr y=>obtain⟨s,c⟩:=y;exact kq.said h
theorem kn {S:ByteArray}{s:List UInt8}{c:Nat}{acc:List (ByteArray×V d)}{X:PX}{e:World}{f:Nat}{cs:List Value}(l:vy (acc.map (fun q=>q.1)) (.inr (s,c))=X)(a:Zl d X p S f cs e)(b:∀ x,PS e p S 4097 x→PS w' p S 4097 x)(j:MBad W bv b2 b3 b6 bm p d w')(h2:∀ v,Rep d (fun i=>f≤i) e cs v→∃ vm mcs,MJ W bv b2 b3 b6 bm p d ((acc++[(Yy (.inr (s,c)),v)]).map (fun q=>q.1)) (acc++[(Yy (.inr (s,c)),v)]) w' vm mcs):Qh W bv b2 b3 b6 bm p d S s c acc w':=by
 unfold Qh;rw [pairStep_eq,l];cases X with
 | inl x=>exact⟨b _ a,j⟩
 | inr y=>
  obtain⟨k,n⟩:=y;unfold Zl qf at a;simp only at a ⊢;cases h:zy d k n with
  | inl x=>rw [h] at a;exact⟨b _ a,j⟩
  | inr z=>obtain⟨v,r,m⟩:=z;rw [h] at a;exact⟨b _ a.1,h2 v a.2⟩
end
def pMeas (S:ByteArray)(p:Nat)(w:World):Nat:=
 match w.heap[p]? with
 | some (.cells c _ _)=>(match (c[1]? : Option Value),(c[3]? : Option Value) with | some (Value.int _ i),some (Value.int _ e)=>if e=0 then S.size-i.toNat+1 else 0 | _,_=>0)
 | _=>0
theorem zat {w:World}{p c:Nat}{S:ByteArray}{r:List UInt8}(h:PS w p S B (.inr (r,c))):pMeas S p w=r.length+1:=by
 obtain⟨i,a,d,hc,b⟩:=h.open_ok;have:=yO b d;unfold PAt at a;unfold pMeas;rw [a];simp;omega
theorem KQ {w:World}{p:Nat}{S:ByteArray}{e:Int}(h:PS w p S B (.inl e)):pMeas S p w=0:=by
 obtain⟨i,c,a,b,hc,h2,h3⟩:=h.open_bad;unfold PAt at a;unfold pMeas;rw [a];have:e≠0:=Ws;simp [this]
section
variable {σ : Type} {step : List UInt8 → Nat → σ → Sum Int (σ × List UInt8 × Nat)} {stop : UInt8} {a1 a2 a3 a4 : Value} {GJ : σ → World → Prop} {GB : World → Prop} {len : σ → Nat} {p : Nat} {S : ByteArray} {w : World}
def GAns (step:List UInt8→Nat→σ→Sum Int (σ×List UInt8×Nat))(p:Nat)(S:ByteArray)(GJ:σ→World→Prop)(GB:World→Prop)(s:List UInt8)(c:Nat)(acc:σ)(w':World):Prop:=
 match step s c acc with
 | .inl x=>PS w' p S 4097 (.inl x)∧GB w'
 | .inr (acc',r,c')=>PS w' p S 4097 (.inr (r,c'))∧GJ acc' w'
def GFin (R:Sum Int (σ×List UInt8×Nat))(p:Nat)(S:ByteArray)(GJ:σ→World→Prop)(GB:World→Prop)(w':World):Prop:=
 match R with
 | .inl x=>PS w' p S 4097 (.inl x)∧GB w'
 | .inr (acc',r,c')=>PS w' p S 4097 (.inr (r,c'))∧GJ acc' w'∧c'≤4096
def GRel (step:List UInt8→Nat→σ→Sum Int (σ×List UInt8×Nat))(stop:UInt8)(R:Sum Int (σ×List UInt8×Nat))(len:σ→Nat)(p:Nat)(S:ByteArray)(GJ:σ→World→Prop)(GB:World→Prop)(w':World):Prop:=
 (∃ x,PS w' p S 4097 (.inl x)∧R = .inl x∧GB w')∨∃ s c acc,PS w' p S 4097 (.inr (s,c))∧c≤4096∧len acc≤c∧zap step stop R s c acc∧GJ acc w'
theorem yi (a:UInt8)(r:List UInt8)(c:Nat):QY [a] (.inr (r,c))=decide (r.head? = some a)∧(r.head? = some a→eatX [a] (.inr (r,c)) = .inr (r.tail,c))∧(r.head? ≠ some a→eatX [a] (.inr (r,c)) = .inr (r,c)):=by
 refine⟨bA a r c,fun h=>?_,fun h=>Km (by rw [bA,decide_eq_false h])⟩;rw [za0 (by rw [bA,decide_eq_true h])];show (Sum.inr (r.drop 1,c):PX)=_;rw [List.drop_one]
theorem Zu (r:List UInt8)(c:Nat):(r.head? = some 44→Z3 [44] (.inr (r,c)) = .inr (r.tail,c))∧(r.head? ≠ some 44→Z3 [44] (.inr (r,c)) = .inl 50):=by
 refine⟨fun h=>?_,fun h=>Kk (by rw [bA,decide_eq_false h])⟩;rw [needX_yes (by rw [bA,decide_eq_true h])];show (Sum.inr (r.drop 1,c):PX)=_;rw [List.drop_one]
theorem items1_any (M:S.size≤262144)(HC:∀ s c acc w,PS w p S 4097 (.inr (s,c))→c≤4096→len acc≤c→GJ acc w→Calls prog 223 #[a1,a2,a3] w fun e w'=>e = .returned (.tuple #[])∧GAns step p S GJ GB s c acc w')(E:∀ acc w w',GJ acc w→zb [p] w w'→GJ acc w')(HB:∀ w w',GB w→zb [p] w w'→GB w')(Jh:∀ acc w,GJ acc w→GB w)(Ji:∀ s c acc acc' r c',c≤4096→step s c acc = .inr (acc',r,c')→r.length≤s.length∧c'≤4096∧(len acc≤c→len acc'≤c')){s:List UInt8}{c f:Nat}{acc:σ}(hs:PS w p S 4097 (.inr (s,c)))(hc:c≤4096)(hl:len acc≤c)(hj:GJ acc w)(hf:s.length<f) : Calls prog 222 #[.pointer (some ⟨p,0,none⟩),.string ⟨#[stop]⟩,.func (.func 223) #[] #[a1,a2,a3]] w fun e w'=>e = .returned (.tuple #[])∧GFin (yP step stop f s c acc) p S GJ GB w':=by
 have C1:=qI (qv hs M);have HW:=qI HC;have E:=qI E;have HB:=qI HB;have Jh:=qI Jh;have Ji:=qI Ji;have Jq:=qI hj;have Jr:=qI hc;have Jx:=qI hl;have HF:=qI hf;clear hs hc hl hj hf HC;have W:kL (.inr (s,c)) = .inr (zu s,c):=rfl;rw [W] at C1;clear W;by_cases N:(zu s).head? = some stop
 ·have HR:Hid (yP step stop f s c acc = .inr (acc,(zu s).tail,c)):=qI (if_pos N);rw [HR.o];have X:=qI N;clear N;go_enter func222,ntmps222;go_wp2_with fail;refine C1.o.mono ?_;rintro e w1 ⟨rfl,m,z⟩;have Jy:=qI m;have Jj:=qI (E.o _ _ _ Jq.o z);have I:=qI (xV m M ⟨#[stop]⟩);rw [show (⟨#[stop]⟩:ByteArray).data.toList=[stop] from rfl,(yi stop (zu s) c).1] at I;clear z m;rw [decide_eq_true X.o,(yi stop (zu s) c).2.1 X.o] at I;go_wp2_with fail;refine I.o.mono ?_;rintro e w2 ⟨rfl,C,D⟩;go_wp2_with fail
  ((try simp only [Exit.inBlock,Exit.then]);refine bodyPost_ret (results_none rfl _ _ _) rfl ?_)
  exact⟨rfl,C,E.o _ _ _ Jj.o D,Jr.o⟩
 ·have HR:Hid (yP step stop f s c acc=js step stop f (zu s) c acc):=qI (if_neg N);rw [HR.o];have HI:Hid (zap step stop (js step stop f (zu s) c acc) (zu s) c acc):=qI ⟨f,Nat.lt_of_le_of_lt (kC s) HF.o,rfl⟩;have X:=qI N;clear N HR;revert HI;generalize js step stop f (zu s) c acc=R;intro HI;go_enter func222,ntmps222;go_wp2_with fail;refine C1.o.mono ?_;rintro e w1 ⟨rfl,m,z⟩;have Jy:=qI m;have Jj:=qI (E.o _ _ _ Jq.o z);have I:=qI (xV m M ⟨#[stop]⟩);rw [show (⟨#[stop]⟩:ByteArray).data.toList=[stop] from rfl,(yi stop (zu s) c).1] at I;clear z m;rw [decide_eq_false X.o,(yi stop (zu s) c).2.2 X.o] at I;go_wp2_with fail;refine I.o.mono ?_;rintro e w2 ⟨rfl,C,D⟩;have Jk:Hid (GRel step stop R len p S GJ GB w2):=qI (.inr ⟨zu s,c,acc,C,Jr.o,Jx.o,HI.o,E.o _ _ _ Jj.o D⟩);clear C D;go_wp2_with fail;go_loopw [] (fun wr=>GRel step stop R len p S GJ GB wr) (fun wr=>pMeas S p wr);case atStart=>exact Jk.o
  case round=>
   rcases hrel with ⟨x,d,hx,O⟩ | ⟨s3,c3,aa,d,K,L,ad,Y⟩;·have HX:=qI hx;have Jz:=qI d;have Ma:=qI O;obtain⟨i,cc,U,hi,J,h2,h3⟩:=d.open_bad;have d3:=za (o:=3) (v:=.int .i64 x) U rfl;obtain⟨f1,f2⟩:=zR (a:=x) (b:=0) Ws;clear hx d O U h2 h3 hi J;go_wp2_with fail;go_end0;rw [HX.o];exact⟨rfl,Jz.o,Ma.o⟩
   ·have HM:=qI (zat d);have CO:=qI (HW.o _ _ _ _ d K L Y);have Jc:=qI ad;have Mb:=qI L;have Mc:=qI K;obtain⟨i,U,hi,J,h2⟩:=d.open_ok;have d3:=za (o:=3) (v:=.int .i64 0) U rfl;clear d K L ad Y U hi J h2;unfold GAns at CO;go_wp2_with fail;refine CO.o.mono ?_;rintro e w4 ⟨rfl,n⟩;clear d3;cases h:step s3 c3 aa with
    | inl x=>rw [h] at n;obtain⟨q,ab⟩:=n;have HX:=qI (Jc.o.bad h);have Md:=qI ab;have G:=qI (xV q M ⟨#[stop]⟩);rw [show QY (⟨#[stop]⟩:ByteArray).data.toList (.inl x)=false from rfl,Km rfl] at G;clear q ab h;go_wp2_with fail;refine G.o.mono ?_;rintro e w5 ⟨rfl,l,j⟩;have Me:=qI (HB.o _ _ Md.o j);have C6:=qI (vN l M ⟨#[44]⟩);rw [Kk rfl] at C6;clear l j;go_wp2_with fail;refine C6.o.mono ?_;rintro e w6 ⟨rfl,A,u⟩;have P:Hid (PS w6 p S 4097 (.inl x)):=qI A;have Gl:=qI (HB.o _ _ Me.o u);clear A u;go_wp2;case roundEnd=>exact⟨.inl ⟨x,P.o,HX.o,Gl.o⟩,by rw [KQ P.o,HM.o];omega⟩
    | inr y=>
     obtain⟨F,B,c4⟩:=y;rw [h] at n;obtain⟨q,Q⟩:=n;obtain⟨q1,q2,q3⟩:=Ji.o _ _ _ _ _ _ Mc.o h;have Z:Hid (B.length≤s3.length∧c4≤4096∧len F≤c4):=qI ⟨q1,q2,q3 Mb.o⟩;have Gg:=qI h;have Js:=qI Q;have G:=qI (xV q M ⟨#[stop]⟩);rw [show (⟨#[stop]⟩:ByteArray).data.toList=[stop] from rfl,(yi stop B c4).1] at G;clear q Q h q1 q2 q3;by_cases H:B.head? = some stop
     ·rw [decide_eq_true H,(yi stop B c4).2.1 H] at G;have HX:=qI (Jc.o.done Gg.o H);clear H;go_wp2_with fail;refine G.o.mono ?_;rintro e w5 ⟨rfl,l,j⟩;go_wp2_with fail
      ((try simp only [Exit.inBlock,Exit.then]);refine bodyPost_ret (results_none rfl _ _ _) rfl ?_)
      rw [HX.o];exact⟨rfl,l,E.o _ _ _ Js.o j,Z.o.2.1⟩
     ·rw [decide_eq_false H,(yi stop B c4).2.2 H] at G;have Jt:=qI H;clear H;go_wp2_with fail;refine G.o.mono ?_;rintro e w5 ⟨rfl,l,j⟩;have Mf:=qI (E.o _ _ _ Js.o j);have C6:=qI (vN l M ⟨#[44]⟩);rw [show (⟨#[44]⟩:ByteArray).data.toList=[44] from rfl] at C6;clear l j;go_wp2_with fail;refine C6.o.mono ?_;rintro e w6 ⟨rfl,A,u⟩;have Ju:=qI (E.o _ _ _ Mf.o u);have P:=qI A;clear A u;go_wp2;case roundEnd=>
       by_cases h7:B.head? = some 44
       ·have k:=P.o;rw [(Zu B c4).1 h7] at k;refine⟨.inr ⟨B.tail,c4,F,k,Z.o.2.1,Z.o.2.2,Jc.o.next Gg.o Jt.o h7 Z.o.1,Ju.o⟩,?_⟩;rw [zat k,HM.o];have:=Z.o.1;cases B with
        | nil=>cases h7
        | cons a t=>simp only [List.tail_cons,List.length_cons] at *;omega
       ·have k:=P.o;rw [(Zu B c4).2 h7] at k;exact⟨.inl ⟨50,k,Jc.o.other Gg.o Jt.o h7,Jh.o _ _ Ju.o⟩,by rw [KQ k,HM.o];omega⟩
theorem items2_any (M:S.size≤262144)(HC:∀ s c acc w,PS w p S 4097 (.inr (s,c))→c≤4096→len acc≤c→GJ acc w→Calls prog 224 #[a1,a2,a3,a4] w fun e w'=>e = .returned (.tuple #[])∧GAns step p S GJ GB s c acc w')(E:∀ acc w w',GJ acc w→zb [p] w w'→GJ acc w')(HB:∀ w w',GB w→zb [p] w w'→GB w')(Jh:∀ acc w,GJ acc w→GB w)(Ji:∀ s c acc acc' r c',c≤4096→step s c acc = .inr (acc',r,c')→r.length≤s.length∧c'≤4096∧(len acc≤c→len acc'≤c')){s:List UInt8}{c f:Nat}{acc:σ}(hs:PS w p S 4097 (.inr (s,c)))(hc:c≤4096)(hl:len acc≤c)(hj:GJ acc w)(hf:s.length<f) : Calls prog 222 #[.pointer (some ⟨p,0,none⟩),.string ⟨#[stop]⟩,.func (.func 224) #[] #[a1,a2,a3,a4]] w fun e w'=>e = .returned (.tuple #[])∧GFin (yP step stop f s c acc) p S GJ GB w':=by
 have C1:=qI (qv hs M);have HW:=qI HC;have E:=qI E;have HB:=qI HB;have Jh:=qI Jh;have Ji:=qI Ji;have Jq:=qI hj;have Jr:=qI hc;have Jx:=qI hl;have HF:=qI hf;clear hs hc hl hj hf HC;have W:kL (.inr (s,c)) = .inr (zu s,c):=rfl;rw [W] at C1;clear W;by_cases N:(zu s).head? = some stop
 ·have HR:Hid (yP step stop f s c acc = .inr (acc,(zu s).tail,c)):=qI (if_pos N);rw [HR.o];have X:=qI N;clear N;go_enter func222,ntmps222;go_wp2_with fail;refine C1.o.mono ?_;rintro e w1 ⟨rfl,m,z⟩;have Jy:=qI m;have Jj:=qI (E.o _ _ _ Jq.o z);have I:=qI (xV m M ⟨#[stop]⟩);rw [show (⟨#[stop]⟩:ByteArray).data.toList=[stop] from rfl,(yi stop (zu s) c).1] at I;clear z m;rw [decide_eq_true X.o,(yi stop (zu s) c).2.1 X.o] at I;go_wp2_with fail;refine I.o.mono ?_;rintro e w2 ⟨rfl,C,D⟩;go_wp2_with fail
  ((try simp only [Exit.inBlock,Exit.then]);refine bodyPost_ret (results_none rfl _ _ _) rfl ?_)
  exact⟨rfl,C,E.o _ _ _ Jj.o D,Jr.o⟩
 ·have HR:Hid (yP step stop f s c acc=js step stop f (zu s) c acc):=qI (if_neg N);rw [HR.o];have HI:Hid (zap step stop (js step stop f (zu s) c acc) (zu s) c acc):=qI ⟨f,Nat.lt_of_le_of_lt (kC s) HF.o,rfl⟩;have X:=qI N;clear N HR;revert HI;generalize js step stop f (zu s) c acc=R;intro HI;go_enter func222,ntmps222;go_wp2_with fail;refine C1.o.mono ?_;rintro e w1 ⟨rfl,m,z⟩;have Jy:=qI m;have Jj:=qI (E.o _ _ _ Jq.o z);have I:=qI (xV m M ⟨#[stop]⟩);rw [show (⟨#[stop]⟩:ByteArray).data.toList=[stop] from rfl,(yi stop (zu s) c).1] at I;clear z m;rw [decide_eq_false X.o,(yi stop (zu s) c).2.2 X.o] at I;go_wp2_with fail;refine I.o.mono ?_;rintro e w2 ⟨rfl,C,D⟩;have Jk:Hid (GRel step stop R len p S GJ GB w2):=qI (.inr ⟨zu s,c,acc,C,Jr.o,Jx.o,HI.o,E.o _ _ _ Jj.o D⟩);clear C D;go_wp2_with fail;go_loopw [] (fun wr=>GRel step stop R len p S GJ GB wr) (fun wr=>pMeas S p wr);case atStart=>exact Jk.o
  case round=>
   rcases hrel with ⟨x,d,hx,O⟩ | ⟨s3,c3,aa,d,K,L,ad,Y⟩;·have HX:=qI hx;have Jz:=qI d;have Ma:=qI O;obtain⟨i,cc,U,hi,J,h2,h3⟩:=d.open_bad;have d3:=za (o:=3) (v:=.int .i64 x) U rfl;obtain⟨f1,f2⟩:=zR (a:=x) (b:=0) Ws;clear hx d O U h2 h3 hi J;go_wp2_with fail;go_end0;rw [HX.o];exact⟨rfl,Jz.o,Ma.o⟩
   ·have HM:=qI (zat d);have CO:=qI (HW.o _ _ _ _ d K L Y);have Jc:=qI ad;have Mb:=qI L;have Mc:=qI K;obtain⟨i,U,hi,J,h2⟩:=d.open_ok;have d3:=za (o:=3) (v:=.int .i64 0) U rfl;clear d K L ad Y U hi J h2;unfold GAns at CO;go_wp2_with fail;refine CO.o.mono ?_;rintro e w4 ⟨rfl,n⟩;clear d3;cases h:step s3 c3 aa with
    | inl x=>rw [h] at n;obtain⟨q,ab⟩:=n;have HX:=qI (Jc.o.bad h);have Md:=qI ab;have G:=qI (xV q M ⟨#[stop]⟩);rw [show QY (⟨#[stop]⟩:ByteArray).data.toList (.inl x)=false from rfl,Km rfl] at G;clear q ab h;go_wp2_with fail;refine G.o.mono ?_;rintro e w5 ⟨rfl,l,j⟩;have Me:=qI (HB.o _ _ Md.o j);have C6:=qI (vN l M ⟨#[44]⟩);rw [Kk rfl] at C6;clear l j;go_wp2_with fail;refine C6.o.mono ?_;rintro e w6 ⟨rfl,A,u⟩;have P:Hid (PS w6 p S 4097 (.inl x)):=qI A;have Gl:=qI (HB.o _ _ Me.o u);clear A u;go_wp2;case roundEnd=>exact⟨.inl ⟨x,P.o,HX.o,Gl.o⟩,by rw [KQ P.o,HM.o];omega⟩
    | inr y=>
     obtain⟨F,B,c4⟩:=y;rw [h] at n;obtain⟨q,Q⟩:=n;obtain⟨q1,q2,q3⟩:=Ji.o _ _ _ _ _ _ Mc.o h;have Z:Hid (B.length≤s3.length∧c4≤4096∧len F≤c4):=qI ⟨q1,q2,q3 Mb.o⟩;have Gg:=qI h;have Js:=qI Q;have G:=qI (xV q M ⟨#[stop]⟩);rw [show (⟨#[stop]⟩:ByteArray).data.toList=[stop] from rfl,(yi stop B c4).1] at G;clear q Q h q1 q2 q3;by_cases H:B.head? = some stop
     ·rw [decide_eq_true H,(yi stop B c4).2.1 H] at G;have HX:=qI (Jc.o.done Gg.o H);clear H;go_wp2_with fail;refine G.o.mono ?_;rintro e w5 ⟨rfl,l,j⟩;go_wp2_with fail
      ((try simp only [Exit.inBlock,Exit.then]);refine bodyPost_ret (results_none rfl _ _ _) rfl ?_)
      rw [HX.o];exact⟨rfl,l,E.o _ _ _ Js.o j,Z.o.2.1⟩
     ·rw [decide_eq_false H,(yi stop B c4).2.2 H] at G;have Jt:=qI H;clear H;go_wp2_with fail;refine G.o.mono ?_;rintro e w5 ⟨rfl,l,j⟩;have Mf:=qI (E.o _ _ _ Js.o j);have C6:=qI (vN l M ⟨#[44]⟩);rw [show (⟨#[44]⟩:ByteArray).data.toList=[44] from rfl] at C6;clear l j;go_wp2_with fail;refine C6.o.mono ?_;rintro e w6 ⟨rfl,A,u⟩;have Ju:=qI (E.o _ _ _ Mf.o u);have P:=qI A;clear A u;go_wp2;case roundEnd=>
       by_cases h7:B.head? = some 44
       ·have k:=P.o;rw [(Zu B c4).1 h7] at k;refine⟨.inr ⟨B.tail,c4,F,k,Z.o.2.1,Z.o.2.2,Jc.o.next Gg.o Jt.o h7 Z.o.1,Ju.o⟩,?_⟩;rw [zat k,HM.o];have:=Z.o.1;cases B with
        | nil=>cases h7
        | cons a t=>simp only [List.tail_cons,List.length_cons] at *;omega
       ·have k:=P.o;rw [(Zu B c4).2 h7] at k;exact⟨.inl ⟨50,k,Jc.o.other Gg.o Jt.o h7,Jh.o _ _ Ju.o⟩,by rw [KQ k,HM.o];omega⟩
end
def jF : List (String × DataW Unit) := [("math/bits.deBruijn32tab", Rows.laid_math_bits_deBruijn32tab), ("math/bits.deBruijn64tab", Rows.laid_math_bits_deBruijn64tab), ("internal/strconv.uint64pow10", Rows.laid_internal_strconv_uint64pow10), ("unicode/utf8.acceptRanges", Rows.laid_unicode_utf8_acceptRanges), ("pursuivant/sha.constants", Rows.laid_pursuivant_sha_constants), ("unicode.CaseRanges", Rows.laid_unicode_CaseRanges), ("unicode/utf8.first", Rows.laid_unicode_utf8_first)]
theorem gPow : Tryz.prog.globalNamed "internal/strconv.uint64pow10" = some 4 := by kernel_rfl
theorem gKs : Tryz.prog.globalNamed "pursuivant/sha.constants" = some 0 := by kernel_rfl
theorem first_eq:Rows.laid_unicode_utf8_first=Lib.firstData:=Pinned.utf8First_eq
theorem ranges_eq:Rows.laid_unicode_CaseRanges=Lib.caseData:=Pinned.caseRanges_eq
theorem accept_eq:Rows.laid_unicode_utf8_acceptRanges=Lib.acceptData:=Wr
theorem pow_eq:(Rows.laid_internal_strconv_uint64pow10:DataW Unit)=Lib.tabData .u64 Lib.pow10Tab:=Wr
theorem ks_eq:(Rows.laid_pursuivant_sha_constants:DataW Unit)=Lib.tabData .u32 KS:=Wr
theorem tabs_of_laid {W:World}(hL:laidMetH prog jF W):xH W:=by
 rw [MakeChecks.laidMetH_plain _ _ _ Wr] at hL
 have r1 : ("unicode/utf8.first", Lib.firstData) ∈ jF := by rw [← first_eq]; simp [jF]
 have r2 : ("unicode/utf8.acceptRanges", Lib.acceptData) ∈ jF := by rw [← accept_eq]; simp [jF]
 have r3 : ("unicode.CaseRanges", Lib.caseData) ∈ jF := by rw [← ranges_eq]; simp [jF]
 refine⟨utf8Tabs_of_readsT (U8Types.of260 { Tryz.shDecode with }) ⟨Wr,Wr,Wr,Wr,Wr,Wr,Wr⟩ (Lib.laidMet.reads hL r1) (Lib.laidMet.reads hL r2),caseVar_of_reads { Tryz.shToLower with } Wr ⟨Wr,Wr,Wr,Wr,Wr,Wr⟩ (Lib.laidMet.reads hL r3),?_⟩;have h3:=hL.tail.tail;rw [show (Rows.laid_internal_strconv_uint64pow10:DataW Unit)=Lib.tabData .u64 Lib.pow10Tab from pow_eq] at h3;exact Lib.tabIs_of_head gPow Wr underlying297 underlying250 Wr Wr h3
theorem ksIs_of_laid {W : World}(hL : laidMetH Tryz.prog jF W) : Lib.TabIs Tryz.prog W "pursuivant/sha.constants" .u32 KS := by
 rw [MakeChecks.laidMetH_plain _ _ _ Wr] at hL;have h3:=hL.tail.tail.tail.tail;rw [show (Rows.laid_pursuivant_sha_constants:DataW Unit)=Lib.tabData .u32 KS from ks_eq] at h3;exact Lib.tabIs_of_head gKs Wr underlying263 underlying220 Wr Wr h3
theorem ks_of_laid {W:World}(b:laidMetH prog jF W):qK W:=by
 have h:=ksIs_of_laid b;unfold Lib.TabIs World.var? at h;rw [gKs] at h;simp only [Option.bind_some] at h;split at h
 ·rename_i cs t f a;have hc:=Option.some.inj h;subst hc;intro j v hv;rw [Nat.zero_add];refine za a ?_;rw [List.getElem?_toArray];have e:yt KS 0=KS.map (fun z=>Value.int .u32 z):=by unfold yt;rw [List.replicate_zero,List.append_nil];rfl
  rw [e] at hv;exact hv
 ·cases h
end Go.Proofs.YtjccecajigmfkaaGreatDoor

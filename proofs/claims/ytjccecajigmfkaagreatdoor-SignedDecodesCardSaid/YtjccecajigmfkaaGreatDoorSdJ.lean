/- Parts of one proof, merged: XUA XUB XUC XUD XRB. -/
import Derived.Test.YtjccecajigmfkaaGreatDoorSdI
set_option linter.all false
set_option maxHeartbeats 12800000
set_option maxRecDepth 10000
namespace Go.Proofs.YtjccecajigmfkaaGreatDoor
open Go.Proofs.Tryz
open Go.RowKit
variable {a b d:UInt8}{l:List UInt8}{m n:Nat}{r s:List UInt8}{w:World}{x:Nat}
theorem zaI {b:Nat}{s:ByteArray}(d:w.heap[b]? = some (.cells #[.string s] 9 (0,0))){i:Nat}(a:i<s.size) : Calls prog 103 #[.int .i64 i,.pointer (some ⟨b,0,none⟩)] w fun e w'=>e = .returned (.int .i64 (Lib.indexByte kT (s.data.toList[i]'(by simpa using a))))∧w=w':=by
 have c0:=za (o:=0) (v:=.string s) d rfl;have h:(i:Int)<s.size:=Ws;have f:Hid (s.data.toList[i]'(by simpa using a)=s[i]'a):=qI rfl;rw [f.o];clear d f;go_enter func103,ntmps103;go_wp2_with (go_at_call 104;refine (vR _ _ _).mono ?_;rintro e w' ⟨rfl,rfl⟩);go_ret;refine⟨?_,rfl⟩;simp [kT]
theorem ZK {T:ByteArray}(h:T≠⟨#[]⟩):T.toList.isEmpty=false∧(!T.toList.isEmpty)=true:=by
 have b:=(k7 h).1;have e:(⟨#[]⟩:ByteArray).toList=[]:=by decide +kernel
 rw [e] at b;have h2:T.toList.isEmpty=false:=by
  cases h3:T.toList with
  | nil=>rw [h3] at b;cases b
  | cons a l=>rfl
 rw [h2];exact⟨rfl,rfl⟩
theorem JE:∀ (j:Nat) b,(⟨#[48,49,50,51,52,53,54,55,56,57,97,98,99,100,101,102]⟩:ByteArray).data.toList[j]? = some b→b.toNat<128:=by
 intro j b h;have hm:b∈([48,49,50,51,52,53,54,55,56,57,97,98,99,100,101,102]:List UInt8):=uj h;have a:([48,49,50,51,52,53,54,55,56,57,97,98,99,100,101,102]:List UInt8).all (fun b=>decide (b.toNat<128))=true:=Wo;simpa using Xk.1 a b hm
theorem hex_join (x y:Nat)(d:x<16)(a:y<16):Value.int .u8 (bits .or .i64 ((x:Int)*16) (y:Int)%256)=bv (UInt8.ofNat (x*16+y)):=by
 rw [bits_join .i64 32 Wo (fun n e b=>by rw [IntKind.wrap_i64];omega) 4 _ _ Ws Ws Ws Ws Ws Ws];unfold bv;congr 1
theorem unhex_no (s:ByteArray)(u:s.size≤140737488355328)(h:s.size%2=1∨s.data.toList.all yW=false)(w:World) : zG w 58 #[.string s] (.tuple #[.slice none 0 0,.int .i64 10]):=by
 obtain⟨i,d⟩:=XE (w.alloc (.cells #[.string s] 9));have n:Hid (zb [] w i):=qI (kA1 d.o);have q:Hid (i.heap[w.heap.size]? = some (.cells #[.string s] 9 (0,0))):=qI (by rw [d.o];exact zd rfl);have c0:=za (o:=0) (v:=.string s) q.o rfl;have p:=qI h;have t:(s.size:Int)≤140737488355328:=Ws;clear h;by_cases k:s.size%2=1
 ·have r:((s.size:Int).tmod 2)=1:=by rw [Int.tmod_eq_emod_of_nonneg Ws];omega
  clear k;go_enter func58,ntmps58;go_wp2_with fail;rw [← d.o];go_ret2;exact⟨rfl,n.o⟩
 ·have r:((s.size:Int).tmod 2)=0:=by rw [Int.tmod_eq_emod_of_nonneg Ws];omega
  have a:zw (Lib.trimS s.data.toList kT)≠⟨#[]⟩:=fun e=>by
   have b:Lib.trimS s.data.toList kT=[]:=by rw [← zJ (Lib.trimS _ _),e]
   rw [trimS_nil] at b;have h2:s.data.toList.all (kT.contains ·)=s.data.toList.all yW:=by congr 1;funext c;exact zbS c
   rw [h2] at b;rcases p.o with h | h
   ·exact k h
   ·rw [h] at b;cases b
  have f:=qI (libTrim s ⟨#[48,49,50,51,52,53,54,55,56,57,97,98,99,100,101,102]⟩ i Ws Wo JE);rw [show (⟨#[48,49,50,51,52,53,54,55,56,57,97,98,99,100,101,102]⟩:ByteArray).data.toList=kT from rfl] at f;obtain⟨l,m⟩:=ZK a;clear k a;revert f l m;generalize zw (Lib.trimS s.data.toList kT)=T;intro f l m;go_enter func58,ntmps58;go_wp2_with fail;rw [← d.o];refine f.o.mono ?_;rintro e w2 ⟨rfl,j⟩;go_wp2;go_ret2;exact⟨rfl,n.o.then j⟩
theorem unhex_yes (s:ByteArray)(hs:s.size≤140737488355328)(P:s.size%2=0)(J:s.data.toList.all yW=true)(w:World) : Calls prog 58 #[.string s] w fun e w'=>(∃ a c,e = .returned (.tuple #[.slice a (xl s.data.toList).length c,.int .i64 0])∧w'.ownsRow w.heap.size 5 1 (.slice a (xl s.data.toList).length c) (xl s.data.toList).length ((xl s.data.toList).map bv))∧zb [] w w':=by
 obtain⟨l,A⟩:=XE (w.alloc (.cells #[.string s] 9));have Gc:Hid (zb [] w l):=qI (kA1 A.o);have Gq:Hid (l.heap.size=w.heap.size+1):=qI (by rw [A.o];simp);have Z:Hid (l.heap[w.heap.size]? = some (.cells #[.string s] 9 (0,0))):=qI (by rw [A.o];exact zd rfl);have c0:=za (o:=0) (v:=.string s) Z.o rfl;have L:Hid (s.data.toList.length=s.size):=qI Wz;have Y:Hid (∀ i (h:i<s.data.toList.length),yW s.data.toList[i]=true):=qI (fun i h=>Xk.1 J _ (XX h));have ab:(s.size:Int)≤140737488355328:=Ws;have ft:((s.size:Int).tmod 2)=0:=by rw [Int.tmod_eq_emod_of_nonneg Ws];omega
 have f:Lib.trimS s.data.toList kT=[]:=by rw [trimS_nil,← J];congr 1;funext c;exact zbS c
 have X:=qI (libTrim s ⟨#[48,49,50,51,52,53,54,55,56,57,97,98,99,100,101,102]⟩ l Ws Wo JE);rw [show (⟨#[48,49,50,51,52,53,54,55,56,57,97,98,99,100,101,102]⟩:ByteArray).data.toList=kT from rfl,f,show zw []=⟨#[]⟩ from rfl] at X;have HP:=qI (ZT s.data.toList);have Gr:=qI (Qn s.data.toList);have W:=qI P;clear f J P;go_enter func58,ntmps58;go_wp2_with fail;rw [← A.o];refine X.o.mono ?_;rintro e w2 ⟨rfl,z⟩;have Ga:=qI z;clear z c0;go_wp2_with fail;go_loopw [5,6] (fun out i wr=>∃ (k:Nat) (a:Option Addr) (c:Nat),i = .int .i64 (2*k:Nat)∧2*k≤s.size∧out = .slice a k c∧wr.ownsRow l.heap.size 5 1 (.slice a k c) k (((xl s.data.toList).take k).map bv)∧zb [] l wr) (fun _ i _=>s.size-(intOf i).toNat);case atStart=>exact⟨0,none,0,rfl,XB,rfl,World.ownsRow_nil _ _ _ _,Ga.o⟩
 case round=>
  obtain⟨k,a,c,rfl,hk,rfl,d,u⟩:=hrel;have G:=qI d;have D:=qI u;clear d u;have E:=D.o.heap Z.o Wz;have HB:=qI E;have c0:=za (o:=0) (v:=.string s) E rfl;clear E;by_cases F:2*k<s.size
  ·have h2:2*k+1<s.size:=XC W.o;have r:2*k<s.data.toList.length:=by rw [L.o];omega
   have j:2*k+1<s.data.toList.length:=by rw [L.o];omega
   obtain⟨R,Q,i3⟩:=xv _ (Y.o _ r);obtain⟨j1,O,j3⟩:=xv _ (Y.o _ j);obtain⟨U,p2⟩:=Gr.o k j;have B:=qI (zaI HB.o F);have C:=qI (zaI HB.o h2);rw [R] at B;rw [j1] at C;have M:Hid ((xl s.data.toList).take (k+1)=(xl s.data.toList).take k++[UInt8.ofNat (hv s.data.toList[2*k]*16+hv s.data.toList[2*k+1])]):=qI (by rw [XZ U,p2]);have t:(2:Int)*k<s.size:=Ws;have Gs:Hid (2*k+1<s.size):=qI h2;clear R i3 j1 j3 U p2;revert B C M Q O;generalize hv s.data.toList[2*k]=x;generalize hv s.data.toList[2*k+1]=y;intro Q O B C M;clear r j;have aa:(x:Int)<16:=Ws;have ad:(y:Int)<16:=Ws;have N:((2*k:Nat):Int)=2*(k:Int):=Ws;go_wp2_with fail;rw [← N];refine B.o.mono ?_;rintro e w3 ⟨rfl,rfl⟩;have I:((2*k+1:Nat):Int)=2*(k:Int)+1:=Ws;go_wp2_with fail;rw [← I];refine C.o.mono ?_;rintro e w4 ⟨rfl,rfl⟩;go_wp2_with (at_builtin;refine zz za9 (v:=.slice a k c) (n:=k) (zk G.o ((zb.refl [] wr).alloc _) Wz) (bR wr _ _ _ rfl) (by simp [Value.oneCell']) (by simp only [maxLen];omega) Ws (by have:=D.o.size;simp;omega) rfl _ _ rfl rfl rfl ?_;intro v2 w5 b q _ H;obtain⟨a5,c5,rfl,-,-⟩:=(Slc.of_row b).form;have Gi:=qI b;have Gt:=qI q;clear b q H);case roundEnd=>refine⟨⟨k+1,_,_,congrArg (Value.int .i64) Ws,by have:=Gs.o;omega,rfl,?_,(D.o.alloc _).trans Gt.o (fun i hi=>.inr (G.o.lt i (XD hi)).1)⟩,by simp [intOf];omega⟩;have p:=Gi.o;rw [hex_join x y Ws Ws] at p;rw [M.o,Xc];exact p
  ·have K:Hid ((xl s.data.toList).take k=xl s.data.toList∧k=(xl s.data.toList).length):=qI (by
    have h1:=HP.o;have h2:=L.o;have h3:=W.o;exact⟨Xl Ws,Ws⟩)
   have t:(s.size:Int)≤2*k:=Ws;have N:((2*k:Nat):Int)=2*(k:Int):=Ws;go_wp2;go_ret2;have p:=G.o;rw [K.o.1,K.o.2] at p;refine⟨⟨a,c,congrArg (fun m:Nat=>Ending.returned (Value.tuple #[.slice a m c,.int .i64 0])) K.o.2,qA p (fun g hg=>by have:=(p.lt g hg).1;have:=Gq.o;omega)⟩,Gc.o.then D.o⟩
def jc (l:List UInt8):Int:=match qh l with | none=>-1 | some n=>n
theorem zbH (h:l.length<6):qh l=none:=by
 match l,h with
 | [],_=>rfl
 | [_],_=>rfl
 | [_,_],_=>rfl
 | [_,_,_],_=>rfl
 | [_,_,_,_],_=>rfl
 | [_,_,_,_,_],_=>rfl
 | _::_::_::_::_::_::_,h=>simp only [XP] at h;omega
theorem six_of (h:6≤l.length):∃ x y a b c d r,l=x::y::a::b::c::d::r:=by
 match l,h with
 | x::y::a::b::c::d::r,_=>exact⟨x,y,a,b,c,d,r,rfl⟩
theorem pair_no (a b:Int)(k:-1≤a∧a≤1114111)(f:-1≤b∧b≤1114111)(h:a<55296∨56320≤a∨b<56320∨57344≤b)(w:World) : Calls prog 270 #[.int .i32 a,.int .i32 b] w fun e w'=>e = .returned (.int .i32 (-1))∧w=w':=by
 obtain⟨l,j⟩:=k;obtain⟨d,i⟩:=f;by_cases m:a<55296;·go_enter func270,ntmps270;go_wp2;go_ret;exact⟨rfl,rfl⟩
 by_cases h2:56320≤a;·go_enter func270,ntmps270;go_wp2;go_ret;exact⟨rfl,rfl⟩
 by_cases h3:b<56320;·go_enter func270,ntmps270;go_wp2;go_ret;exact⟨rfl,rfl⟩
 ·have n:57344≤b:=by omega
  go_enter func270,ntmps270;go_wp2;go_ret;exact⟨rfl,rfl⟩
theorem pair_yes (a b:Int)(f:55296≤a)(h2:a<56320)(h3:56320≤b)(h:b<57344)(w:World) : Calls prog 270 #[.int .i32 a,.int .i32 b] w fun e w'=>e = .returned (.int .i32 (65536+(a-55296)*1024+(b-56320)))∧w=w':=by
 have d:Hid (65536+(a-55296)*1024+(b-56320)=65536+(a-55296)*1024+b-56320):=qI Ws;go_enter func270,ntmps270;go_wp2;go_ret;rw [d.o];exact⟨rfl,rfl⟩
theorem xZ (h:qh l=none):jc l = -1:=by unfold jc;rw [h]
theorem vf (h:qh l=some n):jc l=n:=by unfold jc;rw [h]
theorem zbM {x y c:UInt8}(h:¬ (x=92∧y=117)):qh (x::y::a::b::c::d::r)=none:=XJ h
theorem four_is {c:UInt8}:qh (92::117::a::b::c::d::r)=zaP a b c d:=by
 show (if (92:UInt8)=92∧(117:UInt8)=117 then zaP a b c d else none)=_;exact XK ⟨rfl,rfl⟩
theorem rune_join (x y:Nat)(d:x<256)(a:y<256):bits .or .i32 ((x:Int)*256) (y:Int)=((x*256+y:Nat):Int):=by
 rw [bits_join .i32 17 Wo (fun n e b=>by rw [IntKind.wrap_i32];omega) 8 _ _ Ws Ws Ws Ws Ws Ws];omega
theorem map_len (f:Int→Int):∀ (n:Nat) (l:List UInt8),(Lib.mapGoD f n l).length≤4*n
 | 0,_=>XA
 | n+1,l=>by
  unfold Lib.mapGoD;by_cases h:l=[];·rw [XK h];simp
  ·rw [XJ h,XM];have ih:=map_len f n (l.drop (Lib.decodeL l).2);have a:(if 0≤f (Lib.decodeL l).1 then Lib.encodeRune (f (Lib.decodeL l).1) else []).length≤4:=by
    split;·unfold Lib.encodeRune;rw [Xb];exact (Lib.encodeRuneZ_length _).2
    ·simp
   omega
theorem lower_four (a b c d:UInt8):(Lib.toLowerD [a,b,c,d]).length≤1000000:=by
 have h:=map_len Lib.toLowerU 4 [a,b,c,d];unfold Lib.toLowerD Lib.mapD;exact X7 h Wo
theorem four_any (z:xS w)(s:ByteArray)(hs:s.size≤262144) : zG w 269 #[.string s] (.int .i32 (jc s.data.toList)):=by
 have U:Hid (s.data.toList.length=s.size):=qI Wz;by_cases h6:s.size<6
 ·have I:(s.size:Int)<6:=by omega
  have j:=qI (xZ (zbH (by rw [U.o];exact h6)));clear z h6;go_enter func269,ntmps269;go_wp2;go_ret;rw [j.o];exact⟨rfl,Wd⟩
 obtain⟨x,y,a,b,c,d,r,m⟩:=six_of (l:=s.data.toList) (by rw [U.o];omega);have I:(6:Int)≤s.size:=Ws;have hx:s[0]'(Ws)=x:=by show s.data.toList[0]'_=x;simp only [m];rfl
 have X:s[1]'(Ws)=y:=by show s.data.toList[1]'_=y;simp only [m];rfl
 have R:Hid (s.extract 2 6=zw [a,b,c,d]):=qI (Q6 (by
  rw [ZI s 2 6 Ws,m,zJ];rfl))
 have Gu:=qI m;rw [m];by_cases h:x=92;rotate_left;·have j:=qI (xZ (zbM (x:=x) (y:=y) (a:=a) (b:=b) (c:=c) (d:=d) (r:=r) (fun q=>h q.1)));have H:x.toNat≠92:=fun q=>h (UInt8.toNat_inj.1 q);obtain⟨W,f2⟩:=zq (a:=(x.toNat:Int)) (b:=92) Ws;clear z m h H X;go_enter func269,ntmps269;go_wp2;go_ret;rw [j.o];exact⟨rfl,Wd⟩
 subst h;by_cases i:y=117;rotate_left;·have j:=qI (xZ (zbM (x:=92) (y:=y) (a:=a) (b:=b) (c:=c) (d:=d) (r:=r) (fun q=>i q.2)));have H:y.toNat≠117:=fun q=>i (UInt8.toNat_inj.1 q);obtain⟨W,f2⟩:=zq (a:=(y.toNat:Int)) (b:=117) Ws;clear z m i H;go_enter func269,ntmps269;go_wp2;go_ret;rw [j.o];exact⟨rfl,Wd⟩
 subst i;have E:=qI (libToLower z (zw [a,b,c,d]) (by rw [zZ];simp));rw [zJ] at E;rcases four_low a b c d with ⟨n,C,h2,h3,G,N⟩ | ⟨C,h2⟩
 ·have j:Hid (jc (92::117::a::b::c::d::r)=n):=qI (vf (four_is.trans C));rw [h3] at E;have v:Hid (∀ B,_):=qI (fun B=>unhex_yes (zw [qb a,qb b,qb c,qb d]) (by rw [zZ];simp) (by rw [zZ];simp) (by rw [zJ];exact G) B);rw [zJ] at v;have Z:Hid (xl [qb a,qb b,qb c,qb d]=[UInt8.ofNat (hv (qb a)*16+hv (qb b)),UInt8.ofNat (hv (qb c)*16+hv (qb d))]):=qI rfl;simp only [VA,List.all_nil,ub,XR] at G;obtain⟨Q,O,M,P⟩:=G;have q1:=(xv _ Q).2.1;have q2:=(xv _ O).2.1;have q3:=(xv _ M).2.1;have Y:=(xv _ P).2.1;have L:Hid ((UInt8.ofNat (hv (qb a)*16+hv (qb b))).toNat*256+(UInt8.ofNat (hv (qb c)*16+hv (qb d))).toNat=n):=qI (by
   rw [ui,ui,Nat.mod_eq_of_lt Ws,Nat.mod_eq_of_lt Ws,N])
  clear C h2 h3 N Q O M P q1 q2 q3 Y m z;rw [Z.o] at v;revert v L;generalize UInt8.ofNat (hv (qb a)*16+hv (qb b))=b0;generalize UInt8.ofNat (hv (qb c)*16+hv (qb d))=b1;intro v L;go_enter func269,ntmps269;go_wp2_with fail;rw [R.o];refine E.o.mono ?_;rintro e w1 ⟨rfl,f⟩;have J:=qI f;clear f;go_wp2_with fail;refine (v.o _).mono ?_;rintro e w2 ⟨⟨a5,c5,rfl,t⟩,p⟩;have Ga:=qI (J.o.then p);have u:zm w2 (.slice a5 [b0,b1].length c5) [b0,b1]:=Slc.of_row t;obtain⟨g,o,rfl,F⟩:=zm.at u (k:=0) Wz;obtain⟨g',o',A,D⟩:=zm.at u (k:=1) Wz;simp only [Xt,Addr.mk.injEq,and_true] at A;obtain⟨rfl,rfl⟩:=A;clear u t p;have F:w2.cell? ⟨g,o,none⟩=some (.int .u8 b0.toNat):=F;have D:w2.cell? ⟨g,o+1,none⟩=some (.int .u8 b1.toNat):=D;have E0:=zt F;have E1:=zt D;have r0:(b0.toNat:Int)≤255:=XC b0.toNat_lt;have r1:(b1.toNat:Int)≤255:=XC b1.toNat_lt;rw [show ([b0,b1]:List UInt8).length=2 from rfl];go_wp2_with fail;refine zI w2 Wr Wr Wd ?_;clear F D;repeat go_big_quiet_step (fail)
  refine wpQuiet_nil ?_;intro w3 K;clear E0 E1;go_wp2;go_ret;rw [j.o,← L.o,← rune_join _ _ b0.toNat_lt b1.toNat_lt];exact⟨rfl,Ga.o.then K⟩
 ·have j:Hid (jc (92::117::a::b::c::d::r) = -1):=qI (xZ (four_is.trans C));have v:Hid (∀ B,_):=qI (fun B=>unhex_no (zw (Lib.toLowerD [a,b,c,d])) (by rw [zZ];exact X7 (lower_four a b c d) Wo) (.inr (by rw [zJ];exact h2)) B);clear C h2 m z;go_enter func269,ntmps269;go_wp2_with fail;rw [R.o];refine E.o.mono ?_;rintro e w1 ⟨rfl,f⟩;have J:=qI f;clear f;go_wp2_with fail;refine (v.o _).mono ?_;rintro e w2 ⟨rfl,p⟩;go_wp2;go_ret;rw [j.o];exact⟨rfl,J.o.then p⟩
def Ko (s:List UInt8)(e:Ending):Prop:=
 match jl s with
 | none=>e = .returned (.tuple #[.int .i32 0,.int .i64 0])
 | some (b,n)=>∃ m:Nat,Qc m∧yi m=b∧e = .returned (.tuple #[.int .i32 m,.int .i64 n])
theorem Qb (h:jl s=none):Ko s (.returned (.tuple #[.int .i32 0,.int .i64 0])):=by unfold Ko;rw [h]
theorem YY {b:List UInt8}(h:jl s=some (b,n))(a:Qc m)(h2:yi m=b):Ko s (.returned (.tuple #[.int .i32 m,.int .i64 n])):=by unfold Ko;rw [h];exact⟨m,a,h2,rfl⟩
theorem fourZ_lt (l:List UInt8):-1≤jc l∧jc l<65536:=by
 unfold jc;cases h:qh l with
 | none=>simp
 | some n=>have:=(qS h).1;simp;omega
theorem valid_rune_of (m:Nat)(h:Qc m):Lib.validRune (m:Int)=true:=by
 unfold Qc at h;unfold Lib.validRune;simp;omega
theorem zbi (m:Nat)(a:55296≤m)(h2:m≤57343):Lib.validRune (m:Int)=false:=by
 unfold Lib.validRune;simp;omega
theorem two_of (h:2≤l.length):∃ x y r,l=x::y::r:=by
 match l,h with
 | x::y::r,_=>exact⟨x,y,r,rfl⟩
theorem esc_short (h:l.length<2):jl l=none:=by
 match l,h with
 | [],_=>rfl
 | [_],_=>rfl
 | _::_::_,h=>simp only [XP] at h;omega
theorem escape_any (j:xS w)(s:ByteArray)(hs:s.size≤262144) : Calls prog 260 #[.string s] w fun e w'=>Ko s.data.toList e∧zb [] w w':=by
 have L:Hid (s.data.toList.length=s.size):=qI Wz;by_cases h2:s.size<2
 ·have P:(s.size:Int)<2:=by omega
  have f:=qI (Qb (esc_short (by rw [L.o];exact h2)));clear j h2;go_enter func260,ntmps260;go_wp2;go_ret2;exact⟨f.o,Wd⟩
 obtain⟨x,y,r,i⟩:=two_of (l:=s.data.toList) (by rw [L.o];omega);have P:(2:Int)≤s.size:=Ws;have hy:s[1]'(Ws)=y:=by show s.data.toList[1]'_=y;simp only [i];rfl
 have n:Hid (∀ w',_):=qI (fun w'=>vR ⟨#[34,92,47,98,102,110,114,116]⟩ (y.toNat:Int) w');rw [show ((y.toNat:Int)).toNat.toUInt8=y by simp,show (⟨#[34,92,47,98,102,110,114,116]⟩:ByteArray).data.toList=JJ from rfl] at n;have p:=qI (four_any j s hs);rw [i] at p ⊢;rcases esc_found y with ⟨k,e,M,F,h3,W,H⟩ | ⟨F,H⟩
 ·have f:Hid (Ko (x::y::r) (.returned (.tuple #[.int .i32 e.toNat,.int .i64 2]))):=qI (YY (H x r) (.inl Ws) (zbt e W));have ae:(k:Int)<8:=Ws;have he:(⟨#[34,92,47,8,12,10,13,9]⟩:ByteArray)[k]'M=e:=by have h6:escapedL[k]'(by exact M)=e:=(List.getElem_eq_iff (by exact M)).2 h3;exact h6
  have ab:(e.toNat:Int)<128:=Ws;rw [F] at n;clear j i F h3 H W p;go_enter func260,ntmps260;go_wp2_with (go_at_call 104;refine (n.o _).mono ?_;rintro J w1 ⟨rfl,rfl⟩);go_ret2;exact⟨f.o,Wd⟩
 ·rw [F] at n;have a:=H x r;clear H F;cases h6:qh (x::y::r) with
  | none=>
   rw [h6] at a;have f:=qI (Qb a);rw [xZ h6] at p;clear j i a h6;go_enter func260,ntmps260;go_wp2_with (first
    | (go_at_call 104;refine (n.o _).mono ?_;rintro J w1 ⟨rfl,rfl⟩)
    | (go_at_call 269;refine p.o.mono ?_;rintro O w2 ⟨rfl,b⟩))
   go_ret2;exact⟨f.o,b⟩
  | some z=>
   rw [h6] at a;simp only at a;rw [vf h6] at p;have N:=(qS h6).1;have ad:6≤s.size:=by have:=(qS h6).2;rw [← i,L.o] at this;exact this
   have u:(z:Int)<65536:=Ws;by_cases C:z<55296∨57343<z
   ·rw [XK C] at a;have hm:Qc z:=by unfold Qc;omega
    have f:=qI (YY a hm rfl);have v:Hid (∀ w',_):=qI (fun w'=>K7 (z:Int) w');rw [valid_rune_of z hm] at v;clear j i a h6 C hm N u;go_enter func260,ntmps260;go_wp2_with (first
     | (go_at_call 104;refine (n.o _).mono ?_;rintro J w1 ⟨rfl,rfl⟩)
     | (go_at_call 269;refine p.o.mono ?_;rintro O w2 ⟨rfl,b⟩)
     | (go_at_call 255;refine (v.o _).mono ?_;rintro X Y ⟨rfl,rfl⟩))
    go_ret2;exact⟨f.o,b⟩
   ·rw [XJ C] at a;have v:Hid (∀ w',_):=qI (fun w'=>K7 (z:Int) w');rw [zbi z Ws Ws] at v;have d:Hid (∀ w',zb [] w w'→_):=qI (fun w' (k:zb [] w w')=>four_any (j.k0 k) (s.extract 6 s.size) (by
     have B:(s.extract 6 s.size).data.toList.length=(s.extract 6 s.size).size:=Wz;rw [qx,XW,L.o] at B;omega))
    rw [qx,i] at d;have G:55296≤z∧z≤57343:=Ws;have aa:(6:Int)≤s.size:=Ws;have Q:=fourZ_lt ((x::y::r).drop 6);have K:Hid ((∃ t:Nat,qh ((x::y::r).drop 6)=some t∧jc ((x::y::r).drop 6)=t)∨(qh ((x::y::r).drop 6)=none∧jc ((x::y::r).drop 6) = -1)):=qI (by
     cases R:qh ((x::y::r).drop 6) with
     | none=>exact .inr ⟨rfl,xZ R⟩
     | some t=>exact .inl ⟨t,rfl,vf R⟩)
    by_cases B:z≤56319∧56320≤jc ((x::y::r).drop 6)∧jc ((x::y::r).drop 6)≤57343
    ·obtain⟨a1,a2,U⟩:=B;obtain⟨t,A,I⟩:∃ t:Nat,qh ((x::y::r).drop 6)=some t∧jc ((x::y::r).drop 6)=t:=by
      rcases K.o with h | h;·exact h
      ·rw [h.2] at a2;omega
     rw [XJ Ws,A] at a;simp only at a;rw [I] at a2 U d;rw [XK Ws] at a;have f:=qI (YY a (by unfold Qc;omega) rfl);have m:Hid (∀ w',_):=qI (fun w'=>pair_yes (z:Int) (t:Int) Ws Ws Ws Ws w');have HE:Hid (65536+((z:Int)-55296)*1024+((t:Int)-56320)=((65536+(z-55296)*1024+(t-56320):Nat):Int)):=qI Ws;rw [HE.o] at m;clear j i a h6 C Q K A I a1 a2 U G N u;revert m f;generalize 65536+(z-55296)*1024+(t-56320)=Z;intro f m;go_enter func260,ntmps260;go_wp2_with fail;refine (n.o _).mono ?_;rintro J w1 ⟨rfl,rfl⟩;go_wp2_with fail;refine p.o.mono ?_;rintro O w2 ⟨rfl,b⟩;have D:=qI b;clear b;go_wp2_with fail;refine (v.o _).mono ?_;rintro X Y ⟨rfl,rfl⟩;go_wp2_with fail;refine (d.o _ D.o).mono ?_;rintro e4 w4 ⟨rfl,q⟩;go_wp2_with fail;refine (m.o _).mono ?_;rintro e5 w5 ⟨rfl,rfl⟩;go_wp2;go_ret2;exact⟨f.o,D.o.then q⟩
    ·have E:jl (x::y::r)=none:=by
      rw [a];split;·rfl
      rcases K.o with ⟨t,A,I⟩ | ⟨A,I⟩;·rw [A];simp only;rw [I] at B;exact XJ Ws
      ·rw [A]
     have f:=qI (Qb E);have m:Hid (∀ w',_):=qI (fun w'=>pair_no (z:Int) (jc ((x::y::r).drop 6)) Ws Ws Ws w');clear j i a h6 C Q K G E B N u;revert m d;generalize jc ((x::y::r).drop 6)=Z;intro d m;go_enter func260,ntmps260;go_wp2_with fail;refine (n.o _).mono ?_;rintro J w1 ⟨rfl,rfl⟩;go_wp2_with fail;refine p.o.mono ?_;rintro O w2 ⟨rfl,b⟩;have D:=qI b;clear b;go_wp2_with fail;refine (v.o _).mono ?_;rintro X Y ⟨rfl,rfl⟩;go_wp2_with fail;refine (d.o _ D.o).mono ?_;rintro e4 w4 ⟨rfl,q⟩;go_wp2_with fail;refine (m.o _).mono ?_;rintro e5 w5 ⟨rfl,rfl⟩;go_wp2;go_ret2;exact⟨f.o,D.o.then q⟩
def Qz (s:List UInt8)(e:Ending):Prop:=
 match ZF s with
 | .inl x=>e = .returned (.tuple #[.int .i32 0,.int .i64 0,.int .i64 x])
 | .inr (b,n)=>∃ m:Nat,Qc m∧yi m=b∧e = .returned (.tuple #[.int .i32 m,.int .i64 n,.int .i64 0])
theorem bY {x:Int}(h:ZF s = .inl x):Qz s (.returned (.tuple #[.int .i32 0,.int .i64 0,.int .i64 x])):=by unfold Qz;rw [h]
theorem zch {b:List UInt8}(h:ZF s = .inr (b,n))(a:Qc m)(h2:yi m=b):Qz s (.returned (.tuple #[.int .i32 m,.int .i64 n,.int .i64 0])):=by unfold Qz;rw [h];exact⟨m,a,h2,rfl⟩
theorem partL_cons (c:UInt8)(r:List UInt8):ZF (c::r)=if c.toNat<32 then .inl 31 else if c=92 then (match jl (c::r) with | none=>.inl 31 | some x=>.inr x) else if (Lib.decodeL (c::r)).1=65533∧(Lib.decodeL (c::r)).2=1 then .inl 30 else .inr ((c::r).take (Lib.decodeL (c::r)).2,(Lib.decodeL (c::r)).2):=rfl
theorem part_any (j:xS w)(s:ByteArray)(G:s.size≤262144) : Calls prog 250 #[.string s] w fun e w'=>Qz s.data.toList e∧zb [] w w':=by
 have J:Hid (s.data.toList.length=s.size):=qI Wz;cases i:s.data.toList with
 | nil=>have v:=qI (bY (s:=[]) (x:=31) rfl);obtain rfl:s=⟨#[]⟩:=Q6 i;clear j i;go_enter func250,ntmps250;go_wp2;go_ret3;exact⟨v.o,Wd⟩
 | cons c r=>
  have C:1≤s.size:=by have:=J.o;rw [i] at this;simp only [XP] at this;omega
  have H:(1:Int)≤s.size:=Ws;have hc:s[0]'(Ws)=c:=by show s.data.toList[0]'_=c;simp only [i];rfl
  obtain⟨P,O⟩:=ZK (T:=s) (fun e=>by rw [e] at C;exact absurd C Wo);have B:=qI (partL_cons c r);have M:(c.toNat:Int)≤255:=XC c.toNat_lt;by_cases d:c.toNat<32;·have v:=qI (bY (s:=c::r) (x:=31) (by rw [B.o,XK d]));have A:(c.toNat:Int)<32:=Ws;clear j i d;go_enter func250,ntmps250;go_wp2;go_ret3;exact⟨v.o,Wd⟩
  have A:(32:Int)≤c.toNat:=Ws;by_cases h:c=92
  ·subst h;have y:=qI (escape_any j s G);rw [i] at y;unfold Ko at y;cases u:jl (92::r) with
   | none=>have v:=qI (bY (s:=92::r) (x:=31) (by rw [B.o,XJ d,XK rfl,u]));rw [u] at y;clear j i u d;go_enter func250,ntmps250;go_wp2_with (go_at_call 260;refine y.o.mono ?_;rintro e w2 ⟨rfl,f⟩);go_ret3;exact⟨v.o,f⟩
   | some x=>obtain⟨b,n⟩:=x;have z:Hid (ZF (92::r) = .inr (b,n)):=qI (by rw [B.o,XJ d,XK rfl,u]);have L:=(QC u).2.2.1;obtain⟨F,I⟩:=zq (a:=(n:Int)) (b:=0) Ws;rw [u] at y;clear j i u d L;go_enter func250,ntmps250;go_wp2_with (go_at_call 260;refine y.o.mono ?_;rintro e w2 ⟨⟨m,E,m2,rfl⟩,f⟩;have l:=qI (And.intro E m2);clear E m2);go_ret3;exact⟨zch z.o l.o.1 l.o.2,f⟩
  have p:c.toNat≠92:=fun q=>h (UInt8.toNat_inj.1 q);obtain⟨F,I⟩:=zq (a:=(c.toNat:Int)) (b:=92) Ws;have k:=qI (utfNext j s Ws);rw [i] at k;by_cases t:(Lib.decodeL (c::r)).1=65533∧(Lib.decodeL (c::r)).2=1;·have v:=qI (bY (s:=c::r) (x:=30) (by rw [B.o,XJ d,XJ h,XK t]));rw [show qG (c::r)=(-1,0) by unfold qG;exact XK (.inr t)] at k;clear j i d h p t;go_enter func250,ntmps250;go_wp2_with (go_at_call 261;refine k.o.mono ?_;rintro e w2 ⟨rfl,f⟩);go_ret3;exact⟨v.o,f⟩
  ·have D:=vo Wz t;have z:Hid (ZF (c::r) = .inr ((c::r).take (Lib.decodeL (c::r)).2,(Lib.decodeL (c::r)).2)):=qI (by rw [B.o,XJ d,XJ h,XJ t]);have l:Hid (Qc (Lib.decodeL (c::r)).1∧yi (Lib.decodeL (c::r)).1=(c::r).take (Lib.decodeL (c::r)).2):=qI ⟨D.valid,D.rune⟩;rw [show qG (c::r)=(((Lib.decodeL (c::r)).1:Int),(Lib.decodeL (c::r)).2) by unfold qG;exact XJ (by rintro (q | q);cases q;exact t q)] at k;have hp:=D.pos;have hv:(Lib.decodeL (c::r)).1≤1114111:=XC D.valid;clear j i d h p t D;revert k z l hp hv;generalize (c::r).take (Lib.decodeL (c::r)).2=b;generalize Lib.decodeL (c::r)=q;obtain⟨m,n⟩:=q;intro k z l hp hv;simp only at k z l hp hv;obtain⟨N,f4⟩:=zq (a:=(n:Int)) (b:=0) Ws;have K:(m:Int)≤1114111:=Ws;clear hv hp;go_enter func250,ntmps250;go_wp2_with (go_at_call 261;refine k.o.mono ?_;rintro e w2 ⟨rfl,f⟩);go_ret3;exact⟨zch z.o l.o.1 l.o.2,f⟩
theorem utfUnquote (M:xS w)(s:ByteArray)(hs:s.size≤262144) : Calls prog 221 #[.string s] w fun e w'=>Qu s.data.toList e∧zb [] w w':=by
 have A:Hid (s.data.toList.length=s.size):=qI Wz;have CP:Hid (∀ (t:ByteArray) w',_):=qI (fun t w'=>kS t ⟨#[34]⟩ w');have Y:Hid (∀ t:ByteArray,(⟨#[34]⟩:ByteArray).data.toList.isPrefixOf t.data.toList=decide (t.data.toList.head? = some 34)):=qI (fun t=>vj 34 t.data.toList 0);have l:Hid (∀ w',_):=qI (CP.o s);rw [Y.o] at l;by_cases p:s.data.toList.head? = some 34;rotate_left
 ·have HU:Hid (xJ s.data.toList = .inl 31):=qI (by
   unfold xJ;cases h:s.data.toList with
   | nil=>rfl
   | cons c r=>rw [h] at p;exact XJ (fun e=>p (by rw [e];rfl)))
  have z:=qI (zbd HU.o (XB));rw [XO p] at l;clear M p;go_enter func221,ntmps221;go_wp2_with (go_at_call 218;refine (l.o _).mono ?_;rintro e w2 ⟨rfl,rfl⟩);go_ret3;exact⟨z.o,Wd⟩
 obtain⟨C,I⟩:=XE (w.alloc (.cells #[.pointer none,.slice none 0 0] 141));have G:Hid (zb [] w C):=qI (kA1 I.o);have HT:Hid (qD w.heap.size C):=qI ⟨w,M,G.o,XA⟩;have Gm:Hid (C.heap[w.heap.size]? = some (.cells #[.pointer none,.slice none 0 0] 141 (0,0))):=qI (by rw [I.o];exact zd rfl);have Gv:Hid (YG s.data.toList 1 []):=qI (by
  cases h:s.data.toList with
  | nil=>rw [h] at p;cases p
  | cons c r=>rw [h] at p;simp only [uH,Xt] at p;exact YG.start p)
 rw [XT p] at l;clear M p;go_enter func221,ntmps221;go_wp2_with (go_at_call 218;refine (l.o _).mono ?_;rintro e w2 ⟨rfl,rfl⟩);rw [← I.o];go_loopw [6] (fun i wr=>∃ (k:Nat) (acc:List UInt8),i = .int .i64 k∧YG s.data.toList k acc∧BW 141 C w.heap.size wr acc∧(acc=[]→wr=C)) (fun i _=>s.size-(intOf i).toNat);case atStart=>exact⟨1,[],rfl,Gv.o,BW.new Gm.o,fun _=>rfl⟩
 case round=>
  obtain⟨k,acc,rfl,q,E,u⟩:=hrel;have Gw:=qI u;clear u;have Q:=qI q;have H:=qI E;have hk:k≤s.size:=by have:=q.1.1;rw [A.o] at this;exact this
  have R:acc.length≤k:=q.1.2;have ad:(k:Int)≤s.size:=Ws;have O:Hid ((s.extract k s.size).data.toList=s.data.toList.drop k):=qI (qx s k);have j:Hid (∀ w',_):=qI (CP.o (s.extract k s.size));rw [Y.o,O.o] at j;clear q E;by_cases d:(s.data.toList.drop k).head? = some 34
  ·rw [XT d] at j;obtain⟨U,J⟩:=Q.o.done d;rw [A.o] at J;have z:=qI (unqAns_ok U (k:=k+1) (by rw [A.o];exact J) rfl Ws);have Z:Hid (((k+1:Nat):Int)=(k:Int)+1):=qI Ws;clear U J d;go_wp2_with (go_at_call 218;refine (j.o _).mono ?_;rintro e w2 ⟨rfl,rfl⟩);by_cases B:acc=[];·subst B;have hW:=Gw.o rfl;have D:=Gm.o;rw [← hW] at D;refine (bstring_new D).mono ?_;rintro e L ⟨rfl,f⟩;go_wp2;go_ret3;rw [← Z.o];refine⟨z.o,G.o.then ?_⟩;rw [← hW];exact f
   ·refine (bX H.o Ws B).mono ?_;rintro e L ⟨rfl,f,-⟩;go_wp2;go_ret3;rw [← Z.o];exact⟨z.o,G.o.trans f (fun i P=>by simp at P;exact .inr Ws)⟩
  ·rw [XO d] at j;have v:=qI (part_any (w:=wr) (HT.o.at H.o.kept) (s.extract k s.size) (by
    have h9:(s.extract k s.size).data.toList.length=(s.extract k s.size).size:=Wz;rw [O.o,XW,A.o] at h9;omega))
   rw [O.o] at v;unfold Qz at v;cases hp:ZF (s.data.toList.drop k) with
   | inl x=>
    rw [hp] at v;have K:=Q.o.bad d hp;have hx:=unq_err K;obtain⟨f1,f2⟩:=zq (a:=x) (b:=0) Ws;have z:=qI (zbd K (k:=k) (by rw [A.o];exact hk));clear hp K hx d;go_wp2_with (first
     | (go_at_call 218;refine (j.o _).mono ?_;rintro e w2 ⟨rfl,rfl⟩)
     | (go_at_call 250;refine v.o.mono ?_;rintro e L ⟨rfl,f⟩))
    go_ret3;exact⟨z.o,(G.o.trans H.o.kept (fun i P=>by simp at P;exact .inr Ws)).then f⟩
   | inr y=>obtain⟨b,n⟩:=y;rw [hp] at v;have Gx:=qI (Q.o.next d hp);obtain⟨W,p2,pb,p3,-⟩:=part_ok hp;rw [XW,A.o] at p2;have aa:(1:Int)≤n:=Ws;have ab:(k:Int)+n≤262144:=Ws;have HP:Hid (1≤n∧k+n≤s.size):=qI ⟨W,Ws⟩;have Gy:Hid (acc++b=[]→False):=qI (fun e=>pb (List.append_eq_nil_iff.1 e).2);clear hp d W p2 p3 pb;go_wp2_with fail;refine (j.o _).mono ?_;rintro e w2 ⟨rfl,rfl⟩;go_wp2_with fail;refine v.o.mono ?_;rintro e L ⟨⟨m,m1,m2,rfl⟩,f⟩;have X:=qI (wrune_any xM (H.o.stay f) Ws m m1);rw [m2] at X;clear m1 m2 f;go_wp2_with fail;refine X.o.mono ?_;rintro e w4 ⟨⟨kk,rfl⟩,F,N⟩;have Gz:=qI F;clear F N;go_wp2;case roundEnd=>exact⟨⟨k+n,acc++b,by go_num,Gx.o,Gz.o,fun e=>(Gy.o e).elim⟩,by have:=HP.o;simp [intOf];omega⟩
def zah (z:Int):Int:=if 48≤z∧z≤57 then z-48 else if 97≤z∧z≤102 then z-87 else if 65≤z∧z≤70 then z-55 else -1
theorem digZ_none {c:UInt8}(h:km c=none):zah c.toNat = -1:=by
 unfold km at h;unfold zah;split at h;·cases h
 split at h;·cases h
 split at h;·cases h
 ·rw [XJ Ws,XJ Ws,XJ Ws]
theorem digZ_some {c:UInt8}(h:km c=some n):zah c.toNat=n:=by
 unfold km at h;unfold zah;split at h;·rw [XK Ws];injection h with h;omega
 split at h;·rw [XJ Ws,XK Ws];injection h with h;omega
 split at h;·rw [XJ Ws,XJ Ws,XK Ws];injection h with h;omega
 ·cases h
theorem refDigit_any (z:Int)(q:0≤z)(p:z≤255)(w:World):Calls prog 263 #[.int .u8 z] w fun e w'=>e = .returned (.int .i64 (zah z))∧w=w':=by
 by_cases c1:48≤z∧z≤57;·have a:Hid (zah z=z-48):=qI (by unfold zah;rw [XK c1]);obtain⟨h,i⟩:=c1;go_enter func263,ntmps263;go_wp2;go_ret;exact⟨kV a.o.symm,rfl⟩
 by_cases c2:97≤z∧z≤102;·have a:Hid (zah z=z-97+10):=qI (by unfold zah;rw [XJ c1,XK c2];omega);obtain⟨h,i⟩:=c2;have l:¬ z≤57:=Ws;clear c1;go_enter func263,ntmps263;go_wp2;go_ret;exact⟨kV a.o.symm,rfl⟩
 by_cases c3:65≤z∧z≤70;·have a:Hid (zah z=z-65+10):=qI (by unfold zah;rw [XJ c1,XJ c2,XK c3];omega);obtain⟨h,i⟩:=c3;have l:¬ z≤57:=Ws;have n:¬ 97≤z:=Ws;clear c1 c2;go_enter func263,ntmps263;go_wp2;go_ret;exact⟨kV a.o.symm,rfl⟩
 have a:Hid (zah z = -1):=qI (by unfold zah;rw [XJ c1,XJ c2,XJ c3]);have j:z<48∨(57<z∧z<65)∨(70<z∧z<97)∨102<z:=Ws;clear c1 c2 c3;rcases j with g | ⟨g,m⟩ | ⟨g,m⟩ | g
 ·have d:¬ 48≤z:=by omega
  have b:¬ 97≤z:=Ws;have f:¬ 65≤z:=Ws;go_enter func263,ntmps263;go_wp2;go_ret;exact⟨kV a.o.symm,rfl⟩
 ·have k0:48≤z:=by omega
  have d:¬ z≤57:=Ws;have b:¬ 97≤z:=Ws;have f:¬ 65≤z:=Ws;go_enter func263,ntmps263;go_wp2;go_ret;exact⟨kV a.o.symm,rfl⟩
 ·have k0:48≤z:=by omega
  have d:¬ z≤57:=Ws;have b:¬ 97≤z:=Ws;have f:65≤z:=Ws;have k:¬ z≤70:=Ws;go_enter func263,ntmps263;go_wp2;go_ret;exact⟨kV a.o.symm,rfl⟩
 ·have k0:48≤z:=by omega
  have d:¬ z≤57:=Ws;have b:97≤z:=Ws;have f:65≤z:=Ws;have k:¬ z≤70:=Ws;have r:¬ z≤102:=Ws;go_enter func263,ntmps263;go_wp2;go_ret;exact⟨kV a.o.symm,rfl⟩
def Qt:Nat→List UInt8→Option Nat
 | x,[]=>some x
 | x,c::r=>match km c with | none=>none | some d=>Qt (16*x+d) r
theorem hex4_go (a b c d:UInt8):zaP a b c d=Qt 0 [a,b,c,d]:=by
 unfold zaP;simp only [Qt];cases km a with
 | none=>rfl
 | some x=>
  cases km b with
  | none=>rfl
  | some y=>
   cases km c with
   | none=>rfl
   | some z=>
    cases km d with
    | none=>rfl
    | some t=>simp only [Xt];omega
theorem hexGo_none {c:UInt8}(h:km c=none):Qt x (c::r)=none:=by show (match km c with | none=>none | some d=>Qt (16*x+d) r)=_;rw [h]
theorem hexGo_some {d:Nat}{c:UInt8}(h:km c=some d):Qt x (c::r)=Qt (16*x+d) r:=by show (match km c with | none=>none | some d=>Qt (16*x+d) r)=_;rw [h]
theorem zay (s:ByteArray)(hs:s.size≤262144)(w:World) : Calls prog 252 #[.string s] w fun e w'=>e = .returned (.int .i64 (jc s.data.toList))∧w=w':=by
 have D:Hid (s.data.toList.length=s.size):=qI Wz;by_cases h6:s.size<6
 ·have E:(s.size:Int)<6:=by omega
  have n:=qI (xZ (zbH (by rw [D.o];exact h6)));clear h6;go_enter func252,ntmps252;go_wp2;go_ret;rw [n.o];exact⟨rfl,rfl⟩
 obtain⟨x,y,a,b,c,d,r,j⟩:=six_of (l:=s.data.toList) (by rw [D.o];omega);have E:(6:Int)≤s.size:=Ws;have hx:s[0]'(Ws)=x:=by show s.data.toList[0]'_=x;simp only [j];rfl
 have W:s[1]'(Ws)=y:=by show s.data.toList[1]'_=y;simp only [j];rfl
 have Gu:=qI j;by_cases f:x=92∧y=117;rotate_left
 ·have n:Hid (jc s.data.toList = -1):=qI (xZ (by rw [j];exact zbM f));have hd:((x.toNat:Int) != 92)=true∨((x.toNat:Int) != 92)=false∧((y.toNat:Int) != 117)=true:=by
   by_cases q:x=92
   ·refine .inr ⟨(yq (by rw [q];rfl)).2,(zq (fun e=>f ⟨q,?_⟩)).2⟩;have:y.toNat=(117:UInt8).toNat:=by show y.toNat=117;omega
    exact UInt8.toNat_inj.1 this
   ·refine .inl (zq (fun e=>q ?_)).2;have:x.toNat=(92:UInt8).toNat:=by show x.toNat=92;omega
    exact UInt8.toNat_inj.1 this
  clear f j;rcases hd with P | ⟨P,f2⟩
  all_goals
   go_enter func252,ntmps252;go_wp2;go_ret;rw [n.o];exact⟨rfl,rfl⟩
 obtain⟨rfl,rfl⟩:=f;have R:Hid (qh s.data.toList=Qt 0 [a,b,c,d]):=qI (by rw [j,four_is,hex4_go]);have Q:Hid (∀ (k:Nat) (h2:2≤k) (h6:k<6),∃ (h:k<s.size) (e:UInt8),s[k]'h=e∧[a,b,c,d].drop (k-2)=e::[a,b,c,d].drop (k+1-2)):=qI (fun k h2 h6=>by
  have Y:k=2∨k=3∨k=4∨k=5:=Ws;have A:∀ (h:k<s.size) (e:UInt8),s.data.toList[k]? = some e→s[k]'h=e:=fun h e q=>by have O:s.data.toList[k]'(by rw [D.o];exact h)=e:=(List.getElem_eq_iff (by rw [D.o];exact h)).2 q;exact O
  rw [j] at A;rcases Y with rfl | rfl | rfl | rfl
  ·exact⟨Ws,a,A _ _ rfl,rfl⟩
  ·exact⟨Ws,b,A _ _ rfl,rfl⟩
  ·exact⟨Ws,c,A _ _ rfl,rfl⟩
  ·exact⟨Ws,d,A _ _ rfl,rfl⟩)
 clear j;go_enter func252,ntmps252;go_wp2_with fail;clear hx W;go_loopw [3,4] (fun x i wr=>∃ (k m:Nat),i = .int .i64 (k:Int)∧x = .int .i64 (m:Int)∧2≤k∧k≤6∧Hid (m<16 ^ (k-2))∧Hid (Qt m ([a,b,c,d].drop (k-2))=qh s.data.toList)∧w=wr) (fun _ i _=>6-(intOf i).toNat);case atStart=>exact⟨2,0,rfl,rfl,Ws,Ws,qI Wo,qI R.o.symm,rfl⟩
 case round=>
  obtain⟨k,m,rfl,rfl,B,z,L,G,rfl⟩:=hrel;have I:m<65536:=uT L.o (by
   have:k=2∨k=3∨k=4∨k=5∨k=6:=Ws;rcases this with rfl | rfl | rfl | rfl | rfl <;> decide)
  have p:(m:Int)<65536:=Ws;have H:=qI B;have Z:=qI z;clear I B z;by_cases J:k<6
  ·obtain⟨U,C,he,u⟩:=Q.o k H.o J;have M:=qI u;have N:Hid (k<6):=qI J;have aa:(k:Int)<6:=Ws;have F:=C.toNat_lt;have v:=qI (refDigit_any (C.toNat:Int) Ws Ws w);have K:¬ ((C.toNat:Int)<0):=Ws;clear F J u K;cases hv:km C with
   | none=>have n:Hid (jc s.data.toList = -1):=qI (xZ (by rw [← G.o,M.o];exact hexGo_none hv));rw [digZ_none hv] at v;clear hv;go_wp2_with fail;refine v.o.mono ?_;rintro e w1 ⟨rfl,rfl⟩;go_wp2;go_ret;rw [n.o];exact⟨rfl,rfl⟩
   | some dd=>
    have t:=KU hv;have X:Hid ((dd:Int)<16):=qI Ws;have ab:decide ((dd:Int)<0)=false:=XO Ws;have Jc:=qI p;clear p;rw [digZ_some hv] at v;have HN:Hid (Qt (16*m+dd) ([a,b,c,d].drop (k+1-2))=qh s.data.toList):=qI (by rw [← G.o,M.o];exact (hexGo_some hv).symm);have Jd:Hid (16*m+dd<16 ^ (k+1-2)):=qI (by
     have h1:=L.o;have h2:=H.o;rw [show k+1-2=k-2+1 by omega,Nat.pow_succ];omega)
    clear hv t;go_wp2_with fail;refine v.o.mono ?_;rintro e w1 ⟨rfl,rfl⟩;go_wp2_with fail;refine v.o.mono ?_;rintro e w1 ⟨rfl,rfl⟩;have ad:=X.o;have p:=Jc.o;go_wp2;case roundEnd=>exact⟨⟨k+1,16*m+dd,congrArg (Value.int .i64) Ws,congrArg (Value.int .i64) (by unfold wrap64;omega),by have:=H.o;omega,by have:=N.o;omega,Jd,HN,trivial⟩,by have:=N.o;simp [intOf];omega⟩
  ·obtain rfl:k=6:=XC Z.o;have n:Hid (jc s.data.toList=m):=qI (vf (by rw [← G.o];rfl));go_wp2;go_ret;rw [n.o];exact⟨rfl,rfl⟩
end Go.Proofs.YtjccecajigmfkaaGreatDoor
